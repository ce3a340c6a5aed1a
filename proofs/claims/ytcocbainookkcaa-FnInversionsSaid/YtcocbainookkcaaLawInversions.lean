/-
  The law FnInversions returns true.
  No condition.
-/
import Derived.Test.YtcocbainookkcaaPart11
import Derived.Test.YtcocbainookkcaaPart12
import Derived.Test.YtcocbainookkcaaPart8
namespace Go.Proofs.Ytcocbainookkcaa
set_option maxRecDepth 100000
open Go.RowKit

theorem codeIv_zero {p : Int} {qs x v : List Int} (h : codeIv p qs x v = 0) : code18M p qs x [v] = 0 ∧ nrmZ p qs x ≠ 0 ∧ wgtI p qs (invR p qs x v) ≠ 0 := by
  unfold codeIv at h
  by_cases h1 : code18M p qs x [v] = 0
  · rw [if_pos h1] at h
    by_cases h2 : nrmZ p qs x = 0
    · rw [if_pos h2] at h; omega
    · rw [if_neg h2] at h
      by_cases h3 : wgtI p qs (invR p qs x v) = 0
      · rw [if_pos h3] at h; omega
      · exact ⟨h1, h2, h3⟩
  · rw [if_neg h1] at h; exact absurd h h1
theorem ivL_no {p : Int} {qs x v : List Int} (h : codeIv p qs x v ≠ 0) : ivL p qs x v = [] := by unfold ivL; rw [if_neg h]
theorem rdC_nil9 (w : World) : RdC w none 0 [] := ⟨rfl, fun _ h => absurd h (Nat.not_lt_zero _)⟩
theorem gap_solved {p G r : Int} (hp : primeB p = true) (h0 : 0 < G) (h1 : G < p) (hr0 : 0 ≤ r) (hr1 : r < p) : ∃ j : Nat, (j : Int) < p ∧ (j : Int) * G % p = r := by
  have hpb := prime_bd hp
  have hb0 : 0 ≤ r * invN p G % p := Int.emod_nonneg _ (by omega)
  have hb1 : r * invN p G % p < p := Int.emod_lt_of_pos _ (by omega)
  refine ⟨(r * invN p G % p).toNat, by omega, ?_⟩
  rw [Int.toNat_of_nonneg hb0]
  obtain ⟨s, hs⟩ := cg_inv hp h0 h1
  obtain ⟨t, ht⟩ := emod_ex p (r * invN p G)
  have e : r * invN p G % p * G = r + p * (r * s + t * G) := by
    rw [ht]
    have : (r * invN p G + p * t) * G = r * (G * invN p G) + p * (t * G) := by grind
    rw [this, hs]; grind
  rw [e, Int.add_mul_emod_self_left, Int.emod_eq_of_lt hr0 hr1]
theorem step_rem {p k G : Int} (hp : p ≤ 13) (hk0 : 0 ≤ k) (hk1 : k < p) (hG0 : 0 ≤ G) (hG1 : G < p) : IntKind.i64.wrap (k * G) = k * G ∧ (k * G).tmod p = k * G % p := by
  have h0 : 0 ≤ k * G := Int.mul_nonneg hk0 hG0
  have h1 : k * G ≤ 13 * 13 := Int.mul_le_mul (by omega) (by omega) hG0 (by omega)
  exact ⟨IntWalk.i64_in _ (by omega), Int.tmod_eq_emod_of_nonneg h0⟩

set_option maxHeartbeats 2000000 in
theorem c_InvertAt_any (p : Int) (a : Option Addr) (d cap : Nat) (qs : List Int) (ax : Option Addr) (m cx : Nat) (x : List Int) (av : Option Addr) (n cv : Nat) (v : List Int) (M : Nat) (w : World) (hM : M = (ivL p qs x v).length) (hd : d ≤ 4194304) (hm : m ≤ 4194304) (hn : n ≤ 4194304) (hq : RdC w a d qs) (hx : RdC w ax m x) (hv : RdC w av n v) :
    Calls Try.prog 9 #[.agg #[.int .i64 p, .slice a d cap], .slice ax m cx, .slice av n cv] w fun e w' => ∃ ra rc, e = .returned (.tuple #[.slice ra M rc, .int .i64 (codeIv p qs x v)]) ∧ RdC w' ra M (ivL p qs x v) ∧ Ext w w' := by
  by_cases hc : code18M p qs x [v] = 0
  · obtain ⟨hs, h4, ha, hx'⟩ := code18M_zero hc
    have hg0 := rows_good ha 0 (by simp)
    have hg : Good p qs.length v := hg0
    have hgx := vecB_good hx'
    rw [hq.1] at hg hgx
    obtain rfl : d = n := hg.1.symm.trans hv.1
    obtain rfl : m = d + 2 := hx.1.symm.trans hgx.1
    by_cases hz : nrmZ p qs x = 0
    · have e0 : codeIv p qs x v = 5 := by unfold codeIv; rw [if_pos hc, if_pos hz]
      have e1 := ivL_no (p := p) (qs := qs) (x := x) (v := v) (by omega)
      rw [e1] at hM ⊢
      obtain rfl : M = 0 := hM
      rw [e0]
      refine Calls.mono (c_InvertAt_nrm p a d cap qs ax cx x av cv v w hs h4 hq hx hgx hv hg hz) ?_
      rintro e w1 ⟨rfl, g1⟩
      exact ⟨none, 0, rfl, rdC_nil9 _, g1⟩
    · by_cases hw : wgtI p qs (invR p qs x v) = 0
      · have e0 : codeIv p qs x v = 5 := by unfold codeIv; rw [if_pos hc, if_neg hz, if_pos hw]
        have e1 := ivL_no (p := p) (qs := qs) (x := x) (v := v) (by omega)
        rw [e1] at hM ⊢
        obtain rfl : M = 0 := hM
        rw [e0]
        refine Calls.mono (c_InvertAt_wgt p a d cap qs ax cx x av cv v w hs h4 hq hx hgx hv hg hz hw) ?_
        rintro e w1 ⟨rfl, g1⟩
        exact ⟨none, 0, rfl, rdC_nil9 _, g1⟩
      · have e0 : codeIv p qs x v = 0 := by unfold codeIv; rw [if_pos hc, if_neg hz, if_neg hw]
        have e1 : ivL p qs x v = plcL p qs (invR p qs x v) := by unfold ivL; rw [if_pos e0]
        rw [e1] at hM ⊢
        have hl : (plcL p qs (invR p qs x v)).length = d := (plc_good (by have := prime_bd (space_of hs).1; omega) hq.1).1
        rw [hl] at hM
        obtain rfl : d = M := hM.symm
        rw [e0]
        refine Calls.mono (c_InvertAt_ok p a d cap qs ax cx x av cv v w hs h4 hq hx hgx hv hg hz hw) ?_
        rintro e w1 ⟨g, rc, rfl, ho, g1⟩
        exact ⟨_, rc, rfl, ho, g1⟩
  · have e0 : codeIv p qs x v = code18M p qs x [v] := by unfold codeIv; rw [if_neg hc]
    have e1 := ivL_no (p := p) (qs := qs) (x := x) (v := v) (by rw [e0]; exact hc)
    rw [e1] at hM ⊢
    obtain rfl : M = 0 := hM
    rw [e0]
    refine Calls.mono (c_InvertAt_bad p a d cap qs ax m cx x av n cv v w hd hm hn hq hx hv hc) ?_
    rintro e w1 ⟨rfl, g1⟩
    exact ⟨none, 0, rfl, rdC_nil9 _, g1⟩
set_option maxHeartbeats 2000000 in
theorem s_InvertAt_any (p : Int) (a : Option Addr) (d cap : Nat) (qs : List Int) (ax : Option Addr) (m cx : Nat) (x : List Int) (av : Option Addr) (n cv : Nat) (v : List Int) (M : Nat) (w : World) (hM : M = (ivL p qs x v).length) (hd : d ≤ 4194304) (hm : m ≤ 4194304) (hn : n ≤ 4194304) (hq : RdC w a d qs) (hx : RdC w ax m x) (hv : RdC w av n v) :
    Calls Try.prog 10 #[.agg #[.int .i64 p, .slice a d cap], .slice ax m cx, .slice av n cv] w fun e w' => ∃ ra rc, e = .returned (.tuple #[.slice ra M rc, .int .i64 (codeIv p qs x v)]) ∧ RdC w' ra M (ivL p qs x v) ∧ Ext w w' := by
  by_cases hc : code18M p qs x [v] = 0
  · obtain ⟨hs, h4, ha, hx'⟩ := code18M_zero hc
    have hg0 := rows_good ha 0 (by simp)
    have hg : Good p qs.length v := hg0
    have hgx := vecB_good hx'
    rw [hq.1] at hg hgx
    obtain rfl : d = n := hg.1.symm.trans hv.1
    obtain rfl : m = d + 2 := hx.1.symm.trans hgx.1
    by_cases hz : nrmZ p qs x = 0
    · have e0 : codeIv p qs x v = 5 := by unfold codeIv; rw [if_pos hc, if_pos hz]
      have e1 := ivL_no (p := p) (qs := qs) (x := x) (v := v) (by omega)
      rw [e1] at hM ⊢
      obtain rfl : M = 0 := hM
      rw [e0]
      refine Calls.mono (s_InvertAt_nrm p a d cap qs ax cx x av cv v w hs h4 hq hx hgx hv hg hz) ?_
      rintro e w1 ⟨rfl, g1⟩
      exact ⟨none, 0, rfl, rdC_nil9 _, g1⟩
    · by_cases hw : wgtI p qs (invR p qs x v) = 0
      · have e0 : codeIv p qs x v = 5 := by unfold codeIv; rw [if_pos hc, if_neg hz, if_pos hw]
        have e1 := ivL_no (p := p) (qs := qs) (x := x) (v := v) (by omega)
        rw [e1] at hM ⊢
        obtain rfl : M = 0 := hM
        rw [e0]
        refine Calls.mono (s_InvertAt_wgt p a d cap qs ax cx x av cv v w hs h4 hq hx hgx hv hg hz hw) ?_
        rintro e w1 ⟨rfl, g1⟩
        exact ⟨none, 0, rfl, rdC_nil9 _, g1⟩
      · have e0 : codeIv p qs x v = 0 := by unfold codeIv; rw [if_pos hc, if_neg hz, if_neg hw]
        have e1 : ivL p qs x v = plcL p qs (invR p qs x v) := by unfold ivL; rw [if_pos e0]
        rw [e1] at hM ⊢
        have hl : (plcL p qs (invR p qs x v)).length = d := (plc_good (by have := prime_bd (space_of hs).1; omega) hq.1).1
        rw [hl] at hM
        obtain rfl : d = M := hM.symm
        rw [e0]
        refine Calls.mono (s_InvertAt_ok p a d cap qs ax cx x av cv v w hs h4 hq hx hgx hv hg hz hw) ?_
        rintro e w1 ⟨g, rc, rfl, ho, g1⟩
        exact ⟨_, rc, rfl, ho, g1⟩
  · have e0 : codeIv p qs x v = code18M p qs x [v] := by unfold codeIv; rw [if_neg hc]
    have e1 := ivL_no (p := p) (qs := qs) (x := x) (v := v) (by rw [e0]; exact hc)
    rw [e1] at hM ⊢
    obtain rfl : M = 0 := hM
    rw [e0]
    refine Calls.mono (s_InvertAt_bad p a d cap qs ax m cx x av n cv v w hd hm hn hq hx hv hc) ?_
    rintro e w1 ⟨rfl, g1⟩
    exact ⟨none, 0, rfl, rdC_nil9 _, g1⟩

set_option maxHeartbeats 32000000 in
set_option maxRecDepth 100000 in
theorem law_Inversions (w : World) (ac : Option Addr) (nc cc : Nat) (hb : RdY w ac nc) :
    Calls Try.prog 3 #[.slice ac nc cc] w fun e w' => e = .returned (.bool true) ∧ Ext w w' := by
  have HB := Lib.hid hb
  clear hb
  go_enter Try.func3, Try.ntmps3
  go_wp2_with (fail)
  refine Calls.mono (l_big ac nc cc w) ?_
  rintro e w1 ⟨rfl, g0⟩
  have E := Lib.hid g0
  by_cases hbig : 4096 < nc
  · have hbb : decide (4096 < nc) = true := by simp [hbig]
    rw [hbb]
    go_wp2_with (fail)
    go_ret
    exact ⟨rfl, E.out⟩
  have hbb : decide (4096 < nc) = false := by simp [hbig]
  rw [hbb]
  clear g0 hbb
  go_wp2_with (fail)
  refine Calls.mono (s_drawInvertAt ac nc cc w1 (by omega) (HB.out.ext E.out)) ?_
  rintro e w2 ⟨p, a, d, cap, qs, ax, nx, cx, x, ay, ny, cy, y, rfl, hp0, hp1, hd, hnx, hny, hq, hx, hy, g1⟩
  have E1 := Lib.hid g1
  replace E := Lib.hid (E.out.trans g1)
  have HQ := Lib.hid hq.rd
  have HX := Lib.hid hx.rd
  have HY := Lib.hid hy.rd
  clear hq hx hy g1
  go_wp2_with (fail)
  obtain ⟨O, hO⟩ : ∃ O, O = w2.heap.size := ⟨_, rfl⟩
  obtain ⟨W, hW⟩ : ∃ W, W = w2.alloc (.cells #[.int .i64 p, .slice a d cap] 26) := ⟨_, rfl⟩
  have C0 := Lib.hid (show W.cell? ⟨O, 0, none⟩ = some (.int .i64 p) by rw [hW, hO]; simp)
  have C1 := Lib.hid (show W.cell? ⟨O, 1, none⟩ = some (.slice a d cap) by rw [hW, hO]; simp)
  have gg : Ext w2 W := by rw [hW]; exact ext_alloc _ _
  rw [← hO, ← hW]
  clear hO hW E1
  replace E := Lib.hid (E.out.trans gg)
  replace HQ := Lib.hid (HQ.out.ext gg)
  replace HX := Lib.hid (HX.out.ext gg)
  replace HY := Lib.hid (HY.out.ext gg)
  clear gg
  obtain ⟨M, hM⟩ : ∃ M, M = (ivL p qs x y).length := ⟨_, rfl⟩
  have HM := Lib.hid hM
  have hMb : M ≤ 4194304 := by
    rw [hM]; unfold ivL
    split
    · unfold plcL; rw [List.length_take, HQ.out.1]; omega
    · simp
  obtain ⟨C, hC⟩ : ∃ C, C = codeIv p qs x y := ⟨_, rfl⟩
  have HC := Lib.hid hC
  clear hM hC
  have x00 := C0.out
  have x01 := C1.out
  go_wp2_with (fail)
  clear x00 x01
  refine Calls.mono (c_InvertAt_any p a d cap qs ax nx cx x ay ny cy y M W HM.out (by omega) (by omega) (by omega) HQ.out HX.out HY.out) ?_
  rintro e v1 ⟨rZ, kZ, rfl, ho, gg⟩
  have HZI := Lib.hid ho
  clear ho
  replace E := Lib.hid (E.out.trans gg)
  replace HQ := Lib.hid (HQ.out.ext gg)
  replace HX := Lib.hid (HX.out.ext gg)
  replace HY := Lib.hid (HY.out.ext gg)
  replace C0 := Lib.hid (gg.cell (p := ⟨O, 0, none⟩) C0.out)
  replace C1 := Lib.hid (gg.cell (p := ⟨O, 1, none⟩) C1.out)
  clear gg
  rw [← HC.out]
  have x00 := C0.out
  have x01 := C1.out
  go_wp2_with (fail)
  clear x00 x01
  refine Calls.mono (s_InvertAt_any p a d cap qs ax nx cx x ay ny cy y M v1 HM.out (by omega) (by omega) (by omega) HQ.out HX.out HY.out) ?_
  rintro e v2 ⟨rT, kT, rfl, ho, gg⟩
  have HTI := Lib.hid ho
  clear ho
  replace E := Lib.hid (E.out.trans gg)
  replace HQ := Lib.hid (HQ.out.ext gg)
  replace HX := Lib.hid (HX.out.ext gg)
  replace HY := Lib.hid (HY.out.ext gg)
  replace HZI := Lib.hid (HZI.out.ext gg)
  replace C0 := Lib.hid (gg.cell (p := ⟨O, 0, none⟩) C0.out)
  replace C1 := Lib.hid (gg.cell (p := ⟨O, 1, none⟩) C1.out)
  clear gg
  rw [← HC.out]
  have x00 := C0.out
  have x01 := C1.out
  go_wp2_with (fail)
  clear x00 x01
  have H := l_like rZ rT M M kZ kT _ _ v2 (by omega) (by omega) HZI.out HTI.out
  rw [eqB_self] at H
  refine Calls.mono H ?_
  clear H
  rintro e v3 ⟨rfl, gg⟩
  replace E := Lib.hid (E.out.trans gg)
  replace HQ := Lib.hid (HQ.out.ext gg)
  replace HX := Lib.hid (HX.out.ext gg)
  replace HY := Lib.hid (HY.out.ext gg)
  replace HZI := Lib.hid (HZI.out.ext gg)
  replace HTI := Lib.hid (HTI.out.ext gg)
  replace C0 := Lib.hid (gg.cell (p := ⟨O, 0, none⟩) C0.out)
  replace C1 := Lib.hid (gg.cell (p := ⟨O, 1, none⟩) C1.out)
  clear gg
  clear HTI
  by_cases hc : C ≠ 0
  · have hcb : (C != 0) = true := by simp [hc]
    have hM0 : M = 0 := by rw [HM.out, ivL_no (by rw [← HC.out]; exact hc)]; rfl
    subst hM0
    clear hc
    go_wp2_with (fail)
    go_ret
    exact ⟨rfl, E.out⟩
  replace hc : C = 0 := by simpa using hc
  have hcS : codeIv p qs x y = 0 := by rw [← HC.out]; exact hc
  subst hc
  obtain ⟨hc1, hnz, hwz⟩ := codeIv_zero hcS
  obtain ⟨hs, h4, ha, hx'⟩ := code18M_zero hc1
  obtain ⟨hpr, hd1, _, hqb⟩ := space_of hs
  have hpb := prime_bd hpr
  have HPR := Lib.hid hpr
  have HSP := Lib.hid hs
  have HD := Lib.hid HQ.out.1
  have hg0 := rows_good ha 0 (by simp)
  have hg1 : Good p qs.length y := hg0
  have HGV := Lib.hid hg1
  have hgx := vecB_good hx'
  rw [HQ.out.1] at hg1 hgx hd1
  obtain rfl : d = ny := hg1.1.symm.trans HY.out.1
  obtain rfl : nx = d + 2 := HX.out.1.symm.trans hgx.1
  have HGY := Lib.hid hg1
  have HGX := Lib.hid hgx
  have hd4 : d ≤ 4 := by rw [← HQ.out.1]; exact h4
  have HNZ := Lib.hid hnz
  have HWZ := Lib.hid hwz
  obtain ⟨Y, hY⟩ : ∃ Y, Y = plcL p qs (invR p qs x y) := ⟨_, rfl⟩
  have HYE := Lib.hid hY
  have HIV := Lib.hid (show ivL p qs x y = Y by unfold ivL; rw [if_pos hcS, hY])
  have HGI := Lib.hid (show Good p d Y by rw [hY]; exact plc_good (by omega) HD.out)
  have hM2 : M = d := by rw [HM.out, HIV.out]; exact HGI.out.1
  subst hM2
  rw [HIV.out] at HZI
  obtain ⟨ht1, ht2⟩ := inv_twice HPR.out HNZ.out HWZ.out HGV.out
  rw [← hY] at ht1 ht2
  have HT1 := Lib.hid ht1
  have HT2 := Lib.hid ht2
  obtain ⟨r, hr⟩ : ∃ r, r = sphN p qs x := ⟨_, rfl⟩
  have HRE := Lib.hid hr
  have hrb : 0 ≤ r ∧ r < p := by rw [hr]; exact ⟨Int.emod_nonneg _ (by omega), Int.emod_lt_of_pos _ (by omega)⟩
  obtain ⟨c, hcE⟩ : ∃ c, c = plcL p qs x := ⟨_, rfl⟩
  have HCE := Lib.hid hcE
  have HGC := Lib.hid (show Good p M c by rw [hcE]; exact plc_good (by omega) HD.out)
  obtain ⟨G, hG⟩ : ∃ G, G = distN p qs c y := ⟨_, rfl⟩
  have HG := Lib.hid hG
  have hGb : 0 ≤ G ∧ G < p := by rw [hG]; exact ⟨Int.emod_nonneg _ (by omega), Int.emod_lt_of_pos _ (by omega)⟩
  have hpz : ¬ p = 0 := by omega
  clear hcS hc1 hnz hwz hs ha hx' hpr hqb hg0 hg1 hgx hY ht1 ht2 hr hcE hG
  have x00 := C0.out
  have x01 := C1.out
  go_wp2_with (fail)
  clear x00 x01
  refine Calls.mono (c_InvertAt_ok p a M cap qs _ _ x _ _ Y v3 HSP.out h4 HQ.out HX.out HGX.out HZI.out HGI.out HNZ.out HT1.out) ?_
  rintro e v4 ⟨gB, kB, rfl, ho, gg⟩
  rw [HT2.out] at ho
  have HBI := Lib.hid ho
  clear ho
  replace E := Lib.hid (E.out.trans gg)
  replace HQ := Lib.hid (HQ.out.ext gg)
  replace HX := Lib.hid (HX.out.ext gg)
  replace HY := Lib.hid (HY.out.ext gg)
  replace HZI := Lib.hid (HZI.out.ext gg)
  replace C0 := Lib.hid (gg.cell (p := ⟨O, 0, none⟩) C0.out)
  replace C1 := Lib.hid (gg.cell (p := ⟨O, 1, none⟩) C1.out)
  clear gg
  have x00 := C0.out
  have x01 := C1.out
  go_wp2_with (fail)
  clear x00 x01
  refine Calls.mono (c_IsOnSphere_ok p a M cap qs _ _ x _ _ y v4 HSP.out h4 HQ.out HX.out HGX.out HY.out HGY.out) ?_
  rintro e v5 ⟨rfl, gg⟩
  replace E := Lib.hid (E.out.trans gg)
  replace HQ := Lib.hid (HQ.out.ext gg)
  replace HX := Lib.hid (HX.out.ext gg)
  replace HY := Lib.hid (HY.out.ext gg)
  replace HZI := Lib.hid (HZI.out.ext gg)
  replace HBI := Lib.hid (HBI.out.ext gg)
  replace C0 := Lib.hid (gg.cell (p := ⟨O, 0, none⟩) C0.out)
  replace C1 := Lib.hid (gg.cell (p := ⟨O, 1, none⟩) C1.out)
  clear gg
  by_cases hpx : pexZ p qs x y = 0
  · have hpxb : (pexZ p qs x y == 0) = true := by simp [hpx]
    have HON := Lib.hid (show Y = y by rw [HYE.out]; exact inv_on HPR.out HGV.out hpx)
    clear hpx
    have x00 := C0.out
    have x01 := C1.out
    go_wp2_with (fail)
    clear x00 x01
    have H := l_like (some ⟨gB, 0, none⟩) ay M M kB cy _ _ v5 (by omega) (by omega) HBI.out HY.out
    rw [eqB_self] at H
    refine Calls.mono H ?_
    clear H
    rintro e v6 ⟨rfl, gg⟩
    replace E := Lib.hid (E.out.trans gg)
    replace HQ := Lib.hid (HQ.out.ext gg)
    replace HX := Lib.hid (HX.out.ext gg)
    replace HY := Lib.hid (HY.out.ext gg)
    replace HZI := Lib.hid (HZI.out.ext gg)
    replace HBI := Lib.hid (HBI.out.ext gg)
    replace C0 := Lib.hid (gg.cell (p := ⟨O, 0, none⟩) C0.out)
    replace C1 := Lib.hid (gg.cell (p := ⟨O, 1, none⟩) C1.out)
    clear gg
    have x00 := C0.out
    have x01 := C1.out
    go_wp2_with (fail)
    clear x00 x01
    have H := l_like rZ ay M M kZ cy _ _ v6 (by omega) (by omega) HZI.out HY.out
    rw [HON.out, eqB_self] at H
    refine Calls.mono H ?_
    clear H
    rintro e v7 ⟨rfl, gg⟩
    replace E := Lib.hid (E.out.trans gg)
    replace HQ := Lib.hid (HQ.out.ext gg)
    replace HX := Lib.hid (HX.out.ext gg)
    replace HY := Lib.hid (HY.out.ext gg)
    replace HZI := Lib.hid (HZI.out.ext gg)
    replace HBI := Lib.hid (HBI.out.ext gg)
    replace C0 := Lib.hid (gg.cell (p := ⟨O, 0, none⟩) C0.out)
    replace C1 := Lib.hid (gg.cell (p := ⟨O, 1, none⟩) C1.out)
    clear gg
    by_cases hwx : wgtI p qs x = 0
    · skip
      have x00 := C0.out
      have x01 := C1.out
      go_wp2_with (fail)
      clear x00 x01
      refine Calls.mono (c_SphereOf_no p a M cap qs _ _ x v7 HSP.out h4 HQ.out HX.out HGX.out hwx) ?_
      rintro e v8 ⟨rfl, gg⟩
      replace E := Lib.hid (E.out.trans gg)
      replace HQ := Lib.hid (HQ.out.ext gg)
      replace HX := Lib.hid (HX.out.ext gg)
      replace HY := Lib.hid (HY.out.ext gg)
      replace HZI := Lib.hid (HZI.out.ext gg)
      replace HBI := Lib.hid (HBI.out.ext gg)
      replace C0 := Lib.hid (gg.cell (p := ⟨O, 0, none⟩) C0.out)
      replace C1 := Lib.hid (gg.cell (p := ⟨O, 1, none⟩) C1.out)
      clear gg
      go_wp2_with (fail)
      go_ret
      exact ⟨rfl, E.out⟩
    · skip
      have hg0 : G ≠ 0 := by
        rw [HG.out, HCE.out]
        exact inv_gap_ne HPR.out HNZ.out hwx HWZ.out HGV.out.1
      have hgb : (G == 0) = false := by simp [hg0]
      have HIM := Lib.hid (fun f (hf : f * G % p = r) => (show plusL p c (scaleL p (plusL p y (scaleL p c (-1) M) 1 M) f M) 1 M = Y by
        have H := inv_image (f := f) HPR.out HNZ.out hwx HWZ.out HGV.out (by rw [← HCE.out, ← HG.out, ← HRE.out]; exact hf)
        rw [HD.out, ← HCE.out, ← HYE.out] at H
        exact H))
      have HGS := Lib.hid (gap_solved (p := p) (G := G) (r := r) HPR.out (by omega) hGb.2 hrb.1 hrb.2)
      have x00 := C0.out
      have x01 := C1.out
      go_wp2_with (fail)
      clear x00 x01
      refine Calls.mono (c_SphereOf_ok p a M cap qs _ _ x v7 HSP.out h4 HQ.out HX.out HGX.out hwx) ?_
      rintro e v9 ⟨gC, kC, rfl, ho, gg⟩
      rw [← HCE.out] at ho
      rw [← HRE.out]
      have RC := Lib.hid (ho.mono (Nat.zero_le _))
      clear ho
      replace E := Lib.hid (E.out.trans gg)
      replace HQ := Lib.hid (HQ.out.ext gg)
      replace HX := Lib.hid (HX.out.ext gg)
      replace HY := Lib.hid (HY.out.ext gg)
      replace HZI := Lib.hid (HZI.out.ext gg)
      replace HBI := Lib.hid (HBI.out.ext gg)
      replace C0 := Lib.hid (gg.cell (p := ⟨O, 0, none⟩) C0.out)
      replace C1 := Lib.hid (gg.cell (p := ⟨O, 1, none⟩) C1.out)
      clear gg
      have x00 := C0.out
      have x01 := C1.out
      go_wp2_with (fail)
      clear x00 x01
      refine Calls.mono (c_DistanceOf_ok p a M cap qs _ _ c _ _ y v9 HSP.out h4 HQ.out RC.out.rd HGC.out HY.out HGY.out) ?_
      rintro e v10 ⟨rfl, gg⟩
      rw [← HG.out]
      replace E := Lib.hid (E.out.trans gg)
      replace HQ := Lib.hid (HQ.out.ext gg)
      replace HX := Lib.hid (HX.out.ext gg)
      replace HY := Lib.hid (HY.out.ext gg)
      replace HZI := Lib.hid (HZI.out.ext gg)
      replace HBI := Lib.hid (HBI.out.ext gg)
      replace RC := Lib.hid (RC.out.ext gg)
      replace C0 := Lib.hid (gg.cell (p := ⟨O, 0, none⟩) C0.out)
      replace C1 := Lib.hid (gg.cell (p := ⟨O, 1, none⟩) C1.out)
      clear gg
      have x00 := C0.out
      have x01 := C1.out
      go_wp2_with (fail)
      clear x00 x01
      go_loopw [19, 20, 21] (fun f b i wr => ∃ (k : Nat) (F : Int) (B : Bool), (k : Int) ≤ p ∧ i = .int .i64 k ∧ f = .int .i64 F ∧ b = .bool B ∧ 0 ≤ F ∧ F < p ∧ Hid (B = true → F * G % p = r) ∧ Hid (B = false → ∀ j : Nat, j < k → (j : Int) * G % p ≠ r) ∧ v10 = wr) (fun _ _ i _ => p.toNat - (intOf i).toNat)
      case atStart => exact ⟨0, 0, false, by omega, rfl, rfl, rfl, by omega, by omega, Lib.hid (fun h => by cases h), Lib.hid (fun _ j h => absurd h (Nat.not_lt_zero _)), rfl⟩
      case round =>
        obtain ⟨k, F, B, hk, rfl, rfl, rfl, hF0, hF1, HB1, HB2, rfl⟩ := hrel
        by_cases hkp : (k : Int) < p
        · obtain ⟨hw1, hw2⟩ := step_rem (p := p) (k := k) (G := G) (by omega) (by omega) hkp hGb.1 hGb.2
          obtain ⟨m9, hm9⟩ : ∃ m, m = (k : Int) * G := ⟨_, rfl⟩
          rw [← hm9] at hw1 hw2
          obtain ⟨t9, ht9⟩ : ∃ t, t = m9 % p := ⟨_, rfl⟩
          rw [← ht9] at hw2
          have HT9 := Lib.hid (show (k : Int) * G % p = t9 by rw [ht9, hm9])
          have hwm : IntKind.i64.wrap ((k : Int) * G) = m9 := by rw [← hm9]; exact hw1
          clear hm9 ht9 hw1
          have x00 := C0.out
          have x01 := C1.out
          by_cases ht : t9 = r
          · have htb : (t9 == r) = true := by simp [ht]
            go_wp2_with (fail)
            go_roundw
            case rel => exact ⟨k + 1, k, true, by omega, by go_num, rfl, rfl, by omega, by omega, Lib.hid (fun _ => by rw [HT9.out]; exact ht), Lib.hid (fun h => by cases h), trivial⟩
            case measure => simp [intOf]; omega
          · have htb : (t9 == r) = false := by simp [ht]
            go_wp2_with (fail)
            go_roundw
            case rel =>
              exact ⟨k + 1, F, B, by omega, by go_num, rfl, rfl, by omega, by omega, HB1, Lib.hid (fun h j hj => by
                by_cases hjk : j < k
                · exact HB2.out h j hjk
                · obtain rfl : j = k := by omega
                  rw [HT9.out]; exact ht), trivial⟩
            case measure => simp [intOf]; omega
        · obtain rfl : B = true := by
            cases B with
            | true => rfl
            | false =>
              obtain ⟨j, hj1, hj2⟩ := HGS.out
              exact absurd hj2 (HB2.out rfl j (by omega))
          have HIF := Lib.hid (HIM.out F (HB1.out rfl))
          clear HB1 HB2
          have x00 := C0.out
          have x01 := C1.out
          go_wp2_with (fail)
          clear x00 x01
          replace E := Lib.hid (E.out.trans (ext_drew v10))
          replace HQ := Lib.hid (HQ.out.ext (ext_drew v10))
          replace HX := Lib.hid (HX.out.ext (ext_drew v10))
          replace HY := Lib.hid (HY.out.ext (ext_drew v10))
          replace HZI := Lib.hid (HZI.out.ext (ext_drew v10))
          replace HBI := Lib.hid (HBI.out.ext (ext_drew v10))
          replace RC := Lib.hid (RC.out.ext (ext_drew v10))
          replace C0 := Lib.hid ((ext_drew v10).cell (p := ⟨O, 0, none⟩) C0.out)
          replace C1 := Lib.hid ((ext_drew v10).cell (p := ⟨O, 1, none⟩) C1.out)
          refine wp_region_lex [(15, .ownS 0 M (scaleL p c (-1) M)), (16, .ownS 0 M (plusL p y (scaleL p c (-1) M) 1 M)), (17, .ownS 0 M (scaleL p (plusL p y (scaleL p c (-1) M) 1 M) F M)), (18, .ownS 0 M (plusL p c (scaleL p (plusL p y (scaleL p c (-1) M) 1 M) F M) 1 M)), (19, .val (.bool true))] (by kernel_rfl) (by kernel_rfl) ?_
          (refine LexW.pure (v := ?_) rfl rfl (fun w1 he => ?_) ?_; rotate_left; ( have x00 := (he.cell (p := ⟨O, 0, none⟩) C0.out); have x01 := (he.cell (p := ⟨O, 1, none⟩) C1.out); go_simp; rfl); simp only [Act.put, List.setIfInBounds_toArray, List.set_cons_zero, List.set_cons_succ])
          (refine LexW.pure (v := ?_) rfl rfl (fun w1 he => ?_) ?_; rotate_left; ( have x00 := (he.cell (p := ⟨O, 0, none⟩) C0.out); have x01 := (he.cell (p := ⟨O, 1, none⟩) C1.out); go_simp; rfl); simp only [Act.put, List.setIfInBounds_toArray, List.set_cons_zero, List.set_cons_succ])
          (refine LexW.pure (v := ?_) rfl rfl (fun w1 he => ?_) ?_; rotate_left; ( have x00 := (he.cell (p := ⟨O, 0, none⟩) C0.out); have x01 := (he.cell (p := ⟨O, 1, none⟩) C1.out); go_simp; rfl); simp only [Act.put, List.setIfInBounds_toArray, List.set_cons_zero, List.set_cons_succ])
          (refine LexW.pure (v := ?_) rfl rfl (fun w1 he => ?_) ?_; rotate_left; ( have x00 := (he.cell (p := ⟨O, 0, none⟩) C0.out); have x01 := (he.cell (p := ⟨O, 1, none⟩) C1.out); go_simp; rfl); simp only [Act.put, List.setIfInBounds_toArray, List.set_cons_zero, List.set_cons_succ])
          (refine LexW.pure (v := ?_) rfl rfl (fun w1 he => ?_) ?_; rotate_left; ( have x00 := (he.cell (p := ⟨O, 0, none⟩) C0.out); have x01 := (he.cell (p := ⟨O, 1, none⟩) C1.out); go_simp; rfl); simp only [Act.put, List.setIfInBounds_toArray, List.set_cons_zero, List.set_cons_succ])
          (refine LexW.pure (v := ?_) rfl rfl (fun w1 he => ?_) ?_; rotate_left; ( have x00 := (he.cell (p := ⟨O, 0, none⟩) C0.out); have x01 := (he.cell (p := ⟨O, 1, none⟩) C1.out); go_simp; rfl); simp only [Act.put, List.setIfInBounds_toArray, List.set_cons_zero, List.set_cons_succ])
          (refine LexW.pure (v := ?_) rfl rfl (fun w1 he => ?_) ?_; rotate_left; ( have x00 := (he.cell (p := ⟨O, 0, none⟩) C0.out); have x01 := (he.cell (p := ⟨O, 1, none⟩) C1.out); go_simp; rfl); simp only [Act.put, List.setIfInBounds_toArray, List.set_cons_zero, List.set_cons_succ])
          (refine LexW.pure (v := ?_) rfl rfl (fun w1 he => ?_) ?_; rotate_left; ( have x00 := (he.cell (p := ⟨O, 0, none⟩) C0.out); have x01 := (he.cell (p := ⟨O, 1, none⟩) C1.out); go_simp; rfl); simp only [Act.put, List.setIfInBounds_toArray, List.set_cons_zero, List.set_cons_succ])
          (refine LexW.pure (v := ?_) rfl rfl (fun w1 he => ?_) ?_; rotate_left; ( have x00 := (he.cell (p := ⟨O, 0, none⟩) C0.out); have x01 := (he.cell (p := ⟨O, 1, none⟩) C1.out); go_simp; rfl); simp only [Act.put, List.setIfInBounds_toArray, List.set_cons_zero, List.set_cons_succ])
          (refine LexW.pure (v := ?_) rfl rfl (fun w1 he => ?_) ?_; rotate_left; ( have x00 := (he.cell (p := ⟨O, 0, none⟩) C0.out); have x01 := (he.cell (p := ⟨O, 1, none⟩) C1.out); go_simp; rfl); simp only [Act.put, List.setIfInBounds_toArray, List.set_cons_zero, List.set_cons_succ])
          (refine LexW.pure (v := ?_) rfl rfl (fun w1 he => ?_) ?_; rotate_left; ( have x00 := (he.cell (p := ⟨O, 0, none⟩) C0.out); have x01 := (he.cell (p := ⟨O, 1, none⟩) C1.out); go_simp; rfl); simp only [Act.put, List.setIfInBounds_toArray, List.set_cons_zero, List.set_cons_succ])
          (refine LexW.pure (v := ?_) rfl rfl (fun w1 he => ?_) ?_; rotate_left; ( have x00 := (he.cell (p := ⟨O, 0, none⟩) C0.out); have x01 := (he.cell (p := ⟨O, 1, none⟩) C1.out); go_simp; rfl); simp only [Act.put, List.setIfInBounds_toArray, List.set_cons_zero, List.set_cons_succ])
          (refine LexW.pure (v := ?_) rfl rfl (fun w1 he => ?_) ?_; rotate_left; ( have x00 := (he.cell (p := ⟨O, 0, none⟩) C0.out); have x01 := (he.cell (p := ⟨O, 1, none⟩) C1.out); go_simp; rfl); simp only [Act.put, List.setIfInBounds_toArray, List.set_cons_zero, List.set_cons_succ])
          (refine LexW.pure (v := ?_) rfl rfl (fun w1 he => ?_) ?_; rotate_left; ( have x00 := (he.cell (p := ⟨O, 0, none⟩) C0.out); have x01 := (he.cell (p := ⟨O, 1, none⟩) C1.out); go_simp; rfl); simp only [Act.put, List.setIfInBounds_toArray, List.set_cons_zero, List.set_cons_succ])
          (refine LexW.pure (v := ?_) rfl rfl (fun w1 he => ?_) ?_; rotate_left; ( have x00 := (he.cell (p := ⟨O, 0, none⟩) C0.out); have x01 := (he.cell (p := ⟨O, 1, none⟩) C1.out); go_simp; rfl); simp only [Act.put, List.setIfInBounds_toArray, List.set_cons_zero, List.set_cons_succ])
          (refine LexW.callR (f := ?_) (args := ?_) rfl rfl (fun w1 => ?_) (fun w1 he hdep => ?_) (fun v hv => ?_); rotate_left 2; (go_simp; refine ⟨?_, ?_⟩ <;> rfl); ( refine (l_scale9 p (-1) _ M _ c w1 (by omega) (by omega) (by omega) (by omega) (RC.out.rd.ext he) HGC.out).mono ?_; rintro e w2 ⟨g, rc, rfl, ho, g2⟩; exact ⟨_, rfl, g2, g, rc, rfl, ho.mono (Nat.zero_le _)⟩); simp only [Act.put, List.setIfInBounds_toArray, List.set_cons_zero, List.set_cons_succ])
          obtain ⟨_, g147, c147, rfl, _⟩ := hv
          (refine LexW.callR (f := ?_) (args := ?_) rfl rfl (fun w1 => ?_) (fun w1 he hdep => ?_) (fun v hv => ?_); rotate_left 2; (go_simp; refine ⟨?_, ?_⟩ <;> rfl); ( obtain ⟨_, _, q147, r147⟩ : (SPred.ownS 0 M (scaleL p c (-1) M)).holds (.slice (some ⟨g147, 0, none⟩) M c147) w1 := hdep (15, 147) (by decide +kernel); cases q147; refine (l_add9 p _ _ M _ _ y (scaleL p c (-1) M) w1 (by omega) (by omega) (by omega) (HY.out.ext he) r147.rd HGY.out (scale_good (by omega))).mono ?_; rintro e w2 ⟨g, rc, rfl, ho, g2⟩; exact ⟨_, rfl, g2, g, rc, rfl, ho.mono (Nat.zero_le _)⟩); simp only [Act.put, List.setIfInBounds_toArray, List.set_cons_zero, List.set_cons_succ])
          obtain ⟨_, g148, c148, rfl, _⟩ := hv
          (refine LexW.callR (f := ?_) (args := ?_) rfl rfl (fun w1 => ?_) (fun w1 he hdep => ?_) (fun v hv => ?_); rotate_left 2; (go_simp; refine ⟨?_, ?_⟩ <;> rfl); ( obtain ⟨_, _, q148, r148⟩ : (SPred.ownS 0 M (plusL p y (scaleL p c (-1) M) 1 M)).holds (.slice (some ⟨g148, 0, none⟩) M c148) w1 := hdep (16, 148) (by decide +kernel); cases q148; refine (l_scale9 p F _ M _ (plusL p y (scaleL p c (-1) M) 1 M) w1 (by omega) (by omega) (by omega) (by omega) r148.rd (plus_good (by omega))).mono ?_; rintro e w2 ⟨g, rc, rfl, ho, g2⟩; exact ⟨_, rfl, g2, g, rc, rfl, ho.mono (Nat.zero_le _)⟩); simp only [Act.put, List.setIfInBounds_toArray, List.set_cons_zero, List.set_cons_succ])
          obtain ⟨_, g149, c149, rfl, _⟩ := hv
          (refine LexW.callR (f := ?_) (args := ?_) rfl rfl (fun w1 => ?_) (fun w1 he hdep => ?_) (fun v hv => ?_); rotate_left 2; (go_simp; refine ⟨?_, ?_⟩ <;> rfl); ( obtain ⟨_, _, q149, r149⟩ : (SPred.ownS 0 M (scaleL p (plusL p y (scaleL p c (-1) M) 1 M) F M)).holds (.slice (some ⟨g149, 0, none⟩) M c149) w1 := hdep (17, 149) (by decide +kernel); cases q149; refine (l_add9 p _ _ M _ _ c (scaleL p (plusL p y (scaleL p c (-1) M) 1 M) F M) w1 (by omega) (by omega) (by omega) (RC.out.rd.ext he) r149.rd HGC.out (scale_good (by omega))).mono ?_; rintro e w2 ⟨g, rc, rfl, ho, g2⟩; exact ⟨_, rfl, g2, g, rc, rfl, ho.mono (Nat.zero_le _)⟩); simp only [Act.put, List.setIfInBounds_toArray, List.set_cons_zero, List.set_cons_succ])
          obtain ⟨_, g150, c150, rfl, _⟩ := hv
          (refine LexW.call (f := ?_) (args := ?_) rfl rfl (fun w1 => ?_) (fun w1 he hdep => ?_) ?_; rotate_left 2; (go_simp; refine ⟨?_, ?_⟩ <;> rfl); ( obtain ⟨_, _, q150, r150⟩ : (SPred.ownS 0 M (plusL p c (scaleL p (plusL p y (scaleL p c (-1) M) 1 M) F M) 1 M)).holds (.slice (some ⟨g150, 0, none⟩) M c150) w1 := hdep (18, 150) (by decide +kernel); cases q150; have H := l_like rZ (some ⟨g150, 0, none⟩) M M kZ c150 _ _ w1 (by omega) (by omega) ((HZI.out.ext he)) (r150.rd); rw [HIF.out, eqB_self] at H; exact H); simp only [Act.put, List.setIfInBounds_toArray, List.set_cons_zero, List.set_cons_succ])
          (refine LexW.pure (v := ?_) rfl rfl (fun w1 he => ?_) ?_; rotate_left; ( have x00 := (he.cell (p := ⟨O, 0, none⟩) C0.out); have x01 := (he.cell (p := ⟨O, 1, none⟩) C1.out); go_simp; rfl); simp only [Act.put, List.setIfInBounds_toArray, List.set_cons_zero, List.set_cons_succ])
          (refine LexW.pure (v := ?_) rfl rfl (fun w1 he => ?_) ?_; rotate_left; ( have x00 := (he.cell (p := ⟨O, 0, none⟩) C0.out); have x01 := (he.cell (p := ⟨O, 1, none⟩) C1.out); go_simp; rfl); simp only [Act.put, List.setIfInBounds_toArray, List.set_cons_zero, List.set_cons_succ])
          refine LexW.nil (fun w3 he hkn => ?_)
          have HE := Lib.hid he
          clear he hkn 
          rename World => v11
          replace E := Lib.hid (E.out.trans HE.out)
          replace HQ := Lib.hid (HQ.out.ext HE.out)
          replace HX := Lib.hid (HX.out.ext HE.out)
          replace HY := Lib.hid (HY.out.ext HE.out)
          replace HZI := Lib.hid (HZI.out.ext HE.out)
          replace HBI := Lib.hid (HBI.out.ext HE.out)
          replace RC := Lib.hid (RC.out.ext HE.out)
          replace C0 := Lib.hid (HE.out.cell (p := ⟨O, 0, none⟩) C0.out)
          replace C1 := Lib.hid (HE.out.cell (p := ⟨O, 1, none⟩) C1.out)
          clear HE
          go_wp2_with (fail)
          go_ret
          exact ⟨rfl, E.out⟩
  · have hpxb : (pexZ p qs x y == 0) = false := by simp [hpx]
    clear hpx
    have x00 := C0.out
    have x01 := C1.out
    go_wp2_with (fail)
    clear x00 x01
    have H := l_like (some ⟨gB, 0, none⟩) ay M M kB cy _ _ v5 (by omega) (by omega) HBI.out HY.out
    rw [eqB_self] at H
    refine Calls.mono H ?_
    clear H
    rintro e v12 ⟨rfl, gg⟩
    replace E := Lib.hid (E.out.trans gg)
    replace HQ := Lib.hid (HQ.out.ext gg)
    replace HX := Lib.hid (HX.out.ext gg)
    replace HY := Lib.hid (HY.out.ext gg)
    replace HZI := Lib.hid (HZI.out.ext gg)
    replace HBI := Lib.hid (HBI.out.ext gg)
    replace C0 := Lib.hid (gg.cell (p := ⟨O, 0, none⟩) C0.out)
    replace C1 := Lib.hid (gg.cell (p := ⟨O, 1, none⟩) C1.out)
    clear gg
    by_cases hwx : wgtI p qs x = 0
    · skip
      have x00 := C0.out
      have x01 := C1.out
      go_wp2_with (fail)
      clear x00 x01
      refine Calls.mono (c_SphereOf_no p a M cap qs _ _ x v12 HSP.out h4 HQ.out HX.out HGX.out hwx) ?_
      rintro e v13 ⟨rfl, gg⟩
      replace E := Lib.hid (E.out.trans gg)
      replace HQ := Lib.hid (HQ.out.ext gg)
      replace HX := Lib.hid (HX.out.ext gg)
      replace HY := Lib.hid (HY.out.ext gg)
      replace HZI := Lib.hid (HZI.out.ext gg)
      replace HBI := Lib.hid (HBI.out.ext gg)
      replace C0 := Lib.hid (gg.cell (p := ⟨O, 0, none⟩) C0.out)
      replace C1 := Lib.hid (gg.cell (p := ⟨O, 1, none⟩) C1.out)
      clear gg
      go_wp2_with (fail)
      go_ret
      exact ⟨rfl, E.out⟩
    · skip
      have hg0 : G ≠ 0 := by
        rw [HG.out, HCE.out]
        exact inv_gap_ne HPR.out HNZ.out hwx HWZ.out HGV.out.1
      have hgb : (G == 0) = false := by simp [hg0]
      have HIM := Lib.hid (fun f (hf : f * G % p = r) => (show plusL p c (scaleL p (plusL p y (scaleL p c (-1) M) 1 M) f M) 1 M = Y by
        have H := inv_image (f := f) HPR.out HNZ.out hwx HWZ.out HGV.out (by rw [← HCE.out, ← HG.out, ← HRE.out]; exact hf)
        rw [HD.out, ← HCE.out, ← HYE.out] at H
        exact H))
      have HGS := Lib.hid (gap_solved (p := p) (G := G) (r := r) HPR.out (by omega) hGb.2 hrb.1 hrb.2)
      have x00 := C0.out
      have x01 := C1.out
      go_wp2_with (fail)
      clear x00 x01
      refine Calls.mono (c_SphereOf_ok p a M cap qs _ _ x v12 HSP.out h4 HQ.out HX.out HGX.out hwx) ?_
      rintro e v14 ⟨gC, kC, rfl, ho, gg⟩
      rw [← HCE.out] at ho
      rw [← HRE.out]
      have RC := Lib.hid (ho.mono (Nat.zero_le _))
      clear ho
      replace E := Lib.hid (E.out.trans gg)
      replace HQ := Lib.hid (HQ.out.ext gg)
      replace HX := Lib.hid (HX.out.ext gg)
      replace HY := Lib.hid (HY.out.ext gg)
      replace HZI := Lib.hid (HZI.out.ext gg)
      replace HBI := Lib.hid (HBI.out.ext gg)
      replace C0 := Lib.hid (gg.cell (p := ⟨O, 0, none⟩) C0.out)
      replace C1 := Lib.hid (gg.cell (p := ⟨O, 1, none⟩) C1.out)
      clear gg
      have x00 := C0.out
      have x01 := C1.out
      go_wp2_with (fail)
      clear x00 x01
      refine Calls.mono (c_DistanceOf_ok p a M cap qs _ _ c _ _ y v14 HSP.out h4 HQ.out RC.out.rd HGC.out HY.out HGY.out) ?_
      rintro e v15 ⟨rfl, gg⟩
      rw [← HG.out]
      replace E := Lib.hid (E.out.trans gg)
      replace HQ := Lib.hid (HQ.out.ext gg)
      replace HX := Lib.hid (HX.out.ext gg)
      replace HY := Lib.hid (HY.out.ext gg)
      replace HZI := Lib.hid (HZI.out.ext gg)
      replace HBI := Lib.hid (HBI.out.ext gg)
      replace RC := Lib.hid (RC.out.ext gg)
      replace C0 := Lib.hid (gg.cell (p := ⟨O, 0, none⟩) C0.out)
      replace C1 := Lib.hid (gg.cell (p := ⟨O, 1, none⟩) C1.out)
      clear gg
      have x00 := C0.out
      have x01 := C1.out
      go_wp2_with (fail)
      clear x00 x01
      go_loopw [19, 20, 21] (fun f b i wr => ∃ (k : Nat) (F : Int) (B : Bool), (k : Int) ≤ p ∧ i = .int .i64 k ∧ f = .int .i64 F ∧ b = .bool B ∧ 0 ≤ F ∧ F < p ∧ Hid (B = true → F * G % p = r) ∧ Hid (B = false → ∀ j : Nat, j < k → (j : Int) * G % p ≠ r) ∧ v15 = wr) (fun _ _ i _ => p.toNat - (intOf i).toNat)
      case atStart => exact ⟨0, 0, false, by omega, rfl, rfl, rfl, by omega, by omega, Lib.hid (fun h => by cases h), Lib.hid (fun _ j h => absurd h (Nat.not_lt_zero _)), rfl⟩
      case round =>
        obtain ⟨k, F, B, hk, rfl, rfl, rfl, hF0, hF1, HB1, HB2, rfl⟩ := hrel
        by_cases hkp : (k : Int) < p
        · obtain ⟨hw1, hw2⟩ := step_rem (p := p) (k := k) (G := G) (by omega) (by omega) hkp hGb.1 hGb.2
          obtain ⟨m9, hm9⟩ : ∃ m, m = (k : Int) * G := ⟨_, rfl⟩
          rw [← hm9] at hw1 hw2
          obtain ⟨t9, ht9⟩ : ∃ t, t = m9 % p := ⟨_, rfl⟩
          rw [← ht9] at hw2
          have HT9 := Lib.hid (show (k : Int) * G % p = t9 by rw [ht9, hm9])
          have hwm : IntKind.i64.wrap ((k : Int) * G) = m9 := by rw [← hm9]; exact hw1
          clear hm9 ht9 hw1
          have x00 := C0.out
          have x01 := C1.out
          by_cases ht : t9 = r
          · have htb : (t9 == r) = true := by simp [ht]
            go_wp2_with (fail)
            go_roundw
            case rel => exact ⟨k + 1, k, true, by omega, by go_num, rfl, rfl, by omega, by omega, Lib.hid (fun _ => by rw [HT9.out]; exact ht), Lib.hid (fun h => by cases h), trivial⟩
            case measure => simp [intOf]; omega
          · have htb : (t9 == r) = false := by simp [ht]
            go_wp2_with (fail)
            go_roundw
            case rel =>
              exact ⟨k + 1, F, B, by omega, by go_num, rfl, rfl, by omega, by omega, HB1, Lib.hid (fun h j hj => by
                by_cases hjk : j < k
                · exact HB2.out h j hjk
                · obtain rfl : j = k := by omega
                  rw [HT9.out]; exact ht), trivial⟩
            case measure => simp [intOf]; omega
        · obtain rfl : B = true := by
            cases B with
            | true => rfl
            | false =>
              obtain ⟨j, hj1, hj2⟩ := HGS.out
              exact absurd hj2 (HB2.out rfl j (by omega))
          have HIF := Lib.hid (HIM.out F (HB1.out rfl))
          clear HB1 HB2
          have x00 := C0.out
          have x01 := C1.out
          go_wp2_with (fail)
          clear x00 x01
          replace E := Lib.hid (E.out.trans (ext_drew v15))
          replace HQ := Lib.hid (HQ.out.ext (ext_drew v15))
          replace HX := Lib.hid (HX.out.ext (ext_drew v15))
          replace HY := Lib.hid (HY.out.ext (ext_drew v15))
          replace HZI := Lib.hid (HZI.out.ext (ext_drew v15))
          replace HBI := Lib.hid (HBI.out.ext (ext_drew v15))
          replace RC := Lib.hid (RC.out.ext (ext_drew v15))
          replace C0 := Lib.hid ((ext_drew v15).cell (p := ⟨O, 0, none⟩) C0.out)
          replace C1 := Lib.hid ((ext_drew v15).cell (p := ⟨O, 1, none⟩) C1.out)
          refine wp_region_lex [(15, .ownS 0 M (scaleL p c (-1) M)), (16, .ownS 0 M (plusL p y (scaleL p c (-1) M) 1 M)), (17, .ownS 0 M (scaleL p (plusL p y (scaleL p c (-1) M) 1 M) F M)), (18, .ownS 0 M (plusL p c (scaleL p (plusL p y (scaleL p c (-1) M) 1 M) F M) 1 M)), (19, .val (.bool true))] (by kernel_rfl) (by kernel_rfl) ?_
          (refine LexW.pure (v := ?_) rfl rfl (fun w1 he => ?_) ?_; rotate_left; ( have x00 := (he.cell (p := ⟨O, 0, none⟩) C0.out); have x01 := (he.cell (p := ⟨O, 1, none⟩) C1.out); go_simp; rfl); simp only [Act.put, List.setIfInBounds_toArray, List.set_cons_zero, List.set_cons_succ])
          (refine LexW.pure (v := ?_) rfl rfl (fun w1 he => ?_) ?_; rotate_left; ( have x00 := (he.cell (p := ⟨O, 0, none⟩) C0.out); have x01 := (he.cell (p := ⟨O, 1, none⟩) C1.out); go_simp; rfl); simp only [Act.put, List.setIfInBounds_toArray, List.set_cons_zero, List.set_cons_succ])
          (refine LexW.pure (v := ?_) rfl rfl (fun w1 he => ?_) ?_; rotate_left; ( have x00 := (he.cell (p := ⟨O, 0, none⟩) C0.out); have x01 := (he.cell (p := ⟨O, 1, none⟩) C1.out); go_simp; rfl); simp only [Act.put, List.setIfInBounds_toArray, List.set_cons_zero, List.set_cons_succ])
          (refine LexW.pure (v := ?_) rfl rfl (fun w1 he => ?_) ?_; rotate_left; ( have x00 := (he.cell (p := ⟨O, 0, none⟩) C0.out); have x01 := (he.cell (p := ⟨O, 1, none⟩) C1.out); go_simp; rfl); simp only [Act.put, List.setIfInBounds_toArray, List.set_cons_zero, List.set_cons_succ])
          (refine LexW.pure (v := ?_) rfl rfl (fun w1 he => ?_) ?_; rotate_left; ( have x00 := (he.cell (p := ⟨O, 0, none⟩) C0.out); have x01 := (he.cell (p := ⟨O, 1, none⟩) C1.out); go_simp; rfl); simp only [Act.put, List.setIfInBounds_toArray, List.set_cons_zero, List.set_cons_succ])
          (refine LexW.pure (v := ?_) rfl rfl (fun w1 he => ?_) ?_; rotate_left; ( have x00 := (he.cell (p := ⟨O, 0, none⟩) C0.out); have x01 := (he.cell (p := ⟨O, 1, none⟩) C1.out); go_simp; rfl); simp only [Act.put, List.setIfInBounds_toArray, List.set_cons_zero, List.set_cons_succ])
          (refine LexW.pure (v := ?_) rfl rfl (fun w1 he => ?_) ?_; rotate_left; ( have x00 := (he.cell (p := ⟨O, 0, none⟩) C0.out); have x01 := (he.cell (p := ⟨O, 1, none⟩) C1.out); go_simp; rfl); simp only [Act.put, List.setIfInBounds_toArray, List.set_cons_zero, List.set_cons_succ])
          (refine LexW.pure (v := ?_) rfl rfl (fun w1 he => ?_) ?_; rotate_left; ( have x00 := (he.cell (p := ⟨O, 0, none⟩) C0.out); have x01 := (he.cell (p := ⟨O, 1, none⟩) C1.out); go_simp; rfl); simp only [Act.put, List.setIfInBounds_toArray, List.set_cons_zero, List.set_cons_succ])
          (refine LexW.pure (v := ?_) rfl rfl (fun w1 he => ?_) ?_; rotate_left; ( have x00 := (he.cell (p := ⟨O, 0, none⟩) C0.out); have x01 := (he.cell (p := ⟨O, 1, none⟩) C1.out); go_simp; rfl); simp only [Act.put, List.setIfInBounds_toArray, List.set_cons_zero, List.set_cons_succ])
          (refine LexW.pure (v := ?_) rfl rfl (fun w1 he => ?_) ?_; rotate_left; ( have x00 := (he.cell (p := ⟨O, 0, none⟩) C0.out); have x01 := (he.cell (p := ⟨O, 1, none⟩) C1.out); go_simp; rfl); simp only [Act.put, List.setIfInBounds_toArray, List.set_cons_zero, List.set_cons_succ])
          (refine LexW.pure (v := ?_) rfl rfl (fun w1 he => ?_) ?_; rotate_left; ( have x00 := (he.cell (p := ⟨O, 0, none⟩) C0.out); have x01 := (he.cell (p := ⟨O, 1, none⟩) C1.out); go_simp; rfl); simp only [Act.put, List.setIfInBounds_toArray, List.set_cons_zero, List.set_cons_succ])
          (refine LexW.pure (v := ?_) rfl rfl (fun w1 he => ?_) ?_; rotate_left; ( have x00 := (he.cell (p := ⟨O, 0, none⟩) C0.out); have x01 := (he.cell (p := ⟨O, 1, none⟩) C1.out); go_simp; rfl); simp only [Act.put, List.setIfInBounds_toArray, List.set_cons_zero, List.set_cons_succ])
          (refine LexW.pure (v := ?_) rfl rfl (fun w1 he => ?_) ?_; rotate_left; ( have x00 := (he.cell (p := ⟨O, 0, none⟩) C0.out); have x01 := (he.cell (p := ⟨O, 1, none⟩) C1.out); go_simp; rfl); simp only [Act.put, List.setIfInBounds_toArray, List.set_cons_zero, List.set_cons_succ])
          (refine LexW.pure (v := ?_) rfl rfl (fun w1 he => ?_) ?_; rotate_left; ( have x00 := (he.cell (p := ⟨O, 0, none⟩) C0.out); have x01 := (he.cell (p := ⟨O, 1, none⟩) C1.out); go_simp; rfl); simp only [Act.put, List.setIfInBounds_toArray, List.set_cons_zero, List.set_cons_succ])
          (refine LexW.pure (v := ?_) rfl rfl (fun w1 he => ?_) ?_; rotate_left; ( have x00 := (he.cell (p := ⟨O, 0, none⟩) C0.out); have x01 := (he.cell (p := ⟨O, 1, none⟩) C1.out); go_simp; rfl); simp only [Act.put, List.setIfInBounds_toArray, List.set_cons_zero, List.set_cons_succ])
          (refine LexW.callR (f := ?_) (args := ?_) rfl rfl (fun w1 => ?_) (fun w1 he hdep => ?_) (fun v hv => ?_); rotate_left 2; (go_simp; refine ⟨?_, ?_⟩ <;> rfl); ( refine (l_scale9 p (-1) _ M _ c w1 (by omega) (by omega) (by omega) (by omega) (RC.out.rd.ext he) HGC.out).mono ?_; rintro e w2 ⟨g, rc, rfl, ho, g2⟩; exact ⟨_, rfl, g2, g, rc, rfl, ho.mono (Nat.zero_le _)⟩); simp only [Act.put, List.setIfInBounds_toArray, List.set_cons_zero, List.set_cons_succ])
          obtain ⟨_, g147, c147, rfl, _⟩ := hv
          (refine LexW.callR (f := ?_) (args := ?_) rfl rfl (fun w1 => ?_) (fun w1 he hdep => ?_) (fun v hv => ?_); rotate_left 2; (go_simp; refine ⟨?_, ?_⟩ <;> rfl); ( obtain ⟨_, _, q147, r147⟩ : (SPred.ownS 0 M (scaleL p c (-1) M)).holds (.slice (some ⟨g147, 0, none⟩) M c147) w1 := hdep (15, 147) (by decide +kernel); cases q147; refine (l_add9 p _ _ M _ _ y (scaleL p c (-1) M) w1 (by omega) (by omega) (by omega) (HY.out.ext he) r147.rd HGY.out (scale_good (by omega))).mono ?_; rintro e w2 ⟨g, rc, rfl, ho, g2⟩; exact ⟨_, rfl, g2, g, rc, rfl, ho.mono (Nat.zero_le _)⟩); simp only [Act.put, List.setIfInBounds_toArray, List.set_cons_zero, List.set_cons_succ])
          obtain ⟨_, g148, c148, rfl, _⟩ := hv
          (refine LexW.callR (f := ?_) (args := ?_) rfl rfl (fun w1 => ?_) (fun w1 he hdep => ?_) (fun v hv => ?_); rotate_left 2; (go_simp; refine ⟨?_, ?_⟩ <;> rfl); ( obtain ⟨_, _, q148, r148⟩ : (SPred.ownS 0 M (plusL p y (scaleL p c (-1) M) 1 M)).holds (.slice (some ⟨g148, 0, none⟩) M c148) w1 := hdep (16, 148) (by decide +kernel); cases q148; refine (l_scale9 p F _ M _ (plusL p y (scaleL p c (-1) M) 1 M) w1 (by omega) (by omega) (by omega) (by omega) r148.rd (plus_good (by omega))).mono ?_; rintro e w2 ⟨g, rc, rfl, ho, g2⟩; exact ⟨_, rfl, g2, g, rc, rfl, ho.mono (Nat.zero_le _)⟩); simp only [Act.put, List.setIfInBounds_toArray, List.set_cons_zero, List.set_cons_succ])
          obtain ⟨_, g149, c149, rfl, _⟩ := hv
          (refine LexW.callR (f := ?_) (args := ?_) rfl rfl (fun w1 => ?_) (fun w1 he hdep => ?_) (fun v hv => ?_); rotate_left 2; (go_simp; refine ⟨?_, ?_⟩ <;> rfl); ( obtain ⟨_, _, q149, r149⟩ : (SPred.ownS 0 M (scaleL p (plusL p y (scaleL p c (-1) M) 1 M) F M)).holds (.slice (some ⟨g149, 0, none⟩) M c149) w1 := hdep (17, 149) (by decide +kernel); cases q149; refine (l_add9 p _ _ M _ _ c (scaleL p (plusL p y (scaleL p c (-1) M) 1 M) F M) w1 (by omega) (by omega) (by omega) (RC.out.rd.ext he) r149.rd HGC.out (scale_good (by omega))).mono ?_; rintro e w2 ⟨g, rc, rfl, ho, g2⟩; exact ⟨_, rfl, g2, g, rc, rfl, ho.mono (Nat.zero_le _)⟩); simp only [Act.put, List.setIfInBounds_toArray, List.set_cons_zero, List.set_cons_succ])
          obtain ⟨_, g150, c150, rfl, _⟩ := hv
          (refine LexW.call (f := ?_) (args := ?_) rfl rfl (fun w1 => ?_) (fun w1 he hdep => ?_) ?_; rotate_left 2; (go_simp; refine ⟨?_, ?_⟩ <;> rfl); ( obtain ⟨_, _, q150, r150⟩ : (SPred.ownS 0 M (plusL p c (scaleL p (plusL p y (scaleL p c (-1) M) 1 M) F M) 1 M)).holds (.slice (some ⟨g150, 0, none⟩) M c150) w1 := hdep (18, 150) (by decide +kernel); cases q150; have H := l_like rZ (some ⟨g150, 0, none⟩) M M kZ c150 _ _ w1 (by omega) (by omega) ((HZI.out.ext he)) (r150.rd); rw [HIF.out, eqB_self] at H; exact H); simp only [Act.put, List.setIfInBounds_toArray, List.set_cons_zero, List.set_cons_succ])
          (refine LexW.pure (v := ?_) rfl rfl (fun w1 he => ?_) ?_; rotate_left; ( have x00 := (he.cell (p := ⟨O, 0, none⟩) C0.out); have x01 := (he.cell (p := ⟨O, 1, none⟩) C1.out); go_simp; rfl); simp only [Act.put, List.setIfInBounds_toArray, List.set_cons_zero, List.set_cons_succ])
          (refine LexW.pure (v := ?_) rfl rfl (fun w1 he => ?_) ?_; rotate_left; ( have x00 := (he.cell (p := ⟨O, 0, none⟩) C0.out); have x01 := (he.cell (p := ⟨O, 1, none⟩) C1.out); go_simp; rfl); simp only [Act.put, List.setIfInBounds_toArray, List.set_cons_zero, List.set_cons_succ])
          refine LexW.nil (fun w3 he hkn => ?_)
          have HE := Lib.hid he
          clear he hkn 
          rename World => v16
          replace E := Lib.hid (E.out.trans HE.out)
          replace HQ := Lib.hid (HQ.out.ext HE.out)
          replace HX := Lib.hid (HX.out.ext HE.out)
          replace HY := Lib.hid (HY.out.ext HE.out)
          replace HZI := Lib.hid (HZI.out.ext HE.out)
          replace HBI := Lib.hid (HBI.out.ext HE.out)
          replace RC := Lib.hid (RC.out.ext HE.out)
          replace C0 := Lib.hid (HE.out.cell (p := ⟨O, 0, none⟩) C0.out)
          replace C1 := Lib.hid (HE.out.cell (p := ⟨O, 1, none⟩) C1.out)
          clear HE
          go_wp2_with (fail)
          go_ret
          exact ⟨rfl, E.out⟩
end Go.Proofs.Ytcocbainookkcaa
