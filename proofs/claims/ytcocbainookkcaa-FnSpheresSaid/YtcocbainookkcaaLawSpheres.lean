/-
  The law FnSpheres returns true.
  No condition.
-/
import Derived.Test.YtcocbainookkcaaPart9
namespace Go.Proofs.Ytcocbainookkcaa
set_option maxRecDepth 100000
open Go.RowKit

theorem isB_push9 {p r : Int} {xs : List Int} (h : isB p xs = true) (h1 : 0 ≤ r) (h2 : r < p) : isB p (xs ++ [r]) = true := by
  unfold isB at h ⊢
  rw [List.all_append, h]
  simp [inB]; omega
theorem isB_good9 {p : Int} {xs : List Int} {n : Nat} (h1 : xs.length = n) (h : isB p xs = true) : Good p n xs := good_isB h1 h
/-- A number list, a number and the code 0. -/
def SPred.tup3 (B n : Nat) (xs : List Int) (r : Int) : SPred :=
  ⟨fun v w => ∃ g rc, v = .tuple #[.slice (some ⟨g, 0, none⟩) n rc, .int .i64 r, .int .i64 0] ∧ OwnC B w (some ⟨g, 0, none⟩) n rc xs, fun _ _ _ ⟨g, rc, h1, h2⟩ he => ⟨g, rc, h1, h2.ext he⟩⟩

def svL (p : Int) (qs v : List Int) (r : Int) : List Int := if codeSv p qs v r = 0 then ballL p qs v r else []
def dvN (p : Int) (qs v u : List Int) : Int := if code18 p qs [v, u] = 0 then distN p qs v u else 0
theorem c_SphereVector_any (p : Int) (a : Option Addr) (d cap : Nat) (qs : List Int) (av : Option Addr) (n cv : Nat) (v : List Int) (r : Int) (M : Nat) (w : World) (hM : M = (svL p qs v r).length) (hd : d ≤ 4194304) (hn : n ≤ 4194304) (hq : RdC w a d qs) (hv : RdC w av n v) :
    Calls Try.prog 18 #[.agg #[.int .i64 p, .slice a d cap], .slice av n cv, .int .i64 r] w fun e w' => ∃ ra rc, e = .returned (.tuple #[.slice ra M rc, .int .i64 (codeSv p qs v r)]) ∧ OwnC w.heap.size w' ra M rc (svL p qs v r) ∧ Ext w w' := by
  by_cases hc : codeSv p qs v r = 0
  · obtain ⟨h1, h2, h3⟩ := codeSv_zero hc
    obtain ⟨hs, h4, ha⟩ := code18_zero h1
    have hg0 := rows_good ha 0 (by simp)
    have hg : Good p qs.length v := hg0
    rw [hq.1] at hg
    obtain rfl : d = n := hg.1.symm.trans hv.1
    have e1 : svL p qs v r = ballL p qs v r := by unfold svL; rw [if_pos hc]
    rw [e1] at hM ⊢
    have hbl : (ballL p qs v r).length = d + 2 := (ball_good (by have := prime_bd (space_of hs).1; omega) hq.1).1
    rw [hbl] at hM
    subst hM
    rw [hc]
    refine Calls.mono (c_SphereVector_ok p a d cap qs av cv v r w hs h4 hq hv hg h2 h3) ?_
    rintro e w1 ⟨g, rc, rfl, ho, g1⟩
    exact ⟨_, rc, rfl, ho, g1⟩
  · have e1 : svL p qs v r = [] := by unfold svL; rw [if_neg hc]
    rw [e1] at hM ⊢
    obtain rfl : M = 0 := hM
    exact c_SphereVector_bad p a d cap qs av n cv v r w hd hn hq hv hc
theorem c_DistanceOf_any (p : Int) (a : Option Addr) (d cap : Nat) (qs : List Int) (av : Option Addr) (n cv : Nat) (v : List Int) (au : Option Addr) (m cu : Nat) (u : List Int) (w : World) (hd : d ≤ 4194304) (hn : n ≤ 4194304) (hm : m ≤ 4194304) (hq : RdC w a d qs) (hv : RdC w av n v) (hu : RdC w au m u) :
    Calls Try.prog 14 #[.agg #[.int .i64 p, .slice a d cap], .slice av n cv, .slice au m cu] w fun e w' => e = .returned (.tuple #[.int .i64 (dvN p qs v u), .int .i64 (code18 p qs [v, u])]) ∧ Ext w w' := by
  by_cases hc : code18 p qs [v, u] = 0
  · obtain ⟨hs, h4, ha⟩ := code18_zero hc
    have hg0 := rows_good ha 0 (by simp)
    have hg1 := rows_good ha 1 (by simp)
    have hg : Good p qs.length v := hg0
    have hg' : Good p qs.length u := hg1
    rw [hq.1] at hg hg'
    obtain rfl : d = n := hg.1.symm.trans hv.1
    obtain rfl : d = m := hg'.1.symm.trans hu.1
    rw [show dvN p qs v u = distN p qs v u by unfold dvN; rw [if_pos hc], hc]
    exact c_DistanceOf_ok p a d cap qs av cv v au cu u w hs h4 hq hv hg hu hg'
  · rw [show dvN p qs v u = 0 by unfold dvN; rw [if_neg hc]]
    exact c_DistanceOf_bad p a d cap qs av n cv v au m cu u w hd hn hm hq hv hu hc
theorem s_SphereVector_any (p : Int) (a : Option Addr) (d cap : Nat) (qs : List Int) (av : Option Addr) (n cv : Nat) (v : List Int) (r : Int) (M : Nat) (w : World) (hM : M = (svL p qs v r).length) (hd : d ≤ 4194304) (hn : n ≤ 4194304) (hq : RdC w a d qs) (hv : RdC w av n v) :
    Calls Try.prog 19 #[.agg #[.int .i64 p, .slice a d cap], .slice av n cv, .int .i64 r] w fun e w' => ∃ ra rc, e = .returned (.tuple #[.slice ra M rc, .int .i64 (codeSv p qs v r)]) ∧ OwnC w.heap.size w' ra M rc (svL p qs v r) ∧ Ext w w' := by
  by_cases hc : codeSv p qs v r = 0
  · obtain ⟨h1, h2, h3⟩ := codeSv_zero hc
    obtain ⟨hs, h4, ha⟩ := code18_zero h1
    have hg0 := rows_good ha 0 (by simp)
    have hg : Good p qs.length v := hg0
    rw [hq.1] at hg
    obtain rfl : d = n := hg.1.symm.trans hv.1
    have e1 : svL p qs v r = ballL p qs v r := by unfold svL; rw [if_pos hc]
    rw [e1] at hM ⊢
    have hbl : (ballL p qs v r).length = d + 2 := (ball_good (by have := prime_bd (space_of hs).1; omega) hq.1).1
    rw [hbl] at hM
    subst hM
    rw [hc]
    refine Calls.mono (s_SphereVector_ok p a d cap qs av cv v r w hs h4 hq hv hg h2 h3) ?_
    rintro e w1 ⟨g, rc, rfl, ho, g1⟩
    exact ⟨_, rc, rfl, ho, g1⟩
  · have e1 : svL p qs v r = [] := by unfold svL; rw [if_neg hc]
    rw [e1] at hM ⊢
    obtain rfl : M = 0 := hM
    exact s_SphereVector_bad p a d cap qs av n cv v r w hd hn hq hv hc
theorem s_DistanceOf_any (p : Int) (a : Option Addr) (d cap : Nat) (qs : List Int) (av : Option Addr) (n cv : Nat) (v : List Int) (au : Option Addr) (m cu : Nat) (u : List Int) (w : World) (hd : d ≤ 4194304) (hn : n ≤ 4194304) (hm : m ≤ 4194304) (hq : RdC w a d qs) (hv : RdC w av n v) (hu : RdC w au m u) :
    Calls Try.prog 21 #[.agg #[.int .i64 p, .slice a d cap], .slice av n cv, .slice au m cu] w fun e w' => e = .returned (.tuple #[.int .i64 (dvN p qs v u), .int .i64 (code18 p qs [v, u])]) ∧ Ext w w' := by
  by_cases hc : code18 p qs [v, u] = 0
  · obtain ⟨hs, h4, ha⟩ := code18_zero hc
    have hg0 := rows_good ha 0 (by simp)
    have hg1 := rows_good ha 1 (by simp)
    have hg : Good p qs.length v := hg0
    have hg' : Good p qs.length u := hg1
    rw [hq.1] at hg hg'
    obtain rfl : d = n := hg.1.symm.trans hv.1
    obtain rfl : d = m := hg'.1.symm.trans hu.1
    rw [show dvN p qs v u = distN p qs v u by unfold dvN; rw [if_pos hc], hc]
    exact s_DistanceOf_ok p a d cap qs av cv v au cu u w hs h4 hq hv hg hu hg'
  · rw [show dvN p qs v u = 0 by unfold dvN; rw [if_neg hc]]
    exact s_DistanceOf_bad p a d cap qs av n cv v au m cu u w hd hn hm hq hv hu hc

set_option maxHeartbeats 32000000 in
set_option maxRecDepth 100000 in
theorem law_Spheres (w : World) (ac : Option Addr) (nc cc : Nat) (hb : RdY w ac nc) :
    Calls Try.prog 4 #[.slice ac nc cc] w fun e w' => e = .returned (.bool true) ∧ Ext w w' := by
  have HB := Lib.hid hb
  clear hb
  go_enter Try.func4, Try.ntmps4
  go_wp2_with (fail)
  refine Calls.mono (l_big ac nc cc w) ?_
  rintro e w1 ⟨rfl, g0⟩
  have E := Lib.hid g0
  by_cases hbig : 4096 < nc
  · have hbb : decide (4096 < nc) = true := by simp [hbig]
    rw [hbb]
    go_wp2_with (fail)
    go_ret
    exact ⟨rfl, E.out⟩
  have hbb : decide (4096 < nc) = false := by simp [hbig]
  rw [hbb]
  clear g0 hbb
  go_wp2_with (fail)
  refine Calls.mono (s_drawSphereVector ac nc cc w1 (by omega) (HB.out.ext E.out)) ?_
  rintro e w2 ⟨p, a, d, cap, qs, ax, nx, cx, x, r, rfl, hp0, hp1, hd, hnx, hq, hx, g1⟩
  have E1 := Lib.hid g1
  replace E := Lib.hid (E.out.trans g1)
  have HQ := Lib.hid hq.rd
  have HX := Lib.hid hx.rd
  clear hq hx g1
  go_wp2_with (fail)
  obtain ⟨O, hO⟩ : ∃ O, O = w2.heap.size := ⟨_, rfl⟩
  obtain ⟨W, hW⟩ : ∃ W, W = w2.alloc (.cells #[.int .i64 p, .slice a d cap] 26) := ⟨_, rfl⟩
  have C0 := Lib.hid (show W.cell? ⟨O, 0, none⟩ = some (.int .i64 p) by rw [hW, hO]; simp)
  have C1 := Lib.hid (show W.cell? ⟨O, 1, none⟩ = some (.slice a d cap) by rw [hW, hO]; simp)
  have gg : Ext w2 W := by rw [hW]; exact ext_alloc _ _
  rw [← hO, ← hW]
  clear hO hW E1
  replace E := Lib.hid (E.out.trans gg)
  replace HQ := Lib.hid (HQ.out.ext gg)
  replace HX := Lib.hid (HX.out.ext gg)
  clear gg
  obtain ⟨M, hM⟩ : ∃ M, M = (svL p qs x r).length := ⟨_, rfl⟩
  have HM := Lib.hid hM
  have hMb : M ≤ 4194304 := by
    rw [hM]; unfold svL
    split
    · unfold ballL; rw [plusL_len, HQ.out.1]; omega
    · simp
  obtain ⟨C, hC⟩ : ∃ C, C = codeSv p qs x r := ⟨_, rfl⟩
  have HC := Lib.hid hC
  clear hM hC
  have x00 := C0.out
  have x01 := C1.out
  go_wp2_with (fail)
  clear x00 x01
  refine Calls.mono (c_SphereVector_any p a d cap qs ax nx cx x r M W HM.out (by omega) (by omega) HQ.out HX.out) ?_
  rintro e v1 ⟨rZ, kZ, rfl, ho, gg⟩
  have RZ := Lib.hid (ho.mono (Nat.zero_le _))
  clear ho
  replace E := Lib.hid (E.out.trans gg)
  replace HQ := Lib.hid (HQ.out.ext gg)
  replace HX := Lib.hid (HX.out.ext gg)
  replace C0 := Lib.hid (gg.cell (p := ⟨O, 0, none⟩) C0.out)
  replace C1 := Lib.hid (gg.cell (p := ⟨O, 1, none⟩) C1.out)
  clear gg
  rw [← HC.out]
  have x00 := C0.out
  have x01 := C1.out
  go_wp2_with (fail)
  clear x00 x01
  refine Calls.mono (s_SphereVector_any p a d cap qs ax nx cx x r M v1 HM.out (by omega) (by omega) HQ.out HX.out) ?_
  rintro e v2 ⟨rT, kT, rfl, ho, gg⟩
  have RT := Lib.hid (ho.mono (Nat.zero_le _))
  clear ho
  replace E := Lib.hid (E.out.trans gg)
  replace HQ := Lib.hid (HQ.out.ext gg)
  replace HX := Lib.hid (HX.out.ext gg)
  replace RZ := Lib.hid (RZ.out.ext gg)
  replace C0 := Lib.hid (gg.cell (p := ⟨O, 0, none⟩) C0.out)
  replace C1 := Lib.hid (gg.cell (p := ⟨O, 1, none⟩) C1.out)
  clear gg
  rw [← HC.out]
  have x00 := C0.out
  have x01 := C1.out
  go_wp2_with (fail)
  clear x00 x01
  have H := l_like rZ rT M M kZ kT _ _ v2 (by omega) (by omega) RZ.out.rd RT.out.rd
  rw [eqB_self] at H
  refine Calls.mono H ?_
  clear H
  rintro e v3 ⟨rfl, gg⟩
  replace E := Lib.hid (E.out.trans gg)
  replace HQ := Lib.hid (HQ.out.ext gg)
  replace HX := Lib.hid (HX.out.ext gg)
  replace RZ := Lib.hid (RZ.out.ext gg)
  replace RT := Lib.hid (RT.out.ext gg)
  replace C0 := Lib.hid (gg.cell (p := ⟨O, 0, none⟩) C0.out)
  replace C1 := Lib.hid (gg.cell (p := ⟨O, 1, none⟩) C1.out)
  clear gg
  clear RT
  have x00 := C0.out
  have x01 := C1.out
  go_wp2_with (fail)
  clear x00 x01
  refine Calls.mono (s_drawDistanceOf ac nc cc v3 (by omega) (HB.out.ext E.out)) ?_
  rintro e v4 ⟨p2, a2, d2, cap2, qs2, av, nv, cv, v, au, nu, cu, u, rfl, hp20, hp21, hd2, hnv, hnu, hq2, hv, hu, gg⟩
  have HQ2 := Lib.hid hq2.rd
  have HV := Lib.hid hv.rd
  have HU := Lib.hid hu.rd
  clear hq2 hv hu
  replace E := Lib.hid (E.out.trans gg)
  replace HQ := Lib.hid (HQ.out.ext gg)
  replace HX := Lib.hid (HX.out.ext gg)
  replace RZ := Lib.hid (RZ.out.ext gg)
  replace C0 := Lib.hid (gg.cell (p := ⟨O, 0, none⟩) C0.out)
  replace C1 := Lib.hid (gg.cell (p := ⟨O, 1, none⟩) C1.out)
  clear gg
  have y00 := (ext_alloc v4 (.cells #[.int .i64 p2, .slice a2 d2 cap2] 26)).cell (p := ⟨O, 0, none⟩) C0.out
  have y01 := (ext_alloc v4 (.cells #[.int .i64 p2, .slice a2 d2 cap2] 26)).cell (p := ⟨O, 1, none⟩) C1.out
  go_wp2_with (fail)
  clear y00 y01
  obtain ⟨O2, hO2⟩ : ∃ O2, O2 = v4.heap.size := ⟨_, rfl⟩
  obtain ⟨W2, hW2⟩ : ∃ W2, W2 = v4.alloc (.cells #[.int .i64 p2, .slice a2 d2 cap2] 26) := ⟨_, rfl⟩
  have D0 := Lib.hid (show W2.cell? ⟨O2, 0, none⟩ = some (.int .i64 p2) by rw [hW2, hO2]; simp)
  have D1 := Lib.hid (show W2.cell? ⟨O2, 1, none⟩ = some (.slice a2 d2 cap2) by rw [hW2, hO2]; simp)
  have gg : Ext v4 W2 := by rw [hW2]; exact ext_alloc _ _
  rw [← hO2, ← hW2]
  clear hO2 hW2
  replace E := Lib.hid (E.out.trans gg)
  replace HQ := Lib.hid (HQ.out.ext gg)
  replace HX := Lib.hid (HX.out.ext gg)
  replace RZ := Lib.hid (RZ.out.ext gg)
  replace HQ2 := Lib.hid (HQ2.out.ext gg)
  replace HV := Lib.hid (HV.out.ext gg)
  replace HU := Lib.hid (HU.out.ext gg)
  replace C0 := Lib.hid (gg.cell (p := ⟨O, 0, none⟩) C0.out)
  replace C1 := Lib.hid (gg.cell (p := ⟨O, 1, none⟩) C1.out)
  clear gg
  obtain ⟨G, hG⟩ : ∃ G, G = dvN p2 qs2 v u := ⟨_, rfl⟩
  have HG := Lib.hid hG
  obtain ⟨C2, hC2⟩ : ∃ C, C = code18 p2 qs2 [v, u] := ⟨_, rfl⟩
  have HC2 := Lib.hid hC2
  clear hG hC2
  refine Calls.mono (c_DistanceOf_any p2 a2 d2 cap2 qs2 av nv cv v au nu cu u W2 (by omega) (by omega) (by omega) HQ2.out HV.out HU.out) ?_
  rintro e v5 ⟨rfl, gg⟩
  replace E := Lib.hid (E.out.trans gg)
  replace HQ := Lib.hid (HQ.out.ext gg)
  replace HX := Lib.hid (HX.out.ext gg)
  replace RZ := Lib.hid (RZ.out.ext gg)
  replace HQ2 := Lib.hid (HQ2.out.ext gg)
  replace HV := Lib.hid (HV.out.ext gg)
  replace HU := Lib.hid (HU.out.ext gg)
  replace C0 := Lib.hid (gg.cell (p := ⟨O, 0, none⟩) C0.out)
  replace C1 := Lib.hid (gg.cell (p := ⟨O, 1, none⟩) C1.out)
  replace D0 := Lib.hid (gg.cell (p := ⟨O2, 0, none⟩) D0.out)
  replace D1 := Lib.hid (gg.cell (p := ⟨O2, 1, none⟩) D1.out)
  clear gg
  rw [← HC2.out, ← HG.out]
  have x00 := C0.out
  have x01 := C1.out
  have x10 := D0.out
  have x11 := D1.out
  go_wp2_with (fail)
  clear x00 x01 x10 x11
  refine Calls.mono (s_DistanceOf_any p2 a2 d2 cap2 qs2 av nv cv v au nu cu u v5 (by omega) (by omega) (by omega) HQ2.out HV.out HU.out) ?_
  rintro e v6 ⟨rfl, gg⟩
  replace E := Lib.hid (E.out.trans gg)
  replace HQ := Lib.hid (HQ.out.ext gg)
  replace HX := Lib.hid (HX.out.ext gg)
  replace RZ := Lib.hid (RZ.out.ext gg)
  replace HQ2 := Lib.hid (HQ2.out.ext gg)
  replace HV := Lib.hid (HV.out.ext gg)
  replace HU := Lib.hid (HU.out.ext gg)
  replace C0 := Lib.hid (gg.cell (p := ⟨O, 0, none⟩) C0.out)
  replace C1 := Lib.hid (gg.cell (p := ⟨O, 1, none⟩) C1.out)
  replace D0 := Lib.hid (gg.cell (p := ⟨O2, 0, none⟩) D0.out)
  replace D1 := Lib.hid (gg.cell (p := ⟨O2, 1, none⟩) D1.out)
  clear gg
  rw [← HC2.out, ← HG.out]
  by_cases h2 : C2 ≠ 0
  · have hcb2 : (C2 == 0) = false := by simp [h2]
    clear h2
    by_cases hc : C ≠ 0
    · have hcb : (C != 0) = true := by simp [hc]
      have hM0 : M = 0 := by rw [HM.out]; unfold svL; rw [← HC.out, if_neg hc]; rfl
      subst hM0
      clear hc
      go_wp2_with (fail)
      go_ret
      exact ⟨rfl, E.out⟩
    replace hc : C = 0 := by simpa using hc
    have hcS : codeSv p qs x r = 0 := by rw [← HC.out]; exact hc
    subst hc
    obtain ⟨hc1, hr0, hr1⟩ := codeSv_zero hcS
    obtain ⟨hs, h4, ha⟩ := code18_zero hc1
    obtain ⟨hpr, hd1, _, hqb⟩ := space_of hs
    have hpb := prime_bd hpr
    have HPR := Lib.hid hpr
    have HSP := Lib.hid hs
    have HD := Lib.hid HQ.out.1
    have hgx0 := rows_good ha 0 (by simp)
    have hgx1 : Good p qs.length x := hgx0
    rw [HQ.out.1] at hgx1 hd1
    obtain rfl : d = nx := hgx1.1.symm.trans HX.out.1
    have HGX := Lib.hid hgx1
    have hd4 : d ≤ 4 := by rw [← HQ.out.1]; exact h4
    have HSV := Lib.hid (show svL p qs x r = ballL p qs x r by unfold svL; rw [if_pos hcS])
    have HGB := Lib.hid (show Good p (d + 2) (ballL p qs x r) from ball_good (by omega) HD.out)
    have hM2 : M = d + 2 := by rw [HM.out, HSV.out]; exact HGB.out.1
    subst hM2
    rw [HSV.out] at RZ
    obtain ⟨gZ, rfl⟩ := RZ.out.addr (by omega)
    clear hcS hc1 hs ha hpr hqb hgx0 hgx1
    obtain ⟨q9, hq9⟩ : ∃ q, q = p - 1 := ⟨_, rfl⟩
    have hwq : IntKind.i64.wrap (p - 1) = q9 := by rw [hq9]; exact IntWalk.i64_in _ (by omega)
    have hq9b : q9 ≤ 12 ∧ 1 ≤ q9 := by omega
    have HQ9 := Lib.hid hq9
    clear hq9
    have x00 := C0.out
    have x01 := C1.out
    have x10 := D0.out
    have x11 := D1.out
    go_wp2_with (fail)
    clear x00 x01 x10 x11
    refine Calls.mono (l_roll ac nc cc 3025 v6 (by omega) (HB.out.ext E.out)) ?_
    rintro e v7 ⟨g, rfl, hg, hS, gg⟩
    obtain ⟨S, hSe⟩ : ∃ S : SrcP, S = ⟨g, ac, nc, cc⟩ := ⟨_, rfl⟩
    obtain rfl : g = S.g := by rw [hSe]
    rw [← hSe] at hS
    have HS := Lib.hid hS
    have E0 := Lib.hid gg
    have hgB : v6.heap.size ≤ S.g := hg
    have hgO : O ≠ S.g := by have := lt_of_cell C0.out; dsimp only at this; omega
    have hgO2 : O2 ≠ S.g := by have := lt_of_cell D0.out; dsimp only at this; omega
    clear hSe hS gg hg
    obtain ⟨B, hB⟩ : ∃ B, B = v7.heap.size := ⟨_, rfl⟩
    have HBE := Lib.hid hB
    have hSB : S.g < B := by rw [hB]; exact HS.out.lt
    clear hB
    have x00 := (E0.out.cell (p := ⟨O, 0, none⟩) C0.out)
    have x01 := (E0.out.cell (p := ⟨O, 1, none⟩) C1.out)
    have x10 := (E0.out.cell (p := ⟨O2, 0, none⟩) D0.out)
    have x11 := (E0.out.cell (p := ⟨O2, 1, none⟩) D1.out)
    go_wp2_with (fail)
    clear x00 x01 x10 x11
    obtain ⟨W0, hW0⟩ : ∃ W0, W0 = v7.alloc (.cells #[] 2) := ⟨_, rfl⟩
    have OV0 := Lib.hid (show OwnC B W0 (some ⟨v7.heap.size, 0, none⟩) 0 0 [] by rw [hW0, HBE.out]; exact own_empty _)
    have D0 := Lib.hid (show Drw S v7 W0 by rw [hW0]; exact Drw.of_ext (ext_alloc _ _))
    rw [← hW0]
    clear hW0
    go_loopw [28, 29] (fun v i wr => ∃ (k gv cv : Nat) (xv : List Int), k ≤ d ∧ i = .int .i64 k ∧ v = .slice (some ⟨gv, 0, none⟩) k cv ∧ Hid (OwnC B wr (some ⟨gv, 0, none⟩) k cv xv) ∧ Hid (isB p xv = true) ∧ Hid (Drw S v7 wr)) (fun _ i _ => d - (intOf i).toNat)
    case atStart => exact ⟨0, _, 0, [], Nat.zero_le _, rfl, rfl, OV0, Lib.hid (by simp [isB]), D0⟩
    case round =>
      rename World => wr
      clear OV0 D0
      obtain ⟨kk, gU, kU, xu, hk, rfl, rfl, OV, BV, HD1⟩ := hrel
      have x00 := HD1.out.cell (p := ⟨O, 0, none⟩) hgO (E0.out.cell C0.out)
      have x01 := HD1.out.cell (p := ⟨O, 1, none⟩) hgO (E0.out.cell C1.out)
      by_cases hkd : kk < d
      · have hkd' : (kk : Int) < (d : Int) := by omega
        go_wp2_with (fail)
        refine Calls.mono (l_below S p wr (HD1.out.src HS.out) (by omega)) ?_
        rintro e w1 ⟨r9, rfl, hr, g1⟩
        have hrb := hr.2 (by omega)
        have OV1 := Lib.hid (g1.own OV.out hSB)
        have HD2 := Lib.hid (HD1.out.trans g1)
        have BV1 := Lib.hid (isB_push9 BV.out hrb.1 hrb.2)
        clear g1 hr hrb x00 x01
        go_wp2_with (at_builtin; refine wpList_push rfl (.tmp 182) (.tmp 187) rfl rfl rfl (v := r9) (OV1.out.ext (ext_alloc _ _)) ?hc ?hn ?hB ?hk)
        case hc => simp
        case hn => omega
        case hB => have := (OV1.out.base_of _ rfl).1; have := (OV1.out.base_of _ rfl).2; simp; omega
        case hk =>
          intro g2 c2 w3 ho3 hg3 he3
          have OV2 := Lib.hid ho3
          have HD3 := Lib.hid ((HD2.out.alloc _).grown hg3 (fun k hk => by rw [← HBE.out]; exact OV1.out.blk k hk))
          clear ho3 hg3 he3
          go_wp2_with (fail)
          go_roundw
          case rel => exact ⟨kk + 1, g2, c2, _, by omega, by go_num, rfl, OV2, BV1, HD3⟩
          case measure => simp [intOf]; omega
      · have hkd2 : kk = d := by omega
        subst hkd2
        have hkd' : ¬ (kk : Int) < (kk : Int) := by omega
        go_wp2_with (fail)
        clear x00 x01 hk
        have RU := Lib.hid (OV.out.mono (show S.g + 1 ≤ B by omega))
        have HGRU := Lib.hid (show Good p kk xu from isB_good9 OV.out.1 BV.out)
        have gg := HD1.out
        replace E0 := Lib.hid (gg.toExt E0.out hgB)
        replace HS := Lib.hid (gg.src HS.out)
        clear gg OV BV HD1
        refine Calls.mono (l_below S q9 wr HS.out (by omega)) ?_
        rintro e v8 ⟨r8, rfl, hr8, gg⟩
        have hr8b := hr8.2 (by omega)
        clear hr8
        replace E0 := Lib.hid (gg.toExt E0.out hgB)
        replace HS := Lib.hid (gg.src HS.out)
        replace RU := Lib.hid (gg.own RU.out (Nat.lt_succ_self _))
        clear gg
        obtain ⟨k, hk⟩ : ∃ k, k = 1 + r8 := ⟨_, rfl⟩
        have hwk : IntKind.i64.wrap (1 + r8) = k := by rw [hk]; exact IntWalk.i64_in _ (by omega)
        have hkb : 0 < k ∧ k < p := by have := HQ9.out; omega
        clear hk hr8b hwq hq9b
        replace E := Lib.hid (E.out.trans E0.out)
        replace HQ := Lib.hid (HQ.out.ext E0.out)
        replace HX := Lib.hid (HX.out.ext E0.out)
        replace RZ := Lib.hid (RZ.out.ext E0.out)
        replace HQ2 := Lib.hid (HQ2.out.ext E0.out)
        replace HV := Lib.hid (HV.out.ext E0.out)
        replace HU := Lib.hid (HU.out.ext E0.out)
        replace C0 := Lib.hid (E0.out.cell (p := ⟨O, 0, none⟩) C0.out)
        replace C1 := Lib.hid (E0.out.cell (p := ⟨O, 1, none⟩) C1.out)
        replace D0 := Lib.hid (E0.out.cell (p := ⟨O2, 0, none⟩) D0.out)
        replace D1 := Lib.hid (E0.out.cell (p := ⟨O2, 1, none⟩) D1.out)
        clear E0 HS hgB hgO hgO2
        replace RU := Lib.hid (RU.out.mono (Nat.zero_le _))
        have x00 := C0.out
        have x01 := C1.out
        have x10 := D0.out
        have x11 := D1.out
        go_wp2_with (fail)
        clear x00 x01 x10 x11
        obtain ⟨hb1, hb2, hb3⟩ := ball_of (p := p) (qs := qs) (c := x) (r := r) (k := k) HPR.out (by rw [HD.out]; exact HGX.out) hr0 hr1 hkb.1 hkb.2
        rw [HD.out] at hb1 hb2 hb3
        have HB1 := Lib.hid hb1
        have HB2 := Lib.hid hb2
        have HB3 := Lib.hid hb3
        have HON := Lib.hid (ball_on (p := p) (qs := qs) (c := x) (u := xu) (r := r) HPR.out (by rw [HD.out]; exact HGX.out.1) (by rw [HD.out]; exact HGRU.out.1) hr0 hr1)
        obtain ⟨GG, hGG⟩ : ∃ GG, GG = distN p qs x xu := ⟨_, rfl⟩
        rw [← hGG] at HON
        have HGG := Lib.hid hGG
        clear hb1 hb2 hb3 hGG
        replace E := Lib.hid (E.out.trans (ext_drew v8))
        replace HQ := Lib.hid (HQ.out.ext (ext_drew v8))
        replace HX := Lib.hid (HX.out.ext (ext_drew v8))
        replace RZ := Lib.hid (RZ.out.ext (ext_drew v8))
        replace HQ2 := Lib.hid (HQ2.out.ext (ext_drew v8))
        replace HV := Lib.hid (HV.out.ext (ext_drew v8))
        replace HU := Lib.hid (HU.out.ext (ext_drew v8))
        replace RU := Lib.hid (RU.out.ext (ext_drew v8))
        replace C0 := Lib.hid ((ext_drew v8).cell (p := ⟨O, 0, none⟩) C0.out)
        replace C1 := Lib.hid ((ext_drew v8).cell (p := ⟨O, 1, none⟩) C1.out)
        replace D0 := Lib.hid ((ext_drew v8).cell (p := ⟨O2, 0, none⟩) D0.out)
        replace D1 := Lib.hid ((ext_drew v8).cell (p := ⟨O2, 1, none⟩) D1.out)
        refine wp_region_lex [(5, .ownS 0 (kk + 2) (scaleL p (ballL p qs x r) k (kk + 2))), (6, .tup3 0 kk (x) (r))] (by kernel_rfl) (by kernel_rfl) ?_
        (refine LexW.pure (v := ?_) rfl rfl (fun w1 he => ?_) ?_; rotate_left; ( have x00 := (he.cell (p := ⟨O, 0, none⟩) C0.out); have x01 := (he.cell (p := ⟨O, 1, none⟩) C1.out); have x10 := (he.cell (p := ⟨O2, 0, none⟩) D0.out); have x11 := (he.cell (p := ⟨O2, 1, none⟩) D1.out); go_simp; rfl); simp only [Act.put, List.setIfInBounds_toArray, List.set_cons_zero, List.set_cons_succ])
        (refine LexW.pure (v := ?_) rfl rfl (fun w1 he => ?_) ?_; rotate_left; ( have x00 := (he.cell (p := ⟨O, 0, none⟩) C0.out); have x01 := (he.cell (p := ⟨O, 1, none⟩) C1.out); have x10 := (he.cell (p := ⟨O2, 0, none⟩) D0.out); have x11 := (he.cell (p := ⟨O2, 1, none⟩) D1.out); go_simp; rfl); simp only [Act.put, List.setIfInBounds_toArray, List.set_cons_zero, List.set_cons_succ])
        (refine LexW.pure (v := ?_) rfl rfl (fun w1 he => ?_) ?_; rotate_left; ( have x00 := (he.cell (p := ⟨O, 0, none⟩) C0.out); have x01 := (he.cell (p := ⟨O, 1, none⟩) C1.out); have x10 := (he.cell (p := ⟨O2, 0, none⟩) D0.out); have x11 := (he.cell (p := ⟨O2, 1, none⟩) D1.out); go_simp; rfl); simp only [Act.put, List.setIfInBounds_toArray, List.set_cons_zero, List.set_cons_succ])
        (refine LexW.pure (v := ?_) rfl rfl (fun w1 he => ?_) ?_; rotate_left; ( have x00 := (he.cell (p := ⟨O, 0, none⟩) C0.out); have x01 := (he.cell (p := ⟨O, 1, none⟩) C1.out); have x10 := (he.cell (p := ⟨O2, 0, none⟩) D0.out); have x11 := (he.cell (p := ⟨O2, 1, none⟩) D1.out); go_simp; rfl); simp only [Act.put, List.setIfInBounds_toArray, List.set_cons_zero, List.set_cons_succ])
        (refine LexW.pure (v := ?_) rfl rfl (fun w1 he => ?_) ?_; rotate_left; ( have x00 := (he.cell (p := ⟨O, 0, none⟩) C0.out); have x01 := (he.cell (p := ⟨O, 1, none⟩) C1.out); have x10 := (he.cell (p := ⟨O2, 0, none⟩) D0.out); have x11 := (he.cell (p := ⟨O2, 1, none⟩) D1.out); go_simp; rfl); simp only [Act.put, List.setIfInBounds_toArray, List.set_cons_zero, List.set_cons_succ])
        (refine LexW.callR (f := ?_) (args := ?_) rfl rfl (fun w1 => ?_) (fun w1 he hdep => ?_) (fun v hv => ?_); rotate_left 2; (go_simp; refine ⟨?_, ?_⟩ <;> rfl); ( refine (l_scale9 p k _ (kk + 2) _ (ballL p qs x r) w1 (by omega) (by omega) (by omega) (by omega) (RZ.out.rd.ext he) HGB.out).mono ?_; rintro e w2 ⟨g, rc, rfl, ho, g2⟩; exact ⟨_, rfl, g2, g, rc, rfl, ho.mono (Nat.zero_le _)⟩); simp only [Act.put, List.setIfInBounds_toArray, List.set_cons_zero, List.set_cons_succ])
        obtain ⟨_, g201, c201, rfl, _⟩ := hv
        (refine LexW.callR (f := ?_) (args := ?_) rfl rfl (fun w1 => ?_) (fun w1 he hdep => ?_) (fun v hv => ?_); rotate_left 2; (go_simp; refine ⟨?_, ?_⟩ <;> rfl); ( obtain ⟨_, _, q201, r201⟩ : (SPred.ownS 0 (kk + 2) (scaleL p (ballL p qs x r) k (kk + 2))).holds (.slice (some ⟨g201, 0, none⟩) (kk + 2) c201) w1 := hdep (5, 201) (by decide +kernel); cases q201; refine (c_SphereOf_eq p a kk cap qs _ _ (scaleL p (ballL p qs x r) k (kk + 2)) x r w1 HSP.out h4 (HQ.out.ext he) r201.rd (scale_good (by omega)) HB1.out HB2.out HB3.out).mono ?_; rintro e w2 ⟨g, rc, rfl, ho, g2⟩; exact ⟨_, rfl, g2, g, rc, rfl, ho.mono (Nat.zero_le _)⟩); simp only [Act.put, List.setIfInBounds_toArray, List.set_cons_zero, List.set_cons_succ])
        obtain ⟨_, g202, c202, rfl, _⟩ := hv
        (refine LexW.pure (v := ?_) rfl rfl (fun w1 he => ?_) ?_; rotate_left; ( have x00 := (he.cell (p := ⟨O, 0, none⟩) C0.out); have x01 := (he.cell (p := ⟨O, 1, none⟩) C1.out); have x10 := (he.cell (p := ⟨O2, 0, none⟩) D0.out); have x11 := (he.cell (p := ⟨O2, 1, none⟩) D1.out); go_simp; rfl); simp only [Act.put, List.setIfInBounds_toArray, List.set_cons_zero, List.set_cons_succ])
        (refine LexW.pure (v := ?_) rfl rfl (fun w1 he => ?_) ?_; rotate_left; ( have x00 := (he.cell (p := ⟨O, 0, none⟩) C0.out); have x01 := (he.cell (p := ⟨O, 1, none⟩) C1.out); have x10 := (he.cell (p := ⟨O2, 0, none⟩) D0.out); have x11 := (he.cell (p := ⟨O2, 1, none⟩) D1.out); go_simp; rfl); simp only [Act.put, List.setIfInBounds_toArray, List.set_cons_zero, List.set_cons_succ])
        (refine LexW.pure (v := ?_) rfl rfl (fun w1 he => ?_) ?_; rotate_left; ( have x00 := (he.cell (p := ⟨O, 0, none⟩) C0.out); have x01 := (he.cell (p := ⟨O, 1, none⟩) C1.out); have x10 := (he.cell (p := ⟨O2, 0, none⟩) D0.out); have x11 := (he.cell (p := ⟨O2, 1, none⟩) D1.out); go_simp; rfl); simp only [Act.put, List.setIfInBounds_toArray, List.set_cons_zero, List.set_cons_succ])
        (refine LexW.pure (v := ?_) rfl rfl (fun w1 he => ?_) ?_; rotate_left; ( have x00 := (he.cell (p := ⟨O, 0, none⟩) C0.out); have x01 := (he.cell (p := ⟨O, 1, none⟩) C1.out); have x10 := (he.cell (p := ⟨O2, 0, none⟩) D0.out); have x11 := (he.cell (p := ⟨O2, 1, none⟩) D1.out); go_simp; rfl); simp only [Act.put, List.setIfInBounds_toArray, List.set_cons_zero, List.set_cons_succ])
        (refine LexW.pure (v := ?_) rfl rfl (fun w1 he => ?_) ?_; rotate_left; ( have x00 := (he.cell (p := ⟨O, 0, none⟩) C0.out); have x01 := (he.cell (p := ⟨O, 1, none⟩) C1.out); have x10 := (he.cell (p := ⟨O2, 0, none⟩) D0.out); have x11 := (he.cell (p := ⟨O2, 1, none⟩) D1.out); go_simp; rfl); simp only [Act.put, List.setIfInBounds_toArray, List.set_cons_zero, List.set_cons_succ])
        (refine LexW.pure (v := ?_) rfl rfl (fun w1 he => ?_) ?_; rotate_left; ( have x00 := (he.cell (p := ⟨O, 0, none⟩) C0.out); have x01 := (he.cell (p := ⟨O, 1, none⟩) C1.out); have x10 := (he.cell (p := ⟨O2, 0, none⟩) D0.out); have x11 := (he.cell (p := ⟨O2, 1, none⟩) D1.out); go_simp; rfl); simp only [Act.put, List.setIfInBounds_toArray, List.set_cons_zero, List.set_cons_succ])
        (refine LexW.pure (v := ?_) rfl rfl (fun w1 he => ?_) ?_; rotate_left; ( have x00 := (he.cell (p := ⟨O, 0, none⟩) C0.out); have x01 := (he.cell (p := ⟨O, 1, none⟩) C1.out); have x10 := (he.cell (p := ⟨O2, 0, none⟩) D0.out); have x11 := (he.cell (p := ⟨O2, 1, none⟩) D1.out); go_simp; rfl); simp only [Act.put, List.setIfInBounds_toArray, List.set_cons_zero, List.set_cons_succ])
        refine LexW.nil (fun w3 he hkn => ?_)
        obtain ⟨_, _, q202, r202⟩ : (SPred.tup3 0 kk (x) (r)).holds (.tuple #[.slice (some ⟨g202, 0, none⟩) kk c202, .int .i64 (r), .int .i64 0]) w3 := hkn (6, _) (by simp)
        cases q202
        have R202 := Lib.hid r202
        have HE := Lib.hid he
        clear he hkn r202
        rename World => v9
        replace E := Lib.hid (E.out.trans HE.out)
        replace HQ := Lib.hid (HQ.out.ext HE.out)
        replace HX := Lib.hid (HX.out.ext HE.out)
        replace RZ := Lib.hid (RZ.out.ext HE.out)
        replace HQ2 := Lib.hid (HQ2.out.ext HE.out)
        replace HV := Lib.hid (HV.out.ext HE.out)
        replace HU := Lib.hid (HU.out.ext HE.out)
        replace RU := Lib.hid (RU.out.ext HE.out)
        replace C0 := Lib.hid (HE.out.cell (p := ⟨O, 0, none⟩) C0.out)
        replace C1 := Lib.hid (HE.out.cell (p := ⟨O, 1, none⟩) C1.out)
        replace D0 := Lib.hid (HE.out.cell (p := ⟨O2, 0, none⟩) D0.out)
        replace D1 := Lib.hid (HE.out.cell (p := ⟨O2, 1, none⟩) D1.out)
        clear HE
        have x00 := C0.out
        have x01 := C1.out
        have x10 := D0.out
        have x11 := D1.out
        go_wp2_with (fail)
        clear x00 x01 x10 x11
        refine Calls.mono (c_IsOnSphere_ok p a kk cap qs _ _ (ballL p qs x r) _ _ xu v9 HSP.out h4 HQ.out RZ.out.rd HGB.out RU.out.rd HGRU.out) ?_
        rintro e v10 ⟨rfl, gg⟩
        rw [HON.out]
        replace E := Lib.hid (E.out.trans gg)
        replace HQ := Lib.hid (HQ.out.ext gg)
        replace HX := Lib.hid (HX.out.ext gg)
        replace RZ := Lib.hid (RZ.out.ext gg)
        replace HQ2 := Lib.hid (HQ2.out.ext gg)
        replace HV := Lib.hid (HV.out.ext gg)
        replace HU := Lib.hid (HU.out.ext gg)
        replace RU := Lib.hid (RU.out.ext gg)
        replace R202 := Lib.hid (R202.out.ext gg)
        replace C0 := Lib.hid (gg.cell (p := ⟨O, 0, none⟩) C0.out)
        replace C1 := Lib.hid (gg.cell (p := ⟨O, 1, none⟩) C1.out)
        replace D0 := Lib.hid (gg.cell (p := ⟨O2, 0, none⟩) D0.out)
        replace D1 := Lib.hid (gg.cell (p := ⟨O2, 1, none⟩) D1.out)
        clear gg
        have x00 := C0.out
        have x01 := C1.out
        have x10 := D0.out
        have x11 := D1.out
        go_wp2_with (fail)
        clear x00 x01 x10 x11
        refine Calls.mono (c_DistanceOf_ok p a kk cap qs _ _ x _ _ xu v10 HSP.out h4 HQ.out HX.out HGX.out RU.out.rd HGRU.out) ?_
        rintro e v11 ⟨rfl, gg⟩
        rw [← HGG.out]
        replace E := Lib.hid (E.out.trans gg)
        replace HQ := Lib.hid (HQ.out.ext gg)
        replace HX := Lib.hid (HX.out.ext gg)
        replace RZ := Lib.hid (RZ.out.ext gg)
        replace HQ2 := Lib.hid (HQ2.out.ext gg)
        replace HV := Lib.hid (HV.out.ext gg)
        replace HU := Lib.hid (HU.out.ext gg)
        replace RU := Lib.hid (RU.out.ext gg)
        replace R202 := Lib.hid (R202.out.ext gg)
        replace C0 := Lib.hid (gg.cell (p := ⟨O, 0, none⟩) C0.out)
        replace C1 := Lib.hid (gg.cell (p := ⟨O, 1, none⟩) C1.out)
        replace D0 := Lib.hid (gg.cell (p := ⟨O2, 0, none⟩) D0.out)
        replace D1 := Lib.hid (gg.cell (p := ⟨O2, 1, none⟩) D1.out)
        clear gg
        have x00 := C0.out
        have x01 := C1.out
        have x10 := D0.out
        have x11 := D1.out
        go_wp2_with (fail)
        clear x00 x01 x10 x11
        have H := l_like (some ⟨g202, 0, none⟩) ax kk kk c202 cx _ _ v11 (by omega) (by omega) R202.out.rd HX.out
        rw [eqB_self] at H
        refine Calls.mono H ?_
        clear H
        rintro e v12 ⟨rfl, gg⟩
        replace E := Lib.hid (E.out.trans gg)
        replace HQ := Lib.hid (HQ.out.ext gg)
        replace HX := Lib.hid (HX.out.ext gg)
        replace RZ := Lib.hid (RZ.out.ext gg)
        replace HQ2 := Lib.hid (HQ2.out.ext gg)
        replace HV := Lib.hid (HV.out.ext gg)
        replace HU := Lib.hid (HU.out.ext gg)
        replace RU := Lib.hid (RU.out.ext gg)
        replace R202 := Lib.hid (R202.out.ext gg)
        replace C0 := Lib.hid (gg.cell (p := ⟨O, 0, none⟩) C0.out)
        replace C1 := Lib.hid (gg.cell (p := ⟨O, 1, none⟩) C1.out)
        replace D0 := Lib.hid (gg.cell (p := ⟨O2, 0, none⟩) D0.out)
        replace D1 := Lib.hid (gg.cell (p := ⟨O2, 1, none⟩) D1.out)
        clear gg
        have hrr : (r == r) = true := by simp
        have hgb : ((GG == r) == (GG == r)) = true := by simp
        go_wp2_with (fail)
        go_ret
        exact ⟨rfl, E.out⟩
  replace h2 : C2 = 0 := by simpa using h2
  have h2S : code18 p2 qs2 [v, u] = 0 := by rw [← HC2.out]; exact h2
  subst h2
  have hcb2 : ((0 : Int) == 0) = true := by simp
  have HGD := Lib.hid (show G = distN p2 qs2 v u by rw [HG.out]; unfold dvN; rw [if_pos h2S])
  obtain ⟨hs2, h42, ha2⟩ := code18_zero h2S
  obtain ⟨hpr2, hd12, _, hqb2⟩ := space_of hs2
  have hpb2 := prime_bd hpr2
  have HSP2 := Lib.hid hs2
  have HD2 := Lib.hid HQ2.out.1
  have hgv0 := rows_good ha2 0 (by simp)
  have hgu0 := rows_good ha2 1 (by simp)
  have hgv1 : Good p2 qs2.length v := hgv0
  have hgu1 : Good p2 qs2.length u := hgu0
  have HND := Lib.hid (show pairL p2 qs2 (plusL p2 v (scaleL p2 u (-1) qs2.length) 1 qs2.length) (plusL p2 v (scaleL p2 u (-1) qs2.length) 1 qs2.length) qs2.length = G by rw [HGD.out]; exact (dist_norm hpr2 hgv1.1 hgu1.1).symm)
  have HPP := Lib.hid (point_place hpr2 hgv1)
  have HNU := Lib.hid (show pairL p2 (extL p2 qs2) (pointL p2 qs2 v) (pointL p2 qs2 v) (d2 + 2) = 0 by
    have hbb := pairL_bd (p := p2) (qs := extL p2 qs2) (v := pointL p2 qs2 v) (w := pointL p2 qs2 v) (n := d2 + 2) (by omega)
    exact cg_zero ((pl_cg (by rw [extL_len, HD2.out])).trans (pt_null hpr2 hgv1.1)) hbb.1 hbb.2)
  have HSE2 := Lib.hid (extL_space hs2 h42)
  rw [HQ2.out.1] at hgv1 hgu1 hd12 HND
  obtain rfl : d2 = nv := hgv1.1.symm.trans HV.out.1
  obtain rfl : d2 = nu := hgu1.1.symm.trans HU.out.1
  have HGV := Lib.hid hgv1
  have HGU := Lib.hid hgu1
  have HGP := Lib.hid (show Good p2 (d2 + 2) (pointL p2 qs2 v) from pointL_good (by omega) HD2.out)
  have hd24 : d2 ≤ 4 := by rw [← HQ2.out.1]; exact h42
  clear h2S hs2 ha2 hpr2 hqb2 hgv0 hgu0 hgv1 hgu1
  have x00 := C0.out
  have x01 := C1.out
  have x10 := D0.out
  have x11 := D1.out
  go_wp2_with (fail)
  clear x00 x01 x10 x11
  replace E := Lib.hid (E.out.trans (ext_drew v6))
  replace HQ := Lib.hid (HQ.out.ext (ext_drew v6))
  replace HX := Lib.hid (HX.out.ext (ext_drew v6))
  replace RZ := Lib.hid (RZ.out.ext (ext_drew v6))
  replace HQ2 := Lib.hid (HQ2.out.ext (ext_drew v6))
  replace HV := Lib.hid (HV.out.ext (ext_drew v6))
  replace HU := Lib.hid (HU.out.ext (ext_drew v6))
  replace C0 := Lib.hid ((ext_drew v6).cell (p := ⟨O, 0, none⟩) C0.out)
  replace C1 := Lib.hid ((ext_drew v6).cell (p := ⟨O, 1, none⟩) C1.out)
  replace D0 := Lib.hid ((ext_drew v6).cell (p := ⟨O2, 0, none⟩) D0.out)
  replace D1 := Lib.hid ((ext_drew v6).cell (p := ⟨O2, 1, none⟩) D1.out)
  refine wp_region_lex [(7, .ownS 0 d2 (scaleL p2 u (-1) d2)), (8, .ownS 0 d2 (plusL p2 v (scaleL p2 u (-1) d2) 1 d2)), (9, .val (.tuple #[.int .i64 G, .int .i64 0]))] (by kernel_rfl) (by kernel_rfl) ?_
  (refine LexW.pure (v := ?_) rfl rfl (fun w1 he => ?_) ?_; rotate_left; ( have x00 := (he.cell (p := ⟨O, 0, none⟩) C0.out); have x01 := (he.cell (p := ⟨O, 1, none⟩) C1.out); have x10 := (he.cell (p := ⟨O2, 0, none⟩) D0.out); have x11 := (he.cell (p := ⟨O2, 1, none⟩) D1.out); go_simp; rfl); simp only [Act.put, List.setIfInBounds_toArray, List.set_cons_zero, List.set_cons_succ])
  (refine LexW.pure (v := ?_) rfl rfl (fun w1 he => ?_) ?_; rotate_left; ( have x00 := (he.cell (p := ⟨O, 0, none⟩) C0.out); have x01 := (he.cell (p := ⟨O, 1, none⟩) C1.out); have x10 := (he.cell (p := ⟨O2, 0, none⟩) D0.out); have x11 := (he.cell (p := ⟨O2, 1, none⟩) D1.out); go_simp; rfl); simp only [Act.put, List.setIfInBounds_toArray, List.set_cons_zero, List.set_cons_succ])
  (refine LexW.pure (v := ?_) rfl rfl (fun w1 he => ?_) ?_; rotate_left; ( have x00 := (he.cell (p := ⟨O, 0, none⟩) C0.out); have x01 := (he.cell (p := ⟨O, 1, none⟩) C1.out); have x10 := (he.cell (p := ⟨O2, 0, none⟩) D0.out); have x11 := (he.cell (p := ⟨O2, 1, none⟩) D1.out); go_simp; rfl); simp only [Act.put, List.setIfInBounds_toArray, List.set_cons_zero, List.set_cons_succ])
  (refine LexW.pure (v := ?_) rfl rfl (fun w1 he => ?_) ?_; rotate_left; ( have x00 := (he.cell (p := ⟨O, 0, none⟩) C0.out); have x01 := (he.cell (p := ⟨O, 1, none⟩) C1.out); have x10 := (he.cell (p := ⟨O2, 0, none⟩) D0.out); have x11 := (he.cell (p := ⟨O2, 1, none⟩) D1.out); go_simp; rfl); simp only [Act.put, List.setIfInBounds_toArray, List.set_cons_zero, List.set_cons_succ])
  (refine LexW.pure (v := ?_) rfl rfl (fun w1 he => ?_) ?_; rotate_left; ( have x00 := (he.cell (p := ⟨O, 0, none⟩) C0.out); have x01 := (he.cell (p := ⟨O, 1, none⟩) C1.out); have x10 := (he.cell (p := ⟨O2, 0, none⟩) D0.out); have x11 := (he.cell (p := ⟨O2, 1, none⟩) D1.out); go_simp; rfl); simp only [Act.put, List.setIfInBounds_toArray, List.set_cons_zero, List.set_cons_succ])
  (refine LexW.pure (v := ?_) rfl rfl (fun w1 he => ?_) ?_; rotate_left; ( have x00 := (he.cell (p := ⟨O, 0, none⟩) C0.out); have x01 := (he.cell (p := ⟨O, 1, none⟩) C1.out); have x10 := (he.cell (p := ⟨O2, 0, none⟩) D0.out); have x11 := (he.cell (p := ⟨O2, 1, none⟩) D1.out); go_simp; rfl); simp only [Act.put, List.setIfInBounds_toArray, List.set_cons_zero, List.set_cons_succ])
  (refine LexW.pure (v := ?_) rfl rfl (fun w1 he => ?_) ?_; rotate_left; ( have x00 := (he.cell (p := ⟨O, 0, none⟩) C0.out); have x01 := (he.cell (p := ⟨O, 1, none⟩) C1.out); have x10 := (he.cell (p := ⟨O2, 0, none⟩) D0.out); have x11 := (he.cell (p := ⟨O2, 1, none⟩) D1.out); go_simp; rfl); simp only [Act.put, List.setIfInBounds_toArray, List.set_cons_zero, List.set_cons_succ])
  (refine LexW.callR (f := ?_) (args := ?_) rfl rfl (fun w1 => ?_) (fun w1 he hdep => ?_) (fun v hv => ?_); rotate_left 2; (go_simp; refine ⟨?_, ?_⟩ <;> rfl); ( refine (l_scale9 p2 (-1) _ d2 _ u w1 (by omega) (by omega) (by omega) (by omega) (HU.out.ext he) HGU.out).mono ?_; rintro e w2 ⟨g, rc, rfl, ho, g2⟩; exact ⟨_, rfl, g2, g, rc, rfl, ho.mono (Nat.zero_le _)⟩); simp only [Act.put, List.setIfInBounds_toArray, List.set_cons_zero, List.set_cons_succ])
  obtain ⟨_, g107, c107, rfl, _⟩ := hv
  (refine LexW.callR (f := ?_) (args := ?_) rfl rfl (fun w1 => ?_) (fun w1 he hdep => ?_) (fun v hv => ?_); rotate_left 2; (go_simp; refine ⟨?_, ?_⟩ <;> rfl); ( obtain ⟨_, _, q107, r107⟩ : (SPred.ownS 0 d2 (scaleL p2 u (-1) d2)).holds (.slice (some ⟨g107, 0, none⟩) d2 c107) w1 := hdep (7, 107) (by decide +kernel); cases q107; refine (l_add9 p2 _ _ d2 _ _ v (scaleL p2 u (-1) d2) w1 (by omega) (by omega) (by omega) (HV.out.ext he) r107.rd HGV.out (scale_good (by omega))).mono ?_; rintro e w2 ⟨g, rc, rfl, ho, g2⟩; exact ⟨_, rfl, g2, g, rc, rfl, ho.mono (Nat.zero_le _)⟩); simp only [Act.put, List.setIfInBounds_toArray, List.set_cons_zero, List.set_cons_succ])
  obtain ⟨_, g108, c108, rfl, _⟩ := hv
  (refine LexW.call (f := ?_) (args := ?_) rfl rfl (fun w1 => ?_) (fun w1 he hdep => ?_) ?_; rotate_left 2; (go_simp; refine ⟨?_, ?_⟩ <;> rfl); ( obtain ⟨_, _, q108, r108⟩ : (SPred.ownS 0 d2 (plusL p2 v (scaleL p2 u (-1) d2) 1 d2)).holds (.slice (some ⟨g108, 0, none⟩) d2 c108) w1 := hdep (8, 108) (by decide +kernel); cases q108; have H := c_NormOf_ok p2 a2 d2 cap2 qs2 (some ⟨g108, 0, none⟩) c108 (plusL p2 v (scaleL p2 u (-1) d2) 1 d2) w1 HSP2.out (HQ2.out.ext he) r108.rd (plus_good (by omega)); rw [HND.out] at H; exact H); simp only [Act.put, List.setIfInBounds_toArray, List.set_cons_zero, List.set_cons_succ])
  (refine LexW.pure (v := ?_) rfl rfl (fun w1 he => ?_) ?_; rotate_left; ( have x00 := (he.cell (p := ⟨O, 0, none⟩) C0.out); have x01 := (he.cell (p := ⟨O, 1, none⟩) C1.out); have x10 := (he.cell (p := ⟨O2, 0, none⟩) D0.out); have x11 := (he.cell (p := ⟨O2, 1, none⟩) D1.out); go_simp; rfl); simp only [Act.put, List.setIfInBounds_toArray, List.set_cons_zero, List.set_cons_succ])
  (refine LexW.pure (v := ?_) rfl rfl (fun w1 he => ?_) ?_; rotate_left; ( have x00 := (he.cell (p := ⟨O, 0, none⟩) C0.out); have x01 := (he.cell (p := ⟨O, 1, none⟩) C1.out); have x10 := (he.cell (p := ⟨O2, 0, none⟩) D0.out); have x11 := (he.cell (p := ⟨O2, 1, none⟩) D1.out); go_simp; rfl); simp only [Act.put, List.setIfInBounds_toArray, List.set_cons_zero, List.set_cons_succ])
  (refine LexW.pure (v := ?_) rfl rfl (fun w1 he => ?_) ?_; rotate_left; ( have x00 := (he.cell (p := ⟨O, 0, none⟩) C0.out); have x01 := (he.cell (p := ⟨O, 1, none⟩) C1.out); have x10 := (he.cell (p := ⟨O2, 0, none⟩) D0.out); have x11 := (he.cell (p := ⟨O2, 1, none⟩) D1.out); go_simp; rfl); simp only [Act.put, List.setIfInBounds_toArray, List.set_cons_zero, List.set_cons_succ])
  (refine LexW.pure (v := ?_) rfl rfl (fun w1 he => ?_) ?_; rotate_left; ( have x00 := (he.cell (p := ⟨O, 0, none⟩) C0.out); have x01 := (he.cell (p := ⟨O, 1, none⟩) C1.out); have x10 := (he.cell (p := ⟨O2, 0, none⟩) D0.out); have x11 := (he.cell (p := ⟨O2, 1, none⟩) D1.out); go_simp; rfl); simp only [Act.put, List.setIfInBounds_toArray, List.set_cons_zero, List.set_cons_succ])
  (refine LexW.pure (v := ?_) rfl rfl (fun w1 he => ?_) ?_; rotate_left; ( have x00 := (he.cell (p := ⟨O, 0, none⟩) C0.out); have x01 := (he.cell (p := ⟨O, 1, none⟩) C1.out); have x10 := (he.cell (p := ⟨O2, 0, none⟩) D0.out); have x11 := (he.cell (p := ⟨O2, 1, none⟩) D1.out); go_simp; rfl); simp only [Act.put, List.setIfInBounds_toArray, List.set_cons_zero, List.set_cons_succ])
  refine LexW.nil (fun w3 he hkn => ?_)
  have HE := Lib.hid he
  clear he hkn 
  rename World => v13
  replace E := Lib.hid (E.out.trans HE.out)
  replace HQ := Lib.hid (HQ.out.ext HE.out)
  replace HX := Lib.hid (HX.out.ext HE.out)
  replace RZ := Lib.hid (RZ.out.ext HE.out)
  replace HQ2 := Lib.hid (HQ2.out.ext HE.out)
  replace HV := Lib.hid (HV.out.ext HE.out)
  replace HU := Lib.hid (HU.out.ext HE.out)
  replace C0 := Lib.hid (HE.out.cell (p := ⟨O, 0, none⟩) C0.out)
  replace C1 := Lib.hid (HE.out.cell (p := ⟨O, 1, none⟩) C1.out)
  replace D0 := Lib.hid (HE.out.cell (p := ⟨O2, 0, none⟩) D0.out)
  replace D1 := Lib.hid (HE.out.cell (p := ⟨O2, 1, none⟩) D1.out)
  clear HE
  have x00 := C0.out
  have x01 := C1.out
  have x10 := D0.out
  have x11 := D1.out
  go_wp2_with (fail)
  clear x00 x01 x10 x11
  refine Calls.mono (c_ExtendSpace_ok p2 a2 d2 cap2 qs2 v13 HSP2.out h42 HQ2.out) ?_
  rintro e v14 ⟨gE, rE, rfl, ho, gg⟩
  have RE := Lib.hid (ho.mono (Nat.zero_le _))
  clear ho
  replace E := Lib.hid (E.out.trans gg)
  replace HQ := Lib.hid (HQ.out.ext gg)
  replace HX := Lib.hid (HX.out.ext gg)
  replace RZ := Lib.hid (RZ.out.ext gg)
  replace HQ2 := Lib.hid (HQ2.out.ext gg)
  replace HV := Lib.hid (HV.out.ext gg)
  replace HU := Lib.hid (HU.out.ext gg)
  replace C0 := Lib.hid (gg.cell (p := ⟨O, 0, none⟩) C0.out)
  replace C1 := Lib.hid (gg.cell (p := ⟨O, 1, none⟩) C1.out)
  replace D0 := Lib.hid (gg.cell (p := ⟨O2, 0, none⟩) D0.out)
  replace D1 := Lib.hid (gg.cell (p := ⟨O2, 1, none⟩) D1.out)
  clear gg
  have y00 := (ext_alloc v14 (.cells #[.int .i64 p2, .slice (some ⟨gE, 0, none⟩) (d2 + 2) rE] 26)).cell (p := ⟨O, 0, none⟩) C0.out
  have y01 := (ext_alloc v14 (.cells #[.int .i64 p2, .slice (some ⟨gE, 0, none⟩) (d2 + 2) rE] 26)).cell (p := ⟨O, 1, none⟩) C1.out
  have y10 := (ext_alloc v14 (.cells #[.int .i64 p2, .slice (some ⟨gE, 0, none⟩) (d2 + 2) rE] 26)).cell (p := ⟨O2, 0, none⟩) D0.out
  have y11 := (ext_alloc v14 (.cells #[.int .i64 p2, .slice (some ⟨gE, 0, none⟩) (d2 + 2) rE] 26)).cell (p := ⟨O2, 1, none⟩) D1.out
  go_wp2_with (fail)
  clear y00 y01 y10 y11
  obtain ⟨O3, hO3⟩ : ∃ O2, O2 = v14.heap.size := ⟨_, rfl⟩
  obtain ⟨W3, hW3⟩ : ∃ W2, W2 = v14.alloc (.cells #[.int .i64 p2, .slice (some ⟨gE, 0, none⟩) (d2 + 2) rE] 26) := ⟨_, rfl⟩
  have F0 := Lib.hid (show W3.cell? ⟨O3, 0, none⟩ = some (.int .i64 p2) by rw [hW3, hO3]; simp)
  have F1 := Lib.hid (show W3.cell? ⟨O3, 1, none⟩ = some (.slice (some ⟨gE, 0, none⟩) (d2 + 2) rE) by rw [hW3, hO3]; simp)
  have gg : Ext v14 W3 := by rw [hW3]; exact ext_alloc _ _
  rw [← hO3, ← hW3]
  clear hO3 hW3
  replace E := Lib.hid (E.out.trans gg)
  replace HQ := Lib.hid (HQ.out.ext gg)
  replace HX := Lib.hid (HX.out.ext gg)
  replace RZ := Lib.hid (RZ.out.ext gg)
  replace HQ2 := Lib.hid (HQ2.out.ext gg)
  replace HV := Lib.hid (HV.out.ext gg)
  replace HU := Lib.hid (HU.out.ext gg)
  replace RE := Lib.hid (RE.out.ext gg)
  replace C0 := Lib.hid (gg.cell (p := ⟨O, 0, none⟩) C0.out)
  replace C1 := Lib.hid (gg.cell (p := ⟨O, 1, none⟩) C1.out)
  replace D0 := Lib.hid (gg.cell (p := ⟨O2, 0, none⟩) D0.out)
  replace D1 := Lib.hid (gg.cell (p := ⟨O2, 1, none⟩) D1.out)
  clear gg
  refine Calls.mono (c_PointVector_ok p2 a2 d2 cap2 qs2 _ _ v W3 HSP2.out h42 HQ2.out HV.out HGV.out) ?_
  rintro e v15 ⟨gP, kP, rfl, ho, gg⟩
  have RP := Lib.hid (ho.mono (Nat.zero_le _))
  clear ho
  replace E := Lib.hid (E.out.trans gg)
  replace HQ := Lib.hid (HQ.out.ext gg)
  replace HX := Lib.hid (HX.out.ext gg)
  replace RZ := Lib.hid (RZ.out.ext gg)
  replace HQ2 := Lib.hid (HQ2.out.ext gg)
  replace HV := Lib.hid (HV.out.ext gg)
  replace HU := Lib.hid (HU.out.ext gg)
  replace RE := Lib.hid (RE.out.ext gg)
  replace C0 := Lib.hid (gg.cell (p := ⟨O, 0, none⟩) C0.out)
  replace C1 := Lib.hid (gg.cell (p := ⟨O, 1, none⟩) C1.out)
  replace D0 := Lib.hid (gg.cell (p := ⟨O2, 0, none⟩) D0.out)
  replace D1 := Lib.hid (gg.cell (p := ⟨O2, 1, none⟩) D1.out)
  replace F0 := Lib.hid (gg.cell (p := ⟨O3, 0, none⟩) F0.out)
  replace F1 := Lib.hid (gg.cell (p := ⟨O3, 1, none⟩) F1.out)
  clear gg
  have x00 := C0.out
  have x01 := C1.out
  have x10 := D0.out
  have x11 := D1.out
  have x20 := F0.out
  have x21 := F1.out
  go_wp2_with (fail)
  clear x00 x01 x10 x11 x20 x21
  refine Calls.mono (c_NormOf_ok p2 _ (d2 + 2) rE (extL p2 qs2) _ _ (pointL p2 qs2 v) v15 HSE2.out RE.out.rd RP.out.rd HGP.out) ?_
  rintro e v16 ⟨rfl, gg⟩
  rw [HNU.out]
  replace E := Lib.hid (E.out.trans gg)
  replace HQ := Lib.hid (HQ.out.ext gg)
  replace HX := Lib.hid (HX.out.ext gg)
  replace RZ := Lib.hid (RZ.out.ext gg)
  replace HQ2 := Lib.hid (HQ2.out.ext gg)
  replace HV := Lib.hid (HV.out.ext gg)
  replace HU := Lib.hid (HU.out.ext gg)
  replace RE := Lib.hid (RE.out.ext gg)
  replace RP := Lib.hid (RP.out.ext gg)
  replace C0 := Lib.hid (gg.cell (p := ⟨O, 0, none⟩) C0.out)
  replace C1 := Lib.hid (gg.cell (p := ⟨O, 1, none⟩) C1.out)
  replace D0 := Lib.hid (gg.cell (p := ⟨O2, 0, none⟩) D0.out)
  replace D1 := Lib.hid (gg.cell (p := ⟨O2, 1, none⟩) D1.out)
  replace F0 := Lib.hid (gg.cell (p := ⟨O3, 0, none⟩) F0.out)
  replace F1 := Lib.hid (gg.cell (p := ⟨O3, 1, none⟩) F1.out)
  clear gg
  have x00 := C0.out
  have x01 := C1.out
  have x10 := D0.out
  have x11 := D1.out
  have x20 := F0.out
  have x21 := F1.out
  go_wp2_with (fail)
  clear x00 x01 x10 x11 x20 x21
  refine Calls.mono (c_PlaceOf_ok p2 a2 d2 cap2 qs2 _ _ (pointL p2 qs2 v) v16 HSP2.out h42 HQ2.out RP.out.rd HGP.out HPP.out.1) ?_
  rintro e v17 ⟨gL, rfl, ho, gg⟩
  rw [HPP.out.2] at ho
  have HPL := Lib.hid ho
  clear ho
  replace E := Lib.hid (E.out.trans gg)
  replace HQ := Lib.hid (HQ.out.ext gg)
  replace HX := Lib.hid (HX.out.ext gg)
  replace RZ := Lib.hid (RZ.out.ext gg)
  replace HQ2 := Lib.hid (HQ2.out.ext gg)
  replace HV := Lib.hid (HV.out.ext gg)
  replace HU := Lib.hid (HU.out.ext gg)
  replace RE := Lib.hid (RE.out.ext gg)
  replace RP := Lib.hid (RP.out.ext gg)
  replace C0 := Lib.hid (gg.cell (p := ⟨O, 0, none⟩) C0.out)
  replace C1 := Lib.hid (gg.cell (p := ⟨O, 1, none⟩) C1.out)
  replace D0 := Lib.hid (gg.cell (p := ⟨O2, 0, none⟩) D0.out)
  replace D1 := Lib.hid (gg.cell (p := ⟨O2, 1, none⟩) D1.out)
  replace F0 := Lib.hid (gg.cell (p := ⟨O3, 0, none⟩) F0.out)
  replace F1 := Lib.hid (gg.cell (p := ⟨O3, 1, none⟩) F1.out)
  clear gg
  have x00 := C0.out
  have x01 := C1.out
  have x10 := D0.out
  have x11 := D1.out
  have x20 := F0.out
  have x21 := F1.out
  go_wp2_with (fail)
  clear x00 x01 x10 x11 x20 x21
  have H := l_like (some ⟨gL, 0, none⟩) av d2 d2 d2 cv _ _ v17 (by omega) (by omega) HPL.out HV.out
  rw [eqB_self] at H
  refine Calls.mono H ?_
  clear H
  rintro e v18 ⟨rfl, gg⟩
  replace E := Lib.hid (E.out.trans gg)
  replace HQ := Lib.hid (HQ.out.ext gg)
  replace HX := Lib.hid (HX.out.ext gg)
  replace RZ := Lib.hid (RZ.out.ext gg)
  replace HQ2 := Lib.hid (HQ2.out.ext gg)
  replace HV := Lib.hid (HV.out.ext gg)
  replace HU := Lib.hid (HU.out.ext gg)
  replace RE := Lib.hid (RE.out.ext gg)
  replace RP := Lib.hid (RP.out.ext gg)
  replace HPL := Lib.hid (HPL.out.ext gg)
  replace C0 := Lib.hid (gg.cell (p := ⟨O, 0, none⟩) C0.out)
  replace C1 := Lib.hid (gg.cell (p := ⟨O, 1, none⟩) C1.out)
  replace D0 := Lib.hid (gg.cell (p := ⟨O2, 0, none⟩) D0.out)
  replace D1 := Lib.hid (gg.cell (p := ⟨O2, 1, none⟩) D1.out)
  replace F0 := Lib.hid (gg.cell (p := ⟨O3, 0, none⟩) F0.out)
  replace F1 := Lib.hid (gg.cell (p := ⟨O3, 1, none⟩) F1.out)
  clear gg
  have hgg : (G != G) = false := by simp
  by_cases hc : C ≠ 0
  · have hcb : (C != 0) = true := by simp [hc]
    have hM0 : M = 0 := by rw [HM.out]; unfold svL; rw [← HC.out, if_neg hc]; rfl
    subst hM0
    clear hc
    go_wp2_with (fail)
    go_ret
    exact ⟨rfl, E.out⟩
  replace hc : C = 0 := by simpa using hc
  have hcS : codeSv p qs x r = 0 := by rw [← HC.out]; exact hc
  subst hc
  obtain ⟨hc1, hr0, hr1⟩ := codeSv_zero hcS
  obtain ⟨hs, h4, ha⟩ := code18_zero hc1
  obtain ⟨hpr, hd1, _, hqb⟩ := space_of hs
  have hpb := prime_bd hpr
  have HPR := Lib.hid hpr
  have HSP := Lib.hid hs
  have HD := Lib.hid HQ.out.1
  have hgx0 := rows_good ha 0 (by simp)
  have hgx1 : Good p qs.length x := hgx0
  rw [HQ.out.1] at hgx1 hd1
  obtain rfl : d = nx := hgx1.1.symm.trans HX.out.1
  have HGX := Lib.hid hgx1
  have hd4 : d ≤ 4 := by rw [← HQ.out.1]; exact h4
  have HSV := Lib.hid (show svL p qs x r = ballL p qs x r by unfold svL; rw [if_pos hcS])
  have HGB := Lib.hid (show Good p (d + 2) (ballL p qs x r) from ball_good (by omega) HD.out)
  have hM2 : M = d + 2 := by rw [HM.out, HSV.out]; exact HGB.out.1
  subst hM2
  rw [HSV.out] at RZ
  obtain ⟨gZ, rfl⟩ := RZ.out.addr (by omega)
  clear hcS hc1 hs ha hpr hqb hgx0 hgx1
  obtain ⟨q9, hq9⟩ : ∃ q, q = p - 1 := ⟨_, rfl⟩
  have hwq : IntKind.i64.wrap (p - 1) = q9 := by rw [hq9]; exact IntWalk.i64_in _ (by omega)
  have hq9b : q9 ≤ 12 ∧ 1 ≤ q9 := by omega
  have HQ9 := Lib.hid hq9
  clear hq9
  have x00 := C0.out
  have x01 := C1.out
  have x10 := D0.out
  have x11 := D1.out
  have x20 := F0.out
  have x21 := F1.out
  go_wp2_with (fail)
  clear x00 x01 x10 x11 x20 x21
  refine Calls.mono (l_roll ac nc cc 3025 v18 (by omega) (HB.out.ext E.out)) ?_
  rintro e v19 ⟨g, rfl, hg, hS, gg⟩
  obtain ⟨S, hSe⟩ : ∃ S : SrcP, S = ⟨g, ac, nc, cc⟩ := ⟨_, rfl⟩
  obtain rfl : g = S.g := by rw [hSe]
  rw [← hSe] at hS
  have HS := Lib.hid hS
  have E0 := Lib.hid gg
  have hgB : v18.heap.size ≤ S.g := hg
  have hgO : O ≠ S.g := by have := lt_of_cell C0.out; dsimp only at this; omega
  have hgO2 : O2 ≠ S.g := by have := lt_of_cell D0.out; dsimp only at this; omega
  have hgO3 : O3 ≠ S.g := by have := lt_of_cell F0.out; dsimp only at this; omega
  clear hSe hS gg hg
  obtain ⟨B, hB⟩ : ∃ B, B = v19.heap.size := ⟨_, rfl⟩
  have HBE := Lib.hid hB
  have hSB : S.g < B := by rw [hB]; exact HS.out.lt
  clear hB
  have x00 := (E0.out.cell (p := ⟨O, 0, none⟩) C0.out)
  have x01 := (E0.out.cell (p := ⟨O, 1, none⟩) C1.out)
  have x10 := (E0.out.cell (p := ⟨O2, 0, none⟩) D0.out)
  have x11 := (E0.out.cell (p := ⟨O2, 1, none⟩) D1.out)
  have x20 := (E0.out.cell (p := ⟨O3, 0, none⟩) F0.out)
  have x21 := (E0.out.cell (p := ⟨O3, 1, none⟩) F1.out)
  go_wp2_with (fail)
  clear x00 x01 x10 x11 x20 x21
  obtain ⟨W0, hW0⟩ : ∃ W0, W0 = v19.alloc (.cells #[] 2) := ⟨_, rfl⟩
  have OV0 := Lib.hid (show OwnC B W0 (some ⟨v19.heap.size, 0, none⟩) 0 0 [] by rw [hW0, HBE.out]; exact own_empty _)
  have D0 := Lib.hid (show Drw S v19 W0 by rw [hW0]; exact Drw.of_ext (ext_alloc _ _))
  rw [← hW0]
  clear hW0
  go_loopw [28, 29] (fun v i wr => ∃ (k gv cv : Nat) (xv : List Int), k ≤ d ∧ i = .int .i64 k ∧ v = .slice (some ⟨gv, 0, none⟩) k cv ∧ Hid (OwnC B wr (some ⟨gv, 0, none⟩) k cv xv) ∧ Hid (isB p xv = true) ∧ Hid (Drw S v19 wr)) (fun _ i _ => d - (intOf i).toNat)
  case atStart => exact ⟨0, _, 0, [], Nat.zero_le _, rfl, rfl, OV0, Lib.hid (by simp [isB]), D0⟩
  case round =>
    rename World => wr
    clear OV0 D0
    obtain ⟨kk, gU, kU, xu, hk, rfl, rfl, OV, BV, HD1⟩ := hrel
    have x00 := HD1.out.cell (p := ⟨O, 0, none⟩) hgO (E0.out.cell C0.out)
    have x01 := HD1.out.cell (p := ⟨O, 1, none⟩) hgO (E0.out.cell C1.out)
    by_cases hkd : kk < d
    · have hkd' : (kk : Int) < (d : Int) := by omega
      go_wp2_with (fail)
      refine Calls.mono (l_below S p wr (HD1.out.src HS.out) (by omega)) ?_
      rintro e w1 ⟨r9, rfl, hr, g1⟩
      have hrb := hr.2 (by omega)
      have OV1 := Lib.hid (g1.own OV.out hSB)
      have HD2 := Lib.hid (HD1.out.trans g1)
      have BV1 := Lib.hid (isB_push9 BV.out hrb.1 hrb.2)
      clear g1 hr hrb x00 x01
      go_wp2_with (at_builtin; refine wpList_push rfl (.tmp 182) (.tmp 187) rfl rfl rfl (v := r9) (OV1.out.ext (ext_alloc _ _)) ?hc ?hn ?hB ?hk)
      case hc => simp
      case hn => omega
      case hB => have := (OV1.out.base_of _ rfl).1; have := (OV1.out.base_of _ rfl).2; simp; omega
      case hk =>
        intro g2 c2 w3 ho3 hg3 he3
        have OV2 := Lib.hid ho3
        have HD3 := Lib.hid ((HD2.out.alloc _).grown hg3 (fun k hk => by rw [← HBE.out]; exact OV1.out.blk k hk))
        clear ho3 hg3 he3
        go_wp2_with (fail)
        go_roundw
        case rel => exact ⟨kk + 1, g2, c2, _, by omega, by go_num, rfl, OV2, BV1, HD3⟩
        case measure => simp [intOf]; omega
    · have hkd2 : kk = d := by omega
      subst hkd2
      have hkd' : ¬ (kk : Int) < (kk : Int) := by omega
      go_wp2_with (fail)
      clear x00 x01 hk
      have RU := Lib.hid (OV.out.mono (show S.g + 1 ≤ B by omega))
      have HGRU := Lib.hid (show Good p kk xu from isB_good9 OV.out.1 BV.out)
      have gg := HD1.out
      replace E0 := Lib.hid (gg.toExt E0.out hgB)
      replace HS := Lib.hid (gg.src HS.out)
      clear gg OV BV HD1
      refine Calls.mono (l_below S q9 wr HS.out (by omega)) ?_
      rintro e v20 ⟨r8, rfl, hr8, gg⟩
      have hr8b := hr8.2 (by omega)
      clear hr8
      replace E0 := Lib.hid (gg.toExt E0.out hgB)
      replace HS := Lib.hid (gg.src HS.out)
      replace RU := Lib.hid (gg.own RU.out (Nat.lt_succ_self _))
      clear gg
      obtain ⟨k, hk⟩ : ∃ k, k = 1 + r8 := ⟨_, rfl⟩
      have hwk : IntKind.i64.wrap (1 + r8) = k := by rw [hk]; exact IntWalk.i64_in _ (by omega)
      have hkb : 0 < k ∧ k < p := by have := HQ9.out; omega
      clear hk hr8b hwq hq9b
      replace E := Lib.hid (E.out.trans E0.out)
      replace HQ := Lib.hid (HQ.out.ext E0.out)
      replace HX := Lib.hid (HX.out.ext E0.out)
      replace RZ := Lib.hid (RZ.out.ext E0.out)
      replace HQ2 := Lib.hid (HQ2.out.ext E0.out)
      replace HV := Lib.hid (HV.out.ext E0.out)
      replace HU := Lib.hid (HU.out.ext E0.out)
      replace RE := Lib.hid (RE.out.ext E0.out)
      replace RP := Lib.hid (RP.out.ext E0.out)
      replace HPL := Lib.hid (HPL.out.ext E0.out)
      replace C0 := Lib.hid (E0.out.cell (p := ⟨O, 0, none⟩) C0.out)
      replace C1 := Lib.hid (E0.out.cell (p := ⟨O, 1, none⟩) C1.out)
      replace D0 := Lib.hid (E0.out.cell (p := ⟨O2, 0, none⟩) D0.out)
      replace D1 := Lib.hid (E0.out.cell (p := ⟨O2, 1, none⟩) D1.out)
      replace F0 := Lib.hid (E0.out.cell (p := ⟨O3, 0, none⟩) F0.out)
      replace F1 := Lib.hid (E0.out.cell (p := ⟨O3, 1, none⟩) F1.out)
      clear E0 HS hgB hgO hgO2 hgO3
      replace RU := Lib.hid (RU.out.mono (Nat.zero_le _))
      have x00 := C0.out
      have x01 := C1.out
      have x10 := D0.out
      have x11 := D1.out
      have x20 := F0.out
      have x21 := F1.out
      go_wp2_with (fail)
      clear x00 x01 x10 x11 x20 x21
      obtain ⟨hb1, hb2, hb3⟩ := ball_of (p := p) (qs := qs) (c := x) (r := r) (k := k) HPR.out (by rw [HD.out]; exact HGX.out) hr0 hr1 hkb.1 hkb.2
      rw [HD.out] at hb1 hb2 hb3
      have HB1 := Lib.hid hb1
      have HB2 := Lib.hid hb2
      have HB3 := Lib.hid hb3
      have HON := Lib.hid (ball_on (p := p) (qs := qs) (c := x) (u := xu) (r := r) HPR.out (by rw [HD.out]; exact HGX.out.1) (by rw [HD.out]; exact HGRU.out.1) hr0 hr1)
      obtain ⟨GG, hGG⟩ : ∃ GG, GG = distN p qs x xu := ⟨_, rfl⟩
      rw [← hGG] at HON
      have HGG := Lib.hid hGG
      clear hb1 hb2 hb3 hGG
      replace E := Lib.hid (E.out.trans (ext_drew v20))
      replace HQ := Lib.hid (HQ.out.ext (ext_drew v20))
      replace HX := Lib.hid (HX.out.ext (ext_drew v20))
      replace RZ := Lib.hid (RZ.out.ext (ext_drew v20))
      replace HQ2 := Lib.hid (HQ2.out.ext (ext_drew v20))
      replace HV := Lib.hid (HV.out.ext (ext_drew v20))
      replace HU := Lib.hid (HU.out.ext (ext_drew v20))
      replace RE := Lib.hid (RE.out.ext (ext_drew v20))
      replace RP := Lib.hid (RP.out.ext (ext_drew v20))
      replace HPL := Lib.hid (HPL.out.ext (ext_drew v20))
      replace RU := Lib.hid (RU.out.ext (ext_drew v20))
      replace C0 := Lib.hid ((ext_drew v20).cell (p := ⟨O, 0, none⟩) C0.out)
      replace C1 := Lib.hid ((ext_drew v20).cell (p := ⟨O, 1, none⟩) C1.out)
      replace D0 := Lib.hid ((ext_drew v20).cell (p := ⟨O2, 0, none⟩) D0.out)
      replace D1 := Lib.hid ((ext_drew v20).cell (p := ⟨O2, 1, none⟩) D1.out)
      replace F0 := Lib.hid ((ext_drew v20).cell (p := ⟨O3, 0, none⟩) F0.out)
      replace F1 := Lib.hid ((ext_drew v20).cell (p := ⟨O3, 1, none⟩) F1.out)
      refine wp_region_lex [(5, .ownS 0 (kk + 2) (scaleL p (ballL p qs x r) k (kk + 2))), (6, .tup3 0 kk (x) (r))] (by kernel_rfl) (by kernel_rfl) ?_
      (refine LexW.pure (v := ?_) rfl rfl (fun w1 he => ?_) ?_; rotate_left; ( have x00 := (he.cell (p := ⟨O, 0, none⟩) C0.out); have x01 := (he.cell (p := ⟨O, 1, none⟩) C1.out); have x10 := (he.cell (p := ⟨O2, 0, none⟩) D0.out); have x11 := (he.cell (p := ⟨O2, 1, none⟩) D1.out); have x20 := (he.cell (p := ⟨O3, 0, none⟩) F0.out); have x21 := (he.cell (p := ⟨O3, 1, none⟩) F1.out); go_simp; rfl); simp only [Act.put, List.setIfInBounds_toArray, List.set_cons_zero, List.set_cons_succ])
      (refine LexW.pure (v := ?_) rfl rfl (fun w1 he => ?_) ?_; rotate_left; ( have x00 := (he.cell (p := ⟨O, 0, none⟩) C0.out); have x01 := (he.cell (p := ⟨O, 1, none⟩) C1.out); have x10 := (he.cell (p := ⟨O2, 0, none⟩) D0.out); have x11 := (he.cell (p := ⟨O2, 1, none⟩) D1.out); have x20 := (he.cell (p := ⟨O3, 0, none⟩) F0.out); have x21 := (he.cell (p := ⟨O3, 1, none⟩) F1.out); go_simp; rfl); simp only [Act.put, List.setIfInBounds_toArray, List.set_cons_zero, List.set_cons_succ])
      (refine LexW.pure (v := ?_) rfl rfl (fun w1 he => ?_) ?_; rotate_left; ( have x00 := (he.cell (p := ⟨O, 0, none⟩) C0.out); have x01 := (he.cell (p := ⟨O, 1, none⟩) C1.out); have x10 := (he.cell (p := ⟨O2, 0, none⟩) D0.out); have x11 := (he.cell (p := ⟨O2, 1, none⟩) D1.out); have x20 := (he.cell (p := ⟨O3, 0, none⟩) F0.out); have x21 := (he.cell (p := ⟨O3, 1, none⟩) F1.out); go_simp; rfl); simp only [Act.put, List.setIfInBounds_toArray, List.set_cons_zero, List.set_cons_succ])
      (refine LexW.pure (v := ?_) rfl rfl (fun w1 he => ?_) ?_; rotate_left; ( have x00 := (he.cell (p := ⟨O, 0, none⟩) C0.out); have x01 := (he.cell (p := ⟨O, 1, none⟩) C1.out); have x10 := (he.cell (p := ⟨O2, 0, none⟩) D0.out); have x11 := (he.cell (p := ⟨O2, 1, none⟩) D1.out); have x20 := (he.cell (p := ⟨O3, 0, none⟩) F0.out); have x21 := (he.cell (p := ⟨O3, 1, none⟩) F1.out); go_simp; rfl); simp only [Act.put, List.setIfInBounds_toArray, List.set_cons_zero, List.set_cons_succ])
      (refine LexW.pure (v := ?_) rfl rfl (fun w1 he => ?_) ?_; rotate_left; ( have x00 := (he.cell (p := ⟨O, 0, none⟩) C0.out); have x01 := (he.cell (p := ⟨O, 1, none⟩) C1.out); have x10 := (he.cell (p := ⟨O2, 0, none⟩) D0.out); have x11 := (he.cell (p := ⟨O2, 1, none⟩) D1.out); have x20 := (he.cell (p := ⟨O3, 0, none⟩) F0.out); have x21 := (he.cell (p := ⟨O3, 1, none⟩) F1.out); go_simp; rfl); simp only [Act.put, List.setIfInBounds_toArray, List.set_cons_zero, List.set_cons_succ])
      (refine LexW.callR (f := ?_) (args := ?_) rfl rfl (fun w1 => ?_) (fun w1 he hdep => ?_) (fun v hv => ?_); rotate_left 2; (go_simp; refine ⟨?_, ?_⟩ <;> rfl); ( refine (l_scale9 p k _ (kk + 2) _ (ballL p qs x r) w1 (by omega) (by omega) (by omega) (by omega) (RZ.out.rd.ext he) HGB.out).mono ?_; rintro e w2 ⟨g, rc, rfl, ho, g2⟩; exact ⟨_, rfl, g2, g, rc, rfl, ho.mono (Nat.zero_le _)⟩); simp only [Act.put, List.setIfInBounds_toArray, List.set_cons_zero, List.set_cons_succ])
      obtain ⟨_, g201, c201, rfl, _⟩ := hv
      (refine LexW.callR (f := ?_) (args := ?_) rfl rfl (fun w1 => ?_) (fun w1 he hdep => ?_) (fun v hv => ?_); rotate_left 2; (go_simp; refine ⟨?_, ?_⟩ <;> rfl); ( obtain ⟨_, _, q201, r201⟩ : (SPred.ownS 0 (kk + 2) (scaleL p (ballL p qs x r) k (kk + 2))).holds (.slice (some ⟨g201, 0, none⟩) (kk + 2) c201) w1 := hdep (5, 201) (by decide +kernel); cases q201; refine (c_SphereOf_eq p a kk cap qs _ _ (scaleL p (ballL p qs x r) k (kk + 2)) x r w1 HSP.out h4 (HQ.out.ext he) r201.rd (scale_good (by omega)) HB1.out HB2.out HB3.out).mono ?_; rintro e w2 ⟨g, rc, rfl, ho, g2⟩; exact ⟨_, rfl, g2, g, rc, rfl, ho.mono (Nat.zero_le _)⟩); simp only [Act.put, List.setIfInBounds_toArray, List.set_cons_zero, List.set_cons_succ])
      obtain ⟨_, g202, c202, rfl, _⟩ := hv
      (refine LexW.pure (v := ?_) rfl rfl (fun w1 he => ?_) ?_; rotate_left; ( have x00 := (he.cell (p := ⟨O, 0, none⟩) C0.out); have x01 := (he.cell (p := ⟨O, 1, none⟩) C1.out); have x10 := (he.cell (p := ⟨O2, 0, none⟩) D0.out); have x11 := (he.cell (p := ⟨O2, 1, none⟩) D1.out); have x20 := (he.cell (p := ⟨O3, 0, none⟩) F0.out); have x21 := (he.cell (p := ⟨O3, 1, none⟩) F1.out); go_simp; rfl); simp only [Act.put, List.setIfInBounds_toArray, List.set_cons_zero, List.set_cons_succ])
      (refine LexW.pure (v := ?_) rfl rfl (fun w1 he => ?_) ?_; rotate_left; ( have x00 := (he.cell (p := ⟨O, 0, none⟩) C0.out); have x01 := (he.cell (p := ⟨O, 1, none⟩) C1.out); have x10 := (he.cell (p := ⟨O2, 0, none⟩) D0.out); have x11 := (he.cell (p := ⟨O2, 1, none⟩) D1.out); have x20 := (he.cell (p := ⟨O3, 0, none⟩) F0.out); have x21 := (he.cell (p := ⟨O3, 1, none⟩) F1.out); go_simp; rfl); simp only [Act.put, List.setIfInBounds_toArray, List.set_cons_zero, List.set_cons_succ])
      (refine LexW.pure (v := ?_) rfl rfl (fun w1 he => ?_) ?_; rotate_left; ( have x00 := (he.cell (p := ⟨O, 0, none⟩) C0.out); have x01 := (he.cell (p := ⟨O, 1, none⟩) C1.out); have x10 := (he.cell (p := ⟨O2, 0, none⟩) D0.out); have x11 := (he.cell (p := ⟨O2, 1, none⟩) D1.out); have x20 := (he.cell (p := ⟨O3, 0, none⟩) F0.out); have x21 := (he.cell (p := ⟨O3, 1, none⟩) F1.out); go_simp; rfl); simp only [Act.put, List.setIfInBounds_toArray, List.set_cons_zero, List.set_cons_succ])
      (refine LexW.pure (v := ?_) rfl rfl (fun w1 he => ?_) ?_; rotate_left; ( have x00 := (he.cell (p := ⟨O, 0, none⟩) C0.out); have x01 := (he.cell (p := ⟨O, 1, none⟩) C1.out); have x10 := (he.cell (p := ⟨O2, 0, none⟩) D0.out); have x11 := (he.cell (p := ⟨O2, 1, none⟩) D1.out); have x20 := (he.cell (p := ⟨O3, 0, none⟩) F0.out); have x21 := (he.cell (p := ⟨O3, 1, none⟩) F1.out); go_simp; rfl); simp only [Act.put, List.setIfInBounds_toArray, List.set_cons_zero, List.set_cons_succ])
      (refine LexW.pure (v := ?_) rfl rfl (fun w1 he => ?_) ?_; rotate_left; ( have x00 := (he.cell (p := ⟨O, 0, none⟩) C0.out); have x01 := (he.cell (p := ⟨O, 1, none⟩) C1.out); have x10 := (he.cell (p := ⟨O2, 0, none⟩) D0.out); have x11 := (he.cell (p := ⟨O2, 1, none⟩) D1.out); have x20 := (he.cell (p := ⟨O3, 0, none⟩) F0.out); have x21 := (he.cell (p := ⟨O3, 1, none⟩) F1.out); go_simp; rfl); simp only [Act.put, List.setIfInBounds_toArray, List.set_cons_zero, List.set_cons_succ])
      (refine LexW.pure (v := ?_) rfl rfl (fun w1 he => ?_) ?_; rotate_left; ( have x00 := (he.cell (p := ⟨O, 0, none⟩) C0.out); have x01 := (he.cell (p := ⟨O, 1, none⟩) C1.out); have x10 := (he.cell (p := ⟨O2, 0, none⟩) D0.out); have x11 := (he.cell (p := ⟨O2, 1, none⟩) D1.out); have x20 := (he.cell (p := ⟨O3, 0, none⟩) F0.out); have x21 := (he.cell (p := ⟨O3, 1, none⟩) F1.out); go_simp; rfl); simp only [Act.put, List.setIfInBounds_toArray, List.set_cons_zero, List.set_cons_succ])
      (refine LexW.pure (v := ?_) rfl rfl (fun w1 he => ?_) ?_; rotate_left; ( have x00 := (he.cell (p := ⟨O, 0, none⟩) C0.out); have x01 := (he.cell (p := ⟨O, 1, none⟩) C1.out); have x10 := (he.cell (p := ⟨O2, 0, none⟩) D0.out); have x11 := (he.cell (p := ⟨O2, 1, none⟩) D1.out); have x20 := (he.cell (p := ⟨O3, 0, none⟩) F0.out); have x21 := (he.cell (p := ⟨O3, 1, none⟩) F1.out); go_simp; rfl); simp only [Act.put, List.setIfInBounds_toArray, List.set_cons_zero, List.set_cons_succ])
      refine LexW.nil (fun w3 he hkn => ?_)
      obtain ⟨_, _, q202, r202⟩ : (SPred.tup3 0 kk (x) (r)).holds (.tuple #[.slice (some ⟨g202, 0, none⟩) kk c202, .int .i64 (r), .int .i64 0]) w3 := hkn (6, _) (by simp)
      cases q202
      have R202 := Lib.hid r202
      have HE := Lib.hid he
      clear he hkn r202
      rename World => v21
      replace E := Lib.hid (E.out.trans HE.out)
      replace HQ := Lib.hid (HQ.out.ext HE.out)
      replace HX := Lib.hid (HX.out.ext HE.out)
      replace RZ := Lib.hid (RZ.out.ext HE.out)
      replace HQ2 := Lib.hid (HQ2.out.ext HE.out)
      replace HV := Lib.hid (HV.out.ext HE.out)
      replace HU := Lib.hid (HU.out.ext HE.out)
      replace RE := Lib.hid (RE.out.ext HE.out)
      replace RP := Lib.hid (RP.out.ext HE.out)
      replace HPL := Lib.hid (HPL.out.ext HE.out)
      replace RU := Lib.hid (RU.out.ext HE.out)
      replace C0 := Lib.hid (HE.out.cell (p := ⟨O, 0, none⟩) C0.out)
      replace C1 := Lib.hid (HE.out.cell (p := ⟨O, 1, none⟩) C1.out)
      replace D0 := Lib.hid (HE.out.cell (p := ⟨O2, 0, none⟩) D0.out)
      replace D1 := Lib.hid (HE.out.cell (p := ⟨O2, 1, none⟩) D1.out)
      replace F0 := Lib.hid (HE.out.cell (p := ⟨O3, 0, none⟩) F0.out)
      replace F1 := Lib.hid (HE.out.cell (p := ⟨O3, 1, none⟩) F1.out)
      clear HE
      have x00 := C0.out
      have x01 := C1.out
      have x10 := D0.out
      have x11 := D1.out
      have x20 := F0.out
      have x21 := F1.out
      go_wp2_with (fail)
      clear x00 x01 x10 x11 x20 x21
      refine Calls.mono (c_IsOnSphere_ok p a kk cap qs _ _ (ballL p qs x r) _ _ xu v21 HSP.out h4 HQ.out RZ.out.rd HGB.out RU.out.rd HGRU.out) ?_
      rintro e v22 ⟨rfl, gg⟩
      rw [HON.out]
      replace E := Lib.hid (E.out.trans gg)
      replace HQ := Lib.hid (HQ.out.ext gg)
      replace HX := Lib.hid (HX.out.ext gg)
      replace RZ := Lib.hid (RZ.out.ext gg)
      replace HQ2 := Lib.hid (HQ2.out.ext gg)
      replace HV := Lib.hid (HV.out.ext gg)
      replace HU := Lib.hid (HU.out.ext gg)
      replace RE := Lib.hid (RE.out.ext gg)
      replace RP := Lib.hid (RP.out.ext gg)
      replace HPL := Lib.hid (HPL.out.ext gg)
      replace RU := Lib.hid (RU.out.ext gg)
      replace R202 := Lib.hid (R202.out.ext gg)
      replace C0 := Lib.hid (gg.cell (p := ⟨O, 0, none⟩) C0.out)
      replace C1 := Lib.hid (gg.cell (p := ⟨O, 1, none⟩) C1.out)
      replace D0 := Lib.hid (gg.cell (p := ⟨O2, 0, none⟩) D0.out)
      replace D1 := Lib.hid (gg.cell (p := ⟨O2, 1, none⟩) D1.out)
      replace F0 := Lib.hid (gg.cell (p := ⟨O3, 0, none⟩) F0.out)
      replace F1 := Lib.hid (gg.cell (p := ⟨O3, 1, none⟩) F1.out)
      clear gg
      have x00 := C0.out
      have x01 := C1.out
      have x10 := D0.out
      have x11 := D1.out
      have x20 := F0.out
      have x21 := F1.out
      go_wp2_with (fail)
      clear x00 x01 x10 x11 x20 x21
      refine Calls.mono (c_DistanceOf_ok p a kk cap qs _ _ x _ _ xu v22 HSP.out h4 HQ.out HX.out HGX.out RU.out.rd HGRU.out) ?_
      rintro e v23 ⟨rfl, gg⟩
      rw [← HGG.out]
      replace E := Lib.hid (E.out.trans gg)
      replace HQ := Lib.hid (HQ.out.ext gg)
      replace HX := Lib.hid (HX.out.ext gg)
      replace RZ := Lib.hid (RZ.out.ext gg)
      replace HQ2 := Lib.hid (HQ2.out.ext gg)
      replace HV := Lib.hid (HV.out.ext gg)
      replace HU := Lib.hid (HU.out.ext gg)
      replace RE := Lib.hid (RE.out.ext gg)
      replace RP := Lib.hid (RP.out.ext gg)
      replace HPL := Lib.hid (HPL.out.ext gg)
      replace RU := Lib.hid (RU.out.ext gg)
      replace R202 := Lib.hid (R202.out.ext gg)
      replace C0 := Lib.hid (gg.cell (p := ⟨O, 0, none⟩) C0.out)
      replace C1 := Lib.hid (gg.cell (p := ⟨O, 1, none⟩) C1.out)
      replace D0 := Lib.hid (gg.cell (p := ⟨O2, 0, none⟩) D0.out)
      replace D1 := Lib.hid (gg.cell (p := ⟨O2, 1, none⟩) D1.out)
      replace F0 := Lib.hid (gg.cell (p := ⟨O3, 0, none⟩) F0.out)
      replace F1 := Lib.hid (gg.cell (p := ⟨O3, 1, none⟩) F1.out)
      clear gg
      have x00 := C0.out
      have x01 := C1.out
      have x10 := D0.out
      have x11 := D1.out
      have x20 := F0.out
      have x21 := F1.out
      go_wp2_with (fail)
      clear x00 x01 x10 x11 x20 x21
      have H := l_like (some ⟨g202, 0, none⟩) ax kk kk c202 cx _ _ v23 (by omega) (by omega) R202.out.rd HX.out
      rw [eqB_self] at H
      refine Calls.mono H ?_
      clear H
      rintro e v24 ⟨rfl, gg⟩
      replace E := Lib.hid (E.out.trans gg)
      replace HQ := Lib.hid (HQ.out.ext gg)
      replace HX := Lib.hid (HX.out.ext gg)
      replace RZ := Lib.hid (RZ.out.ext gg)
      replace HQ2 := Lib.hid (HQ2.out.ext gg)
      replace HV := Lib.hid (HV.out.ext gg)
      replace HU := Lib.hid (HU.out.ext gg)
      replace RE := Lib.hid (RE.out.ext gg)
      replace RP := Lib.hid (RP.out.ext gg)
      replace HPL := Lib.hid (HPL.out.ext gg)
      replace RU := Lib.hid (RU.out.ext gg)
      replace R202 := Lib.hid (R202.out.ext gg)
      replace C0 := Lib.hid (gg.cell (p := ⟨O, 0, none⟩) C0.out)
      replace C1 := Lib.hid (gg.cell (p := ⟨O, 1, none⟩) C1.out)
      replace D0 := Lib.hid (gg.cell (p := ⟨O2, 0, none⟩) D0.out)
      replace D1 := Lib.hid (gg.cell (p := ⟨O2, 1, none⟩) D1.out)
      replace F0 := Lib.hid (gg.cell (p := ⟨O3, 0, none⟩) F0.out)
      replace F1 := Lib.hid (gg.cell (p := ⟨O3, 1, none⟩) F1.out)
      clear gg
      have hrr : (r == r) = true := by simp
      have hgb : ((GG == r) == (GG == r)) = true := by simp
      go_wp2_with (fail)
      go_ret
      exact ⟨rfl, E.out⟩
end Go.Proofs.Ytcocbainookkcaa
