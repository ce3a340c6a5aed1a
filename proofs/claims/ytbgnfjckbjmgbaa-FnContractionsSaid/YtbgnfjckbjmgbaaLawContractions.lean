/-
  The law FnContractions returns true.
  No condition.
-/
import Derived.Test.YtbgnfjckbjmgbaaLawGeometricProducts
namespace Go.Proofs.Ytbgnfjckbjmgbaa
set_option maxRecDepth 100000
open Go.RowKit

set_option maxHeartbeats 8000000 in
set_option maxRecDepth 100000 in
theorem law_Contractions (w : World) (ac : Option Addr) (nc cc : Nat) (hb : RdY w ac nc) :
    Calls Try.prog 5 #[.slice ac nc cc] w fun e w' => e = .returned (.bool true) ∧ Ext w w' := by
  have HB := Lib.hid hb
  clear hb
  go_enter Try.func5, Try.ntmps5
  go_wp2_with (fail)
  refine Calls.mono (l_big ac nc cc w) ?_
  rintro e w1 ⟨rfl, g0⟩
  have E := Lib.hid g0
  by_cases hbig : 4096 < nc
  · have hbb : decide (4096 < nc) = true := by simp [hbig]
    rw [hbb]
    go_wp2_with (fail)
    go_ret
    exact ⟨rfl, E.out⟩
  have hbb : decide (4096 < nc) = false := by simp [hbig]
  rw [hbb]
  clear g0 hbb
  go_wp2_with (fail)
  refine Calls.mono (s_drawLeftContraction ac nc cc w1 (by omega) (HB.out.ext E.out)) ?_
  rintro e w2 ⟨p, a, d, cap, qs, ax, nx, cx, x, ay, ny, cy, y, rfl, hp0, hp1, hd, hnx, hny, hq, hx, hy, g1⟩
  have E1 := Lib.hid g1
  replace E := Lib.hid (E.out.trans g1)
  have HQ := Lib.hid hq.rd
  have HX := Lib.hid hx.rd
  have HY := Lib.hid hy.rd
  clear hq hx hy g1
  go_wp2_with (fail)
  obtain ⟨O, hO⟩ : ∃ O, O = w2.heap.size := ⟨_, rfl⟩
  obtain ⟨W, hW⟩ : ∃ W, W = w2.alloc (.cells #[.int .i64 p, .slice a d cap] 26) := ⟨_, rfl⟩
  have C0 := Lib.hid (show W.cell? ⟨O, 0, none⟩ = some (.int .i64 p) by rw [hW, hO]; simp)
  have C1 := Lib.hid (show W.cell? ⟨O, 1, none⟩ = some (.slice a d cap) by rw [hW, hO]; simp)
  have gg : Ext w2 W := by rw [hW]; exact ext_alloc _ _
  rw [← hO, ← hW]
  clear hO hW E1
  replace E := Lib.hid (E.out.trans gg)
  replace HQ := Lib.hid (HQ.out.ext gg)
  replace HX := Lib.hid (HX.out.ext gg)
  replace HY := Lib.hid (HY.out.ext gg)
  clear gg
  by_cases hc : codeM p qs [x, y] ≠ 0
  · skip
    have x00 := C0.out
    have x01 := C1.out
    go_wp2_with (fail)
    clear x00 x01
    refine Calls.mono (c_LeftContraction_bad p a d cap qs ax nx cx x ay ny cy y W (by omega) (by omega) (by omega) HQ.out HX.out HY.out hc) ?_
    rintro e v1 ⟨rZ, kZ, rfl, ho, gg⟩
    have RZ := Lib.hid (ho.mono (Nat.zero_le _))
    clear ho
    replace E := Lib.hid (E.out.trans gg)
    replace HQ := Lib.hid (HQ.out.ext gg)
    replace HX := Lib.hid (HX.out.ext gg)
    replace HY := Lib.hid (HY.out.ext gg)
    replace C0 := Lib.hid (gg.cell (p := ⟨O, 0, none⟩) C0.out)
    replace C1 := Lib.hid (gg.cell (p := ⟨O, 1, none⟩) C1.out)
    clear gg
    have x00 := C0.out
    have x01 := C1.out
    go_wp2_with (fail)
    clear x00 x01
    refine Calls.mono (s_LeftContraction_bad p a d cap qs ax nx cx x ay ny cy y v1 (by omega) (by omega) (by omega) HQ.out HX.out HY.out hc) ?_
    rintro e v2 ⟨rT, kT, rfl, ho, gg⟩
    have RT := Lib.hid (ho.mono (Nat.zero_le _))
    clear ho
    replace E := Lib.hid (E.out.trans gg)
    replace HQ := Lib.hid (HQ.out.ext gg)
    replace HX := Lib.hid (HX.out.ext gg)
    replace HY := Lib.hid (HY.out.ext gg)
    replace RZ := Lib.hid (RZ.out.ext gg)
    replace C0 := Lib.hid (gg.cell (p := ⟨O, 0, none⟩) C0.out)
    replace C1 := Lib.hid (gg.cell (p := ⟨O, 1, none⟩) C1.out)
    clear gg
    have hcb : (codeM p qs [x, y] != 0) = true := by simp [hc]
    clear hc
    have x00 := C0.out
    have x01 := C1.out
    go_wp2_with (fail)
    clear x00 x01
    have H := l_like rZ rT 0 0 kZ kT _ _ v2 (by omega) (by omega) RZ.out.rd RT.out.rd
    rw [eqB_self] at H
    refine Calls.mono H ?_
    clear H
    rintro e v3 ⟨rfl, gg⟩
    replace E := Lib.hid (E.out.trans gg)
    replace HQ := Lib.hid (HQ.out.ext gg)
    replace HX := Lib.hid (HX.out.ext gg)
    replace HY := Lib.hid (HY.out.ext gg)
    replace RZ := Lib.hid (RZ.out.ext gg)
    replace RT := Lib.hid (RT.out.ext gg)
    replace C0 := Lib.hid (gg.cell (p := ⟨O, 0, none⟩) C0.out)
    replace C1 := Lib.hid (gg.cell (p := ⟨O, 1, none⟩) C1.out)
    clear gg
    go_wp2_with (fail)
    go_ret
    exact ⟨rfl, E.out⟩
  replace hc : codeM p qs [x, y] = 0 := by simpa using hc
  have x00 := C0.out
  have x01 := C1.out
  go_wp2_with (fail)
  clear x00 x01
  refine Calls.mono (c_LeftContraction_ok p a d cap qs ax nx cx x ay ny cy y W (by omega) (by omega) (by omega) HQ.out HX.out HY.out hc) ?_
  rintro e v1 ⟨rZ, kZ, rfl, ho, gg⟩
  have RZ := Lib.hid (ho.mono (Nat.zero_le _))
  clear ho
  replace E := Lib.hid (E.out.trans gg)
  replace HQ := Lib.hid (HQ.out.ext gg)
  replace HX := Lib.hid (HX.out.ext gg)
  replace HY := Lib.hid (HY.out.ext gg)
  replace C0 := Lib.hid (gg.cell (p := ⟨O, 0, none⟩) C0.out)
  replace C1 := Lib.hid (gg.cell (p := ⟨O, 1, none⟩) C1.out)
  clear gg
  have x00 := C0.out
  have x01 := C1.out
  go_wp2_with (fail)
  clear x00 x01
  refine Calls.mono (s_LeftContraction_ok p a d cap qs ax nx cx x ay ny cy y v1 (by omega) (by omega) (by omega) HQ.out HX.out HY.out hc) ?_
  rintro e v2 ⟨rT, kT, rfl, ho, gg⟩
  have RT := Lib.hid (ho.mono (Nat.zero_le _))
  clear ho
  replace E := Lib.hid (E.out.trans gg)
  replace HQ := Lib.hid (HQ.out.ext gg)
  replace HX := Lib.hid (HX.out.ext gg)
  replace HY := Lib.hid (HY.out.ext gg)
  replace RZ := Lib.hid (RZ.out.ext gg)
  replace C0 := Lib.hid (gg.cell (p := ⟨O, 0, none⟩) C0.out)
  replace C1 := Lib.hid (gg.cell (p := ⟨O, 1, none⟩) C1.out)
  clear gg
  obtain ⟨hs, hgx, hgy⟩ := codeM_of2 hc
  clear hc
  have HSP := Lib.hid (hs)
  obtain ⟨hpr, hd1, hd6, hqb⟩ := space_of HSP.out
  have hpb := prime_bd hpr
  have HPR := Lib.hid hpr
  have HQB := Lib.hid hqb
  have HD := Lib.hid HQ.out.1
  rw [HD.out] at hd6 hd1
  obtain ⟨N, hN⟩ : ∃ N, N = 2 ^ d := ⟨_, rfl⟩
  have HN := Lib.hid hN
  have hN6 : N ≤ 64 := by rw [hN]; exact pow_le64 hd6
  have hN1 : 1 ≤ N := by rw [hN]; exact pow_pos' d
  have HPG := fun (tk : Nat → Nat → Bool) (x y : List Int) => Lib.hid (show Good p N (prodL p qs tk x y) by rw [hN, ← HD.out]; exact prod_good (by omega))
  have HNQ := Lib.hid (show N = 2 ^ qs.length by rw [hN, HD.out])
  clear hN hqb hpr
  obtain rfl : N = nx := by rw [← HX.out.1, HNQ.out]; exact hgx.1.symm
  obtain rfl : N = ny := by rw [← HY.out.1, HNQ.out]; exact hgy.1.symm
  have HGX := Lib.hid (show Good p N x by rw [HNQ.out]; exact hgx)
  clear hgx
  have HGY := Lib.hid (show Good p N y by rw [HNQ.out]; exact hgy)
  clear hgy
  clear hs
  have HZ := Lib.hid (show Good p N (prodL p qs tkL x y) from (HPG tkL x y).out)
  obtain ⟨gZ, rfl⟩ := RZ.out.addr (by omega)
  obtain ⟨gT, rfl⟩ := RT.out.addr (by omega)
  have x00 := C0.out
  have x01 := C1.out
  go_wp2_with (fail)
  clear x00 x01
  have H := l_like (some ⟨gZ, 0, none⟩) (some ⟨gT, 0, none⟩) N N kZ kT _ _ v2 (by omega) (by omega) RZ.out.rd RT.out.rd
  rw [eqB_self] at H
  refine Calls.mono H ?_
  clear H
  rintro e v3 ⟨rfl, gg⟩
  replace E := Lib.hid (E.out.trans gg)
  replace HQ := Lib.hid (HQ.out.ext gg)
  replace HX := Lib.hid (HX.out.ext gg)
  replace HY := Lib.hid (HY.out.ext gg)
  replace RZ := Lib.hid (RZ.out.ext gg)
  replace RT := Lib.hid (RT.out.ext gg)
  replace C0 := Lib.hid (gg.cell (p := ⟨O, 0, none⟩) C0.out)
  replace C1 := Lib.hid (gg.cell (p := ⟨O, 1, none⟩) C1.out)
  clear gg
  clear RT
  have x00 := C0.out
  have x01 := C1.out
  go_wp2_with (fail)
  clear x00 x01
  refine Calls.mono (l_roll ac nc cc 838 v3 (by omega) (HB.out.ext E.out)) ?_
  rintro e v4 ⟨g, rfl, hg, hS, gg⟩
  obtain ⟨S, hSe⟩ : ∃ S : SrcP, S = ⟨g, ac, nc, cc⟩ := ⟨_, rfl⟩
  obtain rfl : g = S.g := by rw [hSe]
  rw [← hSe] at hS
  have HS := Lib.hid hS
  have E0 := Lib.hid gg
  have hgB : v3.heap.size ≤ S.g := hg
  have hgO : O ≠ S.g := by have := lt_of_cell C0.out; dsimp only at this; omega
  clear hSe hS gg hg
  have x00 := (E0.out.cell (p := ⟨O, 0, none⟩) C0.out)
  have x01 := (E0.out.cell (p := ⟨O, 1, none⟩) C1.out)
  go_wp2_with (fail)
  clear x00 x01
  replace E0 := Lib.hid (E0.out.trans (ext_drew v4))
  replace HS := Lib.hid ((Drw.of_ext (S := S) (ext_drew v4)).src HS.out)
  refine Chg.wp_region_lex (E := Drw.rel S) [(7, .ownP S (S.g + 1) d (Good p d) (Nat.lt_succ_self _)), (8, .ownP S (S.g + 1) N (fun xs => ∃ vv, Good p d vv ∧ xs = vecL N vv) (Nat.lt_succ_self _))] (by kernel_rfl) (by kernel_rfl) ?_
  (refine Chg.LexW.pure (v := ?_) rfl rfl (fun w1 he => ?_) ?_; rotate_left; ( have he' : Drw S _ _ := he; have x00 := (he'.cell (p := ⟨O, 0, none⟩) hgO (E0.out.cell (p := ⟨O, 0, none⟩) C0.out)); have x01 := (he'.cell (p := ⟨O, 1, none⟩) hgO (E0.out.cell (p := ⟨O, 1, none⟩) C1.out)); go_simp; rfl); simp only [Act.put, List.setIfInBounds_toArray, List.set_cons_zero, List.set_cons_succ])
  (refine Chg.LexW.pure (v := ?_) rfl rfl (fun w1 he => ?_) ?_; rotate_left; ( have he' : Drw S _ _ := he; have x00 := (he'.cell (p := ⟨O, 0, none⟩) hgO (E0.out.cell (p := ⟨O, 0, none⟩) C0.out)); have x01 := (he'.cell (p := ⟨O, 1, none⟩) hgO (E0.out.cell (p := ⟨O, 1, none⟩) C1.out)); go_simp; rfl); simp only [Act.put, List.setIfInBounds_toArray, List.set_cons_zero, List.set_cons_succ])
  (refine Chg.LexW.pure (v := ?_) rfl rfl (fun w1 he => ?_) ?_; rotate_left; ( have he' : Drw S _ _ := he; have x00 := (he'.cell (p := ⟨O, 0, none⟩) hgO (E0.out.cell (p := ⟨O, 0, none⟩) C0.out)); have x01 := (he'.cell (p := ⟨O, 1, none⟩) hgO (E0.out.cell (p := ⟨O, 1, none⟩) C1.out)); go_simp; rfl); simp only [Act.put, List.setIfInBounds_toArray, List.set_cons_zero, List.set_cons_succ])
  (refine Chg.LexW.pure (v := ?_) rfl rfl (fun w1 he => ?_) ?_; rotate_left; ( have he' : Drw S _ _ := he; have x00 := (he'.cell (p := ⟨O, 0, none⟩) hgO (E0.out.cell (p := ⟨O, 0, none⟩) C0.out)); have x01 := (he'.cell (p := ⟨O, 1, none⟩) hgO (E0.out.cell (p := ⟨O, 1, none⟩) C1.out)); go_simp; rfl); simp only [Act.put, List.setIfInBounds_toArray, List.set_cons_zero, List.set_cons_succ])
  (refine Chg.LexW.pure (v := ?_) rfl rfl (fun w1 he => ?_) ?_; rotate_left; ( have he' : Drw S _ _ := he; have x00 := (he'.cell (p := ⟨O, 0, none⟩) hgO (E0.out.cell (p := ⟨O, 0, none⟩) C0.out)); have x01 := (he'.cell (p := ⟨O, 1, none⟩) hgO (E0.out.cell (p := ⟨O, 1, none⟩) C1.out)); go_simp; rfl); simp only [Act.put, List.setIfInBounds_toArray, List.set_cons_zero, List.set_cons_succ])
  (refine Chg.LexW.pure (v := ?_) rfl rfl (fun w1 he => ?_) ?_; rotate_left; ( have he' : Drw S _ _ := he; have x00 := (he'.cell (p := ⟨O, 0, none⟩) hgO (E0.out.cell (p := ⟨O, 0, none⟩) C0.out)); have x01 := (he'.cell (p := ⟨O, 1, none⟩) hgO (E0.out.cell (p := ⟨O, 1, none⟩) C1.out)); go_simp; rfl); simp only [Act.put, List.setIfInBounds_toArray, List.set_cons_zero, List.set_cons_succ])
  (refine Chg.LexW.pure (v := ?_) rfl rfl (fun w1 he => ?_) ?_; rotate_left; ( have he' : Drw S _ _ := he; have x00 := (he'.cell (p := ⟨O, 0, none⟩) hgO (E0.out.cell (p := ⟨O, 0, none⟩) C0.out)); have x01 := (he'.cell (p := ⟨O, 1, none⟩) hgO (E0.out.cell (p := ⟨O, 1, none⟩) C1.out)); go_simp; rfl); simp only [Act.put, List.setIfInBounds_toArray, List.set_cons_zero, List.set_cons_succ])
  (refine Chg.LexW.callR (f := ?_) (args := ?_) rfl rfl (fun w1 => ?_) (fun w1 he hdep => ?_) (fun v hv => ?_); rotate_left 2; (go_simp; refine ⟨?_, ?_⟩ <;> rfl); ( have he' : Drw S _ _ := he; (refine Calls.mono (l_list5 S p d _ (he'.src HS.out) (by omega) (by omega)) ?_; rintro e w9 ⟨a9, c9, x9, rfl, ho9, hb9, g9⟩; obtain ⟨g8, rfl⟩ := ho9.addr (by omega); exact ⟨_, rfl, g9, g8, c9, x9, rfl, isB_Good ho9.1 (hb9 (by omega)), ho9.mono (Nat.le_trans HS.out.lt he'.size)⟩)); simp only [Act.put, List.setIfInBounds_toArray, List.set_cons_zero, List.set_cons_succ])
  obtain ⟨_, gU, cU, _, rfl, _⟩ := hv
  (refine Chg.LexW.callR (f := ?_) (args := ?_) rfl rfl (fun w1 => ?_) (fun w1 he hdep => ?_) (fun v hv => ?_); rotate_left 2; (go_simp; refine ⟨?_, ?_⟩ <;> rfl); ( have he' : Drw S _ _ := he; obtain ⟨_, _, u, qu, pu, ru⟩ : (Chg.SPred.ownP S (S.g + 1) d (Good p d) (Nat.lt_succ_self _)).holds (.slice (some ⟨gU, 0, none⟩) d cU) w1 := hdep (7, 76) (by decide +kernel); cases qu; refine Calls.mono (l_vector5 p a d cap qs _ _ u w1 HN.out HSP.out (HQ.out.ext (he'.toExt E0.out hgB)) ru.rd pu) ?_; rintro e w9 ⟨g9, rfl, ho9, x9⟩; exact ⟨_, rfl, Drw.of_ext x9, g9, _, _, rfl, ⟨u, pu, rfl⟩, ho9.mono (Nat.le_trans HS.out.lt he'.size)⟩); simp only [Act.put, List.setIfInBounds_toArray, List.set_cons_zero, List.set_cons_succ])
  obtain ⟨_, gV, cV, _, rfl, _⟩ := hv
  (refine Chg.LexW.pure (v := ?_) rfl rfl (fun w1 he => ?_) ?_; rotate_left; ( have he' : Drw S _ _ := he; have x00 := (he'.cell (p := ⟨O, 0, none⟩) hgO (E0.out.cell (p := ⟨O, 0, none⟩) C0.out)); have x01 := (he'.cell (p := ⟨O, 1, none⟩) hgO (E0.out.cell (p := ⟨O, 1, none⟩) C1.out)); go_simp; rfl); simp only [Act.put, List.setIfInBounds_toArray, List.set_cons_zero, List.set_cons_succ])
  refine Chg.LexW.nil (fun v5 he hkn => ?_)
  have gg : Drw S v4.drew v5 := he
  obtain ⟨_, _, vx, qvx, pvx, rvx⟩ : (Chg.SPred.ownP S (S.g + 1) N (fun xs => ∃ vv, Good p d vv ∧ xs = vecL N vv) (Nat.lt_succ_self _)).holds (.slice (some ⟨gV, 0, none⟩) N cV) _ := hkn (8, _) (by simp)
  cases qvx
  obtain ⟨v, hgv, rfl⟩ := pvx
  have RV := Lib.hid rvx
  have HGV := Lib.hid hgv
  clear rvx hgv
  replace E0 := Lib.hid (gg.toExt E0.out hgB)
  replace HS := Lib.hid (gg.src HS.out)
  clear gg he hkn
  have x00 := (E0.out.cell (p := ⟨O, 0, none⟩) C0.out)
  have x01 := (E0.out.cell (p := ⟨O, 1, none⟩) C1.out)
  go_wp2_with (fail)
  clear x00 x01
  replace E0 := Lib.hid (E0.out.trans (ext_drew v5))
  replace HS := Lib.hid ((Drw.of_ext (S := S) (ext_drew v5)).src HS.out)
  replace RV := Lib.hid (RV.out.ext (ext_drew v5))
  refine Chg.wp_region_lex (E := Drw.rel S) [(2, .val (.int .i64 N)), (5, .ownP S (S.g + 1) N (Good p N) (Nat.lt_succ_self _))] (by kernel_rfl) (by kernel_rfl) ?_
  (refine Chg.LexW.pure (v := ?_) rfl rfl (fun w1 he => ?_) ?_; rotate_left; ( have he' : Drw S _ _ := he; have x00 := (he'.cell (p := ⟨O, 0, none⟩) hgO (E0.out.cell (p := ⟨O, 0, none⟩) C0.out)); have x01 := (he'.cell (p := ⟨O, 1, none⟩) hgO (E0.out.cell (p := ⟨O, 1, none⟩) C1.out)); go_simp; rfl); simp only [Act.put, List.setIfInBounds_toArray, List.set_cons_zero, List.set_cons_succ])
  (refine Chg.LexW.pure (v := ?_) rfl rfl (fun w1 he => ?_) ?_; rotate_left; ( have he' : Drw S _ _ := he; have x00 := (he'.cell (p := ⟨O, 0, none⟩) hgO (E0.out.cell (p := ⟨O, 0, none⟩) C0.out)); have x01 := (he'.cell (p := ⟨O, 1, none⟩) hgO (E0.out.cell (p := ⟨O, 1, none⟩) C1.out)); go_simp; rfl); simp only [Act.put, List.setIfInBounds_toArray, List.set_cons_zero, List.set_cons_succ])
  (refine Chg.LexW.call (f := ?_) (args := ?_) rfl rfl (fun w1 => ?_) (fun w1 he hdep => ?_) ?_; rotate_left 2; (go_simp; refine ⟨?_, ?_⟩ <;> rfl); ( have he' : Drw S _ _ := he; have H := l_size5 p a d cap w1 hd6 HN.out; exact H.mono fun e w' h => ⟨h.1, Drw.of_ext h.2⟩); simp only [Act.put, List.setIfInBounds_toArray, List.set_cons_zero, List.set_cons_succ])
  (refine Chg.LexW.pure (v := ?_) rfl rfl (fun w1 he => ?_) ?_; rotate_left; ( have he' : Drw S _ _ := he; have x00 := (he'.cell (p := ⟨O, 0, none⟩) hgO (E0.out.cell (p := ⟨O, 0, none⟩) C0.out)); have x01 := (he'.cell (p := ⟨O, 1, none⟩) hgO (E0.out.cell (p := ⟨O, 1, none⟩) C1.out)); go_simp; rfl); simp only [Act.put, List.setIfInBounds_toArray, List.set_cons_zero, List.set_cons_succ])
  (refine Chg.LexW.pure (v := ?_) rfl rfl (fun w1 he => ?_) ?_; rotate_left; ( have he' : Drw S _ _ := he; have x00 := (he'.cell (p := ⟨O, 0, none⟩) hgO (E0.out.cell (p := ⟨O, 0, none⟩) C0.out)); have x01 := (he'.cell (p := ⟨O, 1, none⟩) hgO (E0.out.cell (p := ⟨O, 1, none⟩) C1.out)); go_simp; rfl); simp only [Act.put, List.setIfInBounds_toArray, List.set_cons_zero, List.set_cons_succ])
  (refine Chg.LexW.callR (f := ?_) (args := ?_) rfl rfl (fun w1 => ?_) (fun w1 he hdep => ?_) (fun v hv => ?_); rotate_left 2; (go_simp; refine ⟨?_, ?_⟩ <;> rfl); ( have he' : Drw S _ _ := he; (refine Calls.mono (l_list5 S p N _ (he'.src HS.out) (by omega) (by omega)) ?_; rintro e w9 ⟨a9, c9, x9, rfl, ho9, hb9, g9⟩; obtain ⟨g8, rfl⟩ := ho9.addr (by omega); exact ⟨_, rfl, g9, g8, c9, x9, rfl, isB_Good ho9.1 (hb9 (by omega)), ho9.mono (Nat.le_trans HS.out.lt he'.size)⟩)); simp only [Act.put, List.setIfInBounds_toArray, List.set_cons_zero, List.set_cons_succ])
  obtain ⟨_, gW, cW, _, rfl, _⟩ := hv
  (refine Chg.LexW.pure (v := ?_) rfl rfl (fun w1 he => ?_) ?_; rotate_left; ( have he' : Drw S _ _ := he; have x00 := (he'.cell (p := ⟨O, 0, none⟩) hgO (E0.out.cell (p := ⟨O, 0, none⟩) C0.out)); have x01 := (he'.cell (p := ⟨O, 1, none⟩) hgO (E0.out.cell (p := ⟨O, 1, none⟩) C1.out)); go_simp; rfl); simp only [Act.put, List.setIfInBounds_toArray, List.set_cons_zero, List.set_cons_succ])
  refine Chg.LexW.nil (fun v6 he hkn => ?_)
  have gg : Drw S v5.drew v6 := he
  obtain ⟨_, _, t, qt, pt, rt⟩ : (Chg.SPred.ownP S (S.g + 1) N (Good p N) (Nat.lt_succ_self _)).holds (.slice (some ⟨gW, 0, none⟩) N cW) _ := hkn (5, _) (by simp)
  cases qt
  have RW := Lib.hid rt
  have HGW := Lib.hid pt
  clear rt pt
  replace E0 := Lib.hid (gg.toExt E0.out hgB)
  replace HS := Lib.hid (gg.src HS.out)
  replace RV := Lib.hid (gg.own RV.out (Nat.lt_succ_self _))
  clear gg he hkn
  replace E := Lib.hid (E.out.trans E0.out)
  replace HQ := Lib.hid (HQ.out.ext E0.out)
  replace HX := Lib.hid (HX.out.ext E0.out)
  replace HY := Lib.hid (HY.out.ext E0.out)
  replace RZ := Lib.hid (RZ.out.ext E0.out)
  replace C0 := Lib.hid (E0.out.cell (p := ⟨O, 0, none⟩) C0.out)
  replace C1 := Lib.hid (E0.out.cell (p := ⟨O, 1, none⟩) C1.out)
  clear E0 HS hgB hgO
  replace RV := Lib.hid (RV.out.mono (Nat.zero_le _))
  replace RW := Lib.hid (RW.out.mono (Nat.zero_le _))
  have HGVV := Lib.hid (show Good p N (vecL N v) from vec_good (by omega) HGV.out)
  have x00 := C0.out
  have x01 := C1.out
  go_wp2_with (fail)
  clear x00 x01
  refine Calls.mono (c_LeftContraction_ok p a d cap qs _ N _ (vecL N v) _ N _ (y) v6 (by omega) (by omega) (by omega) HQ.out RV.out.rd HY.out (codeM_two0 HSP.out (by rw [← HNQ.out]; exact HGVV.out) (by rw [← HNQ.out]; exact HGY.out))) ?_
  rintro e v7 ⟨rA, kA, rfl, ho, gg⟩
  obtain ⟨gA, rfl⟩ := ho.addr (by omega)
  have RA := Lib.hid (ho.mono (Nat.zero_le _))
  clear ho
  replace E := Lib.hid (E.out.trans gg)
  replace HQ := Lib.hid (HQ.out.ext gg)
  replace HX := Lib.hid (HX.out.ext gg)
  replace HY := Lib.hid (HY.out.ext gg)
  replace RZ := Lib.hid (RZ.out.ext gg)
  replace RV := Lib.hid (RV.out.ext gg)
  replace RW := Lib.hid (RW.out.ext gg)
  replace C0 := Lib.hid (gg.cell (p := ⟨O, 0, none⟩) C0.out)
  replace C1 := Lib.hid (gg.cell (p := ⟨O, 1, none⟩) C1.out)
  clear gg
  have x00 := C0.out
  have x01 := C1.out
  go_wp2_with (fail)
  clear x00 x01
  refine Calls.mono (c_WedgeProduct_ok p a d cap qs _ N _ (vecL N v) _ N _ (y) v7 (by omega) (by omega) (by omega) HQ.out RV.out.rd HY.out (codeM_two0 HSP.out (by rw [← HNQ.out]; exact HGVV.out) (by rw [← HNQ.out]; exact HGY.out))) ?_
  rintro e v8 ⟨rB, kB, rfl, ho, gg⟩
  obtain ⟨gB, rfl⟩ := ho.addr (by omega)
  have RB := Lib.hid (ho.mono (Nat.zero_le _))
  clear ho
  replace E := Lib.hid (E.out.trans gg)
  replace HQ := Lib.hid (HQ.out.ext gg)
  replace HX := Lib.hid (HX.out.ext gg)
  replace HY := Lib.hid (HY.out.ext gg)
  replace RZ := Lib.hid (RZ.out.ext gg)
  replace RV := Lib.hid (RV.out.ext gg)
  replace RW := Lib.hid (RW.out.ext gg)
  replace RA := Lib.hid (RA.out.ext gg)
  replace C0 := Lib.hid (gg.cell (p := ⟨O, 0, none⟩) C0.out)
  replace C1 := Lib.hid (gg.cell (p := ⟨O, 1, none⟩) C1.out)
  clear gg
  have x00 := C0.out
  have x01 := C1.out
  go_wp2_with (fail)
  clear x00 x01
  refine Calls.mono (c_WedgeProduct_ok p a d cap qs _ N _ (t) _ N _ (x) v8 (by omega) (by omega) (by omega) HQ.out RW.out.rd HX.out (codeM_two0 HSP.out (by rw [← HNQ.out]; exact HGW.out) (by rw [← HNQ.out]; exact HGX.out))) ?_
  rintro e v9 ⟨rC, kC, rfl, ho, gg⟩
  obtain ⟨gC, rfl⟩ := ho.addr (by omega)
  have RC := Lib.hid (ho.mono (Nat.zero_le _))
  clear ho
  replace E := Lib.hid (E.out.trans gg)
  replace HQ := Lib.hid (HQ.out.ext gg)
  replace HX := Lib.hid (HX.out.ext gg)
  replace HY := Lib.hid (HY.out.ext gg)
  replace RZ := Lib.hid (RZ.out.ext gg)
  replace RV := Lib.hid (RV.out.ext gg)
  replace RW := Lib.hid (RW.out.ext gg)
  replace RA := Lib.hid (RA.out.ext gg)
  replace RB := Lib.hid (RB.out.ext gg)
  replace C0 := Lib.hid (gg.cell (p := ⟨O, 0, none⟩) C0.out)
  replace C1 := Lib.hid (gg.cell (p := ⟨O, 1, none⟩) C1.out)
  clear gg
  have x00 := C0.out
  have x01 := C1.out
  go_wp2_with (fail)
  clear x00 x01
  refine Calls.mono (c_LeftContraction_ok p a d cap qs _ N _ (prodL p qs tkW t x) _ N _ (y) v9 (by omega) (by omega) (by omega) HQ.out RC.out.rd HY.out (codeM_two0 HSP.out (by rw [← HNQ.out]; exact (HPG tkW t x).out) (by rw [← HNQ.out]; exact HGY.out))) ?_
  rintro e v10 ⟨rD, kD, rfl, ho, gg⟩
  obtain ⟨gD, rfl⟩ := ho.addr (by omega)
  have RD := Lib.hid (ho.mono (Nat.zero_le _))
  clear ho
  replace E := Lib.hid (E.out.trans gg)
  replace HQ := Lib.hid (HQ.out.ext gg)
  replace HX := Lib.hid (HX.out.ext gg)
  replace HY := Lib.hid (HY.out.ext gg)
  replace RZ := Lib.hid (RZ.out.ext gg)
  replace RV := Lib.hid (RV.out.ext gg)
  replace RW := Lib.hid (RW.out.ext gg)
  replace RA := Lib.hid (RA.out.ext gg)
  replace RB := Lib.hid (RB.out.ext gg)
  replace RC := Lib.hid (RC.out.ext gg)
  replace C0 := Lib.hid (gg.cell (p := ⟨O, 0, none⟩) C0.out)
  replace C1 := Lib.hid (gg.cell (p := ⟨O, 1, none⟩) C1.out)
  clear gg
  have x00 := C0.out
  have x01 := C1.out
  go_wp2_with (fail)
  clear x00 x01
  refine Calls.mono (c_LeftContraction_ok p a d cap qs _ N _ (t) _ N _ (prodL p qs tkL x y) v10 (by omega) (by omega) (by omega) HQ.out RW.out.rd RZ.out.rd (codeM_two0 HSP.out (by rw [← HNQ.out]; exact HGW.out) (by rw [← HNQ.out]; exact HZ.out))) ?_
  rintro e v11 ⟨rF, kF, rfl, ho, gg⟩
  obtain ⟨gF, rfl⟩ := ho.addr (by omega)
  have RF := Lib.hid (ho.mono (Nat.zero_le _))
  clear ho
  replace E := Lib.hid (E.out.trans gg)
  replace HQ := Lib.hid (HQ.out.ext gg)
  replace HX := Lib.hid (HX.out.ext gg)
  replace HY := Lib.hid (HY.out.ext gg)
  replace RZ := Lib.hid (RZ.out.ext gg)
  replace RV := Lib.hid (RV.out.ext gg)
  replace RW := Lib.hid (RW.out.ext gg)
  replace RA := Lib.hid (RA.out.ext gg)
  replace RB := Lib.hid (RB.out.ext gg)
  replace RC := Lib.hid (RC.out.ext gg)
  replace RD := Lib.hid (RD.out.ext gg)
  replace C0 := Lib.hid (gg.cell (p := ⟨O, 0, none⟩) C0.out)
  replace C1 := Lib.hid (gg.cell (p := ⟨O, 1, none⟩) C1.out)
  clear gg
  have x00 := C0.out
  have x01 := C1.out
  go_wp2_with (fail)
  clear x00 x01
  refine Calls.mono (c_ReverseOf_ok p a d cap qs _ _ (x) v11 HN.out HSP.out HQ.out HX.out HGX.out) ?_
  rintro e v12 ⟨gP, kP, rfl, ho, gg⟩
  have RP := Lib.hid (ho.mono (Nat.zero_le _))
  clear ho
  replace E := Lib.hid (E.out.trans gg)
  replace HQ := Lib.hid (HQ.out.ext gg)
  replace HX := Lib.hid (HX.out.ext gg)
  replace HY := Lib.hid (HY.out.ext gg)
  replace RZ := Lib.hid (RZ.out.ext gg)
  replace RV := Lib.hid (RV.out.ext gg)
  replace RW := Lib.hid (RW.out.ext gg)
  replace RA := Lib.hid (RA.out.ext gg)
  replace RB := Lib.hid (RB.out.ext gg)
  replace RC := Lib.hid (RC.out.ext gg)
  replace RD := Lib.hid (RD.out.ext gg)
  replace RF := Lib.hid (RF.out.ext gg)
  replace C0 := Lib.hid (gg.cell (p := ⟨O, 0, none⟩) C0.out)
  replace C1 := Lib.hid (gg.cell (p := ⟨O, 1, none⟩) C1.out)
  clear gg
  have HGP := Lib.hid (show Good p N (signL p revB (x) N) from sign_good (by omega) HGX.out)
  have x00 := C0.out
  have x01 := C1.out
  go_wp2_with (fail)
  clear x00 x01
  refine Calls.mono (c_ReverseOf_ok p a d cap qs _ _ (y) v12 HN.out HSP.out HQ.out HY.out HGY.out) ?_
  rintro e v13 ⟨gQ, kQ, rfl, ho, gg⟩
  have RQ := Lib.hid (ho.mono (Nat.zero_le _))
  clear ho
  replace E := Lib.hid (E.out.trans gg)
  replace HQ := Lib.hid (HQ.out.ext gg)
  replace HX := Lib.hid (HX.out.ext gg)
  replace HY := Lib.hid (HY.out.ext gg)
  replace RZ := Lib.hid (RZ.out.ext gg)
  replace RV := Lib.hid (RV.out.ext gg)
  replace RW := Lib.hid (RW.out.ext gg)
  replace RA := Lib.hid (RA.out.ext gg)
  replace RB := Lib.hid (RB.out.ext gg)
  replace RC := Lib.hid (RC.out.ext gg)
  replace RD := Lib.hid (RD.out.ext gg)
  replace RF := Lib.hid (RF.out.ext gg)
  replace RP := Lib.hid (RP.out.ext gg)
  replace C0 := Lib.hid (gg.cell (p := ⟨O, 0, none⟩) C0.out)
  replace C1 := Lib.hid (gg.cell (p := ⟨O, 1, none⟩) C1.out)
  clear gg
  have HGQ := Lib.hid (show Good p N (signL p revB (y) N) from sign_good (by omega) HGY.out)
  have x00 := C0.out
  have x01 := C1.out
  go_wp2_with (fail)
  clear x00 x01
  refine Calls.mono (c_ReverseOf_ok p a d cap qs _ _ (prodL p qs tkL x y) v13 HN.out HSP.out HQ.out RZ.out.rd HZ.out) ?_
  rintro e v14 ⟨gS2, kS2, rfl, ho, gg⟩
  have RS2 := Lib.hid (ho.mono (Nat.zero_le _))
  clear ho
  replace E := Lib.hid (E.out.trans gg)
  replace HQ := Lib.hid (HQ.out.ext gg)
  replace HX := Lib.hid (HX.out.ext gg)
  replace HY := Lib.hid (HY.out.ext gg)
  replace RZ := Lib.hid (RZ.out.ext gg)
  replace RV := Lib.hid (RV.out.ext gg)
  replace RW := Lib.hid (RW.out.ext gg)
  replace RA := Lib.hid (RA.out.ext gg)
  replace RB := Lib.hid (RB.out.ext gg)
  replace RC := Lib.hid (RC.out.ext gg)
  replace RD := Lib.hid (RD.out.ext gg)
  replace RF := Lib.hid (RF.out.ext gg)
  replace RP := Lib.hid (RP.out.ext gg)
  replace RQ := Lib.hid (RQ.out.ext gg)
  replace C0 := Lib.hid (gg.cell (p := ⟨O, 0, none⟩) C0.out)
  replace C1 := Lib.hid (gg.cell (p := ⟨O, 1, none⟩) C1.out)
  clear gg
  have HGS2 := Lib.hid (show Good p N (signL p revB (prodL p qs tkL x y) N) from sign_good (by omega) HZ.out)
  have x00 := C0.out
  have x01 := C1.out
  go_wp2_with (fail)
  clear x00 x01
  refine Calls.mono (c_RightContraction_ok p a d cap qs _ N _ (signL p revB y N) _ N _ (signL p revB x N) v14 (by omega) (by omega) (by omega) HQ.out RQ.out.rd RP.out.rd (codeM_two0 HSP.out (by rw [← HNQ.out]; exact HGQ.out) (by rw [← HNQ.out]; exact HGP.out))) ?_
  rintro e v15 ⟨rH, kH, rfl, ho, gg⟩
  obtain ⟨gH, rfl⟩ := ho.addr (by omega)
  have RH := Lib.hid (ho.mono (Nat.zero_le _))
  clear ho
  replace E := Lib.hid (E.out.trans gg)
  replace HQ := Lib.hid (HQ.out.ext gg)
  replace HX := Lib.hid (HX.out.ext gg)
  replace HY := Lib.hid (HY.out.ext gg)
  replace RZ := Lib.hid (RZ.out.ext gg)
  replace RV := Lib.hid (RV.out.ext gg)
  replace RW := Lib.hid (RW.out.ext gg)
  replace RA := Lib.hid (RA.out.ext gg)
  replace RB := Lib.hid (RB.out.ext gg)
  replace RC := Lib.hid (RC.out.ext gg)
  replace RD := Lib.hid (RD.out.ext gg)
  replace RF := Lib.hid (RF.out.ext gg)
  replace RP := Lib.hid (RP.out.ext gg)
  replace RQ := Lib.hid (RQ.out.ext gg)
  replace RS2 := Lib.hid (RS2.out.ext gg)
  replace C0 := Lib.hid (gg.cell (p := ⟨O, 0, none⟩) C0.out)
  replace C1 := Lib.hid (gg.cell (p := ⟨O, 1, none⟩) C1.out)
  clear gg
  have x00 := C0.out
  have x01 := C1.out
  go_wp2_with (fail)
  clear x00 x01
  refine Calls.mono (c_ScalarProduct_ok p a d cap qs _ N _ x _ N _ y v15 (by omega) (by omega) (by omega) HQ.out HX.out HY.out (codeM_two0 HSP.out (by rw [← HNQ.out]; exact HGX.out) (by rw [← HNQ.out]; exact HGY.out))) ?_
  rintro e v16 ⟨rfl, gg⟩
  replace E := Lib.hid (E.out.trans gg)
  replace HQ := Lib.hid (HQ.out.ext gg)
  replace HX := Lib.hid (HX.out.ext gg)
  replace HY := Lib.hid (HY.out.ext gg)
  replace RZ := Lib.hid (RZ.out.ext gg)
  replace RV := Lib.hid (RV.out.ext gg)
  replace RW := Lib.hid (RW.out.ext gg)
  replace RA := Lib.hid (RA.out.ext gg)
  replace RB := Lib.hid (RB.out.ext gg)
  replace RC := Lib.hid (RC.out.ext gg)
  replace RD := Lib.hid (RD.out.ext gg)
  replace RF := Lib.hid (RF.out.ext gg)
  replace RP := Lib.hid (RP.out.ext gg)
  replace RQ := Lib.hid (RQ.out.ext gg)
  replace RS2 := Lib.hid (RS2.out.ext gg)
  replace RH := Lib.hid (RH.out.ext gg)
  replace C0 := Lib.hid (gg.cell (p := ⟨O, 0, none⟩) C0.out)
  replace C1 := Lib.hid (gg.cell (p := ⟨O, 1, none⟩) C1.out)
  clear gg
  have x00 := C0.out
  have x01 := C1.out
  go_wp2_with (fail)
  clear x00 x01
  refine Calls.mono (l_times5 p a d cap qs _ _ (signL p revB x N) _ _ y v16 HN.out HSP.out HQ.out RP.out.rd HY.out HGP.out HGY.out) ?_
  rintro e v17 ⟨gK, kK, rfl, ho, gg⟩
  have RK := Lib.hid (ho.mono (Nat.zero_le _))
  clear ho
  replace E := Lib.hid (E.out.trans gg)
  replace HQ := Lib.hid (HQ.out.ext gg)
  replace HX := Lib.hid (HX.out.ext gg)
  replace HY := Lib.hid (HY.out.ext gg)
  replace RZ := Lib.hid (RZ.out.ext gg)
  replace RV := Lib.hid (RV.out.ext gg)
  replace RW := Lib.hid (RW.out.ext gg)
  replace RA := Lib.hid (RA.out.ext gg)
  replace RB := Lib.hid (RB.out.ext gg)
  replace RC := Lib.hid (RC.out.ext gg)
  replace RD := Lib.hid (RD.out.ext gg)
  replace RF := Lib.hid (RF.out.ext gg)
  replace RP := Lib.hid (RP.out.ext gg)
  replace RQ := Lib.hid (RQ.out.ext gg)
  replace RS2 := Lib.hid (RS2.out.ext gg)
  replace RH := Lib.hid (RH.out.ext gg)
  replace C0 := Lib.hid (gg.cell (p := ⟨O, 0, none⟩) C0.out)
  replace C1 := Lib.hid (gg.cell (p := ⟨O, 1, none⟩) C1.out)
  clear gg
  have hN0b : ((N : Int) == 0) = false := by simp; omega
  have HSC := Lib.hid (show scalL p qs x y = nth (prodL p qs tkA (signL p revB x N) y) 0 by unfold scalL; rw [← HNQ.out])
  rw [HSC.out]
  have hself : (nth (prodL p qs tkA (signL p revB x N) y) 0 == nth (prodL p qs tkA (signL p revB x N) y) 0) = true := by simp
  have hN00 : 0 < N := by omega
  have x00 := C0.out
  have x01 := C1.out
  go_wp2_with (fail)
  clear x00 x01
  have HV1 := Lib.hid (show prodL p qs tkA (vecL N v) y = plusL p (prodL p qs tkL (vecL N v) y) (prodL p qs tkW (vecL N v) y) 1 N by
    have := vec_prod (p := p) (qs := qs) (v := v) (y := y) (by omega) (by rw [HGV.out.1, HD.out])
    rw [← HNQ.out] at this; exact this)
  have HV2 := Lib.hid (show prodL p qs tkL (prodL p qs tkW t x) y = prodL p qs tkL t (prodL p qs tkL x y) from left_wedge (by omega) (by rw [HD.out]; exact hd6))
  have HV3 := Lib.hid (show prodL p qs tkR (signL p revB y N) (signL p revB x N) = signL p revB (prodL p qs tkL x y) N by
    rw [HNQ.out]; exact (rev_prod (p := p) (tk := tkL) (tk' := tkR) (by omega) (by rw [HD.out]; exact hd6) (fun a b => by unfold tkR tkL; rw [Nat.and_comm])).symm)
  replace E := Lib.hid (E.out.trans (ext_drew v17))
  replace HQ := Lib.hid (HQ.out.ext (ext_drew v17))
  replace HX := Lib.hid (HX.out.ext (ext_drew v17))
  replace HY := Lib.hid (HY.out.ext (ext_drew v17))
  replace RZ := Lib.hid (RZ.out.ext (ext_drew v17))
  replace RV := Lib.hid (RV.out.ext (ext_drew v17))
  replace RW := Lib.hid (RW.out.ext (ext_drew v17))
  replace RA := Lib.hid (RA.out.ext (ext_drew v17))
  replace RB := Lib.hid (RB.out.ext (ext_drew v17))
  replace RC := Lib.hid (RC.out.ext (ext_drew v17))
  replace RD := Lib.hid (RD.out.ext (ext_drew v17))
  replace RF := Lib.hid (RF.out.ext (ext_drew v17))
  replace RP := Lib.hid (RP.out.ext (ext_drew v17))
  replace RQ := Lib.hid (RQ.out.ext (ext_drew v17))
  replace RS2 := Lib.hid (RS2.out.ext (ext_drew v17))
  replace RH := Lib.hid (RH.out.ext (ext_drew v17))
  replace RK := Lib.hid (RK.out.ext (ext_drew v17))
  replace C0 := Lib.hid ((ext_drew v17).cell (p := ⟨O, 0, none⟩) C0.out)
  replace C1 := Lib.hid ((ext_drew v17).cell (p := ⟨O, 1, none⟩) C1.out)
  refine wp_region_lex [(3, .ownS 0 N (prodL p qs tkA (vecL N v) y)), (8, .ownS 0 N (plusL p (prodL p qs tkL (vecL N v) y) (prodL p qs tkW (vecL N v) y) 1 N)), (9, .val (.bool true)), (13, .val (.bool true)), (18, .val (.bool true))] (by kernel_rfl) (by kernel_rfl) ?_
  (refine LexW.pure (v := ?_) rfl rfl (fun w1 he => ?_) ?_; rotate_left; ( have x00 := (he.cell (p := ⟨O, 0, none⟩) C0.out); have x01 := (he.cell (p := ⟨O, 1, none⟩) C1.out); have xk := (RK.out.ext he).cell hN00; go_simp; rfl); simp only [Act.put, List.setIfInBounds_toArray, List.set_cons_zero, List.set_cons_succ])
  (refine LexW.pure (v := ?_) rfl rfl (fun w1 he => ?_) ?_; rotate_left; ( have x00 := (he.cell (p := ⟨O, 0, none⟩) C0.out); have x01 := (he.cell (p := ⟨O, 1, none⟩) C1.out); have xk := (RK.out.ext he).cell hN00; go_simp; rfl); simp only [Act.put, List.setIfInBounds_toArray, List.set_cons_zero, List.set_cons_succ])
  (refine LexW.pure (v := ?_) rfl rfl (fun w1 he => ?_) ?_; rotate_left; ( have x00 := (he.cell (p := ⟨O, 0, none⟩) C0.out); have x01 := (he.cell (p := ⟨O, 1, none⟩) C1.out); have xk := (RK.out.ext he).cell hN00; go_simp; rfl); simp only [Act.put, List.setIfInBounds_toArray, List.set_cons_zero, List.set_cons_succ])
  (refine LexW.callR (f := ?_) (args := ?_) rfl rfl (fun w1 => ?_) (fun w1 he hdep => ?_) (fun v hv => ?_); rotate_left 2; (go_simp; refine ⟨?_, ?_⟩ <;> rfl); ( refine (l_times5 p a d cap qs _ _ (vecL N v) _ _ y w1 HN.out HSP.out (HQ.out.ext he) (RV.out.rd.ext he) (HY.out.ext he) HGVV.out HGY.out).mono ?_; rintro e w2 ⟨g, rc, rfl, ho, g2⟩; exact ⟨_, rfl, g2, g, rc, rfl, ho.mono (Nat.zero_le _)⟩); simp only [Act.put, List.setIfInBounds_toArray, List.set_cons_zero, List.set_cons_succ])
  obtain ⟨_, g201, c201, rfl, _⟩ := hv
  (refine LexW.pure (v := ?_) rfl rfl (fun w1 he => ?_) ?_; rotate_left; ( have x00 := (he.cell (p := ⟨O, 0, none⟩) C0.out); have x01 := (he.cell (p := ⟨O, 1, none⟩) C1.out); have xk := (RK.out.ext he).cell hN00; go_simp; rfl); simp only [Act.put, List.setIfInBounds_toArray, List.set_cons_zero, List.set_cons_succ])
  (refine LexW.pure (v := ?_) rfl rfl (fun w1 he => ?_) ?_; rotate_left; ( have x00 := (he.cell (p := ⟨O, 0, none⟩) C0.out); have x01 := (he.cell (p := ⟨O, 1, none⟩) C1.out); have xk := (RK.out.ext he).cell hN00; go_simp; rfl); simp only [Act.put, List.setIfInBounds_toArray, List.set_cons_zero, List.set_cons_succ])
  (refine LexW.pure (v := ?_) rfl rfl (fun w1 he => ?_) ?_; rotate_left; ( have x00 := (he.cell (p := ⟨O, 0, none⟩) C0.out); have x01 := (he.cell (p := ⟨O, 1, none⟩) C1.out); have xk := (RK.out.ext he).cell hN00; go_simp; rfl); simp only [Act.put, List.setIfInBounds_toArray, List.set_cons_zero, List.set_cons_succ])
  (refine LexW.pure (v := ?_) rfl rfl (fun w1 he => ?_) ?_; rotate_left; ( have x00 := (he.cell (p := ⟨O, 0, none⟩) C0.out); have x01 := (he.cell (p := ⟨O, 1, none⟩) C1.out); have xk := (RK.out.ext he).cell hN00; go_simp; rfl); simp only [Act.put, List.setIfInBounds_toArray, List.set_cons_zero, List.set_cons_succ])
  (refine LexW.callR (f := ?_) (args := ?_) rfl rfl (fun w1 => ?_) (fun w1 he hdep => ?_) (fun v hv => ?_); rotate_left 2; (go_simp; refine ⟨?_, ?_⟩ <;> rfl); ( refine (l_plus5 p _ _ N _ _ (prodL p qs tkL (vecL N v) y) (prodL p qs tkW (vecL N v) y) 1 w1 (by omega) (by omega) (by omega) (by omega) (RA.out.rd.ext he) (RB.out.rd.ext he) (HPG _ _ _).out (HPG _ _ _).out).mono ?_; rintro e w2 ⟨g, rc, rfl, ho, g2⟩; exact ⟨_, rfl, g2, g, rc, rfl, ho.mono (Nat.zero_le _)⟩); simp only [Act.put, List.setIfInBounds_toArray, List.set_cons_zero, List.set_cons_succ])
  obtain ⟨_, g206, c206, rfl, _⟩ := hv
  (refine LexW.call (f := ?_) (args := ?_) rfl rfl (fun w1 => ?_) (fun w1 he hdep => ?_) ?_; rotate_left 2; (go_simp; refine ⟨?_, ?_⟩ <;> rfl); ( obtain ⟨_, _, q201, r201⟩ : (SPred.ownS 0 N (prodL p qs tkA (vecL N v) y)).holds (.slice (some ⟨g201, 0, none⟩) N c201) w1 := hdep (3, 201) (by decide +kernel); cases q201; obtain ⟨_, _, q206, r206⟩ : (SPred.ownS 0 N (plusL p (prodL p qs tkL (vecL N v) y) (prodL p qs tkW (vecL N v) y) 1 N)).holds (.slice (some ⟨g206, 0, none⟩) N c206) w1 := hdep (8, 206) (by decide +kernel); cases q206; have H := l_like (some ⟨g201, 0, none⟩) (some ⟨g206, 0, none⟩) N N c201 c206 _ _ w1 (by omega) (by omega) r201.rd r206.rd; rw [HV1.out, eqB_self] at H; exact H); simp only [Act.put, List.setIfInBounds_toArray, List.set_cons_zero, List.set_cons_succ])
  (refine LexW.pure (v := ?_) rfl rfl (fun w1 he => ?_) ?_; rotate_left; ( have x00 := (he.cell (p := ⟨O, 0, none⟩) C0.out); have x01 := (he.cell (p := ⟨O, 1, none⟩) C1.out); have xk := (RK.out.ext he).cell hN00; go_simp; rfl); simp only [Act.put, List.setIfInBounds_toArray, List.set_cons_zero, List.set_cons_succ])
  (refine LexW.pure (v := ?_) rfl rfl (fun w1 he => ?_) ?_; rotate_left; ( have x00 := (he.cell (p := ⟨O, 0, none⟩) C0.out); have x01 := (he.cell (p := ⟨O, 1, none⟩) C1.out); have xk := (RK.out.ext he).cell hN00; go_simp; rfl); simp only [Act.put, List.setIfInBounds_toArray, List.set_cons_zero, List.set_cons_succ])
  (refine LexW.pure (v := ?_) rfl rfl (fun w1 he => ?_) ?_; rotate_left; ( have x00 := (he.cell (p := ⟨O, 0, none⟩) C0.out); have x01 := (he.cell (p := ⟨O, 1, none⟩) C1.out); have xk := (RK.out.ext he).cell hN00; go_simp; rfl); simp only [Act.put, List.setIfInBounds_toArray, List.set_cons_zero, List.set_cons_succ])
  (refine LexW.call (f := ?_) (args := ?_) rfl rfl (fun w1 => ?_) (fun w1 he hdep => ?_) ?_; rotate_left 2; (go_simp; refine ⟨?_, ?_⟩ <;> rfl); ( have H := l_like (some ⟨gD, 0, none⟩) (some ⟨gF, 0, none⟩) N N kD kF _ _ w1 (by omega) (by omega) (RD.out.rd.ext he) (RF.out.rd.ext he); rw [HV2.out, eqB_self] at H; exact H); simp only [Act.put, List.setIfInBounds_toArray, List.set_cons_zero, List.set_cons_succ])
  (refine LexW.pure (v := ?_) rfl rfl (fun w1 he => ?_) ?_; rotate_left; ( have x00 := (he.cell (p := ⟨O, 0, none⟩) C0.out); have x01 := (he.cell (p := ⟨O, 1, none⟩) C1.out); have xk := (RK.out.ext he).cell hN00; go_simp; rfl); simp only [Act.put, List.setIfInBounds_toArray, List.set_cons_zero, List.set_cons_succ])
  (refine LexW.pure (v := ?_) rfl rfl (fun w1 he => ?_) ?_; rotate_left; ( have x00 := (he.cell (p := ⟨O, 0, none⟩) C0.out); have x01 := (he.cell (p := ⟨O, 1, none⟩) C1.out); have xk := (RK.out.ext he).cell hN00; go_simp; rfl); simp only [Act.put, List.setIfInBounds_toArray, List.set_cons_zero, List.set_cons_succ])
  (refine LexW.pure (v := ?_) rfl rfl (fun w1 he => ?_) ?_; rotate_left; ( have x00 := (he.cell (p := ⟨O, 0, none⟩) C0.out); have x01 := (he.cell (p := ⟨O, 1, none⟩) C1.out); have xk := (RK.out.ext he).cell hN00; go_simp; rfl); simp only [Act.put, List.setIfInBounds_toArray, List.set_cons_zero, List.set_cons_succ])
  (refine LexW.pure (v := ?_) rfl rfl (fun w1 he => ?_) ?_; rotate_left; ( have x00 := (he.cell (p := ⟨O, 0, none⟩) C0.out); have x01 := (he.cell (p := ⟨O, 1, none⟩) C1.out); have xk := (RK.out.ext he).cell hN00; go_simp; rfl); simp only [Act.put, List.setIfInBounds_toArray, List.set_cons_zero, List.set_cons_succ])
  (refine LexW.call (f := ?_) (args := ?_) rfl rfl (fun w1 => ?_) (fun w1 he hdep => ?_) ?_; rotate_left 2; (go_simp; refine ⟨?_, ?_⟩ <;> rfl); ( have H := l_like (some ⟨gH, 0, none⟩) (some ⟨gS2, 0, none⟩) N N kH kS2 _ _ w1 (by omega) (by omega) (RH.out.rd.ext he) (RS2.out.rd.ext he); rw [HV3.out, eqB_self] at H; exact H); simp only [Act.put, List.setIfInBounds_toArray, List.set_cons_zero, List.set_cons_succ])
  (refine LexW.pure (v := ?_) rfl rfl (fun w1 he => ?_) ?_; rotate_left; ( have x00 := (he.cell (p := ⟨O, 0, none⟩) C0.out); have x01 := (he.cell (p := ⟨O, 1, none⟩) C1.out); have xk := (RK.out.ext he).cell hN00; go_simp; rfl); simp only [Act.put, List.setIfInBounds_toArray, List.set_cons_zero, List.set_cons_succ])
  (refine LexW.pure (v := ?_) rfl rfl (fun w1 he => ?_) ?_; rotate_left; ( have x00 := (he.cell (p := ⟨O, 0, none⟩) C0.out); have x01 := (he.cell (p := ⟨O, 1, none⟩) C1.out); have xk := (RK.out.ext he).cell hN00; go_simp; rfl); simp only [Act.put, List.setIfInBounds_toArray, List.set_cons_zero, List.set_cons_succ])
  (refine LexW.pure (v := ?_) rfl rfl (fun w1 he => ?_) ?_; rotate_left; ( have x00 := (he.cell (p := ⟨O, 0, none⟩) C0.out); have x01 := (he.cell (p := ⟨O, 1, none⟩) C1.out); have xk := (RK.out.ext he).cell hN00; go_simp; rfl); simp only [Act.put, List.setIfInBounds_toArray, List.set_cons_zero, List.set_cons_succ])
  (refine LexW.pure (v := ?_) rfl rfl (fun w1 he => ?_) ?_; rotate_left; ( have x00 := (he.cell (p := ⟨O, 0, none⟩) C0.out); have x01 := (he.cell (p := ⟨O, 1, none⟩) C1.out); have xk := (RK.out.ext he).cell hN00; go_simp; rfl); simp only [Act.put, List.setIfInBounds_toArray, List.set_cons_zero, List.set_cons_succ])
  (refine LexW.pure (v := ?_) rfl rfl (fun w1 he => ?_) ?_; rotate_left; ( have x00 := (he.cell (p := ⟨O, 0, none⟩) C0.out); have x01 := (he.cell (p := ⟨O, 1, none⟩) C1.out); have xk := (RK.out.ext he).cell hN00; go_simp; rfl); simp only [Act.put, List.setIfInBounds_toArray, List.set_cons_zero, List.set_cons_succ])
  (refine LexW.pure (v := ?_) rfl rfl (fun w1 he => ?_) ?_; rotate_left; ( have x00 := (he.cell (p := ⟨O, 0, none⟩) C0.out); have x01 := (he.cell (p := ⟨O, 1, none⟩) C1.out); have xk := (RK.out.ext he).cell hN00; go_simp; rfl); simp only [Act.put, List.setIfInBounds_toArray, List.set_cons_zero, List.set_cons_succ])
  (refine LexW.pure (v := ?_) rfl rfl (fun w1 he => ?_) ?_; rotate_left; ( have x00 := (he.cell (p := ⟨O, 0, none⟩) C0.out); have x01 := (he.cell (p := ⟨O, 1, none⟩) C1.out); have xk := (RK.out.ext he).cell hN00; go_simp; rfl); simp only [Act.put, List.setIfInBounds_toArray, List.set_cons_zero, List.set_cons_succ])
  (refine LexW.pure (v := ?_) rfl rfl (fun w1 he => ?_) ?_; rotate_left; ( have x00 := (he.cell (p := ⟨O, 0, none⟩) C0.out); have x01 := (he.cell (p := ⟨O, 1, none⟩) C1.out); have xk := (RK.out.ext he).cell hN00; go_simp; rfl); simp only [Act.put, List.setIfInBounds_toArray, List.set_cons_zero, List.set_cons_succ])
  (refine LexW.pure (v := ?_) rfl rfl (fun w1 he => ?_) ?_; rotate_left; ( have x00 := (he.cell (p := ⟨O, 0, none⟩) C0.out); have x01 := (he.cell (p := ⟨O, 1, none⟩) C1.out); have xk := (RK.out.ext he).cell hN00; go_simp; rfl); simp only [Act.put, List.setIfInBounds_toArray, List.set_cons_zero, List.set_cons_succ])
  refine LexW.nil (fun w3 he hkn => ?_)
  have HE := Lib.hid he
  clear he hkn 
  rename World => v18
  replace E := Lib.hid (E.out.trans HE.out)
  replace HQ := Lib.hid (HQ.out.ext HE.out)
  replace HX := Lib.hid (HX.out.ext HE.out)
  replace HY := Lib.hid (HY.out.ext HE.out)
  replace RZ := Lib.hid (RZ.out.ext HE.out)
  replace RV := Lib.hid (RV.out.ext HE.out)
  replace RW := Lib.hid (RW.out.ext HE.out)
  replace RA := Lib.hid (RA.out.ext HE.out)
  replace RB := Lib.hid (RB.out.ext HE.out)
  replace RC := Lib.hid (RC.out.ext HE.out)
  replace RD := Lib.hid (RD.out.ext HE.out)
  replace RF := Lib.hid (RF.out.ext HE.out)
  replace RP := Lib.hid (RP.out.ext HE.out)
  replace RQ := Lib.hid (RQ.out.ext HE.out)
  replace RS2 := Lib.hid (RS2.out.ext HE.out)
  replace RH := Lib.hid (RH.out.ext HE.out)
  replace RK := Lib.hid (RK.out.ext HE.out)
  replace C0 := Lib.hid (HE.out.cell (p := ⟨O, 0, none⟩) C0.out)
  replace C1 := Lib.hid (HE.out.cell (p := ⟨O, 1, none⟩) C1.out)
  clear HE
  go_wp2_with (fail)
  go_ret
  exact ⟨rfl, E.out⟩
end Go.Proofs.Ytbgnfjckbjmgbaa
