/-
  The law FnMultiplications returns true.
  No condition.
-/
import Derived.Test.YtbgnfjckbjmgbaaPart12
namespace Go.Proofs.Ytbgnfjckbjmgbaa
set_option maxRecDepth 100000
open Go.RowKit

/-- A matrix of the call's own with code 0. -/
def SPred.tupR (B n : Nat) (rows : List (List Int)) : SPred :=
  ⟨fun v w => ∃ ra rc, v = .tuple #[.slice ra n rc, .int .i64 0] ∧ OwnR B w ra n rc rows, fun _ _ _ ⟨ra, rc, h1, h2⟩ he => ⟨ra, rc, h1, h2.ext he⟩⟩

set_option maxHeartbeats 8000000 in
set_option maxRecDepth 100000 in
theorem law_Multiplications (w : World) (ac : Option Addr) (nc cc : Nat) (hb : RdY w ac nc) :
    Calls Try.prog 8 #[.slice ac nc cc] w fun e w' => e = .returned (.bool true) ∧ Ext w w' := by
  have HB := Lib.hid hb
  clear hb
  go_enter Try.func8, Try.ntmps8
  go_wp2_with (fail)
  refine Calls.mono (l_big ac nc cc w) ?_
  rintro e w1 ⟨rfl, g0⟩
  have E := Lib.hid g0
  by_cases hbig : 4096 < nc
  · have hbb : decide (4096 < nc) = true := by simp [hbig]
    rw [hbb]
    go_wp2_with (fail)
    go_ret
    exact ⟨rfl, E.out⟩
  have hbb : decide (4096 < nc) = false := by simp [hbig]
  rw [hbb]
  clear g0 hbb
  go_wp2_with (fail)
  refine Calls.mono (s_drawLeftMatrix ac nc cc w1 (by omega) (HB.out.ext E.out)) ?_
  rintro e w2 ⟨p, a, d, cap, qs, ax, nx, cx, x, rfl, hp0, hp1, hd, hnx, hq, hx, g1⟩
  have E1 := Lib.hid g1
  replace E := Lib.hid (E.out.trans g1)
  have HQ := Lib.hid hq.rd
  have HX := Lib.hid hx.rd
  clear hq hx g1
  go_wp2_with (fail)
  obtain ⟨O, hO⟩ : ∃ O, O = w2.heap.size := ⟨_, rfl⟩
  obtain ⟨W, hW⟩ : ∃ W, W = w2.alloc (.cells #[.int .i64 p, .slice a d cap] 26) := ⟨_, rfl⟩
  have C0 := Lib.hid (show W.cell? ⟨O, 0, none⟩ = some (.int .i64 p) by rw [hW, hO]; simp)
  have C1 := Lib.hid (show W.cell? ⟨O, 1, none⟩ = some (.slice a d cap) by rw [hW, hO]; simp)
  have gg : Ext w2 W := by rw [hW]; exact ext_alloc _ _
  rw [← hO, ← hW]
  clear hO hW E1
  replace E := Lib.hid (E.out.trans gg)
  replace HQ := Lib.hid (HQ.out.ext gg)
  replace HX := Lib.hid (HX.out.ext gg)
  clear gg
  by_cases hca : codeA p qs [x] ≠ 0
  · skip
    have HCA := Lib.hid hca
    obtain ⟨cc0, hcc0⟩ : ∃ z, z = codeA p qs [x] := ⟨_, rfl⟩
    have HCC := Lib.hid hcc0
    have hb0 : (cc0 != 0) = true := by rw [hcc0]; simp [hca]
    clear hca hcc0
    have x00 := C0.out
    have x01 := C1.out
    go_wp2_with (fail)
    clear x00 x01
    refine Calls.mono (c_LeftMatrix_bad p a d cap qs ax nx cx x W (by omega) (by omega) HQ.out HX.out HCA.out) ?_
    rintro e v1 ⟨m1, k1, rfl, ho, gg⟩
    have M1 := Lib.hid ho.rd
    clear ho
    replace E := Lib.hid (E.out.trans gg)
    replace HQ := Lib.hid (HQ.out.ext gg)
    replace HX := Lib.hid (HX.out.ext gg)
    replace C0 := Lib.hid (gg.cell (p := ⟨O, 0, none⟩) C0.out)
    replace C1 := Lib.hid (gg.cell (p := ⟨O, 1, none⟩) C1.out)
    clear gg
    rw [← HCC.out]
    have x00 := C0.out
    have x01 := C1.out
    go_wp2_with (fail)
    clear x00 x01
    refine Calls.mono (s_LeftMatrix_bad p a d cap qs ax nx cx x v1 (by omega) (by omega) HQ.out HX.out HCA.out) ?_
    rintro e v2 ⟨m2, k2, rfl, ho, gg⟩
    have M2 := Lib.hid ho.rd
    clear ho
    replace E := Lib.hid (E.out.trans gg)
    replace HQ := Lib.hid (HQ.out.ext gg)
    replace HX := Lib.hid (HX.out.ext gg)
    replace M1 := Lib.hid (M1.out.ext gg)
    replace C0 := Lib.hid (gg.cell (p := ⟨O, 0, none⟩) C0.out)
    replace C1 := Lib.hid (gg.cell (p := ⟨O, 1, none⟩) C1.out)
    clear gg
    rw [← HCC.out]
    have x00 := C0.out
    have x01 := C1.out
    go_wp2_with (fail)
    clear x00 x01
    refine Calls.mono (c_RightMatrix_bad p a d cap qs ax nx cx x v2 (by omega) (by omega) HQ.out HX.out HCA.out) ?_
    rintro e v3 ⟨m3, k3, rfl, ho, gg⟩
    have M3 := Lib.hid ho.rd
    clear ho
    replace E := Lib.hid (E.out.trans gg)
    replace HQ := Lib.hid (HQ.out.ext gg)
    replace HX := Lib.hid (HX.out.ext gg)
    replace M1 := Lib.hid (M1.out.ext gg)
    replace M2 := Lib.hid (M2.out.ext gg)
    replace C0 := Lib.hid (gg.cell (p := ⟨O, 0, none⟩) C0.out)
    replace C1 := Lib.hid (gg.cell (p := ⟨O, 1, none⟩) C1.out)
    clear gg
    rw [← HCC.out]
    have x00 := C0.out
    have x01 := C1.out
    go_wp2_with (fail)
    clear x00 x01
    refine Calls.mono (s_RightMatrix_bad p a d cap qs ax nx cx x v3 (by omega) (by omega) HQ.out HX.out HCA.out) ?_
    rintro e v4 ⟨m4, k4, rfl, ho, gg⟩
    have M4 := Lib.hid ho.rd
    clear ho
    replace E := Lib.hid (E.out.trans gg)
    replace HQ := Lib.hid (HQ.out.ext gg)
    replace HX := Lib.hid (HX.out.ext gg)
    replace M1 := Lib.hid (M1.out.ext gg)
    replace M2 := Lib.hid (M2.out.ext gg)
    replace M3 := Lib.hid (M3.out.ext gg)
    replace C0 := Lib.hid (gg.cell (p := ⟨O, 0, none⟩) C0.out)
    replace C1 := Lib.hid (gg.cell (p := ⟨O, 1, none⟩) C1.out)
    clear gg
    rw [← HCC.out]
    have x00 := C0.out
    have x01 := C1.out
    go_wp2_with (fail)
    clear x00 x01
    have H := l_likeRows m1 m2 0 0 k1 k2 _ _ v4 (by omega) (by omega) (fun i hi => absurd hi (Nat.not_lt_zero i)) (fun i hi => absurd hi (Nat.not_lt_zero i)) M1.out M2.out
    rw [eqR_self] at H
    refine Calls.mono H ?_
    clear H
    rintro e v5 ⟨rfl, gg⟩
    replace E := Lib.hid (E.out.trans gg)
    replace HQ := Lib.hid (HQ.out.ext gg)
    replace HX := Lib.hid (HX.out.ext gg)
    replace M1 := Lib.hid (M1.out.ext gg)
    replace M2 := Lib.hid (M2.out.ext gg)
    replace M3 := Lib.hid (M3.out.ext gg)
    replace M4 := Lib.hid (M4.out.ext gg)
    replace C0 := Lib.hid (gg.cell (p := ⟨O, 0, none⟩) C0.out)
    replace C1 := Lib.hid (gg.cell (p := ⟨O, 1, none⟩) C1.out)
    clear gg
    have x00 := C0.out
    have x01 := C1.out
    go_wp2_with (fail)
    clear x00 x01
    have H := l_likeRows m3 m4 0 0 k3 k4 _ _ v5 (by omega) (by omega) (fun i hi => absurd hi (Nat.not_lt_zero i)) (fun i hi => absurd hi (Nat.not_lt_zero i)) M3.out M4.out
    rw [eqR_self] at H
    refine Calls.mono H ?_
    clear H
    rintro e v6 ⟨rfl, gg⟩
    replace E := Lib.hid (E.out.trans gg)
    replace HQ := Lib.hid (HQ.out.ext gg)
    replace HX := Lib.hid (HX.out.ext gg)
    replace M1 := Lib.hid (M1.out.ext gg)
    replace M2 := Lib.hid (M2.out.ext gg)
    replace M3 := Lib.hid (M3.out.ext gg)
    replace M4 := Lib.hid (M4.out.ext gg)
    replace C0 := Lib.hid (gg.cell (p := ⟨O, 0, none⟩) C0.out)
    replace C1 := Lib.hid (gg.cell (p := ⟨O, 1, none⟩) C1.out)
    clear gg
    go_wp2_with (fail)
    go_ret
    exact ⟨rfl, E.out⟩
  replace hca : codeA p qs [x] = 0 := by simpa using hca
  obtain ⟨hs, hgx, h4⟩ := codeA_of hca
  have HCA := Lib.hid hca
  have HSP := Lib.hid (hs)
  obtain ⟨hpr, hd1, hd6, hqb⟩ := space_of HSP.out
  have hpb := prime_bd hpr
  have HPR := Lib.hid hpr
  have HQB := Lib.hid hqb
  have HD := Lib.hid HQ.out.1
  rw [HD.out] at hd6 hd1
  obtain ⟨N, hN⟩ : ∃ N, N = 2 ^ d := ⟨_, rfl⟩
  have HN := Lib.hid hN
  have hN6 : N ≤ 64 := by rw [hN]; exact pow_le64 hd6
  have hN1 : 1 ≤ N := by rw [hN]; exact pow_pos' d
  have HPG := fun (tk : Nat → Nat → Bool) (x y : List Int) => Lib.hid (show Good p N (prodL p qs tk x y) by rw [hN, ← HD.out]; exact prod_good (by omega))
  have HNQ := Lib.hid (show N = 2 ^ qs.length by rw [hN, HD.out])
  clear hN hqb hpr
  obtain rfl : N = nx := by rw [← HX.out.1, HNQ.out]; exact hgx.1.symm
  have HGX := Lib.hid (show Good p N x by rw [HNQ.out]; exact hgx)
  clear hgx
  have h4' : d ≤ 4 := by rw [← HD.out]; exact h4
  have hN16 : N ≤ 16 := by rw [HN.out]; exact Nat.le_trans (Nat.pow_le_pow_right (by omega) h4') (by decide)
  have HML := Lib.hid (show ∀ (z : List Int) (b : Bool), ∀ i, i < N → Good p N (nthR (matM p qs z b) i) from fun z b i hi => by
    have := matM_good (p := p) (qs := qs) (x := z) (left := b) (by omega) i (by rw [matM_len, ← HNQ.out]; exact hi)
    rw [← HNQ.out] at this; exact this)
  have HLL := Lib.hid (show ∀ (z : List Int) (b : Bool), ∀ i, i < N → (nthR (matM p qs z b) i).length ≤ 4194304 from fun z b i hi => by rw [(HML.out z b i hi).1]; omega)
  have HCO := Lib.hid (show ∀ z, Good p N z → codeA p qs [z] = 0 from fun z hz => by
    unfold codeA
    rw [codeM_one0 hs (by rw [← HNQ.out]; exact hz), if_pos rfl, if_pos h4])
  have HAP := Lib.hid (show ∀ (z y : List Int) (b : Bool), appL p (matM p qs z b) y N N = actP p qs z b y from fun z y b => by
    rw [HNQ.out]; exact app_mat (by omega) (by rw [HD.out]; exact hd6))
  have HAL := Lib.hid (show ∀ y, matM p qs (prodL p qs tkA x y) true = mulL p (matM p qs x true) (matM p qs y true) N N N from fun y => by
    rw [HNQ.out]; exact mats_left (by omega) (by rw [HD.out]; exact hd6))
  have HAR := Lib.hid (show ∀ y, matM p qs (prodL p qs tkA x y) false = mulL p (matM p qs y false) (matM p qs x false) N N N from fun y => by
    rw [HNQ.out]; exact mats_right (by omega) (by rw [HD.out]; exact hd6))
  have HSW := Lib.hid (show ∀ y, mulL p (matM p qs x true) (matM p qs y false) N N N = mulL p (matM p qs y false) (matM p qs x true) N N N from fun y => by
    rw [HNQ.out]; exact mats_swap (by omega) (by rw [HD.out]; exact hd6))
  have HMU := Lib.hid (show ∀ (u v : List (List Int)), ∀ i, i < N → (nthR (mulL p u v N N N) i).length ≤ 4194304 from fun u v i hi => by rw [mulL_row hi]; omega)
  clear hca h4 h4' hs
  have x00 := C0.out
  have x01 := C1.out
  go_wp2_with (fail)
  clear x00 x01
  refine Calls.mono (c_LeftMatrix_ok p a d cap qs ax N cx x W (by omega) (by omega) HQ.out HX.out HCA.out) ?_
  rintro e v1 ⟨m1, k1, rfl, ho, gg⟩
  have M1 := Lib.hid ho.rd
  clear ho
  replace E := Lib.hid (E.out.trans gg)
  replace HQ := Lib.hid (HQ.out.ext gg)
  replace HX := Lib.hid (HX.out.ext gg)
  replace C0 := Lib.hid (gg.cell (p := ⟨O, 0, none⟩) C0.out)
  replace C1 := Lib.hid (gg.cell (p := ⟨O, 1, none⟩) C1.out)
  clear gg
  have x00 := C0.out
  have x01 := C1.out
  go_wp2_with (fail)
  clear x00 x01
  refine Calls.mono (s_LeftMatrix_ok p a d cap qs ax N cx x v1 (by omega) (by omega) HQ.out HX.out HCA.out) ?_
  rintro e v2 ⟨m2, k2, rfl, ho, gg⟩
  have M2 := Lib.hid ho.rd
  clear ho
  replace E := Lib.hid (E.out.trans gg)
  replace HQ := Lib.hid (HQ.out.ext gg)
  replace HX := Lib.hid (HX.out.ext gg)
  replace M1 := Lib.hid (M1.out.ext gg)
  replace C0 := Lib.hid (gg.cell (p := ⟨O, 0, none⟩) C0.out)
  replace C1 := Lib.hid (gg.cell (p := ⟨O, 1, none⟩) C1.out)
  clear gg
  have x00 := C0.out
  have x01 := C1.out
  go_wp2_with (fail)
  clear x00 x01
  refine Calls.mono (c_RightMatrix_ok p a d cap qs ax N cx x v2 (by omega) (by omega) HQ.out HX.out HCA.out) ?_
  rintro e v3 ⟨m3, k3, rfl, ho, gg⟩
  have M3 := Lib.hid ho.rd
  clear ho
  replace E := Lib.hid (E.out.trans gg)
  replace HQ := Lib.hid (HQ.out.ext gg)
  replace HX := Lib.hid (HX.out.ext gg)
  replace M1 := Lib.hid (M1.out.ext gg)
  replace M2 := Lib.hid (M2.out.ext gg)
  replace C0 := Lib.hid (gg.cell (p := ⟨O, 0, none⟩) C0.out)
  replace C1 := Lib.hid (gg.cell (p := ⟨O, 1, none⟩) C1.out)
  clear gg
  have x00 := C0.out
  have x01 := C1.out
  go_wp2_with (fail)
  clear x00 x01
  refine Calls.mono (s_RightMatrix_ok p a d cap qs ax N cx x v3 (by omega) (by omega) HQ.out HX.out HCA.out) ?_
  rintro e v4 ⟨m4, k4, rfl, ho, gg⟩
  have M4 := Lib.hid ho.rd
  clear ho
  replace E := Lib.hid (E.out.trans gg)
  replace HQ := Lib.hid (HQ.out.ext gg)
  replace HX := Lib.hid (HX.out.ext gg)
  replace M1 := Lib.hid (M1.out.ext gg)
  replace M2 := Lib.hid (M2.out.ext gg)
  replace M3 := Lib.hid (M3.out.ext gg)
  replace C0 := Lib.hid (gg.cell (p := ⟨O, 0, none⟩) C0.out)
  replace C1 := Lib.hid (gg.cell (p := ⟨O, 1, none⟩) C1.out)
  clear gg
  have x00 := C0.out
  have x01 := C1.out
  go_wp2_with (fail)
  clear x00 x01
  have H := l_likeRows m1 m2 N N k1 k2 _ _ v4 (by omega) (by omega) (HLL.out x true) (HLL.out x true) M1.out M2.out
  rw [eqR_self] at H
  refine Calls.mono H ?_
  clear H
  rintro e v5 ⟨rfl, gg⟩
  replace E := Lib.hid (E.out.trans gg)
  replace HQ := Lib.hid (HQ.out.ext gg)
  replace HX := Lib.hid (HX.out.ext gg)
  replace M1 := Lib.hid (M1.out.ext gg)
  replace M2 := Lib.hid (M2.out.ext gg)
  replace M3 := Lib.hid (M3.out.ext gg)
  replace M4 := Lib.hid (M4.out.ext gg)
  replace C0 := Lib.hid (gg.cell (p := ⟨O, 0, none⟩) C0.out)
  replace C1 := Lib.hid (gg.cell (p := ⟨O, 1, none⟩) C1.out)
  clear gg
  have x00 := C0.out
  have x01 := C1.out
  go_wp2_with (fail)
  clear x00 x01
  have H := l_likeRows m3 m4 N N k3 k4 _ _ v5 (by omega) (by omega) (HLL.out x false) (HLL.out x false) M3.out M4.out
  rw [eqR_self] at H
  refine Calls.mono H ?_
  clear H
  rintro e v6 ⟨rfl, gg⟩
  replace E := Lib.hid (E.out.trans gg)
  replace HQ := Lib.hid (HQ.out.ext gg)
  replace HX := Lib.hid (HX.out.ext gg)
  replace M1 := Lib.hid (M1.out.ext gg)
  replace M2 := Lib.hid (M2.out.ext gg)
  replace M3 := Lib.hid (M3.out.ext gg)
  replace M4 := Lib.hid (M4.out.ext gg)
  replace C0 := Lib.hid (gg.cell (p := ⟨O, 0, none⟩) C0.out)
  replace C1 := Lib.hid (gg.cell (p := ⟨O, 1, none⟩) C1.out)
  clear gg
  clear M2 M4
  have x00 := C0.out
  have x01 := C1.out
  go_wp2_with (fail)
  clear x00 x01
  refine Calls.mono (l_roll ac nc cc 842 v6 (by omega) (HB.out.ext E.out)) ?_
  rintro e v7 ⟨g, rfl, hg, hS, gg⟩
  obtain ⟨S, hSe⟩ : ∃ S : SrcP, S = ⟨g, ac, nc, cc⟩ := ⟨_, rfl⟩
  obtain rfl : g = S.g := by rw [hSe]
  rw [← hSe] at hS
  have HS := Lib.hid hS
  have E0 := Lib.hid gg
  have hgB : v6.heap.size ≤ S.g := hg
  have hgO : O ≠ S.g := by have := lt_of_cell C0.out; dsimp only at this; omega
  clear hSe hS gg hg
  have x00 := (E0.out.cell (p := ⟨O, 0, none⟩) C0.out)
  have x01 := (E0.out.cell (p := ⟨O, 1, none⟩) C1.out)
  go_wp2_with (fail)
  clear x00 x01
  replace E0 := Lib.hid (E0.out.trans (ext_drew v7))
  replace HS := Lib.hid ((Drw.of_ext (S := S) (ext_drew v7)).src HS.out)
  refine Chg.wp_region_lex (E := Drw.rel S) [(2, .val (.int .i64 N)), (5, .ownP S (S.g + 1) N (Good p N) (Nat.lt_succ_self _))] (by kernel_rfl) (by kernel_rfl) ?_
  (refine Chg.LexW.pure (v := ?_) rfl rfl (fun w1 he => ?_) ?_; rotate_left; ( have he' : Drw S _ _ := he; have x00 := (he'.cell (p := ⟨O, 0, none⟩) hgO (E0.out.cell (p := ⟨O, 0, none⟩) C0.out)); have x01 := (he'.cell (p := ⟨O, 1, none⟩) hgO (E0.out.cell (p := ⟨O, 1, none⟩) C1.out)); go_simp; rfl); simp only [Act.put, List.setIfInBounds_toArray, List.set_cons_zero, List.set_cons_succ])
  (refine Chg.LexW.pure (v := ?_) rfl rfl (fun w1 he => ?_) ?_; rotate_left; ( have he' : Drw S _ _ := he; have x00 := (he'.cell (p := ⟨O, 0, none⟩) hgO (E0.out.cell (p := ⟨O, 0, none⟩) C0.out)); have x01 := (he'.cell (p := ⟨O, 1, none⟩) hgO (E0.out.cell (p := ⟨O, 1, none⟩) C1.out)); go_simp; rfl); simp only [Act.put, List.setIfInBounds_toArray, List.set_cons_zero, List.set_cons_succ])
  (refine Chg.LexW.call (f := ?_) (args := ?_) rfl rfl (fun w1 => ?_) (fun w1 he hdep => ?_) ?_; rotate_left 2; (go_simp; refine ⟨?_, ?_⟩ <;> rfl); ( have he' : Drw S _ _ := he; have H := l_size5 p a d cap w1 hd6 HN.out; exact H.mono fun e w' h => ⟨h.1, Drw.of_ext h.2⟩); simp only [Act.put, List.setIfInBounds_toArray, List.set_cons_zero, List.set_cons_succ])
  (refine Chg.LexW.pure (v := ?_) rfl rfl (fun w1 he => ?_) ?_; rotate_left; ( have he' : Drw S _ _ := he; have x00 := (he'.cell (p := ⟨O, 0, none⟩) hgO (E0.out.cell (p := ⟨O, 0, none⟩) C0.out)); have x01 := (he'.cell (p := ⟨O, 1, none⟩) hgO (E0.out.cell (p := ⟨O, 1, none⟩) C1.out)); go_simp; rfl); simp only [Act.put, List.setIfInBounds_toArray, List.set_cons_zero, List.set_cons_succ])
  (refine Chg.LexW.pure (v := ?_) rfl rfl (fun w1 he => ?_) ?_; rotate_left; ( have he' : Drw S _ _ := he; have x00 := (he'.cell (p := ⟨O, 0, none⟩) hgO (E0.out.cell (p := ⟨O, 0, none⟩) C0.out)); have x01 := (he'.cell (p := ⟨O, 1, none⟩) hgO (E0.out.cell (p := ⟨O, 1, none⟩) C1.out)); go_simp; rfl); simp only [Act.put, List.setIfInBounds_toArray, List.set_cons_zero, List.set_cons_succ])
  (refine Chg.LexW.callR (f := ?_) (args := ?_) rfl rfl (fun w1 => ?_) (fun w1 he hdep => ?_) (fun v hv => ?_); rotate_left 2; (go_simp; refine ⟨?_, ?_⟩ <;> rfl); ( have he' : Drw S _ _ := he; (refine Calls.mono (l_list5 S p N _ (he'.src HS.out) (by omega) (by omega)) ?_; rintro e w9 ⟨a9, c9, x9, rfl, ho9, hb9, g9⟩; obtain ⟨g8, _, rfl, _⟩ := ho9.row (by omega); exact ⟨_, rfl, g9, g8, c9, x9, rfl, isB_Good ho9.1 (hb9 (by omega)), ho9.mono (Nat.le_trans HS.out.lt he'.size)⟩)); simp only [Act.put, List.setIfInBounds_toArray, List.set_cons_zero, List.set_cons_succ])
  obtain ⟨_, gY, cY, _, rfl, _⟩ := hv
  (refine Chg.LexW.pure (v := ?_) rfl rfl (fun w1 he => ?_) ?_; rotate_left; ( have he' : Drw S _ _ := he; have x00 := (he'.cell (p := ⟨O, 0, none⟩) hgO (E0.out.cell (p := ⟨O, 0, none⟩) C0.out)); have x01 := (he'.cell (p := ⟨O, 1, none⟩) hgO (E0.out.cell (p := ⟨O, 1, none⟩) C1.out)); go_simp; rfl); simp only [Act.put, List.setIfInBounds_toArray, List.set_cons_zero, List.set_cons_succ])
  refine Chg.LexW.nil (fun v8 he hkn => ?_)
  have gg : Drw S v7.drew v8 := he
  obtain ⟨_, _, y, qY, pY, rY⟩ : (Chg.SPred.ownP S (S.g + 1) N (Good p N) (Nat.lt_succ_self _)).holds (.slice (some ⟨gY, 0, none⟩) N cY) _ := hkn (5, _) (by simp)
  cases qY
  have RY := Lib.hid rY
  have HGY := Lib.hid pY
  clear rY pY
  replace E0 := Lib.hid (gg.toExt E0.out hgB)
  replace HS := Lib.hid (gg.src HS.out)
  clear gg he hkn
  replace E := Lib.hid (E.out.trans E0.out)
  replace HQ := Lib.hid (HQ.out.ext E0.out)
  replace HX := Lib.hid (HX.out.ext E0.out)
  replace M1 := Lib.hid (M1.out.ext E0.out)
  replace M3 := Lib.hid (M3.out.ext E0.out)
  replace C0 := Lib.hid (E0.out.cell (p := ⟨O, 0, none⟩) C0.out)
  replace C1 := Lib.hid (E0.out.cell (p := ⟨O, 1, none⟩) C1.out)
  clear E0 HS hgB hgO
  replace RY := Lib.hid (RY.out.mono (Nat.zero_le _))
  have HCY := Lib.hid (HCO.out y HGY.out)
  have HGP := Lib.hid (show Good p N (prodL p qs tkA x y) from (HPG tkA x y).out)
  have HCP := Lib.hid (HCO.out _ HGP.out)
  have x00 := C0.out
  have x01 := C1.out
  go_wp2_with (fail)
  clear x00 x01
  refine Calls.mono (c_ApplyMatrix_ok p m1 N k1 (matM p qs x true) _ N _ y v8 HPR.out (by omega) (by omega) (by omega) (by omega) M1.out (HML.out x true) RY.out.rd HGY.out) ?_
  rintro e v9 ⟨gP, cP, rfl, ho, gg⟩
  rw [HAP.out] at ho
  have RP := Lib.hid (ho.mono (Nat.zero_le _))
  clear ho
  replace E := Lib.hid (E.out.trans gg)
  replace HQ := Lib.hid (HQ.out.ext gg)
  replace HX := Lib.hid (HX.out.ext gg)
  replace M1 := Lib.hid (M1.out.ext gg)
  replace M3 := Lib.hid (M3.out.ext gg)
  replace RY := Lib.hid (RY.out.ext gg)
  replace C0 := Lib.hid (gg.cell (p := ⟨O, 0, none⟩) C0.out)
  replace C1 := Lib.hid (gg.cell (p := ⟨O, 1, none⟩) C1.out)
  clear gg
  have x00 := C0.out
  have x01 := C1.out
  go_wp2_with (fail)
  clear x00 x01
  refine Calls.mono (c_ApplyMatrix_ok p m3 N k3 (matM p qs x false) _ N _ y v9 HPR.out (by omega) (by omega) (by omega) (by omega) M3.out (HML.out x false) RY.out.rd HGY.out) ?_
  rintro e v10 ⟨gQ, cQ, rfl, ho, gg⟩
  rw [HAP.out] at ho
  have RQ := Lib.hid (ho.mono (Nat.zero_le _))
  clear ho
  replace E := Lib.hid (E.out.trans gg)
  replace HQ := Lib.hid (HQ.out.ext gg)
  replace HX := Lib.hid (HX.out.ext gg)
  replace M1 := Lib.hid (M1.out.ext gg)
  replace M3 := Lib.hid (M3.out.ext gg)
  replace RY := Lib.hid (RY.out.ext gg)
  replace RP := Lib.hid (RP.out.ext gg)
  replace C0 := Lib.hid (gg.cell (p := ⟨O, 0, none⟩) C0.out)
  replace C1 := Lib.hid (gg.cell (p := ⟨O, 1, none⟩) C1.out)
  clear gg
  have x00 := C0.out
  have x01 := C1.out
  go_wp2_with (fail)
  clear x00 x01
  refine Calls.mono (c_LeftMatrix_ok p a d cap qs _ N _ y v10 (by omega) (by omega) HQ.out RY.out.rd HCY.out) ?_
  rintro e v11 ⟨m5, k5, rfl, ho, gg⟩
  have M5 := Lib.hid ho.rd
  clear ho
  replace E := Lib.hid (E.out.trans gg)
  replace HQ := Lib.hid (HQ.out.ext gg)
  replace HX := Lib.hid (HX.out.ext gg)
  replace M1 := Lib.hid (M1.out.ext gg)
  replace M3 := Lib.hid (M3.out.ext gg)
  replace RY := Lib.hid (RY.out.ext gg)
  replace RP := Lib.hid (RP.out.ext gg)
  replace RQ := Lib.hid (RQ.out.ext gg)
  replace C0 := Lib.hid (gg.cell (p := ⟨O, 0, none⟩) C0.out)
  replace C1 := Lib.hid (gg.cell (p := ⟨O, 1, none⟩) C1.out)
  clear gg
  have x00 := C0.out
  have x01 := C1.out
  go_wp2_with (fail)
  clear x00 x01
  refine Calls.mono (c_RightMatrix_ok p a d cap qs _ N _ y v11 (by omega) (by omega) HQ.out RY.out.rd HCY.out) ?_
  rintro e v12 ⟨m6, k6, rfl, ho, gg⟩
  have M6 := Lib.hid ho.rd
  clear ho
  replace E := Lib.hid (E.out.trans gg)
  replace HQ := Lib.hid (HQ.out.ext gg)
  replace HX := Lib.hid (HX.out.ext gg)
  replace M1 := Lib.hid (M1.out.ext gg)
  replace M3 := Lib.hid (M3.out.ext gg)
  replace RY := Lib.hid (RY.out.ext gg)
  replace RP := Lib.hid (RP.out.ext gg)
  replace RQ := Lib.hid (RQ.out.ext gg)
  replace M5 := Lib.hid (M5.out.ext gg)
  replace C0 := Lib.hid (gg.cell (p := ⟨O, 0, none⟩) C0.out)
  replace C1 := Lib.hid (gg.cell (p := ⟨O, 1, none⟩) C1.out)
  clear gg
  have x00 := C0.out
  have x01 := C1.out
  go_wp2_with (fail)
  clear x00 x01
  replace E := Lib.hid (E.out.trans (ext_drew v12))
  replace HQ := Lib.hid (HQ.out.ext (ext_drew v12))
  replace HX := Lib.hid (HX.out.ext (ext_drew v12))
  replace M1 := Lib.hid (M1.out.ext (ext_drew v12))
  replace M3 := Lib.hid (M3.out.ext (ext_drew v12))
  replace RY := Lib.hid (RY.out.ext (ext_drew v12))
  replace RP := Lib.hid (RP.out.ext (ext_drew v12))
  replace RQ := Lib.hid (RQ.out.ext (ext_drew v12))
  replace M5 := Lib.hid (M5.out.ext (ext_drew v12))
  replace M6 := Lib.hid (M6.out.ext (ext_drew v12))
  replace C0 := Lib.hid ((ext_drew v12).cell (p := ⟨O, 0, none⟩) C0.out)
  replace C1 := Lib.hid ((ext_drew v12).cell (p := ⟨O, 1, none⟩) C1.out)
  refine wp_region_lex [(4, .ownS 0 N (prodL p qs tkA x y)), (5, .tupR 0 N (matM p qs (prodL p qs tkA x y) true))] (by kernel_rfl) (by kernel_rfl) ?_
  (refine LexW.pure (v := ?_) rfl rfl (fun w1 he => ?_) ?_; rotate_left; ( have x00 := (he.cell (p := ⟨O, 0, none⟩) C0.out); have x01 := (he.cell (p := ⟨O, 1, none⟩) C1.out); go_simp; rfl); simp only [Act.put, List.setIfInBounds_toArray, List.set_cons_zero, List.set_cons_succ])
  (refine LexW.pure (v := ?_) rfl rfl (fun w1 he => ?_) ?_; rotate_left; ( have x00 := (he.cell (p := ⟨O, 0, none⟩) C0.out); have x01 := (he.cell (p := ⟨O, 1, none⟩) C1.out); go_simp; rfl); simp only [Act.put, List.setIfInBounds_toArray, List.set_cons_zero, List.set_cons_succ])
  (refine LexW.pure (v := ?_) rfl rfl (fun w1 he => ?_) ?_; rotate_left; ( have x00 := (he.cell (p := ⟨O, 0, none⟩) C0.out); have x01 := (he.cell (p := ⟨O, 1, none⟩) C1.out); go_simp; rfl); simp only [Act.put, List.setIfInBounds_toArray, List.set_cons_zero, List.set_cons_succ])
  (refine LexW.pure (v := ?_) rfl rfl (fun w1 he => ?_) ?_; rotate_left; ( have x00 := (he.cell (p := ⟨O, 0, none⟩) C0.out); have x01 := (he.cell (p := ⟨O, 1, none⟩) C1.out); go_simp; rfl); simp only [Act.put, List.setIfInBounds_toArray, List.set_cons_zero, List.set_cons_succ])
  (refine LexW.callR (f := ?_) (args := ?_) rfl rfl (fun w1 => ?_) (fun w1 he hdep => ?_) (fun v hv => ?_); rotate_left 2; (go_simp; refine ⟨?_, ?_⟩ <;> rfl); ( refine (l_times5 p a d cap qs _ _ x _ _ y w1 HN.out HSP.out (HQ.out.ext he) (HX.out.ext he) (RY.out.rd.ext he) HGX.out HGY.out).mono ?_; rintro e w2 ⟨g, rc, rfl, ho, g2⟩; exact ⟨_, rfl, g2, g, rc, rfl, ho.mono (Nat.zero_le _)⟩); simp only [Act.put, List.setIfInBounds_toArray, List.set_cons_zero, List.set_cons_succ])
  obtain ⟨_, g132, c132, rfl, _⟩ := hv
  (refine LexW.callR (f := ?_) (args := ?_) rfl rfl (fun w1 => ?_) (fun w1 he hdep => ?_) (fun v hv => ?_); rotate_left 2; (go_simp; refine ⟨?_, ?_⟩ <;> rfl); ( obtain ⟨_, _, q132, r132⟩ : (SPred.ownS 0 N (prodL p qs tkA x y)).holds (.slice (some ⟨g132, 0, none⟩) N c132) w1 := hdep (4, 132) (by decide +kernel); cases q132; refine (c_LeftMatrix_ok p a d cap qs _ N _ (prodL p qs tkA x y) w1 (by omega) (by omega) (HQ.out.ext he) r132.rd HCP.out).mono ?_; rintro e w2 ⟨ra, rc, rfl, ho, g2⟩; exact ⟨_, rfl, g2, ra, rc, rfl, ho.mono (Nat.zero_le _)⟩); simp only [Act.put, List.setIfInBounds_toArray, List.set_cons_zero, List.set_cons_succ])
  obtain ⟨_, ra133, c133, rfl, _⟩ := hv
  (refine LexW.pure (v := ?_) rfl rfl (fun w1 he => ?_) ?_; rotate_left; ( have x00 := (he.cell (p := ⟨O, 0, none⟩) C0.out); have x01 := (he.cell (p := ⟨O, 1, none⟩) C1.out); go_simp; rfl); simp only [Act.put, List.setIfInBounds_toArray, List.set_cons_zero, List.set_cons_succ])
  (refine LexW.pure (v := ?_) rfl rfl (fun w1 he => ?_) ?_; rotate_left; ( have x00 := (he.cell (p := ⟨O, 0, none⟩) C0.out); have x01 := (he.cell (p := ⟨O, 1, none⟩) C1.out); go_simp; rfl); simp only [Act.put, List.setIfInBounds_toArray, List.set_cons_zero, List.set_cons_succ])
  (refine LexW.pure (v := ?_) rfl rfl (fun w1 he => ?_) ?_; rotate_left; ( have x00 := (he.cell (p := ⟨O, 0, none⟩) C0.out); have x01 := (he.cell (p := ⟨O, 1, none⟩) C1.out); go_simp; rfl); simp only [Act.put, List.setIfInBounds_toArray, List.set_cons_zero, List.set_cons_succ])
  (refine LexW.pure (v := ?_) rfl rfl (fun w1 he => ?_) ?_; rotate_left; ( have x00 := (he.cell (p := ⟨O, 0, none⟩) C0.out); have x01 := (he.cell (p := ⟨O, 1, none⟩) C1.out); go_simp; rfl); simp only [Act.put, List.setIfInBounds_toArray, List.set_cons_zero, List.set_cons_succ])
  (refine LexW.pure (v := ?_) rfl rfl (fun w1 he => ?_) ?_; rotate_left; ( have x00 := (he.cell (p := ⟨O, 0, none⟩) C0.out); have x01 := (he.cell (p := ⟨O, 1, none⟩) C1.out); go_simp; rfl); simp only [Act.put, List.setIfInBounds_toArray, List.set_cons_zero, List.set_cons_succ])
  refine LexW.nil (fun w3 he hkn => ?_)
  obtain ⟨_, _, q133, r133⟩ : (SPred.tupR 0 N (matM p qs (prodL p qs tkA x y) true)).holds (.tuple #[.slice ra133 N c133, .int .i64 0]) w3 := hkn (5, _) (by simp)
  cases q133
  have R133 := Lib.hid r133
  have HE := Lib.hid he
  clear he hkn r133
  rename World => v13
  replace E := Lib.hid (E.out.trans HE.out)
  replace HQ := Lib.hid (HQ.out.ext HE.out)
  replace HX := Lib.hid (HX.out.ext HE.out)
  replace M1 := Lib.hid (M1.out.ext HE.out)
  replace M3 := Lib.hid (M3.out.ext HE.out)
  replace RY := Lib.hid (RY.out.ext HE.out)
  replace RP := Lib.hid (RP.out.ext HE.out)
  replace RQ := Lib.hid (RQ.out.ext HE.out)
  replace M5 := Lib.hid (M5.out.ext HE.out)
  replace M6 := Lib.hid (M6.out.ext HE.out)
  replace C0 := Lib.hid (HE.out.cell (p := ⟨O, 0, none⟩) C0.out)
  replace C1 := Lib.hid (HE.out.cell (p := ⟨O, 1, none⟩) C1.out)
  clear HE
  have x00 := C0.out
  have x01 := C1.out
  go_wp2_with (fail)
  clear x00 x01
  replace E := Lib.hid (E.out.trans (ext_drew v13))
  replace HQ := Lib.hid (HQ.out.ext (ext_drew v13))
  replace HX := Lib.hid (HX.out.ext (ext_drew v13))
  replace M1 := Lib.hid (M1.out.ext (ext_drew v13))
  replace M3 := Lib.hid (M3.out.ext (ext_drew v13))
  replace RY := Lib.hid (RY.out.ext (ext_drew v13))
  replace RP := Lib.hid (RP.out.ext (ext_drew v13))
  replace RQ := Lib.hid (RQ.out.ext (ext_drew v13))
  replace M5 := Lib.hid (M5.out.ext (ext_drew v13))
  replace M6 := Lib.hid (M6.out.ext (ext_drew v13))
  replace R133 := Lib.hid (R133.out.ext (ext_drew v13))
  replace C0 := Lib.hid ((ext_drew v13).cell (p := ⟨O, 0, none⟩) C0.out)
  replace C1 := Lib.hid ((ext_drew v13).cell (p := ⟨O, 1, none⟩) C1.out)
  refine wp_region_lex [(4, .ownS 0 N (prodL p qs tkA x y)), (5, .tupR 0 N (matM p qs (prodL p qs tkA x y) false))] (by kernel_rfl) (by kernel_rfl) ?_
  (refine LexW.pure (v := ?_) rfl rfl (fun w1 he => ?_) ?_; rotate_left; ( have x00 := (he.cell (p := ⟨O, 0, none⟩) C0.out); have x01 := (he.cell (p := ⟨O, 1, none⟩) C1.out); go_simp; rfl); simp only [Act.put, List.setIfInBounds_toArray, List.set_cons_zero, List.set_cons_succ])
  (refine LexW.pure (v := ?_) rfl rfl (fun w1 he => ?_) ?_; rotate_left; ( have x00 := (he.cell (p := ⟨O, 0, none⟩) C0.out); have x01 := (he.cell (p := ⟨O, 1, none⟩) C1.out); go_simp; rfl); simp only [Act.put, List.setIfInBounds_toArray, List.set_cons_zero, List.set_cons_succ])
  (refine LexW.pure (v := ?_) rfl rfl (fun w1 he => ?_) ?_; rotate_left; ( have x00 := (he.cell (p := ⟨O, 0, none⟩) C0.out); have x01 := (he.cell (p := ⟨O, 1, none⟩) C1.out); go_simp; rfl); simp only [Act.put, List.setIfInBounds_toArray, List.set_cons_zero, List.set_cons_succ])
  (refine LexW.pure (v := ?_) rfl rfl (fun w1 he => ?_) ?_; rotate_left; ( have x00 := (he.cell (p := ⟨O, 0, none⟩) C0.out); have x01 := (he.cell (p := ⟨O, 1, none⟩) C1.out); go_simp; rfl); simp only [Act.put, List.setIfInBounds_toArray, List.set_cons_zero, List.set_cons_succ])
  (refine LexW.callR (f := ?_) (args := ?_) rfl rfl (fun w1 => ?_) (fun w1 he hdep => ?_) (fun v hv => ?_); rotate_left 2; (go_simp; refine ⟨?_, ?_⟩ <;> rfl); ( refine (l_times5 p a d cap qs _ _ x _ _ y w1 HN.out HSP.out (HQ.out.ext he) (HX.out.ext he) (RY.out.rd.ext he) HGX.out HGY.out).mono ?_; rintro e w2 ⟨g, rc, rfl, ho, g2⟩; exact ⟨_, rfl, g2, g, rc, rfl, ho.mono (Nat.zero_le _)⟩); simp only [Act.put, List.setIfInBounds_toArray, List.set_cons_zero, List.set_cons_succ])
  obtain ⟨_, g141, c141, rfl, _⟩ := hv
  (refine LexW.callR (f := ?_) (args := ?_) rfl rfl (fun w1 => ?_) (fun w1 he hdep => ?_) (fun v hv => ?_); rotate_left 2; (go_simp; refine ⟨?_, ?_⟩ <;> rfl); ( obtain ⟨_, _, q141, r141⟩ : (SPred.ownS 0 N (prodL p qs tkA x y)).holds (.slice (some ⟨g141, 0, none⟩) N c141) w1 := hdep (4, 141) (by decide +kernel); cases q141; refine (c_RightMatrix_ok p a d cap qs _ N _ (prodL p qs tkA x y) w1 (by omega) (by omega) (HQ.out.ext he) r141.rd HCP.out).mono ?_; rintro e w2 ⟨ra, rc, rfl, ho, g2⟩; exact ⟨_, rfl, g2, ra, rc, rfl, ho.mono (Nat.zero_le _)⟩); simp only [Act.put, List.setIfInBounds_toArray, List.set_cons_zero, List.set_cons_succ])
  obtain ⟨_, ra142, c142, rfl, _⟩ := hv
  (refine LexW.pure (v := ?_) rfl rfl (fun w1 he => ?_) ?_; rotate_left; ( have x00 := (he.cell (p := ⟨O, 0, none⟩) C0.out); have x01 := (he.cell (p := ⟨O, 1, none⟩) C1.out); go_simp; rfl); simp only [Act.put, List.setIfInBounds_toArray, List.set_cons_zero, List.set_cons_succ])
  (refine LexW.pure (v := ?_) rfl rfl (fun w1 he => ?_) ?_; rotate_left; ( have x00 := (he.cell (p := ⟨O, 0, none⟩) C0.out); have x01 := (he.cell (p := ⟨O, 1, none⟩) C1.out); go_simp; rfl); simp only [Act.put, List.setIfInBounds_toArray, List.set_cons_zero, List.set_cons_succ])
  (refine LexW.pure (v := ?_) rfl rfl (fun w1 he => ?_) ?_; rotate_left; ( have x00 := (he.cell (p := ⟨O, 0, none⟩) C0.out); have x01 := (he.cell (p := ⟨O, 1, none⟩) C1.out); go_simp; rfl); simp only [Act.put, List.setIfInBounds_toArray, List.set_cons_zero, List.set_cons_succ])
  (refine LexW.pure (v := ?_) rfl rfl (fun w1 he => ?_) ?_; rotate_left; ( have x00 := (he.cell (p := ⟨O, 0, none⟩) C0.out); have x01 := (he.cell (p := ⟨O, 1, none⟩) C1.out); go_simp; rfl); simp only [Act.put, List.setIfInBounds_toArray, List.set_cons_zero, List.set_cons_succ])
  (refine LexW.pure (v := ?_) rfl rfl (fun w1 he => ?_) ?_; rotate_left; ( have x00 := (he.cell (p := ⟨O, 0, none⟩) C0.out); have x01 := (he.cell (p := ⟨O, 1, none⟩) C1.out); go_simp; rfl); simp only [Act.put, List.setIfInBounds_toArray, List.set_cons_zero, List.set_cons_succ])
  refine LexW.nil (fun w3 he hkn => ?_)
  obtain ⟨_, _, q142, r142⟩ : (SPred.tupR 0 N (matM p qs (prodL p qs tkA x y) false)).holds (.tuple #[.slice ra142 N c142, .int .i64 0]) w3 := hkn (5, _) (by simp)
  cases q142
  have R142 := Lib.hid r142
  have HE := Lib.hid he
  clear he hkn r142
  rename World => v14
  replace E := Lib.hid (E.out.trans HE.out)
  replace HQ := Lib.hid (HQ.out.ext HE.out)
  replace HX := Lib.hid (HX.out.ext HE.out)
  replace M1 := Lib.hid (M1.out.ext HE.out)
  replace M3 := Lib.hid (M3.out.ext HE.out)
  replace RY := Lib.hid (RY.out.ext HE.out)
  replace RP := Lib.hid (RP.out.ext HE.out)
  replace RQ := Lib.hid (RQ.out.ext HE.out)
  replace M5 := Lib.hid (M5.out.ext HE.out)
  replace M6 := Lib.hid (M6.out.ext HE.out)
  replace R133 := Lib.hid (R133.out.ext HE.out)
  replace C0 := Lib.hid (HE.out.cell (p := ⟨O, 0, none⟩) C0.out)
  replace C1 := Lib.hid (HE.out.cell (p := ⟨O, 1, none⟩) C1.out)
  clear HE
  have x00 := C0.out
  have x01 := C1.out
  go_wp2_with (fail)
  clear x00 x01
  refine Calls.mono (c_MultiplyMatrices_ok p m1 N k1 (matM p qs x true) m5 N k5 (matM p qs y true) N v14 HPR.out (by omega) (by omega) (by omega) (by omega) (by omega) (by omega) M1.out (HML.out x true) M5.out (HML.out y true)) ?_
  rintro e v15 ⟨gF, cF, rfl, ho, gg⟩
  rw [← HAL.out] at ho
  have RMF := Lib.hid ho.rd
  clear ho
  replace E := Lib.hid (E.out.trans gg)
  replace HQ := Lib.hid (HQ.out.ext gg)
  replace HX := Lib.hid (HX.out.ext gg)
  replace M1 := Lib.hid (M1.out.ext gg)
  replace M3 := Lib.hid (M3.out.ext gg)
  replace RY := Lib.hid (RY.out.ext gg)
  replace RP := Lib.hid (RP.out.ext gg)
  replace RQ := Lib.hid (RQ.out.ext gg)
  replace M5 := Lib.hid (M5.out.ext gg)
  replace M6 := Lib.hid (M6.out.ext gg)
  replace R133 := Lib.hid (R133.out.ext gg)
  replace R142 := Lib.hid (R142.out.ext gg)
  replace C0 := Lib.hid (gg.cell (p := ⟨O, 0, none⟩) C0.out)
  replace C1 := Lib.hid (gg.cell (p := ⟨O, 1, none⟩) C1.out)
  clear gg
  have x00 := C0.out
  have x01 := C1.out
  go_wp2_with (fail)
  clear x00 x01
  refine Calls.mono (c_MultiplyMatrices_ok p m6 N k6 (matM p qs y false) m3 N k3 (matM p qs x false) N v15 HPR.out (by omega) (by omega) (by omega) (by omega) (by omega) (by omega) M6.out (HML.out y false) M3.out (HML.out x false)) ?_
  rintro e v16 ⟨gG, cG, rfl, ho, gg⟩
  rw [← HAR.out] at ho
  have RMG := Lib.hid ho.rd
  clear ho
  replace E := Lib.hid (E.out.trans gg)
  replace HQ := Lib.hid (HQ.out.ext gg)
  replace HX := Lib.hid (HX.out.ext gg)
  replace M1 := Lib.hid (M1.out.ext gg)
  replace M3 := Lib.hid (M3.out.ext gg)
  replace RY := Lib.hid (RY.out.ext gg)
  replace RP := Lib.hid (RP.out.ext gg)
  replace RQ := Lib.hid (RQ.out.ext gg)
  replace M5 := Lib.hid (M5.out.ext gg)
  replace M6 := Lib.hid (M6.out.ext gg)
  replace R133 := Lib.hid (R133.out.ext gg)
  replace R142 := Lib.hid (R142.out.ext gg)
  replace RMF := Lib.hid (RMF.out.ext gg)
  replace C0 := Lib.hid (gg.cell (p := ⟨O, 0, none⟩) C0.out)
  replace C1 := Lib.hid (gg.cell (p := ⟨O, 1, none⟩) C1.out)
  clear gg
  have x00 := C0.out
  have x01 := C1.out
  go_wp2_with (fail)
  clear x00 x01
  refine Calls.mono (c_MultiplyMatrices_ok p m1 N k1 (matM p qs x true) m6 N k6 (matM p qs y false) N v16 HPR.out (by omega) (by omega) (by omega) (by omega) (by omega) (by omega) M1.out (HML.out x true) M6.out (HML.out y false)) ?_
  rintro e v17 ⟨gH, cH, rfl, ho, gg⟩
  rw [HSW.out] at ho
  have RMH := Lib.hid ho.rd
  clear ho
  replace E := Lib.hid (E.out.trans gg)
  replace HQ := Lib.hid (HQ.out.ext gg)
  replace HX := Lib.hid (HX.out.ext gg)
  replace M1 := Lib.hid (M1.out.ext gg)
  replace M3 := Lib.hid (M3.out.ext gg)
  replace RY := Lib.hid (RY.out.ext gg)
  replace RP := Lib.hid (RP.out.ext gg)
  replace RQ := Lib.hid (RQ.out.ext gg)
  replace M5 := Lib.hid (M5.out.ext gg)
  replace M6 := Lib.hid (M6.out.ext gg)
  replace R133 := Lib.hid (R133.out.ext gg)
  replace R142 := Lib.hid (R142.out.ext gg)
  replace RMF := Lib.hid (RMF.out.ext gg)
  replace RMG := Lib.hid (RMG.out.ext gg)
  replace C0 := Lib.hid (gg.cell (p := ⟨O, 0, none⟩) C0.out)
  replace C1 := Lib.hid (gg.cell (p := ⟨O, 1, none⟩) C1.out)
  clear gg
  have x00 := C0.out
  have x01 := C1.out
  go_wp2_with (fail)
  clear x00 x01
  refine Calls.mono (c_MultiplyMatrices_ok p m6 N k6 (matM p qs y false) m1 N k1 (matM p qs x true) N v17 HPR.out (by omega) (by omega) (by omega) (by omega) (by omega) (by omega) M6.out (HML.out y false) M1.out (HML.out x true)) ?_
  rintro e v18 ⟨gK, cK, rfl, ho, gg⟩
  skip
  have RMK := Lib.hid ho.rd
  clear ho
  replace E := Lib.hid (E.out.trans gg)
  replace HQ := Lib.hid (HQ.out.ext gg)
  replace HX := Lib.hid (HX.out.ext gg)
  replace M1 := Lib.hid (M1.out.ext gg)
  replace M3 := Lib.hid (M3.out.ext gg)
  replace RY := Lib.hid (RY.out.ext gg)
  replace RP := Lib.hid (RP.out.ext gg)
  replace RQ := Lib.hid (RQ.out.ext gg)
  replace M5 := Lib.hid (M5.out.ext gg)
  replace M6 := Lib.hid (M6.out.ext gg)
  replace R133 := Lib.hid (R133.out.ext gg)
  replace R142 := Lib.hid (R142.out.ext gg)
  replace RMF := Lib.hid (RMF.out.ext gg)
  replace RMG := Lib.hid (RMG.out.ext gg)
  replace RMH := Lib.hid (RMH.out.ext gg)
  replace C0 := Lib.hid (gg.cell (p := ⟨O, 0, none⟩) C0.out)
  replace C1 := Lib.hid (gg.cell (p := ⟨O, 1, none⟩) C1.out)
  clear gg
  have x00 := C0.out
  have x01 := C1.out
  go_wp2_with (fail)
  clear x00 x01
  refine Calls.mono (l_times5 p a d cap qs _ _ x _ _ y v18 HN.out HSP.out HQ.out HX.out RY.out.rd HGX.out HGY.out) ?_
  rintro e v19 ⟨gT, cT, rfl, ho, gg⟩
  have RT := Lib.hid (ho.mono (Nat.zero_le _))
  clear ho
  replace E := Lib.hid (E.out.trans gg)
  replace HQ := Lib.hid (HQ.out.ext gg)
  replace HX := Lib.hid (HX.out.ext gg)
  replace M1 := Lib.hid (M1.out.ext gg)
  replace M3 := Lib.hid (M3.out.ext gg)
  replace RY := Lib.hid (RY.out.ext gg)
  replace RP := Lib.hid (RP.out.ext gg)
  replace RQ := Lib.hid (RQ.out.ext gg)
  replace M5 := Lib.hid (M5.out.ext gg)
  replace M6 := Lib.hid (M6.out.ext gg)
  replace R133 := Lib.hid (R133.out.ext gg)
  replace R142 := Lib.hid (R142.out.ext gg)
  replace RMF := Lib.hid (RMF.out.ext gg)
  replace RMG := Lib.hid (RMG.out.ext gg)
  replace RMH := Lib.hid (RMH.out.ext gg)
  replace RMK := Lib.hid (RMK.out.ext gg)
  replace C0 := Lib.hid (gg.cell (p := ⟨O, 0, none⟩) C0.out)
  replace C1 := Lib.hid (gg.cell (p := ⟨O, 1, none⟩) C1.out)
  clear gg
  have HP1 := Lib.hid (show actP p qs x true y = prodL p qs tkA x y by simp [actP])
  have HP2 := Lib.hid (show actP p qs x false y = prodL p qs tkA y x by simp [actP])
  have x00 := C0.out
  have x01 := C1.out
  go_wp2_with (fail)
  clear x00 x01
  have H := l_like (some ⟨gP, 0, none⟩) (some ⟨gT, 0, none⟩) N N cP cT _ _ v19 (by omega) (by omega) RP.out.rd RT.out.rd
  rw [HP1.out, eqB_self] at H
  refine Calls.mono H ?_
  clear H
  rintro e v20 ⟨rfl, gg⟩
  replace E := Lib.hid (E.out.trans gg)
  replace HQ := Lib.hid (HQ.out.ext gg)
  replace HX := Lib.hid (HX.out.ext gg)
  replace M1 := Lib.hid (M1.out.ext gg)
  replace M3 := Lib.hid (M3.out.ext gg)
  replace RY := Lib.hid (RY.out.ext gg)
  replace RP := Lib.hid (RP.out.ext gg)
  replace RQ := Lib.hid (RQ.out.ext gg)
  replace M5 := Lib.hid (M5.out.ext gg)
  replace M6 := Lib.hid (M6.out.ext gg)
  replace R133 := Lib.hid (R133.out.ext gg)
  replace R142 := Lib.hid (R142.out.ext gg)
  replace RMF := Lib.hid (RMF.out.ext gg)
  replace RMG := Lib.hid (RMG.out.ext gg)
  replace RMH := Lib.hid (RMH.out.ext gg)
  replace RMK := Lib.hid (RMK.out.ext gg)
  replace RT := Lib.hid (RT.out.ext gg)
  replace C0 := Lib.hid (gg.cell (p := ⟨O, 0, none⟩) C0.out)
  replace C1 := Lib.hid (gg.cell (p := ⟨O, 1, none⟩) C1.out)
  clear gg
  have x00 := C0.out
  have x01 := C1.out
  go_wp2_with (fail)
  clear x00 x01
  refine Calls.mono (l_times5 p a d cap qs _ _ y _ _ x v20 HN.out HSP.out HQ.out RY.out.rd HX.out HGY.out HGX.out) ?_
  rintro e v21 ⟨gU, cU, rfl, ho, gg⟩
  have RU := Lib.hid (ho.mono (Nat.zero_le _))
  clear ho
  replace E := Lib.hid (E.out.trans gg)
  replace HQ := Lib.hid (HQ.out.ext gg)
  replace HX := Lib.hid (HX.out.ext gg)
  replace M1 := Lib.hid (M1.out.ext gg)
  replace M3 := Lib.hid (M3.out.ext gg)
  replace RY := Lib.hid (RY.out.ext gg)
  replace RP := Lib.hid (RP.out.ext gg)
  replace RQ := Lib.hid (RQ.out.ext gg)
  replace M5 := Lib.hid (M5.out.ext gg)
  replace M6 := Lib.hid (M6.out.ext gg)
  replace R133 := Lib.hid (R133.out.ext gg)
  replace R142 := Lib.hid (R142.out.ext gg)
  replace RMF := Lib.hid (RMF.out.ext gg)
  replace RMG := Lib.hid (RMG.out.ext gg)
  replace RMH := Lib.hid (RMH.out.ext gg)
  replace RMK := Lib.hid (RMK.out.ext gg)
  replace RT := Lib.hid (RT.out.ext gg)
  replace C0 := Lib.hid (gg.cell (p := ⟨O, 0, none⟩) C0.out)
  replace C1 := Lib.hid (gg.cell (p := ⟨O, 1, none⟩) C1.out)
  clear gg
  have x00 := C0.out
  have x01 := C1.out
  go_wp2_with (fail)
  clear x00 x01
  have H := l_like (some ⟨gQ, 0, none⟩) (some ⟨gU, 0, none⟩) N N cQ cU _ _ v21 (by omega) (by omega) RQ.out.rd RU.out.rd
  rw [HP2.out, eqB_self] at H
  refine Calls.mono H ?_
  clear H
  rintro e v22 ⟨rfl, gg⟩
  replace E := Lib.hid (E.out.trans gg)
  replace HQ := Lib.hid (HQ.out.ext gg)
  replace HX := Lib.hid (HX.out.ext gg)
  replace M1 := Lib.hid (M1.out.ext gg)
  replace M3 := Lib.hid (M3.out.ext gg)
  replace RY := Lib.hid (RY.out.ext gg)
  replace RP := Lib.hid (RP.out.ext gg)
  replace RQ := Lib.hid (RQ.out.ext gg)
  replace M5 := Lib.hid (M5.out.ext gg)
  replace M6 := Lib.hid (M6.out.ext gg)
  replace R133 := Lib.hid (R133.out.ext gg)
  replace R142 := Lib.hid (R142.out.ext gg)
  replace RMF := Lib.hid (RMF.out.ext gg)
  replace RMG := Lib.hid (RMG.out.ext gg)
  replace RMH := Lib.hid (RMH.out.ext gg)
  replace RMK := Lib.hid (RMK.out.ext gg)
  replace RT := Lib.hid (RT.out.ext gg)
  replace RU := Lib.hid (RU.out.ext gg)
  replace C0 := Lib.hid (gg.cell (p := ⟨O, 0, none⟩) C0.out)
  replace C1 := Lib.hid (gg.cell (p := ⟨O, 1, none⟩) C1.out)
  clear gg
  have x00 := C0.out
  have x01 := C1.out
  go_wp2_with (fail)
  clear x00 x01
  have H := l_likeRows ra133 (some ⟨gF, 0, none⟩) N N c133 cF _ _ v22 (by omega) (by omega) (HLL.out _ true) (HLL.out _ true) R133.out.rd RMF.out
  rw [eqR_self] at H
  refine Calls.mono H ?_
  clear H
  rintro e v23 ⟨rfl, gg⟩
  replace E := Lib.hid (E.out.trans gg)
  replace HQ := Lib.hid (HQ.out.ext gg)
  replace HX := Lib.hid (HX.out.ext gg)
  replace M1 := Lib.hid (M1.out.ext gg)
  replace M3 := Lib.hid (M3.out.ext gg)
  replace RY := Lib.hid (RY.out.ext gg)
  replace RP := Lib.hid (RP.out.ext gg)
  replace RQ := Lib.hid (RQ.out.ext gg)
  replace M5 := Lib.hid (M5.out.ext gg)
  replace M6 := Lib.hid (M6.out.ext gg)
  replace R133 := Lib.hid (R133.out.ext gg)
  replace R142 := Lib.hid (R142.out.ext gg)
  replace RMF := Lib.hid (RMF.out.ext gg)
  replace RMG := Lib.hid (RMG.out.ext gg)
  replace RMH := Lib.hid (RMH.out.ext gg)
  replace RMK := Lib.hid (RMK.out.ext gg)
  replace RT := Lib.hid (RT.out.ext gg)
  replace RU := Lib.hid (RU.out.ext gg)
  replace C0 := Lib.hid (gg.cell (p := ⟨O, 0, none⟩) C0.out)
  replace C1 := Lib.hid (gg.cell (p := ⟨O, 1, none⟩) C1.out)
  clear gg
  have x00 := C0.out
  have x01 := C1.out
  go_wp2_with (fail)
  clear x00 x01
  have H := l_likeRows ra142 (some ⟨gG, 0, none⟩) N N c142 cG _ _ v23 (by omega) (by omega) (HLL.out _ false) (HLL.out _ false) R142.out.rd RMG.out
  rw [eqR_self] at H
  refine Calls.mono H ?_
  clear H
  rintro e v24 ⟨rfl, gg⟩
  replace E := Lib.hid (E.out.trans gg)
  replace HQ := Lib.hid (HQ.out.ext gg)
  replace HX := Lib.hid (HX.out.ext gg)
  replace M1 := Lib.hid (M1.out.ext gg)
  replace M3 := Lib.hid (M3.out.ext gg)
  replace RY := Lib.hid (RY.out.ext gg)
  replace RP := Lib.hid (RP.out.ext gg)
  replace RQ := Lib.hid (RQ.out.ext gg)
  replace M5 := Lib.hid (M5.out.ext gg)
  replace M6 := Lib.hid (M6.out.ext gg)
  replace R133 := Lib.hid (R133.out.ext gg)
  replace R142 := Lib.hid (R142.out.ext gg)
  replace RMF := Lib.hid (RMF.out.ext gg)
  replace RMG := Lib.hid (RMG.out.ext gg)
  replace RMH := Lib.hid (RMH.out.ext gg)
  replace RMK := Lib.hid (RMK.out.ext gg)
  replace RT := Lib.hid (RT.out.ext gg)
  replace RU := Lib.hid (RU.out.ext gg)
  replace C0 := Lib.hid (gg.cell (p := ⟨O, 0, none⟩) C0.out)
  replace C1 := Lib.hid (gg.cell (p := ⟨O, 1, none⟩) C1.out)
  clear gg
  have x00 := C0.out
  have x01 := C1.out
  go_wp2_with (fail)
  clear x00 x01
  have H := l_likeRows (some ⟨gH, 0, none⟩) (some ⟨gK, 0, none⟩) N N cH cK _ _ v24 (by omega) (by omega) (HMU.out _ _) (HMU.out _ _) RMH.out RMK.out
  rw [eqR_self] at H
  refine Calls.mono H ?_
  clear H
  rintro e v25 ⟨rfl, gg⟩
  replace E := Lib.hid (E.out.trans gg)
  replace HQ := Lib.hid (HQ.out.ext gg)
  replace HX := Lib.hid (HX.out.ext gg)
  replace M1 := Lib.hid (M1.out.ext gg)
  replace M3 := Lib.hid (M3.out.ext gg)
  replace RY := Lib.hid (RY.out.ext gg)
  replace RP := Lib.hid (RP.out.ext gg)
  replace RQ := Lib.hid (RQ.out.ext gg)
  replace M5 := Lib.hid (M5.out.ext gg)
  replace M6 := Lib.hid (M6.out.ext gg)
  replace R133 := Lib.hid (R133.out.ext gg)
  replace R142 := Lib.hid (R142.out.ext gg)
  replace RMF := Lib.hid (RMF.out.ext gg)
  replace RMG := Lib.hid (RMG.out.ext gg)
  replace RMH := Lib.hid (RMH.out.ext gg)
  replace RMK := Lib.hid (RMK.out.ext gg)
  replace RT := Lib.hid (RT.out.ext gg)
  replace RU := Lib.hid (RU.out.ext gg)
  replace C0 := Lib.hid (gg.cell (p := ⟨O, 0, none⟩) C0.out)
  replace C1 := Lib.hid (gg.cell (p := ⟨O, 1, none⟩) C1.out)
  clear gg
  go_wp2_with (fail)
  go_ret
  exact ⟨rfl, E.out⟩
end Go.Proofs.Ytbgnfjckbjmgbaa
