/-
  The law FnMultivectorInverses returns true.
  No condition.
-/
import Derived.Test.YtbgnfjckbjmgbaaPart8
import Derived.Test.YtbgnfjckbjmgbaaPart10
import Derived.Test.YtbgnfjckbjmgbaaPart11
import Derived.Test.YtbgnfjckbjmgbaaPart9
namespace Go.Proofs.Ytbgnfjckbjmgbaa
set_option maxRecDepth 100000
open Go.RowKit

theorem codeA_three {p : Int} {qs x : List Int} (h : codeA p qs [x] ≠ 0) : codeA p qs [x] ≠ 5 := by
  rcases codeA_not h with ⟨h1, h2⟩ | ⟨_, _, h2⟩
  · rw [h2]
    unfold codeM at h1 ⊢
    split
    · split <;> decide
    · decide
  · rw [h2]; decide
theorem prod_nothing {p : Int} {qs y z : List Int} (hp : 1 ≤ p) (hz : ∀ i, i < 2 ^ qs.length → nth z i = 0) {k : Nat} (hk : k < 2 ^ qs.length) : nth (prodL p qs tkA y z) k = 0 := by
  rw [prodA_nth hp hk, sumN_zero (fun i hi => by rw [hz _ (Nat.xor_lt_two_pow hi hk)]; simp)]
  rfl
/-- There is an inverse exactly if the determinant of the left matrix is not 0. -/
theorem det_inv {p : Int} {qs x : List Int} (hp : primeB p = true) (hd : qs.length ≤ 6) (hx : Good p (2 ^ qs.length) x) : detL p (2 ^ qs.length) (matM p qs x true) ≠ 0 ↔ invOk p qs x = true := by
  have hpb := prime_bd hp
  have hN := pow_pos' qs.length
  have hML : (matM p qs x true).length = 2 ^ qs.length := matM_len _ _ _ _
  have hMG : RowsG p (2 ^ qs.length) (matM p qs x true) := matM_good (by omega)
  rw [det_rank hp hMG hML]
  constructor
  · intro hr
    exact rank_ok hp hMG hML (blade_good (by omega)) hr
  · intro hi
    refine Decidable.byContradiction fun hne => ?_
    have hle := rank_le hp hMG
    obtain ⟨z, f, hz, hk, hf, h1⟩ := ker_exists hp hMG (by omega)
    have hxz : ∀ i, i < 2 ^ qs.length → nth (prodL p qs tkA x z) i = 0 := fun i hi => by
      rw [← mat_dot (by omega) hd hi]
      exact hk i (by omega)
    have h2 : prodL p qs tkA (invL p qs x) (prodL p qs tkA x z) = z := by
      rw [← prod_assoc (by omega) hd, inv_left hp hd hx hi, one_times (by omega) hz]
    have h3 := prod_nothing (p := p) (qs := qs) (y := invL p qs x) (z := prodL p qs tkA x z) (by omega) hxz hf
    rw [h2, h1] at h3
    cases h3
theorem codeA_of {p : Int} {qs x : List Int} (h : codeA p qs [x] = 0) : spaceB p qs = true ∧ Good p (2 ^ qs.length) x ∧ qs.length ≤ 4 := by
  obtain ⟨h0, h4⟩ := codeA_zero h
  obtain ⟨h1, h2⟩ := codeM_one h0
  exact ⟨h1, good_isB (multi_of h2).1 (multi_of h2).2, h4⟩

set_option maxHeartbeats 8000000 in
set_option maxRecDepth 100000 in
theorem law_MultivectorInverses (w : World) (ac : Option Addr) (nc cc : Nat) (hb : RdY w ac nc) :
    Calls Try.prog 6 #[.slice ac nc cc] w fun e w' => e = .returned (.bool true) ∧ Ext w w' := by
  have HB := Lib.hid hb
  clear hb
  go_enter Try.func6, Try.ntmps6
  go_wp2_with (fail)
  refine Calls.mono (l_big ac nc cc w) ?_
  rintro e w1 ⟨rfl, g0⟩
  have E := Lib.hid g0
  by_cases hbig : 4096 < nc
  · have hbb : decide (4096 < nc) = true := by simp [hbig]
    rw [hbb]
    go_wp2_with (fail)
    go_ret
    exact ⟨rfl, E.out⟩
  have hbb : decide (4096 < nc) = false := by simp [hbig]
  rw [hbb]
  clear g0 hbb
  go_wp2_with (fail)
  refine Calls.mono (s_drawInverseOf ac nc cc w1 (by omega) (HB.out.ext E.out)) ?_
  rintro e w2 ⟨p, a, d, cap, qs, ax, nx, cx, x, rfl, hp0, hp1, hd, hnx, hq, hx, g1⟩
  have E1 := Lib.hid g1
  replace E := Lib.hid (E.out.trans g1)
  have HQ := Lib.hid hq.rd
  have HX := Lib.hid hx.rd
  clear hq hx g1
  go_wp2_with (fail)
  obtain ⟨O, hO⟩ : ∃ O, O = w2.heap.size := ⟨_, rfl⟩
  obtain ⟨W, hW⟩ : ∃ W, W = w2.alloc (.cells #[.int .i64 p, .slice a d cap] 26) := ⟨_, rfl⟩
  have C0 := Lib.hid (show W.cell? ⟨O, 0, none⟩ = some (.int .i64 p) by rw [hW, hO]; simp)
  have C1 := Lib.hid (show W.cell? ⟨O, 1, none⟩ = some (.slice a d cap) by rw [hW, hO]; simp)
  have gg : Ext w2 W := by rw [hW]; exact ext_alloc _ _
  rw [← hO, ← hW]
  clear hO hW E1
  replace E := Lib.hid (E.out.trans gg)
  replace HQ := Lib.hid (HQ.out.ext gg)
  replace HX := Lib.hid (HX.out.ext gg)
  clear gg
  by_cases hca : codeA p qs [x] ≠ 0
  · skip
    have hci : codeI p qs x = codeA p qs [x] := by unfold codeI; rw [if_neg hca]
    have h5 := codeA_three hca
    have HCI := Lib.hid hci
    have HCA := Lib.hid (show codeI p qs x ≠ 0 by rw [hci]; exact hca)
    obtain ⟨cc0, hcc0⟩ : ∃ z, z = codeI p qs x := ⟨_, rfl⟩
    have HCC := Lib.hid hcc0
    have hb0 : (cc0 != 0) = true := by rw [hcc0, hci]; simp [hca]
    have hb5 : (cc0 != 5) = true := by rw [hcc0, hci]; simp [h5]
    clear hci hca h5 hcc0
    have x00 := C0.out
    have x01 := C1.out
    go_wp2_with (fail)
    clear x00 x01
    refine Calls.mono (c_InverseOf_bad p a d cap qs ax nx cx x W (by omega) (by omega) HQ.out HX.out HCA.out) ?_
    rintro e v1 ⟨rZ, kZ, rfl, ho, gg⟩
    have RZ := Lib.hid (ho.mono (Nat.zero_le _))
    clear ho
    replace E := Lib.hid (E.out.trans gg)
    replace HQ := Lib.hid (HQ.out.ext gg)
    replace HX := Lib.hid (HX.out.ext gg)
    replace C0 := Lib.hid (gg.cell (p := ⟨O, 0, none⟩) C0.out)
    replace C1 := Lib.hid (gg.cell (p := ⟨O, 1, none⟩) C1.out)
    clear gg
    rw [← HCC.out]
    have x00 := C0.out
    have x01 := C1.out
    go_wp2_with (fail)
    clear x00 x01
    refine Calls.mono (s_InverseOf_bad p a d cap qs ax nx cx x v1 (by omega) (by omega) HQ.out HX.out HCA.out) ?_
    rintro e v2 ⟨rT, kT, rfl, ho, gg⟩
    have RT := Lib.hid (ho.mono (Nat.zero_le _))
    clear ho
    replace E := Lib.hid (E.out.trans gg)
    replace HQ := Lib.hid (HQ.out.ext gg)
    replace HX := Lib.hid (HX.out.ext gg)
    replace RZ := Lib.hid (RZ.out.ext gg)
    replace C0 := Lib.hid (gg.cell (p := ⟨O, 0, none⟩) C0.out)
    replace C1 := Lib.hid (gg.cell (p := ⟨O, 1, none⟩) C1.out)
    clear gg
    rw [← HCC.out]
    have x00 := C0.out
    have x01 := C1.out
    go_wp2_with (fail)
    clear x00 x01
    have H := l_like rZ rT 0 0 kZ kT _ _ v2 (by omega) (by omega) RZ.out.rd RT.out.rd
    rw [eqB_self] at H
    refine Calls.mono H ?_
    clear H
    rintro e v3 ⟨rfl, gg⟩
    replace E := Lib.hid (E.out.trans gg)
    replace HQ := Lib.hid (HQ.out.ext gg)
    replace HX := Lib.hid (HX.out.ext gg)
    replace RZ := Lib.hid (RZ.out.ext gg)
    replace RT := Lib.hid (RT.out.ext gg)
    replace C0 := Lib.hid (gg.cell (p := ⟨O, 0, none⟩) C0.out)
    replace C1 := Lib.hid (gg.cell (p := ⟨O, 1, none⟩) C1.out)
    clear gg
    go_wp2_with (fail)
    go_ret
    exact ⟨rfl, E.out⟩
  replace hca : codeA p qs [x] = 0 := by simpa using hca
  obtain ⟨hs, hgx, h4⟩ := codeA_of hca
  have HCA := Lib.hid hca
  have HSP := Lib.hid (hs)
  obtain ⟨hpr, hd1, hd6, hqb⟩ := space_of HSP.out
  have hpb := prime_bd hpr
  have HPR := Lib.hid hpr
  have HQB := Lib.hid hqb
  have HD := Lib.hid HQ.out.1
  rw [HD.out] at hd6 hd1
  obtain ⟨N, hN⟩ : ∃ N, N = 2 ^ d := ⟨_, rfl⟩
  have HN := Lib.hid hN
  have hN6 : N ≤ 64 := by rw [hN]; exact pow_le64 hd6
  have hN1 : 1 ≤ N := by rw [hN]; exact pow_pos' d
  have HPG := fun (tk : Nat → Nat → Bool) (x y : List Int) => Lib.hid (show Good p N (prodL p qs tk x y) by rw [hN, ← HD.out]; exact prod_good (by omega))
  have HNQ := Lib.hid (show N = 2 ^ qs.length by rw [hN, HD.out])
  clear hN hqb hpr
  obtain rfl : N = nx := by rw [← HX.out.1, HNQ.out]; exact hgx.1.symm
  have HGX := Lib.hid (show Good p N x by rw [HNQ.out]; exact hgx)
  clear hgx
  have h4' : d ≤ 4 := by rw [← HD.out]; exact h4
  have HN16 := Lib.hid (show N ≤ 16 by rw [HN.out]; exact Nat.le_trans (Nat.pow_le_pow_right (by omega) h4') (by decide))
  have hN16 := HN16.out
  have HMM := Lib.hid (show ∀ i, i < N → Good p N (nthR (matM p qs x true) i) from fun i hi => by
    have := matM_good (p := p) (qs := qs) (x := x) (left := true) (by omega) i (by rw [matM_len, ← HNQ.out]; exact hi)
    rw [← HNQ.out] at this; exact this)
  have HDI := Lib.hid (det_inv (p := p) (qs := qs) (x := x) HPR.out (by rw [HD.out]; exact hd6) (by rw [← HNQ.out]; exact HGX.out))
  have hi5 : ((5 : Int) != 0) = true := by decide
  have hi5' : ((5 : Int) != 5) = false := by decide
  have hi5b : ((5 : Int) == 0) = false := by decide
  clear hca h4 h4' hs
  cases hi : invOk p qs x
  · skip
    have HC5 := Lib.hid (show codeI p qs x = 5 by unfold codeI; rw [if_pos HCA.out, hi]; rfl)
    have HIV := Lib.hid hi
    have HDT := Lib.hid (show detL p N (matM p qs x true) = 0 from Decidable.byContradiction fun h => by
      have := HDI.out.1 (by rw [← HNQ.out]; exact h)
      rw [hi] at this; cases this)
    clear hi
    have x00 := C0.out
    have x01 := C1.out
    go_wp2_with (fail)
    clear x00 x01
    refine Calls.mono (c_InverseOf_bad p a d cap qs ax N cx x W (by omega) (by omega) HQ.out HX.out (by rw [HC5.out]; decide)) ?_
    rintro e v1 ⟨rZ, kZ, rfl, ho, gg⟩
    have RZ := Lib.hid (ho.mono (Nat.zero_le _))
    clear ho
    replace E := Lib.hid (E.out.trans gg)
    replace HQ := Lib.hid (HQ.out.ext gg)
    replace HX := Lib.hid (HX.out.ext gg)
    replace C0 := Lib.hid (gg.cell (p := ⟨O, 0, none⟩) C0.out)
    replace C1 := Lib.hid (gg.cell (p := ⟨O, 1, none⟩) C1.out)
    clear gg
    rw [HC5.out]
    have x00 := C0.out
    have x01 := C1.out
    go_wp2_with (fail)
    clear x00 x01
    refine Calls.mono (s_InverseOf_bad p a d cap qs ax N cx x v1 (by omega) (by omega) HQ.out HX.out (by rw [HC5.out]; decide)) ?_
    rintro e v2 ⟨rT, kT, rfl, ho, gg⟩
    have RT := Lib.hid (ho.mono (Nat.zero_le _))
    clear ho
    replace E := Lib.hid (E.out.trans gg)
    replace HQ := Lib.hid (HQ.out.ext gg)
    replace HX := Lib.hid (HX.out.ext gg)
    replace RZ := Lib.hid (RZ.out.ext gg)
    replace C0 := Lib.hid (gg.cell (p := ⟨O, 0, none⟩) C0.out)
    replace C1 := Lib.hid (gg.cell (p := ⟨O, 1, none⟩) C1.out)
    clear gg
    rw [HC5.out]
    have x00 := C0.out
    have x01 := C1.out
    go_wp2_with (fail)
    clear x00 x01
    have H := l_like rZ rT 0 0 kZ kT _ _ v2 (by omega) (by omega) RZ.out.rd RT.out.rd
    rw [eqB_self] at H
    refine Calls.mono H ?_
    clear H
    rintro e v3 ⟨rfl, gg⟩
    replace E := Lib.hid (E.out.trans gg)
    replace HQ := Lib.hid (HQ.out.ext gg)
    replace HX := Lib.hid (HX.out.ext gg)
    replace RZ := Lib.hid (RZ.out.ext gg)
    replace RT := Lib.hid (RT.out.ext gg)
    replace C0 := Lib.hid (gg.cell (p := ⟨O, 0, none⟩) C0.out)
    replace C1 := Lib.hid (gg.cell (p := ⟨O, 1, none⟩) C1.out)
    clear gg
    have x00 := C0.out
    have x01 := C1.out
    go_wp2_with (fail)
    clear x00 x01
    refine Calls.mono (c_LeftMatrix_ok p a d cap qs _ N _ x v3 (by omega) (by omega) HQ.out HX.out HCA.out) ?_
    rintro e v4 ⟨rM, kM, rfl, ho, gg⟩
    have RM := Lib.hid ho.rd
    clear ho
    replace E := Lib.hid (E.out.trans gg)
    replace HQ := Lib.hid (HQ.out.ext gg)
    replace HX := Lib.hid (HX.out.ext gg)
    replace RZ := Lib.hid (RZ.out.ext gg)
    replace RT := Lib.hid (RT.out.ext gg)
    replace C0 := Lib.hid (gg.cell (p := ⟨O, 0, none⟩) C0.out)
    replace C1 := Lib.hid (gg.cell (p := ⟨O, 1, none⟩) C1.out)
    clear gg
    have x00 := C0.out
    have x01 := C1.out
    go_wp2_with (fail)
    clear x00 x01
    refine Calls.mono (c_Determinant_ok p rM N kM (matM p qs x true) v4 HPR.out (by omega) (by omega) RM.out HMM.out) ?_
    rintro e v5 ⟨rfl, gg⟩
    replace E := Lib.hid (E.out.trans gg)
    replace HQ := Lib.hid (HQ.out.ext gg)
    replace HX := Lib.hid (HX.out.ext gg)
    replace RZ := Lib.hid (RZ.out.ext gg)
    replace RT := Lib.hid (RT.out.ext gg)
    replace RM := Lib.hid (RM.out.ext gg)
    replace C0 := Lib.hid (gg.cell (p := ⟨O, 0, none⟩) C0.out)
    replace C1 := Lib.hid (gg.cell (p := ⟨O, 1, none⟩) C1.out)
    clear gg
    rw [HDT.out]
    have x00 := C0.out
    have x01 := C1.out
    go_wp2_with (fail)
    clear x00 x01
    refine Calls.mono (c_HasInverse_ok p a d cap qs _ N _ x v5 (by omega) (by omega) HQ.out HX.out HCA.out) ?_
    rintro e v6 ⟨rfl, gg⟩
    replace E := Lib.hid (E.out.trans gg)
    replace HQ := Lib.hid (HQ.out.ext gg)
    replace HX := Lib.hid (HX.out.ext gg)
    replace RZ := Lib.hid (RZ.out.ext gg)
    replace RT := Lib.hid (RT.out.ext gg)
    replace RM := Lib.hid (RM.out.ext gg)
    replace C0 := Lib.hid (gg.cell (p := ⟨O, 0, none⟩) C0.out)
    replace C1 := Lib.hid (gg.cell (p := ⟨O, 1, none⟩) C1.out)
    clear gg
    rw [HIV.out]
    go_wp2_with (fail)
    go_ret
    exact ⟨rfl, E.out⟩
  · skip
    have HC0 := Lib.hid (show codeI p qs x = 0 by unfold codeI; rw [if_pos HCA.out, hi]; rfl)
    have HIV := Lib.hid hi
    have hdt : detL p N (matM p qs x true) ≠ 0 := by rw [HNQ.out]; exact HDI.out.2 hi
    obtain ⟨dt, hdt0⟩ : ∃ z, z = detL p N (matM p qs x true) := ⟨_, rfl⟩
    have HDT := Lib.hid hdt0
    have hdb : (dt != 0) = true := by rw [hdt0]; simp [hdt]
    have HIR := Lib.hid (inv_right HPR.out (by rw [HD.out]; exact hd6) hi)
    have HIL := Lib.hid (inv_left HPR.out (by rw [HD.out]; exact hd6) (by rw [← HNQ.out]; exact HGX.out) hi)
    have HGI := Lib.hid (show Good p N (invL p qs x) by rw [HNQ.out]; exact HIR.out.1)
    have HU1 := Lib.hid (show prodL p qs tkA x (invL p qs x) = (List.replicate N 0).set 0 1 by rw [HNQ.out]; exact HIR.out.2)
    have HU2 := Lib.hid (show prodL p qs tkA (invL p qs x) x = (List.replicate N 0).set 0 1 by rw [HNQ.out]; exact HIL.out)
    clear hi hdt hdt0
    have x00 := C0.out
    have x01 := C1.out
    go_wp2_with (fail)
    clear x00 x01
    have HZ := c_InverseOf_ok p a d cap qs ax N cx x W (by omega) (by omega) HQ.out HX.out HC0.out
    rw [← HN.out] at HZ
    refine Calls.mono (HZ) ?_
    rintro e v1 ⟨rZ, kZ, rfl, ho, gg⟩
    have RZ := Lib.hid (ho.mono (Nat.zero_le _))
    clear ho
    replace E := Lib.hid (E.out.trans gg)
    replace HQ := Lib.hid (HQ.out.ext gg)
    replace HX := Lib.hid (HX.out.ext gg)
    replace C0 := Lib.hid (gg.cell (p := ⟨O, 0, none⟩) C0.out)
    replace C1 := Lib.hid (gg.cell (p := ⟨O, 1, none⟩) C1.out)
    clear gg
    clear HZ
    have x00 := C0.out
    have x01 := C1.out
    go_wp2_with (fail)
    clear x00 x01
    have HT := s_InverseOf_ok p a d cap qs ax N cx x v1 (by omega) (by omega) HQ.out HX.out HC0.out
    rw [← HN.out] at HT
    refine Calls.mono (HT) ?_
    rintro e v2 ⟨rT, kT, rfl, ho, gg⟩
    have RT := Lib.hid (ho.mono (Nat.zero_le _))
    clear ho
    replace E := Lib.hid (E.out.trans gg)
    replace HQ := Lib.hid (HQ.out.ext gg)
    replace HX := Lib.hid (HX.out.ext gg)
    replace RZ := Lib.hid (RZ.out.ext gg)
    replace C0 := Lib.hid (gg.cell (p := ⟨O, 0, none⟩) C0.out)
    replace C1 := Lib.hid (gg.cell (p := ⟨O, 1, none⟩) C1.out)
    clear gg
    clear HT
    obtain ⟨gZ, rfl⟩ := RZ.out.addr (by omega)
    obtain ⟨gT, rfl⟩ := RT.out.addr (by omega)
    have x00 := C0.out
    have x01 := C1.out
    go_wp2_with (fail)
    clear x00 x01
    have H := l_like (some ⟨gZ, 0, none⟩) (some ⟨gT, 0, none⟩) N N kZ kT _ _ v2 (by omega) (by omega) RZ.out.rd RT.out.rd
    rw [eqB_self] at H
    refine Calls.mono H ?_
    clear H
    rintro e v3 ⟨rfl, gg⟩
    replace E := Lib.hid (E.out.trans gg)
    replace HQ := Lib.hid (HQ.out.ext gg)
    replace HX := Lib.hid (HX.out.ext gg)
    replace RZ := Lib.hid (RZ.out.ext gg)
    replace RT := Lib.hid (RT.out.ext gg)
    replace C0 := Lib.hid (gg.cell (p := ⟨O, 0, none⟩) C0.out)
    replace C1 := Lib.hid (gg.cell (p := ⟨O, 1, none⟩) C1.out)
    clear gg
    clear RT
    have x00 := C0.out
    have x01 := C1.out
    go_wp2_with (fail)
    clear x00 x01
    refine Calls.mono (c_LeftMatrix_ok p a d cap qs _ N _ x v3 (by omega) (by omega) HQ.out HX.out HCA.out) ?_
    rintro e v4 ⟨rM, kM, rfl, ho, gg⟩
    have RM := Lib.hid ho.rd
    clear ho
    replace E := Lib.hid (E.out.trans gg)
    replace HQ := Lib.hid (HQ.out.ext gg)
    replace HX := Lib.hid (HX.out.ext gg)
    replace RZ := Lib.hid (RZ.out.ext gg)
    replace C0 := Lib.hid (gg.cell (p := ⟨O, 0, none⟩) C0.out)
    replace C1 := Lib.hid (gg.cell (p := ⟨O, 1, none⟩) C1.out)
    clear gg
    have x00 := C0.out
    have x01 := C1.out
    go_wp2_with (fail)
    clear x00 x01
    refine Calls.mono (c_Determinant_ok p rM N kM (matM p qs x true) v4 HPR.out (by omega) (by omega) RM.out HMM.out) ?_
    rintro e v5 ⟨rfl, gg⟩
    replace E := Lib.hid (E.out.trans gg)
    replace HQ := Lib.hid (HQ.out.ext gg)
    replace HX := Lib.hid (HX.out.ext gg)
    replace RZ := Lib.hid (RZ.out.ext gg)
    replace RM := Lib.hid (RM.out.ext gg)
    replace C0 := Lib.hid (gg.cell (p := ⟨O, 0, none⟩) C0.out)
    replace C1 := Lib.hid (gg.cell (p := ⟨O, 1, none⟩) C1.out)
    clear gg
    rw [← HDT.out]
    have x00 := C0.out
    have x01 := C1.out
    go_wp2_with (fail)
    clear x00 x01
    refine Calls.mono (c_HasInverse_ok p a d cap qs _ N _ x v5 (by omega) (by omega) HQ.out HX.out HCA.out) ?_
    rintro e v6 ⟨rfl, gg⟩
    replace E := Lib.hid (E.out.trans gg)
    replace HQ := Lib.hid (HQ.out.ext gg)
    replace HX := Lib.hid (HX.out.ext gg)
    replace RZ := Lib.hid (RZ.out.ext gg)
    replace RM := Lib.hid (RM.out.ext gg)
    replace C0 := Lib.hid (gg.cell (p := ⟨O, 0, none⟩) C0.out)
    replace C1 := Lib.hid (gg.cell (p := ⟨O, 1, none⟩) C1.out)
    clear gg
    rw [HIV.out]
    clear RM
    have x00 := C0.out
    have x01 := C1.out
    go_wp2_with (fail)
    clear x00 x01
    refine Calls.mono (l_size5 p a d cap v6 hd6 HN.out) ?_
    rintro e v7 ⟨rfl, gg⟩
    replace E := Lib.hid (E.out.trans gg)
    replace HQ := Lib.hid (HQ.out.ext gg)
    replace HX := Lib.hid (HX.out.ext gg)
    replace RZ := Lib.hid (RZ.out.ext gg)
    replace C0 := Lib.hid (gg.cell (p := ⟨O, 0, none⟩) C0.out)
    replace C1 := Lib.hid (gg.cell (p := ⟨O, 1, none⟩) C1.out)
    clear gg
    have x00 := C0.out
    have x01 := C1.out
    go_wp2_with (fail)
    clear x00 x01
    have G := Lib.hid (Ext.refl v7)
    obtain ⟨w9, hmk, ho, gg⟩ := make_ints v7 N (by omega)
    rw [hmk]
    obtain ⟨zD1, hzD1⟩ : ∃ z, z = v7.heap.size := ⟨_, rfl⟩
    have BD1 : v7.heap.size ≤ zD1 := by have := G.out.size; omega
    rw [← hzD1] at ho ⊢
    have D1 := Lib.hid ho
    obtain ⟨v8, hv9⟩ : ∃ x, x = w9 := ⟨_, rfl⟩
    rw [← hv9] at gg D1 ⊢
    clear hmk ho hv9 hzD1
    replace G := Lib.hid (G.out.trans gg)
    clear gg
    have hneO : O ≠ zD1 := by have := lt_of_cell C0.out; dsimp only at this; omega
    have hmeO : zD1 ≠ O := fun h => hneO h.symm
    have cz := D1.out.cell (j := 0) (by omega)
    have fz := D1.out.frozen 0
    have c00 := G.out.cell (p := ⟨O, 0, none⟩) C0.out
    have c01 := G.out.cell (p := ⟨O, 1, none⟩) C1.out
    go_wp2_with (fail)
    clear c00 c01
    clear cz fz hneO hmeO
    obtain ⟨v9, hv9⟩ : ∃ x, x = v8.setCell ⟨zD1, 0, none⟩ (.int .i64 (1)) := ⟨_, rfl⟩
    replace G := Lib.hid (G.out.setCell (p := ⟨zD1, 0, none⟩) BD1 (.int .i64 (1)))
    replace D1 := Lib.hid (D1.out.store (j := 0) (by omega) (1))
    rw [← hv9] at G D1 ⊢
    replace E := Lib.hid (E.out.trans G.out)
    replace HQ := Lib.hid (HQ.out.ext G.out)
    replace HX := Lib.hid (HX.out.ext G.out)
    replace RZ := Lib.hid (RZ.out.ext G.out)
    replace C0 := Lib.hid (G.out.cell (p := ⟨O, 0, none⟩) C0.out)
    replace C1 := Lib.hid (G.out.cell (p := ⟨O, 1, none⟩) C1.out)
    clear G hv9 BD1
    replace D1 := Lib.hid (D1.out.mono (Nat.zero_le _))
    refine Calls.mono (l_times5 p a d cap qs _ _ x _ _ (invL p qs x) v9 HN.out HSP.out HQ.out HX.out RZ.out.rd HGX.out HGI.out) ?_
    rintro e v10 ⟨g9, c9, rfl, ho, gg⟩
    have R9 := Lib.hid (ho.mono (Nat.zero_le _))
    clear ho
    replace E := Lib.hid (E.out.trans gg)
    replace HQ := Lib.hid (HQ.out.ext gg)
    replace HX := Lib.hid (HX.out.ext gg)
    replace RZ := Lib.hid (RZ.out.ext gg)
    replace D1 := Lib.hid (D1.out.ext gg)
    replace C0 := Lib.hid (gg.cell (p := ⟨O, 0, none⟩) C0.out)
    replace C1 := Lib.hid (gg.cell (p := ⟨O, 1, none⟩) C1.out)
    clear gg
    have x00 := C0.out
    have x01 := C1.out
    go_wp2_with (fail)
    clear x00 x01
    have H := l_like (some ⟨g9, 0, none⟩) (some ⟨zD1, 0, none⟩) N N c9 N _ _ v10 (by omega) (by omega) R9.out.rd D1.out.rd
    rw [HU1.out, eqB_self] at H
    refine Calls.mono H ?_
    clear H
    rintro e v11 ⟨rfl, gg⟩
    replace E := Lib.hid (E.out.trans gg)
    replace HQ := Lib.hid (HQ.out.ext gg)
    replace HX := Lib.hid (HX.out.ext gg)
    replace RZ := Lib.hid (RZ.out.ext gg)
    replace D1 := Lib.hid (D1.out.ext gg)
    replace R9 := Lib.hid (R9.out.ext gg)
    replace C0 := Lib.hid (gg.cell (p := ⟨O, 0, none⟩) C0.out)
    replace C1 := Lib.hid (gg.cell (p := ⟨O, 1, none⟩) C1.out)
    clear gg
    have x00 := C0.out
    have x01 := C1.out
    go_wp2_with (fail)
    clear x00 x01
    refine Calls.mono (l_times5 p a d cap qs _ _ (invL p qs x) _ _ x v11 HN.out HSP.out HQ.out RZ.out.rd HX.out HGI.out HGX.out) ?_
    rintro e v12 ⟨g8, c8, rfl, ho, gg⟩
    have R8 := Lib.hid (ho.mono (Nat.zero_le _))
    clear ho
    replace E := Lib.hid (E.out.trans gg)
    replace HQ := Lib.hid (HQ.out.ext gg)
    replace HX := Lib.hid (HX.out.ext gg)
    replace RZ := Lib.hid (RZ.out.ext gg)
    replace D1 := Lib.hid (D1.out.ext gg)
    replace R9 := Lib.hid (R9.out.ext gg)
    replace C0 := Lib.hid (gg.cell (p := ⟨O, 0, none⟩) C0.out)
    replace C1 := Lib.hid (gg.cell (p := ⟨O, 1, none⟩) C1.out)
    clear gg
    have x00 := C0.out
    have x01 := C1.out
    go_wp2_with (fail)
    clear x00 x01
    have H := l_like (some ⟨g8, 0, none⟩) (some ⟨zD1, 0, none⟩) N N c8 N _ _ v12 (by omega) (by omega) R8.out.rd D1.out.rd
    rw [HU2.out, eqB_self] at H
    refine Calls.mono H ?_
    clear H
    rintro e v13 ⟨rfl, gg⟩
    replace E := Lib.hid (E.out.trans gg)
    replace HQ := Lib.hid (HQ.out.ext gg)
    replace HX := Lib.hid (HX.out.ext gg)
    replace RZ := Lib.hid (RZ.out.ext gg)
    replace D1 := Lib.hid (D1.out.ext gg)
    replace R9 := Lib.hid (R9.out.ext gg)
    replace R8 := Lib.hid (R8.out.ext gg)
    replace C0 := Lib.hid (gg.cell (p := ⟨O, 0, none⟩) C0.out)
    replace C1 := Lib.hid (gg.cell (p := ⟨O, 1, none⟩) C1.out)
    clear gg
    go_wp2_with (fail)
    go_ret
    exact ⟨rfl, E.out⟩
end Go.Proofs.Ytbgnfjckbjmgbaa
