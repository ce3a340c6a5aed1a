/-
  Contracts and plain laws, part 12: LawMultivectorInverses, Root, VecIdem, Draw9, MatP, Read, ReadB.
  No condition.
-/
import Derived.Test.YtbgnfjckbjmgbaaPart8
import Derived.Test.YtbgnfjckbjmgbaaPart10
import Derived.Test.YtbgnfjckbjmgbaaPart11
import Derived.Test.YtbgnfjckbjmgbaaPart9
import Derived.Test.YtbgnfjckbjmgbaaPart3
import Derived.Test.YtbgnfjckbjmgbaaPart6
import Derived.Test.YtbgnfjckbjmgbaaPart5
import Derived.Test.YtbgnfjckbjmgbaaPart0
import Derived.ProofKit
import Derived.OpenShut
import Derived.ShutString
import Derived.ChangeOld
import Derived.Below
import Derived.Lib.SmallJoins
/-
  The law FnMultivectorInverses returns true.
  No condition.
-/
namespace Go.Proofs.Ytbgnfjckbjmgbaa
set_option maxRecDepth 100000
open Go.RowKit

theorem codeA_three {p : Int} {qs x : List Int} (h : codeA p qs [x] ≠ 0) : codeA p qs [x] ≠ 5 := by
  rcases codeA_not h with ⟨h1, h2⟩ | ⟨_, _, h2⟩
  · rw [h2]
    unfold codeM at h1 ⊢
    split
    · split <;> decide
    · decide
  · rw [h2]; decide
theorem prod_nothing {p : Int} {qs y z : List Int} (hp : 1 ≤ p) (hz : ∀ i, i < 2 ^ qs.length → nth z i = 0) {k : Nat} (hk : k < 2 ^ qs.length) : nth (prodL p qs tkA y z) k = 0 := by
  rw [prodA_nth hp hk, sumN_zero (fun i hi => by rw [hz _ (Nat.xor_lt_two_pow hi hk)]; simp)]
  rfl
/-- There is an inverse exactly if the determinant of the left matrix is not 0. -/
theorem det_inv {p : Int} {qs x : List Int} (hp : primeB p = true) (hd : qs.length ≤ 6) (hx : Good p (2 ^ qs.length) x) : detL p (2 ^ qs.length) (matM p qs x true) ≠ 0 ↔ invOk p qs x = true := by
  have hpb := prime_bd hp
  have hN := pow_pos' qs.length
  have hML : (matM p qs x true).length = 2 ^ qs.length := matM_len _ _ _ _
  have hMG : RowsG p (2 ^ qs.length) (matM p qs x true) := matM_good (by omega)
  rw [det_rank hp hMG hML]
  constructor
  · intro hr
    exact rank_ok hp hMG hML (blade_good (by omega)) hr
  · intro hi
    refine Decidable.byContradiction fun hne => ?_
    have hle := rank_le hp hMG
    obtain ⟨z, f, hz, hk, hf, h1⟩ := ker_exists hp hMG (by omega)
    have hxz : ∀ i, i < 2 ^ qs.length → nth (prodL p qs tkA x z) i = 0 := fun i hi => by
      rw [← mat_dot (by omega) hd hi]
      exact hk i (by omega)
    have h2 : prodL p qs tkA (invL p qs x) (prodL p qs tkA x z) = z := by
      rw [← prod_assoc (by omega) hd, inv_left hp hd hx hi, one_times (by omega) hz]
    have h3 := prod_nothing (p := p) (qs := qs) (y := invL p qs x) (z := prodL p qs tkA x z) (by omega) hxz hf
    rw [h2, h1] at h3
    cases h3
theorem codeA_of {p : Int} {qs x : List Int} (h : codeA p qs [x] = 0) : spaceB p qs = true ∧ Good p (2 ^ qs.length) x ∧ qs.length ≤ 4 := by
  obtain ⟨h0, h4⟩ := codeA_zero h
  obtain ⟨h1, h2⟩ := codeM_one h0
  exact ⟨h1, good_isB (multi_of h2).1 (multi_of h2).2, h4⟩

set_option maxHeartbeats 8000000 in
set_option maxRecDepth 100000 in
theorem law_MultivectorInverses (w : World) (ac : Option Addr) (nc cc : Nat) (hb : RdY w ac nc) :
    Calls Try.prog 6 #[.slice ac nc cc] w fun e w' => e = .returned (.bool true) ∧ Ext w w' := by
  have HB := Lib.hid hb
  clear hb
  go_enter Try.func6, Try.ntmps6
  go_wp2_with (fail)
  refine Calls.mono (l_big ac nc cc w) ?_
  rintro e w1 ⟨rfl, g0⟩
  have E := Lib.hid g0
  by_cases hbig : 4096 < nc
  · have hbb : decide (4096 < nc) = true := by simp [hbig]
    rw [hbb]
    go_wp2_with (fail)
    go_ret
    exact ⟨rfl, E.out⟩
  have hbb : decide (4096 < nc) = false := by simp [hbig]
  rw [hbb]
  clear g0 hbb
  go_wp2_with (fail)
  refine Calls.mono (s_drawInverseOf ac nc cc w1 (by omega) (HB.out.ext E.out)) ?_
  rintro e w2 ⟨p, a, d, cap, qs, ax, nx, cx, x, rfl, hp0, hp1, hd, hnx, hq, hx, g1⟩
  have E1 := Lib.hid g1
  replace E := Lib.hid (E.out.trans g1)
  have HQ := Lib.hid hq.rd
  have HX := Lib.hid hx.rd
  clear hq hx g1
  go_wp2_with (fail)
  obtain ⟨O, hO⟩ : ∃ O, O = w2.heap.size := ⟨_, rfl⟩
  obtain ⟨W, hW⟩ : ∃ W, W = w2.alloc (.cells #[.int .i64 p, .slice a d cap] 26) := ⟨_, rfl⟩
  have C0 := Lib.hid (show W.cell? ⟨O, 0, none⟩ = some (.int .i64 p) by rw [hW, hO]; simp)
  have C1 := Lib.hid (show W.cell? ⟨O, 1, none⟩ = some (.slice a d cap) by rw [hW, hO]; simp)
  have gg : Ext w2 W := by rw [hW]; exact ext_alloc _ _
  rw [← hO, ← hW]
  clear hO hW E1
  replace E := Lib.hid (E.out.trans gg)
  replace HQ := Lib.hid (HQ.out.ext gg)
  replace HX := Lib.hid (HX.out.ext gg)
  clear gg
  by_cases hca : codeA p qs [x] ≠ 0
  · skip
    have hci : codeI p qs x = codeA p qs [x] := by unfold codeI; rw [if_neg hca]
    have h5 := codeA_three hca
    have HCI := Lib.hid hci
    have HCA := Lib.hid (show codeI p qs x ≠ 0 by rw [hci]; exact hca)
    obtain ⟨cc0, hcc0⟩ : ∃ z, z = codeI p qs x := ⟨_, rfl⟩
    have HCC := Lib.hid hcc0
    have hb0 : (cc0 != 0) = true := by rw [hcc0, hci]; simp [hca]
    have hb5 : (cc0 != 5) = true := by rw [hcc0, hci]; simp [h5]
    clear hci hca h5 hcc0
    have x00 := C0.out
    have x01 := C1.out
    go_wp2_with (fail)
    clear x00 x01
    refine Calls.mono (c_InverseOf_bad p a d cap qs ax nx cx x W (by omega) (by omega) HQ.out HX.out HCA.out) ?_
    rintro e v1 ⟨rZ, kZ, rfl, ho, gg⟩
    have RZ := Lib.hid (ho.mono (Nat.zero_le _))
    clear ho
    replace E := Lib.hid (E.out.trans gg)
    replace HQ := Lib.hid (HQ.out.ext gg)
    replace HX := Lib.hid (HX.out.ext gg)
    replace C0 := Lib.hid (gg.cell (p := ⟨O, 0, none⟩) C0.out)
    replace C1 := Lib.hid (gg.cell (p := ⟨O, 1, none⟩) C1.out)
    clear gg
    rw [← HCC.out]
    have x00 := C0.out
    have x01 := C1.out
    go_wp2_with (fail)
    clear x00 x01
    refine Calls.mono (s_InverseOf_bad p a d cap qs ax nx cx x v1 (by omega) (by omega) HQ.out HX.out HCA.out) ?_
    rintro e v2 ⟨rT, kT, rfl, ho, gg⟩
    have RT := Lib.hid (ho.mono (Nat.zero_le _))
    clear ho
    replace E := Lib.hid (E.out.trans gg)
    replace HQ := Lib.hid (HQ.out.ext gg)
    replace HX := Lib.hid (HX.out.ext gg)
    replace RZ := Lib.hid (RZ.out.ext gg)
    replace C0 := Lib.hid (gg.cell (p := ⟨O, 0, none⟩) C0.out)
    replace C1 := Lib.hid (gg.cell (p := ⟨O, 1, none⟩) C1.out)
    clear gg
    rw [← HCC.out]
    have x00 := C0.out
    have x01 := C1.out
    go_wp2_with (fail)
    clear x00 x01
    have H := l_like rZ rT 0 0 kZ kT _ _ v2 (by omega) (by omega) RZ.out.rd RT.out.rd
    rw [eqB_self] at H
    refine Calls.mono H ?_
    clear H
    rintro e v3 ⟨rfl, gg⟩
    replace E := Lib.hid (E.out.trans gg)
    replace HQ := Lib.hid (HQ.out.ext gg)
    replace HX := Lib.hid (HX.out.ext gg)
    replace RZ := Lib.hid (RZ.out.ext gg)
    replace RT := Lib.hid (RT.out.ext gg)
    replace C0 := Lib.hid (gg.cell (p := ⟨O, 0, none⟩) C0.out)
    replace C1 := Lib.hid (gg.cell (p := ⟨O, 1, none⟩) C1.out)
    clear gg
    go_wp2_with (fail)
    go_ret
    exact ⟨rfl, E.out⟩
  replace hca : codeA p qs [x] = 0 := by simpa using hca
  obtain ⟨hs, hgx, h4⟩ := codeA_of hca
  have HCA := Lib.hid hca
  have HSP := Lib.hid (hs)
  obtain ⟨hpr, hd1, hd6, hqb⟩ := space_of HSP.out
  have hpb := prime_bd hpr
  have HPR := Lib.hid hpr
  have HQB := Lib.hid hqb
  have HD := Lib.hid HQ.out.1
  rw [HD.out] at hd6 hd1
  obtain ⟨N, hN⟩ : ∃ N, N = 2 ^ d := ⟨_, rfl⟩
  have HN := Lib.hid hN
  have hN6 : N ≤ 64 := by rw [hN]; exact pow_le64 hd6
  have hN1 : 1 ≤ N := by rw [hN]; exact pow_pos' d
  have HPG := fun (tk : Nat → Nat → Bool) (x y : List Int) => Lib.hid (show Good p N (prodL p qs tk x y) by rw [hN, ← HD.out]; exact prod_good (by omega))
  have HNQ := Lib.hid (show N = 2 ^ qs.length by rw [hN, HD.out])
  clear hN hqb hpr
  obtain rfl : N = nx := by rw [← HX.out.1, HNQ.out]; exact hgx.1.symm
  have HGX := Lib.hid (show Good p N x by rw [HNQ.out]; exact hgx)
  clear hgx
  have h4' : d ≤ 4 := by rw [← HD.out]; exact h4
  have HN16 := Lib.hid (show N ≤ 16 by rw [HN.out]; exact Nat.le_trans (Nat.pow_le_pow_right (by omega) h4') (by decide))
  have hN16 := HN16.out
  have HMM := Lib.hid (show ∀ i, i < N → Good p N (nthR (matM p qs x true) i) from fun i hi => by
    have := matM_good (p := p) (qs := qs) (x := x) (left := true) (by omega) i (by rw [matM_len, ← HNQ.out]; exact hi)
    rw [← HNQ.out] at this; exact this)
  have HDI := Lib.hid (det_inv (p := p) (qs := qs) (x := x) HPR.out (by rw [HD.out]; exact hd6) (by rw [← HNQ.out]; exact HGX.out))
  have hi5 : ((5 : Int) != 0) = true := by decide
  have hi5' : ((5 : Int) != 5) = false := by decide
  have hi5b : ((5 : Int) == 0) = false := by decide
  clear hca h4 h4' hs
  cases hi : invOk p qs x
  · skip
    have HC5 := Lib.hid (show codeI p qs x = 5 by unfold codeI; rw [if_pos HCA.out, hi]; rfl)
    have HIV := Lib.hid hi
    have HDT := Lib.hid (show detL p N (matM p qs x true) = 0 from Decidable.byContradiction fun h => by
      have := HDI.out.1 (by rw [← HNQ.out]; exact h)
      rw [hi] at this; cases this)
    clear hi
    have x00 := C0.out
    have x01 := C1.out
    go_wp2_with (fail)
    clear x00 x01
    refine Calls.mono (c_InverseOf_bad p a d cap qs ax N cx x W (by omega) (by omega) HQ.out HX.out (by rw [HC5.out]; decide)) ?_
    rintro e v1 ⟨rZ, kZ, rfl, ho, gg⟩
    have RZ := Lib.hid (ho.mono (Nat.zero_le _))
    clear ho
    replace E := Lib.hid (E.out.trans gg)
    replace HQ := Lib.hid (HQ.out.ext gg)
    replace HX := Lib.hid (HX.out.ext gg)
    replace C0 := Lib.hid (gg.cell (p := ⟨O, 0, none⟩) C0.out)
    replace C1 := Lib.hid (gg.cell (p := ⟨O, 1, none⟩) C1.out)
    clear gg
    rw [HC5.out]
    have x00 := C0.out
    have x01 := C1.out
    go_wp2_with (fail)
    clear x00 x01
    refine Calls.mono (s_InverseOf_bad p a d cap qs ax N cx x v1 (by omega) (by omega) HQ.out HX.out (by rw [HC5.out]; decide)) ?_
    rintro e v2 ⟨rT, kT, rfl, ho, gg⟩
    have RT := Lib.hid (ho.mono (Nat.zero_le _))
    clear ho
    replace E := Lib.hid (E.out.trans gg)
    replace HQ := Lib.hid (HQ.out.ext gg)
    replace HX := Lib.hid (HX.out.ext gg)
    replace RZ := Lib.hid (RZ.out.ext gg)
    replace C0 := Lib.hid (gg.cell (p := ⟨O, 0, none⟩) C0.out)
    replace C1 := Lib.hid (gg.cell (p := ⟨O, 1, none⟩) C1.out)
    clear gg
    rw [HC5.out]
    have x00 := C0.out
    have x01 := C1.out
    go_wp2_with (fail)
    clear x00 x01
    have H := l_like rZ rT 0 0 kZ kT _ _ v2 (by omega) (by omega) RZ.out.rd RT.out.rd
    rw [eqB_self] at H
    refine Calls.mono H ?_
    clear H
    rintro e v3 ⟨rfl, gg⟩
    replace E := Lib.hid (E.out.trans gg)
    replace HQ := Lib.hid (HQ.out.ext gg)
    replace HX := Lib.hid (HX.out.ext gg)
    replace RZ := Lib.hid (RZ.out.ext gg)
    replace RT := Lib.hid (RT.out.ext gg)
    replace C0 := Lib.hid (gg.cell (p := ⟨O, 0, none⟩) C0.out)
    replace C1 := Lib.hid (gg.cell (p := ⟨O, 1, none⟩) C1.out)
    clear gg
    have x00 := C0.out
    have x01 := C1.out
    go_wp2_with (fail)
    clear x00 x01
    refine Calls.mono (c_LeftMatrix_ok p a d cap qs _ N _ x v3 (by omega) (by omega) HQ.out HX.out HCA.out) ?_
    rintro e v4 ⟨rM, kM, rfl, ho, gg⟩
    have RM := Lib.hid ho.rd
    clear ho
    replace E := Lib.hid (E.out.trans gg)
    replace HQ := Lib.hid (HQ.out.ext gg)
    replace HX := Lib.hid (HX.out.ext gg)
    replace RZ := Lib.hid (RZ.out.ext gg)
    replace RT := Lib.hid (RT.out.ext gg)
    replace C0 := Lib.hid (gg.cell (p := ⟨O, 0, none⟩) C0.out)
    replace C1 := Lib.hid (gg.cell (p := ⟨O, 1, none⟩) C1.out)
    clear gg
    have x00 := C0.out
    have x01 := C1.out
    go_wp2_with (fail)
    clear x00 x01
    refine Calls.mono (c_Determinant_ok p rM N kM (matM p qs x true) v4 HPR.out (by omega) (by omega) RM.out HMM.out) ?_
    rintro e v5 ⟨rfl, gg⟩
    replace E := Lib.hid (E.out.trans gg)
    replace HQ := Lib.hid (HQ.out.ext gg)
    replace HX := Lib.hid (HX.out.ext gg)
    replace RZ := Lib.hid (RZ.out.ext gg)
    replace RT := Lib.hid (RT.out.ext gg)
    replace RM := Lib.hid (RM.out.ext gg)
    replace C0 := Lib.hid (gg.cell (p := ⟨O, 0, none⟩) C0.out)
    replace C1 := Lib.hid (gg.cell (p := ⟨O, 1, none⟩) C1.out)
    clear gg
    rw [HDT.out]
    have x00 := C0.out
    have x01 := C1.out
    go_wp2_with (fail)
    clear x00 x01
    refine Calls.mono (c_HasInverse_ok p a d cap qs _ N _ x v5 (by omega) (by omega) HQ.out HX.out HCA.out) ?_
    rintro e v6 ⟨rfl, gg⟩
    replace E := Lib.hid (E.out.trans gg)
    replace HQ := Lib.hid (HQ.out.ext gg)
    replace HX := Lib.hid (HX.out.ext gg)
    replace RZ := Lib.hid (RZ.out.ext gg)
    replace RT := Lib.hid (RT.out.ext gg)
    replace RM := Lib.hid (RM.out.ext gg)
    replace C0 := Lib.hid (gg.cell (p := ⟨O, 0, none⟩) C0.out)
    replace C1 := Lib.hid (gg.cell (p := ⟨O, 1, none⟩) C1.out)
    clear gg
    rw [HIV.out]
    go_wp2_with (fail)
    go_ret
    exact ⟨rfl, E.out⟩
  · skip
    have HC0 := Lib.hid (show codeI p qs x = 0 by unfold codeI; rw [if_pos HCA.out, hi]; rfl)
    have HIV := Lib.hid hi
    have hdt : detL p N (matM p qs x true) ≠ 0 := by rw [HNQ.out]; exact HDI.out.2 hi
    obtain ⟨dt, hdt0⟩ : ∃ z, z = detL p N (matM p qs x true) := ⟨_, rfl⟩
    have HDT := Lib.hid hdt0
    have hdb : (dt != 0) = true := by rw [hdt0]; simp [hdt]
    have HIR := Lib.hid (inv_right HPR.out (by rw [HD.out]; exact hd6) hi)
    have HIL := Lib.hid (inv_left HPR.out (by rw [HD.out]; exact hd6) (by rw [← HNQ.out]; exact HGX.out) hi)
    have HGI := Lib.hid (show Good p N (invL p qs x) by rw [HNQ.out]; exact HIR.out.1)
    have HU1 := Lib.hid (show prodL p qs tkA x (invL p qs x) = (List.replicate N 0).set 0 1 by rw [HNQ.out]; exact HIR.out.2)
    have HU2 := Lib.hid (show prodL p qs tkA (invL p qs x) x = (List.replicate N 0).set 0 1 by rw [HNQ.out]; exact HIL.out)
    clear hi hdt hdt0
    have x00 := C0.out
    have x01 := C1.out
    go_wp2_with (fail)
    clear x00 x01
    have HZ := c_InverseOf_ok p a d cap qs ax N cx x W (by omega) (by omega) HQ.out HX.out HC0.out
    rw [← HN.out] at HZ
    refine Calls.mono (HZ) ?_
    rintro e v1 ⟨rZ, kZ, rfl, ho, gg⟩
    have RZ := Lib.hid (ho.mono (Nat.zero_le _))
    clear ho
    replace E := Lib.hid (E.out.trans gg)
    replace HQ := Lib.hid (HQ.out.ext gg)
    replace HX := Lib.hid (HX.out.ext gg)
    replace C0 := Lib.hid (gg.cell (p := ⟨O, 0, none⟩) C0.out)
    replace C1 := Lib.hid (gg.cell (p := ⟨O, 1, none⟩) C1.out)
    clear gg
    clear HZ
    have x00 := C0.out
    have x01 := C1.out
    go_wp2_with (fail)
    clear x00 x01
    have HT := s_InverseOf_ok p a d cap qs ax N cx x v1 (by omega) (by omega) HQ.out HX.out HC0.out
    rw [← HN.out] at HT
    refine Calls.mono (HT) ?_
    rintro e v2 ⟨rT, kT, rfl, ho, gg⟩
    have RT := Lib.hid (ho.mono (Nat.zero_le _))
    clear ho
    replace E := Lib.hid (E.out.trans gg)
    replace HQ := Lib.hid (HQ.out.ext gg)
    replace HX := Lib.hid (HX.out.ext gg)
    replace RZ := Lib.hid (RZ.out.ext gg)
    replace C0 := Lib.hid (gg.cell (p := ⟨O, 0, none⟩) C0.out)
    replace C1 := Lib.hid (gg.cell (p := ⟨O, 1, none⟩) C1.out)
    clear gg
    clear HT
    obtain ⟨gZ, rfl⟩ := RZ.out.addr (by omega)
    obtain ⟨gT, rfl⟩ := RT.out.addr (by omega)
    have x00 := C0.out
    have x01 := C1.out
    go_wp2_with (fail)
    clear x00 x01
    have H := l_like (some ⟨gZ, 0, none⟩) (some ⟨gT, 0, none⟩) N N kZ kT _ _ v2 (by omega) (by omega) RZ.out.rd RT.out.rd
    rw [eqB_self] at H
    refine Calls.mono H ?_
    clear H
    rintro e v3 ⟨rfl, gg⟩
    replace E := Lib.hid (E.out.trans gg)
    replace HQ := Lib.hid (HQ.out.ext gg)
    replace HX := Lib.hid (HX.out.ext gg)
    replace RZ := Lib.hid (RZ.out.ext gg)
    replace RT := Lib.hid (RT.out.ext gg)
    replace C0 := Lib.hid (gg.cell (p := ⟨O, 0, none⟩) C0.out)
    replace C1 := Lib.hid (gg.cell (p := ⟨O, 1, none⟩) C1.out)
    clear gg
    clear RT
    have x00 := C0.out
    have x01 := C1.out
    go_wp2_with (fail)
    clear x00 x01
    refine Calls.mono (c_LeftMatrix_ok p a d cap qs _ N _ x v3 (by omega) (by omega) HQ.out HX.out HCA.out) ?_
    rintro e v4 ⟨rM, kM, rfl, ho, gg⟩
    have RM := Lib.hid ho.rd
    clear ho
    replace E := Lib.hid (E.out.trans gg)
    replace HQ := Lib.hid (HQ.out.ext gg)
    replace HX := Lib.hid (HX.out.ext gg)
    replace RZ := Lib.hid (RZ.out.ext gg)
    replace C0 := Lib.hid (gg.cell (p := ⟨O, 0, none⟩) C0.out)
    replace C1 := Lib.hid (gg.cell (p := ⟨O, 1, none⟩) C1.out)
    clear gg
    have x00 := C0.out
    have x01 := C1.out
    go_wp2_with (fail)
    clear x00 x01
    refine Calls.mono (c_Determinant_ok p rM N kM (matM p qs x true) v4 HPR.out (by omega) (by omega) RM.out HMM.out) ?_
    rintro e v5 ⟨rfl, gg⟩
    replace E := Lib.hid (E.out.trans gg)
    replace HQ := Lib.hid (HQ.out.ext gg)
    replace HX := Lib.hid (HX.out.ext gg)
    replace RZ := Lib.hid (RZ.out.ext gg)
    replace RM := Lib.hid (RM.out.ext gg)
    replace C0 := Lib.hid (gg.cell (p := ⟨O, 0, none⟩) C0.out)
    replace C1 := Lib.hid (gg.cell (p := ⟨O, 1, none⟩) C1.out)
    clear gg
    rw [← HDT.out]
    have x00 := C0.out
    have x01 := C1.out
    go_wp2_with (fail)
    clear x00 x01
    refine Calls.mono (c_HasInverse_ok p a d cap qs _ N _ x v5 (by omega) (by omega) HQ.out HX.out HCA.out) ?_
    rintro e v6 ⟨rfl, gg⟩
    replace E := Lib.hid (E.out.trans gg)
    replace HQ := Lib.hid (HQ.out.ext gg)
    replace HX := Lib.hid (HX.out.ext gg)
    replace RZ := Lib.hid (RZ.out.ext gg)
    replace RM := Lib.hid (RM.out.ext gg)
    replace C0 := Lib.hid (gg.cell (p := ⟨O, 0, none⟩) C0.out)
    replace C1 := Lib.hid (gg.cell (p := ⟨O, 1, none⟩) C1.out)
    clear gg
    rw [HIV.out]
    clear RM
    have x00 := C0.out
    have x01 := C1.out
    go_wp2_with (fail)
    clear x00 x01
    refine Calls.mono (l_size5 p a d cap v6 hd6 HN.out) ?_
    rintro e v7 ⟨rfl, gg⟩
    replace E := Lib.hid (E.out.trans gg)
    replace HQ := Lib.hid (HQ.out.ext gg)
    replace HX := Lib.hid (HX.out.ext gg)
    replace RZ := Lib.hid (RZ.out.ext gg)
    replace C0 := Lib.hid (gg.cell (p := ⟨O, 0, none⟩) C0.out)
    replace C1 := Lib.hid (gg.cell (p := ⟨O, 1, none⟩) C1.out)
    clear gg
    have x00 := C0.out
    have x01 := C1.out
    go_wp2_with (fail)
    clear x00 x01
    have G := Lib.hid (Ext.refl v7)
    obtain ⟨w9, hmk, ho, gg⟩ := make_ints v7 N (by omega)
    rw [hmk]
    obtain ⟨zD1, hzD1⟩ : ∃ z, z = v7.heap.size := ⟨_, rfl⟩
    have BD1 : v7.heap.size ≤ zD1 := by have := G.out.size; omega
    rw [← hzD1] at ho ⊢
    have D1 := Lib.hid ho
    obtain ⟨v8, hv9⟩ : ∃ x, x = w9 := ⟨_, rfl⟩
    rw [← hv9] at gg D1 ⊢
    clear hmk ho hv9 hzD1
    replace G := Lib.hid (G.out.trans gg)
    clear gg
    have hneO : O ≠ zD1 := by have := lt_of_cell C0.out; dsimp only at this; omega
    have hmeO : zD1 ≠ O := fun h => hneO h.symm
    have cz := D1.out.cell (j := 0) (by omega)
    have fz := D1.out.frozen 0
    have c00 := G.out.cell (p := ⟨O, 0, none⟩) C0.out
    have c01 := G.out.cell (p := ⟨O, 1, none⟩) C1.out
    go_wp2_with (fail)
    clear c00 c01
    clear cz fz hneO hmeO
    obtain ⟨v9, hv9⟩ : ∃ x, x = v8.setCell ⟨zD1, 0, none⟩ (.int .i64 (1)) := ⟨_, rfl⟩
    replace G := Lib.hid (G.out.setCell (p := ⟨zD1, 0, none⟩) BD1 (.int .i64 (1)))
    replace D1 := Lib.hid (D1.out.store (j := 0) (by omega) (1))
    rw [← hv9] at G D1 ⊢
    replace E := Lib.hid (E.out.trans G.out)
    replace HQ := Lib.hid (HQ.out.ext G.out)
    replace HX := Lib.hid (HX.out.ext G.out)
    replace RZ := Lib.hid (RZ.out.ext G.out)
    replace C0 := Lib.hid (G.out.cell (p := ⟨O, 0, none⟩) C0.out)
    replace C1 := Lib.hid (G.out.cell (p := ⟨O, 1, none⟩) C1.out)
    clear G hv9 BD1
    replace D1 := Lib.hid (D1.out.mono (Nat.zero_le _))
    refine Calls.mono (l_times5 p a d cap qs _ _ x _ _ (invL p qs x) v9 HN.out HSP.out HQ.out HX.out RZ.out.rd HGX.out HGI.out) ?_
    rintro e v10 ⟨g9, c9, rfl, ho, gg⟩
    have R9 := Lib.hid (ho.mono (Nat.zero_le _))
    clear ho
    replace E := Lib.hid (E.out.trans gg)
    replace HQ := Lib.hid (HQ.out.ext gg)
    replace HX := Lib.hid (HX.out.ext gg)
    replace RZ := Lib.hid (RZ.out.ext gg)
    replace D1 := Lib.hid (D1.out.ext gg)
    replace C0 := Lib.hid (gg.cell (p := ⟨O, 0, none⟩) C0.out)
    replace C1 := Lib.hid (gg.cell (p := ⟨O, 1, none⟩) C1.out)
    clear gg
    have x00 := C0.out
    have x01 := C1.out
    go_wp2_with (fail)
    clear x00 x01
    have H := l_like (some ⟨g9, 0, none⟩) (some ⟨zD1, 0, none⟩) N N c9 N _ _ v10 (by omega) (by omega) R9.out.rd D1.out.rd
    rw [HU1.out, eqB_self] at H
    refine Calls.mono H ?_
    clear H
    rintro e v11 ⟨rfl, gg⟩
    replace E := Lib.hid (E.out.trans gg)
    replace HQ := Lib.hid (HQ.out.ext gg)
    replace HX := Lib.hid (HX.out.ext gg)
    replace RZ := Lib.hid (RZ.out.ext gg)
    replace D1 := Lib.hid (D1.out.ext gg)
    replace R9 := Lib.hid (R9.out.ext gg)
    replace C0 := Lib.hid (gg.cell (p := ⟨O, 0, none⟩) C0.out)
    replace C1 := Lib.hid (gg.cell (p := ⟨O, 1, none⟩) C1.out)
    clear gg
    have x00 := C0.out
    have x01 := C1.out
    go_wp2_with (fail)
    clear x00 x01
    refine Calls.mono (l_times5 p a d cap qs _ _ (invL p qs x) _ _ x v11 HN.out HSP.out HQ.out RZ.out.rd HX.out HGI.out HGX.out) ?_
    rintro e v12 ⟨g8, c8, rfl, ho, gg⟩
    have R8 := Lib.hid (ho.mono (Nat.zero_le _))
    clear ho
    replace E := Lib.hid (E.out.trans gg)
    replace HQ := Lib.hid (HQ.out.ext gg)
    replace HX := Lib.hid (HX.out.ext gg)
    replace RZ := Lib.hid (RZ.out.ext gg)
    replace D1 := Lib.hid (D1.out.ext gg)
    replace R9 := Lib.hid (R9.out.ext gg)
    replace C0 := Lib.hid (gg.cell (p := ⟨O, 0, none⟩) C0.out)
    replace C1 := Lib.hid (gg.cell (p := ⟨O, 1, none⟩) C1.out)
    clear gg
    have x00 := C0.out
    have x01 := C1.out
    go_wp2_with (fail)
    clear x00 x01
    have H := l_like (some ⟨g8, 0, none⟩) (some ⟨zD1, 0, none⟩) N N c8 N _ _ v12 (by omega) (by omega) R8.out.rd D1.out.rd
    rw [HU2.out, eqB_self] at H
    refine Calls.mono H ?_
    clear H
    rintro e v13 ⟨rfl, gg⟩
    replace E := Lib.hid (E.out.trans gg)
    replace HQ := Lib.hid (HQ.out.ext gg)
    replace HX := Lib.hid (HX.out.ext gg)
    replace RZ := Lib.hid (RZ.out.ext gg)
    replace D1 := Lib.hid (D1.out.ext gg)
    replace R9 := Lib.hid (R9.out.ext gg)
    replace R8 := Lib.hid (R8.out.ext gg)
    replace C0 := Lib.hid (gg.cell (p := ⟨O, 0, none⟩) C0.out)
    replace C1 := Lib.hid (gg.cell (p := ⟨O, 1, none⟩) C1.out)
    clear gg
    go_wp2_with (fail)
    go_ret
    exact ⟨rfl, E.out⟩
end Go.Proofs.Ytbgnfjckbjmgbaa

/-
  Square roots of numbers, in the program and in the reference.
  No condition.
-/
namespace Go.Proofs.Ytbgnfjckbjmgbaa
set_option maxRecDepth 100000
open Go.RowKit

def rootB (p a : Int) : Bool := (List.range p.toNat).any fun (i : Nat) => ((i : Int) * (i : Int)) % p == a
theorem rootB_at {p a : Int} {k : Nat} (hk : (k : Int) < p) (h : ((k : Int) * (k : Int)) % p = a) : rootB p a = true := by
  unfold rootB
  rw [List.any_eq_true]
  exact ⟨k, List.mem_range.2 (by omega), by simp [h]⟩
theorem rootB_none {p a : Int} (h : ∀ j : Nat, (j : Int) < p → ((j : Int) * (j : Int)) % p ≠ a) : rootB p a = false := by
  unfold rootB
  rw [List.any_eq_false]
  intro j hj
  have := h j (by have := List.mem_range.1 hj; omega)
  simpa using this
def rootI (p a : Int) : Int := match (List.range p.toNat).find? (fun (i : Nat) => ((i : Int) * (i : Int)) % p == a) with | some i => (i : Int) | none => -1
theorem rootI_eq {p a : Int} {k : Nat} (hk : (k : Int) < p) (h : ((k : Int) * (k : Int)) % p = a) (hl : ∀ j : Nat, j < k → ((j : Int) * (j : Int)) % p ≠ a) : rootI p a = k := by
  unfold rootI
  have : (List.range p.toNat).find? (fun (i : Nat) => ((i : Int) * (i : Int)) % p == a) = some k := by
    rw [List.find?_range_eq_some]
    exact ⟨by simp [h], by simp; omega, fun j hj => by simp [hl j hj]⟩
  rw [this]
theorem rootI_none {p a : Int} (h : ∀ j : Nat, (j : Int) < p → ((j : Int) * (j : Int)) % p ≠ a) : rootI p a = -1 := by
  unfold rootI
  have : (List.range p.toNat).find? (fun (i : Nat) => ((i : Int) * (i : Int)) % p == a) = none := by
    rw [List.find?_range_eq_none]
    exact fun j hj => by simpa using h j (by omega)
  rw [this]
theorem rootI_dec (p a : Int) : (0 ≤ rootI p a) = (rootB p a = true) := by
  unfold rootI rootB
  cases h : (List.range p.toNat).find? (fun (i : Nat) => ((i : Int) * (i : Int)) % p == a) with
  | none =>
    rw [List.find?_eq_none] at h
    simp only [eq_iff_iff]
    constructor
    · intro h1; omega
    · intro h1
      obtain ⟨i, hi, hb⟩ := List.any_eq_true.1 h1
      exact absurd hb (h i hi)
  | some i =>
    simp only [eq_iff_iff]
    refine ⟨fun _ => List.any_eq_true.2 ⟨i, List.mem_of_find?_eq_some h, by simpa using List.find?_some h⟩, fun _ => by omega⟩

set_option maxHeartbeats 400000 in
theorem s_root (p a : Int) (w : World) (hp1 : 3 ≤ p) (hp2 : p ≤ 1000) :
    Calls Try.prog 203 #[.int .i64 p, .int .i64 a] w fun e w' => e = .returned (.int .i64 (rootI p a)) ∧ Ext w w' := by
  have hpz : ¬ p = 0 := by omega
  go_enter Try.func203, Try.ntmps203
  go_wp2_with (fail)
  go_loopw [5] (fun i wr => ∃ k : Nat, (k : Int) ≤ p ∧ i = .int .i64 k ∧ Hid (∀ j : Nat, j < k → ((j : Int) * (j : Int)) % p ≠ a) ∧ Ext w wr) (fun i _ => p.toNat - (intOf i).toNat)
  case atStart => exact ⟨0, by omega, rfl, Lib.hid (fun j hj => by omega), Ext.refl _⟩
  case round =>
    obtain ⟨k, hk, rfl, HT, hext⟩ := hrel
    by_cases hlt : (k : Int) < p
    · obtain ⟨hm1, hm2⟩ := mul_bd hp2 (show 0 ≤ (k : Int) by omega) hlt (show 0 ≤ (k : Int) by omega) hlt
      obtain ⟨R, hR⟩ : ∃ R, R = (k : Int) * (k : Int) % p := ⟨_, rfl⟩
      have HR := Lib.hid hR
      have hw1 : IntKind.i64.wrap ((k : Int) * (k : Int)) = (k : Int) * (k : Int) := IntWalk.i64_in _ (by omega)
      have hw2 : ((k : Int) * (k : Int)).tmod p = R := by rw [hR]; exact Int.tmod_eq_emod_of_nonneg hm1
      clear hR
      by_cases hz : R = a
      · have HZ := Lib.hid hz
        have hzb : (R == a) = true := by simp [hz]
        clear hz
        go_wp2_with (fail)
        go_ret
        exact ⟨ret_int (rootI_eq (by omega) (by rw [← HR.out]; exact HZ.out) HT.out).symm, hext⟩
      · have HZ := Lib.hid hz
        have hzb : (R == a) = false := by simp [hz]
        clear hz
        go_wp2_with (fail)
        go_roundw
        case rel => exact ⟨k + 1, by omega, by go_num, Lib.hid (fun j hj => by
          by_cases hjk : j = k
          · subst hjk; rw [← HR.out]; exact HZ.out
          · exact HT.out j (by omega)), hext⟩
        case measure => simp [intOf]; omega
    · go_wp2_with (fail)
      go_ret
      exact ⟨ret_int (rootI_none (fun j hj => HT.out j (by omega))).symm, hext⟩
end Go.Proofs.Ytbgnfjckbjmgbaa

/-
  The reference's VectorIdempotent at a good multivector: as much of it as draws need.
  No condition.
-/
namespace Go.Proofs.Ytbgnfjckbjmgbaa
set_option maxRecDepth 100000
open Go.RowKit

theorem rootI_lt {p a : Int} (hp : 1 ≤ p) : rootI p a < p := by
  unfold rootI
  split
  · rename_i i h
    have := List.mem_of_find?_eq_some h
    rw [List.mem_range] at this
    omega
  · omega

set_option maxHeartbeats 1000000 in
theorem s_list4 {N d : Nat} (hN : N = 2 ^ d) (p : Int) (a : Option Addr) (cap : Nat) (ax : Option Addr) (cx : Nat) (x : List Int) (w : World) (hd : d ≤ 6) (hx : RdC w ax N x) (hgx : Good p N x) :
    Calls Try.prog 202 #[.agg #[.int .i64 p, .slice a d cap], .slice ax N cx] w fun e w' => ∃ b c xs, e = .returned (.slice b d c) ∧ OwnC w.heap.size w' b d c xs ∧ Good p d xs ∧ Ext w w' := by
  have HN := Lib.hid hN
  have HX := Lib.hid hx
  have HG := Lib.hid hgx
  obtain ⟨O, hO⟩ : ∃ O, O = w.heap.size := ⟨_, rfl⟩
  obtain ⟨W, hW⟩ : ∃ W, W = w.alloc (.cells #[.int .i64 p, .slice a d cap] 26) := ⟨_, rfl⟩
  have gW : Ext w W := by rw [hW]; exact ext_alloc _ _
  have C1 := Lib.hid (show W.cell? ⟨O, 1, none⟩ = some (.slice a d cap) by rw [hW, hO]; simp)
  have GW := Lib.hid gW
  have HW := Lib.hid hW
  have HZ := Lib.hid (show W.heap.size = w.heap.size + 1 by rw [hW]; simp)
  have HOO := Lib.hid hO
  clear hN hx hgx gW hW
  go_enter Try.func202, Try.ntmps202
  go_wp2_with (fail)
  rw [← hO, ← HW.out]
  clear hO
  go_loopw [5, 6] (fun o i wr => ∃ (k : Nat) (b : Option Addr) (c : Nat) (xs : List Int), k ≤ d ∧ i = .int .i64 k ∧ o = .slice b k c ∧ Hid (OwnC (w.heap.size + 1) wr b k c xs) ∧ Hid (Good p k xs) ∧ Hid (Ext W wr)) (fun _ i _ => d - (intOf i).toNat)
  case atStart => exact ⟨0, _, 0, [], Nat.zero_le _, rfl, rfl, Lib.hid (by have h := own_empty W; rw [HZ.out] at h; rw [HOO.out]; exact h), Lib.hid ⟨rfl, fun i hi => by omega⟩, Lib.hid (ext_alloc _ _)⟩
  case round =>
    obtain ⟨k, b, c, xs, hk, rfl, rfl, HO, HB, HE⟩ := hrel
    have c1 := HE.out.cell C1.out
    by_cases hlt : k < d
    · have hpi : IntKind.i64.wrap (2 ^ k) = ((2 ^ k : Nat) : Int) := pow_wrapI (by omega)
      have hpw : wrap64 (2 ^ k) = ((2 ^ k : Nat) : Int) := pow_wrap (by omega)
      have hcv := conv_u k (by omega)
      have hMN : 2 ^ k < N := by rw [HN.out]; exact Nat.pow_lt_pow_right (by omega) hlt
      obtain ⟨M, hM⟩ : ∃ M, M = 2 ^ k := ⟨_, rfl⟩
      rw [← hM] at hpi hpw hMN
      obtain ⟨bx, ox, rfl, hcx⟩ := HX.out.2 M hMN
      have hcx' := (GW.out.trans HE.out).cell hcx
      have hbd := HG.out.2 M hMN
      clear hcx hM
      go_wp2_with (at_builtin; refine wpList_push rfl (.tmp 15) (.tmp 22) rfl rfl rfl (v := nth x M) (HO.out.ext (ext_alloc _ _)) ?hc ?hn ?hB ?hk)
      case hc => simp
      case hn => omega
      case hB => have := HE.out.size; have := HZ.out; simp; omega
      case hk =>
        intro g' cap' w3 ho3 hg3 he3
        have HO3 := Lib.hid ho3
        have HE3 := Lib.hid (he3 W (by rw [HZ.out]; exact Nat.le_refl _) (HE.out.trans (ext_alloc _ _)))
        have HB3 := Lib.hid (good_snoc HB.out hbd.1 hbd.2)
        clear ho3 hg3 he3 c1 hcx'
        go_wp2_with (fail)
        go_roundw
        case rel => exact ⟨k + 1, _, cap', _, by omega, by go_num, rfl, HO3, HB3, HE3⟩
        case measure => simp [intOf]; omega
    · go_wp2_with (fail)
      go_ret
      obtain rfl : k = d := by omega
      exact ⟨b, c, xs, rfl, HO.out.mono (by omega), HB.out, GW.out.trans HE.out⟩

set_option maxHeartbeats 8000000 in
set_option maxRecDepth 100000 in
theorem s_vecIdem {N : Nat} (p : Int) (a : Option Addr) (d cap : Nat) (qs : List Int) (ax : Option Addr) (cx : Nat) (x : List Int) (w : World) (hN : N = 2 ^ d) (hs : spaceB p qs = true) (h4 : d ≤ 4) (hq : RdC w a d qs) (hx : RdC w ax N x) (hgx : Good p N x) :
    Calls Try.prog 178 #[.agg #[.int .i64 p, .slice a d cap], .slice ax N cx] w fun e w' => ∃ b m c xs code, e = .returned (.tuple #[.slice b m c, .int .i64 code]) ∧ (code = 0 → m = N ∧ Good p N xs) ∧ OwnC w.heap.size w' b m c xs ∧ Ext w w' := by
  obtain ⟨hpr, hd1, hd6, hqb⟩ := space_of hs
  have hpb := prime_bd hpr
  have HPR := Lib.hid hpr
  have HQB := Lib.hid hqb
  have HD := Lib.hid hq.1
  have hN6 : N ≤ 64 := by rw [hN]; exact pow_le64 (by omega)
  have hN1 : 0 < N := by rw [hN]; exact pow_pos' d
  have HN := Lib.hid hN
  have HC := Lib.hid (show codeA p qs [x] = 0 by
    unfold codeA
    rw [codeM_one0 hs (by rw [hq.1, ← hN]; exact hgx), if_pos rfl, if_pos (by rw [hq.1]; exact h4)])
  have hcb : ((0 : Int) != 0) = false := by simp
  obtain ⟨O, hO⟩ : ∃ O, O = w.heap.size := ⟨_, rfl⟩
  obtain ⟨W, hW⟩ : ∃ W, W = w.alloc (.cells #[.int .i64 p, .slice a d cap] 26) := ⟨_, rfl⟩
  have gW : Ext w W := by rw [hW]; exact ext_alloc _ _
  have C0 := Lib.hid (show W.cell? ⟨O, 0, none⟩ = some (.int .i64 p) by rw [hW, hO]; simp)
  have C1 := Lib.hid (show W.cell? ⟨O, 1, none⟩ = some (.slice a d cap) by rw [hW, hO]; simp)
  have HQ := Lib.hid (hq.ext gW)
  have HX := Lib.hid (hx.ext gW)
  have E := Lib.hid gW
  have HW := Lib.hid hW
  have HO1 := Lib.hid (show O + 1 = W.heap.size by rw [hW, hO]; simp)
  have HGX := Lib.hid hgx
  have HGO := Lib.hid (show Good p N (bladeL N 0) from blade_good (by omega))
  have hxl := hx.1
  clear hN hs hq hx hgx hpr hqb gW hW
  go_enter Try.func178, Try.ntmps178
  have c0 := C0.out
  have c1 := C1.out
  go_wp2_with (fail)
  rw [← hO, ← HW.out]
  clear hO c0 c1
  refine Calls.mono (s_code9 p a d cap qs _ 1 _ [x] _ (by omega) (by omega) (len_one (by rw [hxl]; omega)) (HQ.out.ext (ext_alloc _ _)) (rdR_one (a := ax) (n := N) (cap := cx) (by rw [HO1.out]; simp) (HX.out.ext (ext_alloc _ _)))) ?_
  rintro e v1 ⟨rfl, g1⟩
  have gg := (ext_alloc W _).trans g1
  rw [HC.out]
  replace E := Lib.hid (E.out.trans gg)
  replace HQ := Lib.hid (HQ.out.ext gg)
  replace HX := Lib.hid (HX.out.ext gg)
  replace C0 := Lib.hid (gg.cell (p := ⟨O, 0, none⟩) C0.out)
  replace C1 := Lib.hid (gg.cell (p := ⟨O, 1, none⟩) C1.out)
  clear gg g1
  have x00 := C0.out
  have x01 := C1.out
  go_wp2_with (fail)
  clear x00 x01
  refine Calls.mono (s_list4 HN.out p a cap ax cx x v1 (by omega) HX.out HGX.out) ?_
  rintro e v2 ⟨rl, cl, lx, rfl, ho, hgl, gg⟩
  have HGL := Lib.hid hgl
  clear hgl
  have RL := Lib.hid (ho.mono (Nat.zero_le _))
  clear ho
  replace E := Lib.hid (E.out.trans gg)
  replace HQ := Lib.hid (HQ.out.ext gg)
  replace HX := Lib.hid (HX.out.ext gg)
  replace C0 := Lib.hid (gg.cell (p := ⟨O, 0, none⟩) C0.out)
  replace C1 := Lib.hid (gg.cell (p := ⟨O, 1, none⟩) C1.out)
  clear gg
  have x00 := C0.out
  have x01 := C1.out
  go_wp2_with (fail)
  clear x00 x01
  replace E := Lib.hid (E.out.trans (ext_drew v2))
  replace HQ := Lib.hid (HQ.out.ext (ext_drew v2))
  replace HX := Lib.hid (HX.out.ext (ext_drew v2))
  replace RL := Lib.hid (RL.out.ext (ext_drew v2))
  replace C0 := Lib.hid ((ext_drew v2).cell (p := ⟨O, 0, none⟩) C0.out)
  replace C1 := Lib.hid ((ext_drew v2).cell (p := ⟨O, 1, none⟩) C1.out)
  refine wp_region_lex [(5, .val (.int .i64 (pairL p qs lx lx d))), (6, .val (.int .i64 (rootI p (pairL p qs lx lx d))))] (by kernel_rfl) (by kernel_rfl) ?_
  (refine LexW.pure (v := ?_) rfl rfl (fun w1 he => ?_) ?_; rotate_left; ( have x00 := (he.cell (p := ⟨O, 0, none⟩) C0.out); have x01 := (he.cell (p := ⟨O, 1, none⟩) C1.out); go_simp; rfl); simp only [Act.put, List.setIfInBounds_toArray, List.set_cons_zero, List.set_cons_succ])
  (refine LexW.pure (v := ?_) rfl rfl (fun w1 he => ?_) ?_; rotate_left; ( have x00 := (he.cell (p := ⟨O, 0, none⟩) C0.out); have x01 := (he.cell (p := ⟨O, 1, none⟩) C1.out); go_simp; rfl); simp only [Act.put, List.setIfInBounds_toArray, List.set_cons_zero, List.set_cons_succ])
  (refine LexW.pure (v := ?_) rfl rfl (fun w1 he => ?_) ?_; rotate_left; ( have x00 := (he.cell (p := ⟨O, 0, none⟩) C0.out); have x01 := (he.cell (p := ⟨O, 1, none⟩) C1.out); go_simp; rfl); simp only [Act.put, List.setIfInBounds_toArray, List.set_cons_zero, List.set_cons_succ])
  (refine LexW.pure (v := ?_) rfl rfl (fun w1 he => ?_) ?_; rotate_left; ( have x00 := (he.cell (p := ⟨O, 0, none⟩) C0.out); have x01 := (he.cell (p := ⟨O, 1, none⟩) C1.out); go_simp; rfl); simp only [Act.put, List.setIfInBounds_toArray, List.set_cons_zero, List.set_cons_succ])
  (refine LexW.pure (v := ?_) rfl rfl (fun w1 he => ?_) ?_; rotate_left; ( have x00 := (he.cell (p := ⟨O, 0, none⟩) C0.out); have x01 := (he.cell (p := ⟨O, 1, none⟩) C1.out); go_simp; rfl); simp only [Act.put, List.setIfInBounds_toArray, List.set_cons_zero, List.set_cons_succ])
  (refine LexW.call (f := ?_) (args := ?_) rfl rfl (fun w1 => ?_) (fun w1 he hdep => ?_) ?_; rotate_left 2; (go_simp; refine ⟨?_, ?_⟩ <;> rfl); ( exact s_pair p a d cap qs _ _ lx _ _ lx w1 (by omega) (by omega) (by omega) (HQ.out.ext he) HQB.out (RL.out.rd.ext he) HGL.out (RL.out.rd.ext he) HGL.out); simp only [Act.put, List.setIfInBounds_toArray, List.set_cons_zero, List.set_cons_succ])
  (refine LexW.call (f := ?_) (args := ?_) rfl rfl (fun w1 => ?_) (fun w1 he hdep => ?_) ?_; rotate_left 2; (go_simp; refine ⟨?_, ?_⟩ <;> rfl); ( exact s_root p _ w1 (by omega) (by omega)); simp only [Act.put, List.setIfInBounds_toArray, List.set_cons_zero, List.set_cons_succ])
  (refine LexW.pure (v := ?_) rfl rfl (fun w1 he => ?_) ?_; rotate_left; ( have x00 := (he.cell (p := ⟨O, 0, none⟩) C0.out); have x01 := (he.cell (p := ⟨O, 1, none⟩) C1.out); go_simp; rfl); simp only [Act.put, List.setIfInBounds_toArray, List.set_cons_zero, List.set_cons_succ])
  refine LexW.nil (fun w3 he hkn => ?_)
  have HE := Lib.hid he
  clear he hkn 
  rename World => v3
  replace E := Lib.hid (E.out.trans HE.out)
  replace HQ := Lib.hid (HQ.out.ext HE.out)
  replace HX := Lib.hid (HX.out.ext HE.out)
  replace RL := Lib.hid (RL.out.ext HE.out)
  replace C0 := Lib.hid (HE.out.cell (p := ⟨O, 0, none⟩) C0.out)
  replace C1 := Lib.hid (HE.out.cell (p := ⟨O, 1, none⟩) C1.out)
  clear HE
  obtain ⟨rt, hrt⟩ : ∃ z, z = rootI p (pairL p qs lx lx d) := ⟨_, rfl⟩
  have hrl : rt < p := by rw [hrt]; exact rootI_lt (by omega)
  rw [← hrt]
  clear hrt
  have x00 := C0.out
  have x01 := C1.out
  go_wp2_with (fail)
  clear x00 x01
  refine Calls.mono (s_partW ax N cx x 1 v3 (by omega) HX.out) ?_
  rintro e v4 ⟨gp, ys, rfl, ho, gg⟩
  have RP := Lib.hid (ho.mono (Nat.zero_le _))
  clear ho
  replace E := Lib.hid (E.out.trans gg)
  replace HQ := Lib.hid (HQ.out.ext gg)
  replace HX := Lib.hid (HX.out.ext gg)
  replace RL := Lib.hid (RL.out.ext gg)
  replace C0 := Lib.hid (gg.cell (p := ⟨O, 0, none⟩) C0.out)
  replace C1 := Lib.hid (gg.cell (p := ⟨O, 1, none⟩) C1.out)
  clear gg
  have hyl : ys.length = N := RP.out.1
  have x00 := C0.out
  have x01 := C1.out
  go_wp2_with (fail)
  clear x00 x01
  refine Calls.mono (s_same ax _ N N cx N x ys v4 (by omega) (by omega) HX.out RP.out.rd) ?_
  rintro e v5 ⟨rfl, gg⟩
  replace E := Lib.hid (E.out.trans gg)
  replace HQ := Lib.hid (HQ.out.ext gg)
  replace HX := Lib.hid (HX.out.ext gg)
  replace RL := Lib.hid (RL.out.ext gg)
  replace RP := Lib.hid (RP.out.ext gg)
  replace C0 := Lib.hid (gg.cell (p := ⟨O, 0, none⟩) C0.out)
  replace C1 := Lib.hid (gg.cell (p := ⟨O, 1, none⟩) C1.out)
  clear gg
  cases hsm : eqB x ys
  · skip
    go_wp2_with (fail)
    go_ret2
    exact ⟨none, 0, 0, [], 5, rfl, (fun h => by cases h), own_nil _ _, E.out⟩
  by_cases hr0 : rt ≤ 0
  · skip
    go_wp2_with (fail)
    go_ret2
    exact ⟨none, 0, 0, [], 5, rfl, (fun h => by cases h), own_nil _ _, E.out⟩
  have x00 := C0.out
  have x01 := C1.out
  go_wp2_with (fail)
  clear x00 x01
  refine Calls.mono (s_inv p 2 v5 HPR.out (by omega) (by omega)) ?_
  rintro e v6 ⟨rfl, gg⟩
  replace E := Lib.hid (E.out.trans gg)
  replace HQ := Lib.hid (HQ.out.ext gg)
  replace HX := Lib.hid (HX.out.ext gg)
  replace RL := Lib.hid (RL.out.ext gg)
  replace RP := Lib.hid (RP.out.ext gg)
  replace C0 := Lib.hid (gg.cell (p := ⟨O, 0, none⟩) C0.out)
  replace C1 := Lib.hid (gg.cell (p := ⟨O, 1, none⟩) C1.out)
  clear gg
  obtain ⟨hf, hhf⟩ : ∃ z, z = invN p 2 := ⟨_, rfl⟩
  have hhb : 0 ≤ hf ∧ hf < p := by rw [hhf]; exact invN_bd (by omega)
  rw [← hhf]
  obtain ⟨ri, hri⟩ : ∃ z, z = invN p rt := ⟨_, rfl⟩
  have hrb : 0 ≤ ri ∧ ri < p := by rw [hri]; exact invN_bd (by omega)
  have HRI := Lib.hid hri
  have hmul := mul_bd (x := hf) (y := ri) (p := p) (by omega) hhb.1 hhb.2 hrb.1 hrb.2
  have hwm : IntKind.i64.wrap (hf * ri) = hf * ri := IntWalk.i64_in _ (by omega)
  obtain ⟨kf, hkf⟩ : ∃ z, z = (hf * ri).tmod p := ⟨_, rfl⟩
  have hkb : 0 ≤ kf ∧ kf < p := by rw [hkf, Int.tmod_eq_emod_of_nonneg hmul.1]; exact ⟨Int.emod_nonneg _ (by omega), Int.emod_lt_of_pos _ (by omega)⟩
  have HKF : Hid ((hf * ri) % p = kf) := Lib.hid (by rw [hkf, Int.tmod_eq_emod_of_nonneg hmul.1])
  have hkf2 : (hf * ri).tmod p = kf := hkf.symm
  clear hhf hri hkf hsm
  have hpz : ¬ p = 0 := by omega
  have x00 := C0.out
  have x01 := C1.out
  go_wp2_with (fail)
  clear x00 x01
  replace E := Lib.hid (E.out.trans (ext_drew v6))
  replace HQ := Lib.hid (HQ.out.ext (ext_drew v6))
  replace HX := Lib.hid (HX.out.ext (ext_drew v6))
  replace RL := Lib.hid (RL.out.ext (ext_drew v6))
  replace RP := Lib.hid (RP.out.ext (ext_drew v6))
  replace C0 := Lib.hid ((ext_drew v6).cell (p := ⟨O, 0, none⟩) C0.out)
  replace C1 := Lib.hid ((ext_drew v6).cell (p := ⟨O, 1, none⟩) C1.out)
  refine wp_region_lex [(5, .ownG w.heap.size N (bladeL N 0)), (7, .ownS w.heap.size N (scaleL p (bladeL N 0) hf N)), (13, .val (.int .i64 ri)), (18, .ownS w.heap.size N (plusL p (scaleL p (bladeL N 0) hf N) x kf N))] (by kernel_rfl) (by kernel_rfl) ?_
  (refine LexW.pure (v := ?_) rfl rfl (fun w1 he => ?_) ?_; rotate_left; ( have x00 := (he.cell (p := ⟨O, 0, none⟩) C0.out); have x01 := (he.cell (p := ⟨O, 1, none⟩) C1.out); go_simp; rfl); simp only [Act.put, List.setIfInBounds_toArray, List.set_cons_zero, List.set_cons_succ])
  (refine LexW.pure (v := ?_) rfl rfl (fun w1 he => ?_) ?_; rotate_left; ( have x00 := (he.cell (p := ⟨O, 0, none⟩) C0.out); have x01 := (he.cell (p := ⟨O, 1, none⟩) C1.out); go_simp; rfl); simp only [Act.put, List.setIfInBounds_toArray, List.set_cons_zero, List.set_cons_succ])
  (refine LexW.pure (v := ?_) rfl rfl (fun w1 he => ?_) ?_; rotate_left; ( have x00 := (he.cell (p := ⟨O, 0, none⟩) C0.out); have x01 := (he.cell (p := ⟨O, 1, none⟩) C1.out); go_simp; rfl); simp only [Act.put, List.setIfInBounds_toArray, List.set_cons_zero, List.set_cons_succ])
  (refine LexW.pure (v := ?_) rfl rfl (fun w1 he => ?_) ?_; rotate_left; ( have x00 := (he.cell (p := ⟨O, 0, none⟩) C0.out); have x01 := (he.cell (p := ⟨O, 1, none⟩) C1.out); go_simp; rfl); simp only [Act.put, List.setIfInBounds_toArray, List.set_cons_zero, List.set_cons_succ])
  (refine LexW.pure (v := ?_) rfl rfl (fun w1 he => ?_) ?_; rotate_left; ( have x00 := (he.cell (p := ⟨O, 0, none⟩) C0.out); have x01 := (he.cell (p := ⟨O, 1, none⟩) C1.out); go_simp; rfl); simp only [Act.put, List.setIfInBounds_toArray, List.set_cons_zero, List.set_cons_succ])
  (refine LexW.callR (f := ?_) (args := ?_) rfl rfl (fun w1 => ?_) (fun w1 he hdep => ?_) (fun v hv => ?_); rotate_left 2; (go_simp; refine ⟨?_, ?_⟩ <;> rfl); ( refine (s_oneN HN.out p a cap w1 (by omega)).mono ?_; rintro e w2 ⟨g, rfl, ho, g2⟩; exact ⟨_, rfl, g2, g, rfl, ho.mono (Nat.le_trans E.out.size he.size)⟩); simp only [Act.put, List.setIfInBounds_toArray, List.set_cons_zero, List.set_cons_succ])
  obtain ⟨_, g44, rfl, _⟩ := hv
  (refine LexW.pure (v := ?_) rfl rfl (fun w1 he => ?_) ?_; rotate_left; ( have x00 := (he.cell (p := ⟨O, 0, none⟩) C0.out); have x01 := (he.cell (p := ⟨O, 1, none⟩) C1.out); go_simp; rfl); simp only [Act.put, List.setIfInBounds_toArray, List.set_cons_zero, List.set_cons_succ])
  (refine LexW.callR (f := ?_) (args := ?_) rfl rfl (fun w1 => ?_) (fun w1 he hdep => ?_) (fun v hv => ?_); rotate_left 2; (go_simp; refine ⟨?_, ?_⟩ <;> rfl); ( obtain ⟨_, q44, r44⟩ : (SPred.ownG w.heap.size N (bladeL N 0)).holds (.slice (some ⟨g44, 0, none⟩) N N) w1 := hdep (5, 44) (by decide +kernel); cases q44; refine (s_scale p _ N _ (bladeL N 0) hf w1 (by omega) (by omega) (by omega) (by omega) r44.rd HGO.out).mono ?_; rintro e w2 ⟨g, rc, rfl, ho, g2⟩; exact ⟨_, rfl, g2, g, rc, rfl, ho.mono (Nat.le_trans E.out.size he.size)⟩); simp only [Act.put, List.setIfInBounds_toArray, List.set_cons_zero, List.set_cons_succ])
  obtain ⟨_, g46, c46, rfl, _⟩ := hv
  (refine LexW.pure (v := ?_) rfl rfl (fun w1 he => ?_) ?_; rotate_left; ( have x00 := (he.cell (p := ⟨O, 0, none⟩) C0.out); have x01 := (he.cell (p := ⟨O, 1, none⟩) C1.out); go_simp; rfl); simp only [Act.put, List.setIfInBounds_toArray, List.set_cons_zero, List.set_cons_succ])
  (refine LexW.pure (v := ?_) rfl rfl (fun w1 he => ?_) ?_; rotate_left; ( have x00 := (he.cell (p := ⟨O, 0, none⟩) C0.out); have x01 := (he.cell (p := ⟨O, 1, none⟩) C1.out); go_simp; rfl); simp only [Act.put, List.setIfInBounds_toArray, List.set_cons_zero, List.set_cons_succ])
  (refine LexW.pure (v := ?_) rfl rfl (fun w1 he => ?_) ?_; rotate_left; ( have x00 := (he.cell (p := ⟨O, 0, none⟩) C0.out); have x01 := (he.cell (p := ⟨O, 1, none⟩) C1.out); go_simp; rfl); simp only [Act.put, List.setIfInBounds_toArray, List.set_cons_zero, List.set_cons_succ])
  (refine LexW.pure (v := ?_) rfl rfl (fun w1 he => ?_) ?_; rotate_left; ( have x00 := (he.cell (p := ⟨O, 0, none⟩) C0.out); have x01 := (he.cell (p := ⟨O, 1, none⟩) C1.out); go_simp; rfl); simp only [Act.put, List.setIfInBounds_toArray, List.set_cons_zero, List.set_cons_succ])
  (refine LexW.pure (v := ?_) rfl rfl (fun w1 he => ?_) ?_; rotate_left; ( have x00 := (he.cell (p := ⟨O, 0, none⟩) C0.out); have x01 := (he.cell (p := ⟨O, 1, none⟩) C1.out); go_simp; rfl); simp only [Act.put, List.setIfInBounds_toArray, List.set_cons_zero, List.set_cons_succ])
  (refine LexW.call (f := ?_) (args := ?_) rfl rfl (fun w1 => ?_) (fun w1 he hdep => ?_) ?_; rotate_left 2; (go_simp; refine ⟨?_, ?_⟩ <;> rfl); ( rw [HRI.out]; exact s_inv p rt w1 HPR.out (by omega) hrl); simp only [Act.put, List.setIfInBounds_toArray, List.set_cons_zero, List.set_cons_succ])
  (refine LexW.pure (v := ?_) rfl rfl (fun w1 he => ?_) ?_; rotate_left; ( have x00 := (he.cell (p := ⟨O, 0, none⟩) C0.out); have x01 := (he.cell (p := ⟨O, 1, none⟩) C1.out); go_simp; rfl); simp only [Act.put, List.setIfInBounds_toArray, List.set_cons_zero, List.set_cons_succ])
  (refine LexW.pure (v := ?_) rfl rfl (fun w1 he => ?_) ?_; rotate_left; ( have x00 := (he.cell (p := ⟨O, 0, none⟩) C0.out); have x01 := (he.cell (p := ⟨O, 1, none⟩) C1.out); go_simp; rfl); simp only [Act.put, List.setIfInBounds_toArray, List.set_cons_zero, List.set_cons_succ])
  (refine LexW.pure (v := ?_) rfl rfl (fun w1 he => ?_) ?_; rotate_left; ( have x00 := (he.cell (p := ⟨O, 0, none⟩) C0.out); have x01 := (he.cell (p := ⟨O, 1, none⟩) C1.out); go_simp; rfl); simp only [Act.put, List.setIfInBounds_toArray, List.set_cons_zero, List.set_cons_succ])
  (refine LexW.pure (v := ?_) rfl rfl (fun w1 he => ?_) ?_; rotate_left; ( have x00 := (he.cell (p := ⟨O, 0, none⟩) C0.out); have x01 := (he.cell (p := ⟨O, 1, none⟩) C1.out); go_simp; rfl); simp only [Act.put, List.setIfInBounds_toArray, List.set_cons_zero, List.set_cons_succ])
  (refine LexW.callR (f := ?_) (args := ?_) rfl rfl (fun w1 => ?_) (fun w1 he hdep => ?_) (fun v hv => ?_); rotate_left 2; (go_simp; refine ⟨?_, ?_⟩ <;> rfl); ( obtain ⟨_, _, q46, r46⟩ : (SPred.ownS w.heap.size N (scaleL p (bladeL N 0) hf N)).holds (.slice (some ⟨g46, 0, none⟩) N c46) w1 := hdep (7, 46) (by decide +kernel); cases q46; refine (s_plus p _ _ N _ _ (scaleL p (bladeL N 0) hf N) x kf w1 (by omega) (by omega) (by omega) (by omega) r46.rd (HX.out.ext he) (scale_good (by omega)) HGX.out).mono ?_; rintro e w2 ⟨g, rc, rfl, ho, g2⟩; exact ⟨_, rfl, g2, g, rc, rfl, ho.mono (Nat.le_trans E.out.size he.size)⟩); simp only [Act.put, List.setIfInBounds_toArray, List.set_cons_zero, List.set_cons_succ])
  obtain ⟨_, g57, c57, rfl, _⟩ := hv
  (refine LexW.pure (v := ?_) rfl rfl (fun w1 he => ?_) ?_; rotate_left; ( have x00 := (he.cell (p := ⟨O, 0, none⟩) C0.out); have x01 := (he.cell (p := ⟨O, 1, none⟩) C1.out); go_simp; rfl); simp only [Act.put, List.setIfInBounds_toArray, List.set_cons_zero, List.set_cons_succ])
  (refine LexW.pure (v := ?_) rfl rfl (fun w1 he => ?_) ?_; rotate_left; ( have x00 := (he.cell (p := ⟨O, 0, none⟩) C0.out); have x01 := (he.cell (p := ⟨O, 1, none⟩) C1.out); go_simp; rfl); simp only [Act.put, List.setIfInBounds_toArray, List.set_cons_zero, List.set_cons_succ])
  refine LexW.nil (fun w3 he hkn => ?_)
  obtain ⟨_, _, q57, r57⟩ : (SPred.ownS w.heap.size N (plusL p (scaleL p (bladeL N 0) hf N) x kf N)).holds (.slice (some ⟨g57, 0, none⟩) N c57) w3 := hkn (18, _) (by simp)
  cases q57
  have R57 := Lib.hid r57
  have HE := Lib.hid he
  clear he hkn r57
  rename World => v7
  replace E := Lib.hid (E.out.trans HE.out)
  replace HQ := Lib.hid (HQ.out.ext HE.out)
  replace HX := Lib.hid (HX.out.ext HE.out)
  replace RL := Lib.hid (RL.out.ext HE.out)
  replace RP := Lib.hid (RP.out.ext HE.out)
  replace C0 := Lib.hid (HE.out.cell (p := ⟨O, 0, none⟩) C0.out)
  replace C1 := Lib.hid (HE.out.cell (p := ⟨O, 1, none⟩) C1.out)
  clear HE
  go_wp2_with (fail)
  go_ret2
  exact ⟨_, N, _, _, 0, rfl, fun _ => ⟨rfl, plus_good (by omega)⟩, R57.out, E.out⟩
end Go.Proofs.Ytbgnfjckbjmgbaa

/-
  The draws of layer 9: a space and a multivector, at times a multiple of an idempotent.
  No condition.
-/
namespace Go.Proofs.Ytbgnfjckbjmgbaa
set_option maxRecDepth 100000
open Go.RowKit

namespace Chg
/-- A row of the call's own and a code; at code 0 the row is as asked. -/
def SPred.code (S : SrcP) (B n : Nat) (P : List Int → Prop) (hB : S.g < B) : SPred (Drw.rel S) :=
  ⟨fun v w => ∃ b m c xs code, v = .tuple #[.slice b m c, .int .i64 code] ∧ (code = 0 → m = n ∧ P xs) ∧ OwnC B w b m c xs, fun _ _ _ ⟨b, m, c, xs, code, h1, h2, h3⟩ he => ⟨b, m, c, xs, code, h1, h2, Drw.own he h3 hB⟩⟩
end Chg

set_option maxHeartbeats 4000000 in
set_option maxRecDepth 100000 in
theorem s_l09Draw (ca : Option Addr) (n cap : Nat) (w : World) (hn : n ≤ 4096) (hb : RdY w ca n) :
    Calls Try.prog 123 #[.slice ca n cap] w fun e w' => ∃ p a d c qs a1 m1 c1 x1, e = .returned (.tuple #[.agg #[.int .i64 p, .slice a d c], .slice a1 m1 c1]) ∧ 0 ≤ p ∧ p ≤ 17 ∧ d ≤ 7 ∧ m1 ≤ 65 ∧ OwnC w.heap.size w' a d c qs ∧ OwnC w.heap.size w' a1 m1 c1 x1 ∧ Ext w w' := by
  obtain ⟨W, hW⟩ : ∃ W, W = w.alloc (.cells #[.int .i64 0, .slice none 0 0] 26) := ⟨_, rfl⟩
  have gW : Ext w W := by rw [hW]; exact ext_alloc _ _
  have HZ := Lib.hid (show W.heap.size = w.heap.size + 1 by rw [hW]; simp)
  have HR := Lib.hid (show SpAt W w.heap.size 0 (.slice none 0 0) by rw [hW]; exact ⟨by simp, by simp, by simp, by simp⟩)
  have HW := Lib.hid hW
  have GW := Lib.hid gW
  have HB := Lib.hid (hb.ext gW)
  clear gW hW hb
  go_enter Try.func123, Try.ntmps123
  go_wp2_with (fail)
  rw [← HW.out]
  refine Calls.mono (s_from ca n cap W hn HB.out) ?_
  rintro e w1 ⟨g, rfl, hg, hS, g1⟩
  obtain ⟨S, hSe⟩ : ∃ S : SrcP, S = ⟨g, ca, n, cap⟩ := ⟨_, rfl⟩
  obtain rfl : g = S.g := by rw [hSe]
  rw [← hSe] at hS
  have HS := Lib.hid hS
  have HR1 := Lib.hid (HR.out.ext g1)
  have G1 := Lib.hid (GW.out.trans g1)
  have hgR : w.heap.size ≠ S.g := by have := HZ.out; omega
  have hgw : w.heap.size + 1 ≤ S.g := by have := HZ.out; omega
  have hlt := hS.lt
  clear hg hS g1 hSe HR
  go_wp2_with (fail)
  refine Calls.mono (s_pick S w1.heap.size 4 4 [2, 3, 3, 4] _ ((Drw.of_ext (ext_alloc _ _)).src HS.out) (by decide) (by decide) (rdC_lit w1 _ [2, 3, 3, 4]) (Nat.ne_of_gt hlt)) ?_
  rintro e w2 ⟨r, rfl, hr, g2⟩
  obtain ⟨m, rfl, hm1, hm2⟩ : ∃ m : Nat, r = (m : Int) ∧ 1 ≤ m ∧ m ≤ 6 := by
    refine ⟨r.toNat, ?_⟩
    simp only [List.mem_cons, List.not_mem_nil, or_false] at hr
    omega
  have G2 := Lib.hid ((Drw.of_ext (S := S) (ext_alloc w1 (.cells #[.int .i64 2, .int .i64 3, .int .i64 3, .int .i64 4] 2))).trans g2)
  have HR2 := Lib.hid ((HR1.out.ext (ext_alloc _ _)).drw g2 hgR)
  clear g2 hr
  go_wp2_with (fail)
  refine Calls.mono (s_any S m w2 (G2.out.src HS.out) hm1 hm2) ?_
  rintro e w3 ⟨p, a, d, c, qs, rfl, hpr, hp1, hp2, hd1, hd2, hqb, ho, g3⟩
  obtain ⟨W2, hW2⟩ : ∃ W2, W2 = w3.alloc (.cells #[.int .i64 p, .slice a d c] 26) := ⟨_, rfl⟩
  obtain ⟨O, hO⟩ : ∃ O, O = w3.heap.size := ⟨_, rfl⟩
  have gW2 : Ext w3 W2 := by rw [hW2]; exact ext_alloc _ _
  have HC := Lib.hid (show SpAt W2 O p (.slice a d c) by rw [hW2, hO]; exact ⟨by simp, by simp, by simp, by simp⟩)
  have HRR := Lib.hid ((HR2.out.drw g3 hgR).ext gW2)
  have HQ := Lib.hid ((ho.mono (show S.g + 1 ≤ _ from by have := G2.out.size; omega)).ext gW2)
  have G := Lib.hid ((G2.out.trans g3).ext gW2)
  have hgO : O ≠ S.g := by rw [hO]; have := g3.size; have := G2.out.size; omega
  have hRO : w.heap.size ≠ O := by rw [hO]; have := g3.size; have := HR2.out.lt; omega
  have hwO : w1.heap.size ≤ O := by rw [hO]; have := g3.size; have := G2.out.size; omega
  go_wp2_with (fail)
  rw [← hW2, ← hO]
  clear hO gW2 ho g3 hW2 HR1 HR2 G2
  refine Calls.mono (s_next S 16 W2 (G.out.src HS.out) (by decide)) ?_
  rintro e w4 ⟨r, rfl, _, g4⟩
  replace HRR := Lib.hid (HRR.out.drw g4 hgR)
  replace HC := Lib.hid (HC.out.drw g4 hgO)
  replace HQ := Lib.hid (g4.own HQ.out (Nat.lt_succ_self _))
  replace G := Lib.hid (G.out.trans g4)
  clear g4
  by_cases h0 : r = 0
  · subst h0
    have hO4 := HC.out.lt
    go_wp2_with (fail)
    refine Calls.mono (s_spoil3 S w4 (G.out.src HS.out)) ?_
    rintro e w5 ⟨p2, a2, d2, c2, qs2, rfl, hp20, hp21, hd22, ho2, g5⟩
    replace HRR := Lib.hid (HRR.out.drw g5 hgR)
    replace HC := Lib.hid (HC.out.drw g5 hgO)
    replace G := Lib.hid (G.out.trans g5)
    have hOlt := HC.out.lt
    have hb2 : OwnC (O + 1) w5 a2 d2 c2 qs2 := ho2.mono (by omega)
    clear HQ g5 ho2
    have o0 := HC.out.c0
    have o1 := HC.out.c1
    have of0 := HC.out.f0
    have of1 := HC.out.f1
    go_wp2_with (fail)
    clear o0 o1 of0 of1
    obtain ⟨w6, hw6⟩ : ∃ w6, w6 = (w5.setCell ⟨O, 0, none⟩ (.int .i64 p2)).setCell ⟨O, 1, none⟩ (.slice a2 d2 c2) := ⟨_, rfl⟩
    have HQ := Lib.hid (((hb2.other (p := ⟨O, 0, none⟩) (by simp) (.int .i64 p2)).other (p := ⟨O, 1, none⟩) (by simp) (.slice a2 d2 c2)).mono (show S.g + 1 ≤ O + 1 by omega))
    replace HRR := Lib.hid ((HRR.out.other (q := ⟨O, 0, none⟩) (Ne.symm hRO) (.int .i64 p2)).other (q := ⟨O, 1, none⟩) (Ne.symm hRO) (.slice a2 d2 c2))
    replace HC := Lib.hid ((HC.out.set0 p2).set1 (.slice a2 d2 c2))
    replace G := Lib.hid ((G.out.setCell (p := ⟨O, 0, none⟩) hwO (.int .i64 p2)).setCell (p := ⟨O, 1, none⟩) hwO (.slice a2 d2 c2))
    rw [← hw6] at HQ HRR HC G ⊢
    clear hw6 hb2
    have hltS := HS.out.lt
    have o0 := HC.out.c0
    have o1 := HC.out.c1
    go_wp2_with (fail)
    clear o0 o1
    refine Calls.mono (s_spoil4 S (S.g + 1) p2 a2 d2 c2 qs2 w6 (G.out.src HS.out) (Nat.lt_succ_self _) (by omega) HQ.out) ?_
    rintro e w11 ⟨ba, bc, bm, bx, rfl, hbm, hob, gg⟩
    have HX := Lib.hid (hob.mono (show S.g + 1 ≤ _ from Nat.le_trans HS.out.lt G.out.size))
    clear hob
    replace HRR := Lib.hid (HRR.out.drw gg hgR)
    replace HC := Lib.hid (HC.out.drw gg hgO)
    replace G := Lib.hid (G.out.trans gg)
    replace HQ := Lib.hid (gg.own HQ.out (Nat.lt_succ_self _))
    clear gg
    have o0 := HC.out.c0
    have o1 := HC.out.c1
    go_wp2_with (fail)
    clear o0 o1
    refine Calls.mono (s_is4 p2 a2 d2 c2 qs2 ba bm bc bx w11 (by omega) (by omega) HQ.out.rd HX.out.rd) ?_
    rintro e w12 ⟨rfl, gg⟩
    replace gg := Drw.of_ext (S := S) gg
    replace HRR := Lib.hid (HRR.out.drw gg hgR)
    replace HC := Lib.hid (HC.out.drw gg hgO)
    replace G := Lib.hid (G.out.trans gg)
    replace HQ := Lib.hid (gg.own HQ.out (Nat.lt_succ_self _))
    replace HX := Lib.hid (gg.own HX.out (Nat.lt_succ_self _))
    clear gg
    cases his : (spaceB p2 qs2 && multiB p2 d2 bx)
    · skip
      have r0 := HRR.out.c0
      have r1 := HRR.out.c1
      have f0 := HRR.out.f0
      have f1 := HRR.out.f1
      have o0 := HC.out.c0
      have o1 := HC.out.c1
      go_wp2_with (fail)
      first
        | refine bodyPost_ret (v := .tuple #[.agg #[.int .i64 p2, .slice a2 d2 c2], .slice ba bm bc]) (by simp [results, Try.results123, go_sem, r0, r1]) rfl ⟨p2, a2, d2, c2, qs2, ba, bm, bc, bx, rfl, by omega, by omega, by omega, by omega, ?_, ?_, ?_⟩
        | refine bodyPost_ret (v := .tuple #[.agg #[.int .i64 p2, .slice a2 d2 c2], .slice ba bm bc]) (by simp [results, Try.results123, go_sem, r0, r1]) rfl ⟨p2, a2, d2, c2, qs2, ba, bm, bc, rfl, by omega, by omega, by omega, by omega, ?_, ⟨bx, ?_⟩, ?_⟩
      · exact ((HQ.out.other (by simp; omega) _).other (by simp; omega) _).mono (by omega)
      · exact ((HX.out.other (by simp; omega) _).other (by simp; omega) _).mono (by omega)
      · exact ((G.out.toExt G1.out (by omega)).setCell (by simp) _).setCell (by simp) _
    by_cases h4 : d2 ≤ 4
    rotate_left
    · skip
      have h4i : ¬ ((d2 : Nat) : Int) ≤ 4 := by omega
      have r0 := HRR.out.c0
      have r1 := HRR.out.c1
      have f0 := HRR.out.f0
      have f1 := HRR.out.f1
      have o0 := HC.out.c0
      have o1 := HC.out.c1
      go_wp2_with (fail)
      first
        | refine bodyPost_ret (v := .tuple #[.agg #[.int .i64 p2, .slice a2 d2 c2], .slice ba bm bc]) (by simp [results, Try.results123, go_sem, r0, r1]) rfl ⟨p2, a2, d2, c2, qs2, ba, bm, bc, bx, rfl, by omega, by omega, by omega, by omega, ?_, ?_, ?_⟩
        | refine bodyPost_ret (v := .tuple #[.agg #[.int .i64 p2, .slice a2 d2 c2], .slice ba bm bc]) (by simp [results, Try.results123, go_sem, r0, r1]) rfl ⟨p2, a2, d2, c2, qs2, ba, bm, bc, rfl, by omega, by omega, by omega, by omega, ?_, ⟨bx, ?_⟩, ?_⟩
      · exact ((HQ.out.other (by simp; omega) _).other (by simp; omega) _).mono (by omega)
      · exact ((HX.out.other (by simp; omega) _).other (by simp; omega) _).mono (by omega)
      · exact ((G.out.toExt G1.out (by omega)).setCell (by simp) _).setCell (by simp) _
    have h4i : ((d2 : Nat) : Int) ≤ 4 := by omega
    have o0 := HC.out.c0
    have o1 := HC.out.c1
    go_wp2_with (fail)
    clear o0 o1
    refine Calls.mono (s_next S 3 w12 (G.out.src HS.out) (by decide)) ?_
    rintro e w13 ⟨rn, rfl, _, gg⟩
    replace HRR := Lib.hid (HRR.out.drw gg hgR)
    replace HC := Lib.hid (HC.out.drw gg hgO)
    replace G := Lib.hid (G.out.trans gg)
    replace HQ := Lib.hid (gg.own HQ.out (Nat.lt_succ_self _))
    replace HX := Lib.hid (gg.own HX.out (Nat.lt_succ_self _))
    clear gg
    by_cases hrn : rn = 0
    rotate_left
    · skip
      have hrb : (rn == 0) = false := by simp [hrn]
      have r0 := HRR.out.c0
      have r1 := HRR.out.c1
      have f0 := HRR.out.f0
      have f1 := HRR.out.f1
      have o0 := HC.out.c0
      have o1 := HC.out.c1
      go_wp2_with (fail)
      first
        | refine bodyPost_ret (v := .tuple #[.agg #[.int .i64 p2, .slice a2 d2 c2], .slice ba bm bc]) (by simp [results, Try.results123, go_sem, r0, r1]) rfl ⟨p2, a2, d2, c2, qs2, ba, bm, bc, bx, rfl, by omega, by omega, by omega, by omega, ?_, ?_, ?_⟩
        | refine bodyPost_ret (v := .tuple #[.agg #[.int .i64 p2, .slice a2 d2 c2], .slice ba bm bc]) (by simp [results, Try.results123, go_sem, r0, r1]) rfl ⟨p2, a2, d2, c2, qs2, ba, bm, bc, rfl, by omega, by omega, by omega, by omega, ?_, ⟨bx, ?_⟩, ?_⟩
      · exact ((HQ.out.other (by simp; omega) _).other (by simp; omega) _).mono (by omega)
      · exact ((HX.out.other (by simp; omega) _).other (by simp; omega) _).mono (by omega)
      · exact ((G.out.toExt G1.out (by omega)).setCell (by simp) _).setCell (by simp) _
    subst hrn
    obtain ⟨hsp, hmu⟩ : spaceB p2 qs2 = true ∧ multiB p2 d2 bx = true := by simpa using his
    obtain ⟨hpr, hd1q, hd6q, hqb⟩ := space_of hsp
    have hpb := prime_bd hpr
    obtain ⟨hml, hmb⟩ := multi_of hmu
    have hqd := HQ.out.1
    have hxm := HX.out.1
    obtain ⟨N, hN⟩ : ∃ N, N = 2 ^ d2 := ⟨_, rfl⟩
    rw [← hN] at hml
    obtain rfl : N = bm := by omega
    have HN := Lib.hid hN
    have hN6 : N ≤ 64 := by rw [hN]; exact pow_le64 (by omega)
    have hN1 : 0 < N := by rw [hN]; exact pow_pos' d2
    have HGX := Lib.hid (show Good p2 N bx from isB_Good hml hmb)
    have HMB := Lib.hid hmb
    have HQB := Lib.hid hqb
    have HSP := Lib.hid hsp
    have hd1 : 1 ≤ d2 := by omega
    clear hN his hsp hmu hpr hqb hmb
    have o0 := HC.out.c0
    have o1 := HC.out.c1
    go_wp2_with (fail)
    clear o0 o1
    have gg := Drw.of_ext (S := S) (ext_drew w13)
    replace HRR := Lib.hid (HRR.out.drw gg hgR)
    replace HC := Lib.hid (HC.out.drw gg hgO)
    replace G := Lib.hid (G.out.trans gg)
    replace HQ := Lib.hid (gg.own HQ.out (Nat.lt_succ_self _))
    replace HX := Lib.hid (gg.own HX.out (Nat.lt_succ_self _))
    clear gg
    refine Chg.wp_region_lex (E := Drw.rel S) [(8, .ownP S (S.g + 1) d2 (Good p2 d2) (Nat.lt_succ_self _)), (9, .ownP S (S.g + 1) N (Good p2 N) (Nat.lt_succ_self _)), (10, .code S (S.g + 1) N (Good p2 N) (Nat.lt_succ_self _))] (by kernel_rfl) (by kernel_rfl) ?_
    (refine Chg.LexW.pure (v := ?_) rfl rfl (fun w1 he => ?_) ?_; rotate_left; ( have he' : Drw S _ _ := he; have x0 := he'.cell (p := ⟨O, 0, none⟩) hgO HC.out.c0; have x1 := he'.cell (p := ⟨O, 1, none⟩) hgO HC.out.c1; go_simp; rfl); simp only [Act.put, List.setIfInBounds_toArray, List.set_cons_zero, List.set_cons_succ])
    (refine Chg.LexW.pure (v := ?_) rfl rfl (fun w1 he => ?_) ?_; rotate_left; ( have he' : Drw S _ _ := he; have x0 := he'.cell (p := ⟨O, 0, none⟩) hgO HC.out.c0; have x1 := he'.cell (p := ⟨O, 1, none⟩) hgO HC.out.c1; go_simp; rfl); simp only [Act.put, List.setIfInBounds_toArray, List.set_cons_zero, List.set_cons_succ])
    (refine Chg.LexW.pure (v := ?_) rfl rfl (fun w1 he => ?_) ?_; rotate_left; ( have he' : Drw S _ _ := he; have x0 := he'.cell (p := ⟨O, 0, none⟩) hgO HC.out.c0; have x1 := he'.cell (p := ⟨O, 1, none⟩) hgO HC.out.c1; go_simp; rfl); simp only [Act.put, List.setIfInBounds_toArray, List.set_cons_zero, List.set_cons_succ])
    (refine Chg.LexW.pure (v := ?_) rfl rfl (fun w1 he => ?_) ?_; rotate_left; ( have he' : Drw S _ _ := he; have x0 := he'.cell (p := ⟨O, 0, none⟩) hgO HC.out.c0; have x1 := he'.cell (p := ⟨O, 1, none⟩) hgO HC.out.c1; go_simp; rfl); simp only [Act.put, List.setIfInBounds_toArray, List.set_cons_zero, List.set_cons_succ])
    (refine Chg.LexW.pure (v := ?_) rfl rfl (fun w1 he => ?_) ?_; rotate_left; ( have he' : Drw S _ _ := he; have x0 := he'.cell (p := ⟨O, 0, none⟩) hgO HC.out.c0; have x1 := he'.cell (p := ⟨O, 1, none⟩) hgO HC.out.c1; go_simp; rfl); simp only [Act.put, List.setIfInBounds_toArray, List.set_cons_zero, List.set_cons_succ])
    (refine Chg.LexW.pure (v := ?_) rfl rfl (fun w1 he => ?_) ?_; rotate_left; ( have he' : Drw S _ _ := he; have x0 := he'.cell (p := ⟨O, 0, none⟩) hgO HC.out.c0; have x1 := he'.cell (p := ⟨O, 1, none⟩) hgO HC.out.c1; go_simp; rfl); simp only [Act.put, List.setIfInBounds_toArray, List.set_cons_zero, List.set_cons_succ])
    (refine Chg.LexW.pure (v := ?_) rfl rfl (fun w1 he => ?_) ?_; rotate_left; ( have he' : Drw S _ _ := he; have x0 := he'.cell (p := ⟨O, 0, none⟩) hgO HC.out.c0; have x1 := he'.cell (p := ⟨O, 1, none⟩) hgO HC.out.c1; go_simp; rfl); simp only [Act.put, List.setIfInBounds_toArray, List.set_cons_zero, List.set_cons_succ])
    (refine Chg.LexW.pure (v := ?_) rfl rfl (fun w1 he => ?_) ?_; rotate_left; ( have he' : Drw S _ _ := he; have x0 := he'.cell (p := ⟨O, 0, none⟩) hgO HC.out.c0; have x1 := he'.cell (p := ⟨O, 1, none⟩) hgO HC.out.c1; go_simp; rfl); simp only [Act.put, List.setIfInBounds_toArray, List.set_cons_zero, List.set_cons_succ])
    (refine Chg.LexW.callR (f := ?_) (args := ?_) rfl rfl (fun w1 => ?_) (fun w1 he hdep => ?_) (fun v hv => ?_); rotate_left 2; (go_simp; refine ⟨?_, ?_⟩ <;> rfl); ( have he' : Drw S _ _ := he; (refine Calls.mono (s_dlist S p2 d2 _ ((G.out.trans he').src HS.out) (by omega) (by omega)) ?_; rintro e w9 ⟨a9, c9, x9, rfl, ho9, hb9, g9⟩; obtain ⟨g8, _, rfl, _⟩ := ho9.row (by omega); exact ⟨_, rfl, g9, g8, c9, x9, rfl, isB_Good ho9.1 (hb9 (by omega)), ho9.mono (show S.g + 1 ≤ _ from Nat.le_trans HS.out.lt (Nat.le_trans G.out.size he'.size))⟩)); simp only [Act.put, List.setIfInBounds_toArray, List.set_cons_zero, List.set_cons_succ])
    obtain ⟨_, g47, c47, x47, rfl, _⟩ := hv
    (refine Chg.LexW.callR (f := ?_) (args := ?_) rfl rfl (fun w1 => ?_) (fun w1 he hdep => ?_) (fun v hv => ?_); rotate_left 2; (go_simp; refine ⟨?_, ?_⟩ <;> rfl); ( have he' : Drw S _ _ := he; obtain ⟨_, _, y47, q47, p47, r47⟩ : (Chg.SPred.ownP S (S.g + 1) d2 (Good p2 d2) (Nat.lt_succ_self _)).holds (.slice (some ⟨g47, 0, none⟩) d2 c47) w1 := hdep (8, 47) (by decide +kernel); cases q47; (refine Calls.mono (s_vector HN.out p2 a2 c2 _ _ y47 w1 (by omega) r47.rd) ?_; rintro e w9 ⟨g9, rfl, ho9, x9⟩; exact ⟨_, rfl, Drw.of_ext x9, g9, _, _, rfl, vec_good (by omega) p47, ho9.mono (show S.g + 1 ≤ _ from Nat.le_trans HS.out.lt (Nat.le_trans G.out.size he'.size))⟩)); simp only [Act.put, List.setIfInBounds_toArray, List.set_cons_zero, List.set_cons_succ])
    obtain ⟨_, g48, c48, x48, rfl, _⟩ := hv
    (refine Chg.LexW.callR (f := ?_) (args := ?_) rfl rfl (fun w1 => ?_) (fun w1 he hdep => ?_) (fun v hv => ?_); rotate_left 2; (go_simp; refine ⟨?_, ?_⟩ <;> rfl); ( have he' : Drw S _ _ := he; obtain ⟨_, _, y48, q48, p48, r48⟩ : (Chg.SPred.ownP S (S.g + 1) N (Good p2 N) (Nat.lt_succ_self _)).holds (.slice (some ⟨g48, 0, none⟩) N c48) w1 := hdep (9, 48) (by decide +kernel); cases q48; (refine Calls.mono (s_vecIdem p2 a2 d2 c2 qs2 _ _ y48 w1 HN.out HSP.out h4 (he'.own HQ.out (Nat.lt_succ_self _)).rd r48.rd p48) ?_; rintro e w9 ⟨b9, m9, c9, x9, code9, rfl, hk9, ho9, x9'⟩; exact ⟨_, rfl, Drw.of_ext x9', b9, m9, c9, x9, code9, rfl, hk9, ho9.mono (show S.g + 1 ≤ _ from Nat.le_trans HS.out.lt (Nat.le_trans G.out.size he'.size))⟩)); simp only [Act.put, List.setIfInBounds_toArray, List.set_cons_zero, List.set_cons_succ])
    obtain ⟨_, eb, em, ec, ex, code, rfl, _⟩ := hv
    (refine Chg.LexW.pure (v := ?_) rfl rfl (fun w1 he => ?_) ?_; rotate_left; ( have he' : Drw S _ _ := he; have x0 := he'.cell (p := ⟨O, 0, none⟩) hgO HC.out.c0; have x1 := he'.cell (p := ⟨O, 1, none⟩) hgO HC.out.c1; go_simp; rfl); simp only [Act.put, List.setIfInBounds_toArray, List.set_cons_zero, List.set_cons_succ])
    (refine Chg.LexW.pure (v := ?_) rfl rfl (fun w1 he => ?_) ?_; rotate_left; ( have he' : Drw S _ _ := he; have x0 := he'.cell (p := ⟨O, 0, none⟩) hgO HC.out.c0; have x1 := he'.cell (p := ⟨O, 1, none⟩) hgO HC.out.c1; go_simp; rfl); simp only [Act.put, List.setIfInBounds_toArray, List.set_cons_zero, List.set_cons_succ])
    (refine Chg.LexW.pure (v := ?_) rfl rfl (fun w1 he => ?_) ?_; rotate_left; ( have he' : Drw S _ _ := he; have x0 := he'.cell (p := ⟨O, 0, none⟩) hgO HC.out.c0; have x1 := he'.cell (p := ⟨O, 1, none⟩) hgO HC.out.c1; go_simp; rfl); simp only [Act.put, List.setIfInBounds_toArray, List.set_cons_zero, List.set_cons_succ])
    (refine Chg.LexW.pure (v := ?_) rfl rfl (fun w1 he => ?_) ?_; rotate_left; ( have he' : Drw S _ _ := he; have x0 := he'.cell (p := ⟨O, 0, none⟩) hgO HC.out.c0; have x1 := he'.cell (p := ⟨O, 1, none⟩) hgO HC.out.c1; go_simp; rfl); simp only [Act.put, List.setIfInBounds_toArray, List.set_cons_zero, List.set_cons_succ])
    (refine Chg.LexW.pure (v := ?_) rfl rfl (fun w1 he => ?_) ?_; rotate_left; ( have he' : Drw S _ _ := he; have x0 := he'.cell (p := ⟨O, 0, none⟩) hgO HC.out.c0; have x1 := he'.cell (p := ⟨O, 1, none⟩) hgO HC.out.c1; go_simp; rfl); simp only [Act.put, List.setIfInBounds_toArray, List.set_cons_zero, List.set_cons_succ])
    refine Chg.LexW.nil (fun w14 he hkn => ?_)
    have gg : Drw S w13.drew w14 := he
    obtain ⟨eb', em', ec', ex', code', q49, hek, hoe⟩ : (Chg.SPred.code S (S.g + 1) N (Good p2 N) (Nat.lt_succ_self _)).holds (.tuple #[.slice eb em ec, .int .i64 code]) w14 := hkn (10, _) (by simp)
    cases q49
    have HEE := Lib.hid hoe
    replace HRR := Lib.hid (HRR.out.drw gg hgR)
    replace HC := Lib.hid (HC.out.drw gg hgO)
    replace G := Lib.hid (G.out.trans gg)
    replace HQ := Lib.hid (gg.own HQ.out (Nat.lt_succ_self _))
    replace HX := Lib.hid (gg.own HX.out (Nat.lt_succ_self _))
    clear gg he hkn hoe
    by_cases hc0 : code = 0
    rotate_left
    · skip
      have hcb : (code == 0) = false := by simp [hc0]
      have r0 := HRR.out.c0
      have r1 := HRR.out.c1
      have f0 := HRR.out.f0
      have f1 := HRR.out.f1
      have o0 := HC.out.c0
      have o1 := HC.out.c1
      go_wp2_with (fail)
      first
        | refine bodyPost_ret (v := .tuple #[.agg #[.int .i64 p2, .slice a2 d2 c2], .slice ba N bc]) (by simp [results, Try.results123, go_sem, r0, r1]) rfl ⟨p2, a2, d2, c2, qs2, ba, N, bc, bx, rfl, by omega, by omega, by omega, by omega, ?_, ?_, ?_⟩
        | refine bodyPost_ret (v := .tuple #[.agg #[.int .i64 p2, .slice a2 d2 c2], .slice ba N bc]) (by simp [results, Try.results123, go_sem, r0, r1]) rfl ⟨p2, a2, d2, c2, qs2, ba, N, bc, rfl, by omega, by omega, by omega, by omega, ?_, ⟨bx, ?_⟩, ?_⟩
      · exact ((HQ.out.other (by simp; omega) _).other (by simp; omega) _).mono (by omega)
      · exact ((HX.out.other (by simp; omega) _).other (by simp; omega) _).mono (by omega)
      · exact ((G.out.toExt G1.out (by omega)).setCell (by simp) _).setCell (by simp) _
    subst hc0
    obtain ⟨rfl, hge⟩ := hek rfl
    have HGE := Lib.hid hge
    clear hge hek
    have o0 := HC.out.c0
    have o1 := HC.out.c1
    go_wp2_with (fail)
    clear o0 o1
    have gg := Drw.of_ext (S := S) (ext_drew w14)
    replace HRR := Lib.hid (HRR.out.drw gg hgR)
    replace HC := Lib.hid (HC.out.drw gg hgO)
    replace G := Lib.hid (G.out.trans gg)
    replace HQ := Lib.hid (gg.own HQ.out (Nat.lt_succ_self _))
    replace HX := Lib.hid (gg.own HX.out (Nat.lt_succ_self _))
    replace HEE := Lib.hid (gg.own HEE.out (Nat.lt_succ_self _))
    clear gg
    refine Chg.wp_region_lex_tail (E := Drw.rel S) 5 [(4, .own S (S.g + 1) 65 (Nat.lt_succ_self _))] (by kernel_rfl) (by kernel_rfl) ?_
    simp only [List.take, List.drop]
    (refine Chg.LexW.pure (v := ?_) rfl rfl (fun w1 he => ?_) ?_; rotate_left; ( have he' : Drw S _ _ := he; have x0 := he'.cell (p := ⟨O, 0, none⟩) hgO HC.out.c0; have x1 := he'.cell (p := ⟨O, 1, none⟩) hgO HC.out.c1; go_simp; rfl); simp only [Act.put, List.setIfInBounds_toArray, List.set_cons_zero, List.set_cons_succ])
    (refine Chg.LexW.pure (v := ?_) rfl rfl (fun w1 he => ?_) ?_; rotate_left; ( have he' : Drw S _ _ := he; have x0 := he'.cell (p := ⟨O, 0, none⟩) hgO HC.out.c0; have x1 := he'.cell (p := ⟨O, 1, none⟩) hgO HC.out.c1; go_simp; rfl); simp only [Act.put, List.setIfInBounds_toArray, List.set_cons_zero, List.set_cons_succ])
    (refine Chg.LexW.pure (v := ?_) rfl rfl (fun w1 he => ?_) ?_; rotate_left; ( have he' : Drw S _ _ := he; have x0 := he'.cell (p := ⟨O, 0, none⟩) hgO HC.out.c0; have x1 := he'.cell (p := ⟨O, 1, none⟩) hgO HC.out.c1; go_simp; rfl); simp only [Act.put, List.setIfInBounds_toArray, List.set_cons_zero, List.set_cons_succ])
    (refine Chg.LexW.pure (v := ?_) rfl rfl (fun w1 he => ?_) ?_; rotate_left; ( have he' : Drw S _ _ := he; have x0 := he'.cell (p := ⟨O, 0, none⟩) hgO HC.out.c0; have x1 := he'.cell (p := ⟨O, 1, none⟩) hgO HC.out.c1; go_simp; rfl); simp only [Act.put, List.setIfInBounds_toArray, List.set_cons_zero, List.set_cons_succ])
    (refine Chg.LexW.callR (f := ?_) (args := ?_) rfl rfl (fun w1 => ?_) (fun w1 he hdep => ?_) (fun v hv => ?_); rotate_left 2; (go_simp; refine ⟨?_, ?_⟩ <;> rfl); ( have he' : Drw S _ _ := he; (refine Calls.mono (s_timesN HN.out p2 a2 c2 qs2 _ _ _ _ bx ex' w1 (by omega) (by omega) (by omega) (he'.own HQ.out (Nat.lt_succ_self _)).rd HQB.out (he'.own HX.out (Nat.lt_succ_self _)).rd (he'.own HEE.out (Nat.lt_succ_self _)).rd HMB.out (good_bits HGE.out)) ?_; rintro e w9 ⟨g9, rfl, ho9, x9⟩; exact ⟨_, rfl, Drw.of_ext x9, some ⟨g9, 0, none⟩, _, _, _, rfl, by omega, ho9.mono (show S.g + 1 ≤ _ from Nat.le_trans HS.out.lt (Nat.le_trans G.out.size he'.size))⟩)); simp only [Act.put, List.setIfInBounds_toArray, List.set_cons_zero, List.set_cons_succ])
    obtain ⟨_, a1, m1, c1, x1, rfl, _⟩ := hv
    refine Chg.LexW.nil (fun w15 he hkn => ?_)
    have gg : Drw S w14.drew w15 := he
    obtain ⟨a1', m1', c1', x1', q1, hm1', ho1⟩ : (Chg.SPred.own S (S.g + 1) 65 (Nat.lt_succ_self _)).holds (.slice a1 m1 c1) w15 := hkn (4, _) (by simp)
    cases q1
    have HO1 := Lib.hid ho1
    replace HRR := Lib.hid (HRR.out.drw gg hgR)
    replace HC := Lib.hid (HC.out.drw gg hgO)
    replace G := Lib.hid (G.out.trans gg)
    replace HQ := Lib.hid (gg.own HQ.out (Nat.lt_succ_self _))
    replace HX := Lib.hid (gg.own HX.out (Nat.lt_succ_self _))
    replace HEE := Lib.hid (gg.own HEE.out (Nat.lt_succ_self _))
    have r0 := HRR.out.c0
    have r1 := HRR.out.c1
    have f0 := HRR.out.f0
    have f1 := HRR.out.f1
    clear he gg hkn ho1
    go_wp2_with (fail)
    first
      | refine bodyPost_ret (v := .tuple #[.agg #[.int .i64 p2, .slice a2 d2 c2], .slice a1 m1 c1]) (by simp [results, Try.results123, go_sem, r0, r1]) rfl ⟨p2, a2, d2, c2, qs2, a1, m1, c1, x1', rfl, by omega, by omega, by omega, by omega, ?_, ?_, ?_⟩
      | refine bodyPost_ret (v := .tuple #[.agg #[.int .i64 p2, .slice a2 d2 c2], .slice a1 m1 c1]) (by simp [results, Try.results123, go_sem, r0, r1]) rfl ⟨p2, a2, d2, c2, qs2, a1, m1, c1, rfl, by omega, by omega, by omega, by omega, ?_, ⟨x1', ?_⟩, ?_⟩
    · exact ((HQ.out.other (by simp; omega) _).other (by simp; omega) _).mono (by omega)
    · exact ((HO1.out.other (by simp; omega) _).other (by simp; omega) _).mono (by omega)
    · exact ((G.out.toExt G1.out (by omega)).setCell (by simp) _).setCell (by simp) _
  · have hb0 : (r == 0) = false := by simp [h0]
    have hltS := HS.out.lt
    have o0 := HC.out.c0
    have o1 := HC.out.c1
    go_wp2_with (fail)
    clear o0 o1
    refine Calls.mono (s_spoil4 S (S.g + 1) p a d c qs w4 (G.out.src HS.out) (Nat.lt_succ_self _) (by omega) HQ.out) ?_
    rintro e w11 ⟨ba, bc, bm, bx, rfl, hbm, hob, gg⟩
    have HX := Lib.hid (hob.mono (show S.g + 1 ≤ _ from Nat.le_trans HS.out.lt G.out.size))
    clear hob
    replace HRR := Lib.hid (HRR.out.drw gg hgR)
    replace HC := Lib.hid (HC.out.drw gg hgO)
    replace G := Lib.hid (G.out.trans gg)
    replace HQ := Lib.hid (gg.own HQ.out (Nat.lt_succ_self _))
    clear gg
    have o0 := HC.out.c0
    have o1 := HC.out.c1
    go_wp2_with (fail)
    clear o0 o1
    refine Calls.mono (s_is4 p a d c qs ba bm bc bx w11 (by omega) (by omega) HQ.out.rd HX.out.rd) ?_
    rintro e w12 ⟨rfl, gg⟩
    replace gg := Drw.of_ext (S := S) gg
    replace HRR := Lib.hid (HRR.out.drw gg hgR)
    replace HC := Lib.hid (HC.out.drw gg hgO)
    replace G := Lib.hid (G.out.trans gg)
    replace HQ := Lib.hid (gg.own HQ.out (Nat.lt_succ_self _))
    replace HX := Lib.hid (gg.own HX.out (Nat.lt_succ_self _))
    clear gg
    cases his : (spaceB p qs && multiB p d bx)
    · skip
      have r0 := HRR.out.c0
      have r1 := HRR.out.c1
      have f0 := HRR.out.f0
      have f1 := HRR.out.f1
      have o0 := HC.out.c0
      have o1 := HC.out.c1
      go_wp2_with (fail)
      first
        | refine bodyPost_ret (v := .tuple #[.agg #[.int .i64 p, .slice a d c], .slice ba bm bc]) (by simp [results, Try.results123, go_sem, r0, r1]) rfl ⟨p, a, d, c, qs, ba, bm, bc, bx, rfl, by omega, by omega, by omega, by omega, ?_, ?_, ?_⟩
        | refine bodyPost_ret (v := .tuple #[.agg #[.int .i64 p, .slice a d c], .slice ba bm bc]) (by simp [results, Try.results123, go_sem, r0, r1]) rfl ⟨p, a, d, c, qs, ba, bm, bc, rfl, by omega, by omega, by omega, by omega, ?_, ⟨bx, ?_⟩, ?_⟩
      · exact ((HQ.out.other (by simp; omega) _).other (by simp; omega) _).mono (by omega)
      · exact ((HX.out.other (by simp; omega) _).other (by simp; omega) _).mono (by omega)
      · exact ((G.out.toExt G1.out (by omega)).setCell (by simp) _).setCell (by simp) _
    by_cases h4 : d ≤ 4
    rotate_left
    · skip
      have h4i : ¬ ((d : Nat) : Int) ≤ 4 := by omega
      have r0 := HRR.out.c0
      have r1 := HRR.out.c1
      have f0 := HRR.out.f0
      have f1 := HRR.out.f1
      have o0 := HC.out.c0
      have o1 := HC.out.c1
      go_wp2_with (fail)
      first
        | refine bodyPost_ret (v := .tuple #[.agg #[.int .i64 p, .slice a d c], .slice ba bm bc]) (by simp [results, Try.results123, go_sem, r0, r1]) rfl ⟨p, a, d, c, qs, ba, bm, bc, bx, rfl, by omega, by omega, by omega, by omega, ?_, ?_, ?_⟩
        | refine bodyPost_ret (v := .tuple #[.agg #[.int .i64 p, .slice a d c], .slice ba bm bc]) (by simp [results, Try.results123, go_sem, r0, r1]) rfl ⟨p, a, d, c, qs, ba, bm, bc, rfl, by omega, by omega, by omega, by omega, ?_, ⟨bx, ?_⟩, ?_⟩
      · exact ((HQ.out.other (by simp; omega) _).other (by simp; omega) _).mono (by omega)
      · exact ((HX.out.other (by simp; omega) _).other (by simp; omega) _).mono (by omega)
      · exact ((G.out.toExt G1.out (by omega)).setCell (by simp) _).setCell (by simp) _
    have h4i : ((d : Nat) : Int) ≤ 4 := by omega
    have o0 := HC.out.c0
    have o1 := HC.out.c1
    go_wp2_with (fail)
    clear o0 o1
    refine Calls.mono (s_next S 3 w12 (G.out.src HS.out) (by decide)) ?_
    rintro e w13 ⟨rn, rfl, _, gg⟩
    replace HRR := Lib.hid (HRR.out.drw gg hgR)
    replace HC := Lib.hid (HC.out.drw gg hgO)
    replace G := Lib.hid (G.out.trans gg)
    replace HQ := Lib.hid (gg.own HQ.out (Nat.lt_succ_self _))
    replace HX := Lib.hid (gg.own HX.out (Nat.lt_succ_self _))
    clear gg
    by_cases hrn : rn = 0
    rotate_left
    · skip
      have hrb : (rn == 0) = false := by simp [hrn]
      have r0 := HRR.out.c0
      have r1 := HRR.out.c1
      have f0 := HRR.out.f0
      have f1 := HRR.out.f1
      have o0 := HC.out.c0
      have o1 := HC.out.c1
      go_wp2_with (fail)
      first
        | refine bodyPost_ret (v := .tuple #[.agg #[.int .i64 p, .slice a d c], .slice ba bm bc]) (by simp [results, Try.results123, go_sem, r0, r1]) rfl ⟨p, a, d, c, qs, ba, bm, bc, bx, rfl, by omega, by omega, by omega, by omega, ?_, ?_, ?_⟩
        | refine bodyPost_ret (v := .tuple #[.agg #[.int .i64 p, .slice a d c], .slice ba bm bc]) (by simp [results, Try.results123, go_sem, r0, r1]) rfl ⟨p, a, d, c, qs, ba, bm, bc, rfl, by omega, by omega, by omega, by omega, ?_, ⟨bx, ?_⟩, ?_⟩
      · exact ((HQ.out.other (by simp; omega) _).other (by simp; omega) _).mono (by omega)
      · exact ((HX.out.other (by simp; omega) _).other (by simp; omega) _).mono (by omega)
      · exact ((G.out.toExt G1.out (by omega)).setCell (by simp) _).setCell (by simp) _
    subst hrn
    obtain ⟨hsp, hmu⟩ : spaceB p qs = true ∧ multiB p d bx = true := by simpa using his
    obtain ⟨hpr, hd1q, hd6q, hqb⟩ := space_of hsp
    have hpb := prime_bd hpr
    obtain ⟨hml, hmb⟩ := multi_of hmu
    have hqd := HQ.out.1
    have hxm := HX.out.1
    obtain ⟨N, hN⟩ : ∃ N, N = 2 ^ d := ⟨_, rfl⟩
    rw [← hN] at hml
    obtain rfl : N = bm := by omega
    have HN := Lib.hid hN
    have hN6 : N ≤ 64 := by rw [hN]; exact pow_le64 (by omega)
    have hN1 : 0 < N := by rw [hN]; exact pow_pos' d
    have HGX := Lib.hid (show Good p N bx from isB_Good hml hmb)
    have HMB := Lib.hid hmb
    have HQB := Lib.hid hqb
    have HSP := Lib.hid hsp
    have hd1 : 1 ≤ d := by omega
    clear hN his hsp hmu hpr hqb hmb
    have o0 := HC.out.c0
    have o1 := HC.out.c1
    go_wp2_with (fail)
    clear o0 o1
    have gg := Drw.of_ext (S := S) (ext_drew w13)
    replace HRR := Lib.hid (HRR.out.drw gg hgR)
    replace HC := Lib.hid (HC.out.drw gg hgO)
    replace G := Lib.hid (G.out.trans gg)
    replace HQ := Lib.hid (gg.own HQ.out (Nat.lt_succ_self _))
    replace HX := Lib.hid (gg.own HX.out (Nat.lt_succ_self _))
    clear gg
    refine Chg.wp_region_lex (E := Drw.rel S) [(8, .ownP S (S.g + 1) d (Good p d) (Nat.lt_succ_self _)), (9, .ownP S (S.g + 1) N (Good p N) (Nat.lt_succ_self _)), (10, .code S (S.g + 1) N (Good p N) (Nat.lt_succ_self _))] (by kernel_rfl) (by kernel_rfl) ?_
    (refine Chg.LexW.pure (v := ?_) rfl rfl (fun w1 he => ?_) ?_; rotate_left; ( have he' : Drw S _ _ := he; have x0 := he'.cell (p := ⟨O, 0, none⟩) hgO HC.out.c0; have x1 := he'.cell (p := ⟨O, 1, none⟩) hgO HC.out.c1; go_simp; rfl); simp only [Act.put, List.setIfInBounds_toArray, List.set_cons_zero, List.set_cons_succ])
    (refine Chg.LexW.pure (v := ?_) rfl rfl (fun w1 he => ?_) ?_; rotate_left; ( have he' : Drw S _ _ := he; have x0 := he'.cell (p := ⟨O, 0, none⟩) hgO HC.out.c0; have x1 := he'.cell (p := ⟨O, 1, none⟩) hgO HC.out.c1; go_simp; rfl); simp only [Act.put, List.setIfInBounds_toArray, List.set_cons_zero, List.set_cons_succ])
    (refine Chg.LexW.pure (v := ?_) rfl rfl (fun w1 he => ?_) ?_; rotate_left; ( have he' : Drw S _ _ := he; have x0 := he'.cell (p := ⟨O, 0, none⟩) hgO HC.out.c0; have x1 := he'.cell (p := ⟨O, 1, none⟩) hgO HC.out.c1; go_simp; rfl); simp only [Act.put, List.setIfInBounds_toArray, List.set_cons_zero, List.set_cons_succ])
    (refine Chg.LexW.pure (v := ?_) rfl rfl (fun w1 he => ?_) ?_; rotate_left; ( have he' : Drw S _ _ := he; have x0 := he'.cell (p := ⟨O, 0, none⟩) hgO HC.out.c0; have x1 := he'.cell (p := ⟨O, 1, none⟩) hgO HC.out.c1; go_simp; rfl); simp only [Act.put, List.setIfInBounds_toArray, List.set_cons_zero, List.set_cons_succ])
    (refine Chg.LexW.pure (v := ?_) rfl rfl (fun w1 he => ?_) ?_; rotate_left; ( have he' : Drw S _ _ := he; have x0 := he'.cell (p := ⟨O, 0, none⟩) hgO HC.out.c0; have x1 := he'.cell (p := ⟨O, 1, none⟩) hgO HC.out.c1; go_simp; rfl); simp only [Act.put, List.setIfInBounds_toArray, List.set_cons_zero, List.set_cons_succ])
    (refine Chg.LexW.pure (v := ?_) rfl rfl (fun w1 he => ?_) ?_; rotate_left; ( have he' : Drw S _ _ := he; have x0 := he'.cell (p := ⟨O, 0, none⟩) hgO HC.out.c0; have x1 := he'.cell (p := ⟨O, 1, none⟩) hgO HC.out.c1; go_simp; rfl); simp only [Act.put, List.setIfInBounds_toArray, List.set_cons_zero, List.set_cons_succ])
    (refine Chg.LexW.pure (v := ?_) rfl rfl (fun w1 he => ?_) ?_; rotate_left; ( have he' : Drw S _ _ := he; have x0 := he'.cell (p := ⟨O, 0, none⟩) hgO HC.out.c0; have x1 := he'.cell (p := ⟨O, 1, none⟩) hgO HC.out.c1; go_simp; rfl); simp only [Act.put, List.setIfInBounds_toArray, List.set_cons_zero, List.set_cons_succ])
    (refine Chg.LexW.pure (v := ?_) rfl rfl (fun w1 he => ?_) ?_; rotate_left; ( have he' : Drw S _ _ := he; have x0 := he'.cell (p := ⟨O, 0, none⟩) hgO HC.out.c0; have x1 := he'.cell (p := ⟨O, 1, none⟩) hgO HC.out.c1; go_simp; rfl); simp only [Act.put, List.setIfInBounds_toArray, List.set_cons_zero, List.set_cons_succ])
    (refine Chg.LexW.callR (f := ?_) (args := ?_) rfl rfl (fun w1 => ?_) (fun w1 he hdep => ?_) (fun v hv => ?_); rotate_left 2; (go_simp; refine ⟨?_, ?_⟩ <;> rfl); ( have he' : Drw S _ _ := he; (refine Calls.mono (s_dlist S p d _ ((G.out.trans he').src HS.out) (by omega) (by omega)) ?_; rintro e w9 ⟨a9, c9, x9, rfl, ho9, hb9, g9⟩; obtain ⟨g8, _, rfl, _⟩ := ho9.row (by omega); exact ⟨_, rfl, g9, g8, c9, x9, rfl, isB_Good ho9.1 (hb9 (by omega)), ho9.mono (show S.g + 1 ≤ _ from Nat.le_trans HS.out.lt (Nat.le_trans G.out.size he'.size))⟩)); simp only [Act.put, List.setIfInBounds_toArray, List.set_cons_zero, List.set_cons_succ])
    obtain ⟨_, g47, c47, x47, rfl, _⟩ := hv
    (refine Chg.LexW.callR (f := ?_) (args := ?_) rfl rfl (fun w1 => ?_) (fun w1 he hdep => ?_) (fun v hv => ?_); rotate_left 2; (go_simp; refine ⟨?_, ?_⟩ <;> rfl); ( have he' : Drw S _ _ := he; obtain ⟨_, _, y47, q47, p47, r47⟩ : (Chg.SPred.ownP S (S.g + 1) d (Good p d) (Nat.lt_succ_self _)).holds (.slice (some ⟨g47, 0, none⟩) d c47) w1 := hdep (8, 47) (by decide +kernel); cases q47; (refine Calls.mono (s_vector HN.out p a c _ _ y47 w1 (by omega) r47.rd) ?_; rintro e w9 ⟨g9, rfl, ho9, x9⟩; exact ⟨_, rfl, Drw.of_ext x9, g9, _, _, rfl, vec_good (by omega) p47, ho9.mono (show S.g + 1 ≤ _ from Nat.le_trans HS.out.lt (Nat.le_trans G.out.size he'.size))⟩)); simp only [Act.put, List.setIfInBounds_toArray, List.set_cons_zero, List.set_cons_succ])
    obtain ⟨_, g48, c48, x48, rfl, _⟩ := hv
    (refine Chg.LexW.callR (f := ?_) (args := ?_) rfl rfl (fun w1 => ?_) (fun w1 he hdep => ?_) (fun v hv => ?_); rotate_left 2; (go_simp; refine ⟨?_, ?_⟩ <;> rfl); ( have he' : Drw S _ _ := he; obtain ⟨_, _, y48, q48, p48, r48⟩ : (Chg.SPred.ownP S (S.g + 1) N (Good p N) (Nat.lt_succ_self _)).holds (.slice (some ⟨g48, 0, none⟩) N c48) w1 := hdep (9, 48) (by decide +kernel); cases q48; (refine Calls.mono (s_vecIdem p a d c qs _ _ y48 w1 HN.out HSP.out h4 (he'.own HQ.out (Nat.lt_succ_self _)).rd r48.rd p48) ?_; rintro e w9 ⟨b9, m9, c9, x9, code9, rfl, hk9, ho9, x9'⟩; exact ⟨_, rfl, Drw.of_ext x9', b9, m9, c9, x9, code9, rfl, hk9, ho9.mono (show S.g + 1 ≤ _ from Nat.le_trans HS.out.lt (Nat.le_trans G.out.size he'.size))⟩)); simp only [Act.put, List.setIfInBounds_toArray, List.set_cons_zero, List.set_cons_succ])
    obtain ⟨_, eb, em, ec, ex, code, rfl, _⟩ := hv
    (refine Chg.LexW.pure (v := ?_) rfl rfl (fun w1 he => ?_) ?_; rotate_left; ( have he' : Drw S _ _ := he; have x0 := he'.cell (p := ⟨O, 0, none⟩) hgO HC.out.c0; have x1 := he'.cell (p := ⟨O, 1, none⟩) hgO HC.out.c1; go_simp; rfl); simp only [Act.put, List.setIfInBounds_toArray, List.set_cons_zero, List.set_cons_succ])
    (refine Chg.LexW.pure (v := ?_) rfl rfl (fun w1 he => ?_) ?_; rotate_left; ( have he' : Drw S _ _ := he; have x0 := he'.cell (p := ⟨O, 0, none⟩) hgO HC.out.c0; have x1 := he'.cell (p := ⟨O, 1, none⟩) hgO HC.out.c1; go_simp; rfl); simp only [Act.put, List.setIfInBounds_toArray, List.set_cons_zero, List.set_cons_succ])
    (refine Chg.LexW.pure (v := ?_) rfl rfl (fun w1 he => ?_) ?_; rotate_left; ( have he' : Drw S _ _ := he; have x0 := he'.cell (p := ⟨O, 0, none⟩) hgO HC.out.c0; have x1 := he'.cell (p := ⟨O, 1, none⟩) hgO HC.out.c1; go_simp; rfl); simp only [Act.put, List.setIfInBounds_toArray, List.set_cons_zero, List.set_cons_succ])
    (refine Chg.LexW.pure (v := ?_) rfl rfl (fun w1 he => ?_) ?_; rotate_left; ( have he' : Drw S _ _ := he; have x0 := he'.cell (p := ⟨O, 0, none⟩) hgO HC.out.c0; have x1 := he'.cell (p := ⟨O, 1, none⟩) hgO HC.out.c1; go_simp; rfl); simp only [Act.put, List.setIfInBounds_toArray, List.set_cons_zero, List.set_cons_succ])
    (refine Chg.LexW.pure (v := ?_) rfl rfl (fun w1 he => ?_) ?_; rotate_left; ( have he' : Drw S _ _ := he; have x0 := he'.cell (p := ⟨O, 0, none⟩) hgO HC.out.c0; have x1 := he'.cell (p := ⟨O, 1, none⟩) hgO HC.out.c1; go_simp; rfl); simp only [Act.put, List.setIfInBounds_toArray, List.set_cons_zero, List.set_cons_succ])
    refine Chg.LexW.nil (fun w14 he hkn => ?_)
    have gg : Drw S w13.drew w14 := he
    obtain ⟨eb', em', ec', ex', code', q49, hek, hoe⟩ : (Chg.SPred.code S (S.g + 1) N (Good p N) (Nat.lt_succ_self _)).holds (.tuple #[.slice eb em ec, .int .i64 code]) w14 := hkn (10, _) (by simp)
    cases q49
    have HEE := Lib.hid hoe
    replace HRR := Lib.hid (HRR.out.drw gg hgR)
    replace HC := Lib.hid (HC.out.drw gg hgO)
    replace G := Lib.hid (G.out.trans gg)
    replace HQ := Lib.hid (gg.own HQ.out (Nat.lt_succ_self _))
    replace HX := Lib.hid (gg.own HX.out (Nat.lt_succ_self _))
    clear gg he hkn hoe
    by_cases hc0 : code = 0
    rotate_left
    · skip
      have hcb : (code == 0) = false := by simp [hc0]
      have r0 := HRR.out.c0
      have r1 := HRR.out.c1
      have f0 := HRR.out.f0
      have f1 := HRR.out.f1
      have o0 := HC.out.c0
      have o1 := HC.out.c1
      go_wp2_with (fail)
      first
        | refine bodyPost_ret (v := .tuple #[.agg #[.int .i64 p, .slice a d c], .slice ba N bc]) (by simp [results, Try.results123, go_sem, r0, r1]) rfl ⟨p, a, d, c, qs, ba, N, bc, bx, rfl, by omega, by omega, by omega, by omega, ?_, ?_, ?_⟩
        | refine bodyPost_ret (v := .tuple #[.agg #[.int .i64 p, .slice a d c], .slice ba N bc]) (by simp [results, Try.results123, go_sem, r0, r1]) rfl ⟨p, a, d, c, qs, ba, N, bc, rfl, by omega, by omega, by omega, by omega, ?_, ⟨bx, ?_⟩, ?_⟩
      · exact ((HQ.out.other (by simp; omega) _).other (by simp; omega) _).mono (by omega)
      · exact ((HX.out.other (by simp; omega) _).other (by simp; omega) _).mono (by omega)
      · exact ((G.out.toExt G1.out (by omega)).setCell (by simp) _).setCell (by simp) _
    subst hc0
    obtain ⟨rfl, hge⟩ := hek rfl
    have HGE := Lib.hid hge
    clear hge hek
    have o0 := HC.out.c0
    have o1 := HC.out.c1
    go_wp2_with (fail)
    clear o0 o1
    have gg := Drw.of_ext (S := S) (ext_drew w14)
    replace HRR := Lib.hid (HRR.out.drw gg hgR)
    replace HC := Lib.hid (HC.out.drw gg hgO)
    replace G := Lib.hid (G.out.trans gg)
    replace HQ := Lib.hid (gg.own HQ.out (Nat.lt_succ_self _))
    replace HX := Lib.hid (gg.own HX.out (Nat.lt_succ_self _))
    replace HEE := Lib.hid (gg.own HEE.out (Nat.lt_succ_self _))
    clear gg
    refine Chg.wp_region_lex_tail (E := Drw.rel S) 5 [(4, .own S (S.g + 1) 65 (Nat.lt_succ_self _))] (by kernel_rfl) (by kernel_rfl) ?_
    simp only [List.take, List.drop]
    (refine Chg.LexW.pure (v := ?_) rfl rfl (fun w1 he => ?_) ?_; rotate_left; ( have he' : Drw S _ _ := he; have x0 := he'.cell (p := ⟨O, 0, none⟩) hgO HC.out.c0; have x1 := he'.cell (p := ⟨O, 1, none⟩) hgO HC.out.c1; go_simp; rfl); simp only [Act.put, List.setIfInBounds_toArray, List.set_cons_zero, List.set_cons_succ])
    (refine Chg.LexW.pure (v := ?_) rfl rfl (fun w1 he => ?_) ?_; rotate_left; ( have he' : Drw S _ _ := he; have x0 := he'.cell (p := ⟨O, 0, none⟩) hgO HC.out.c0; have x1 := he'.cell (p := ⟨O, 1, none⟩) hgO HC.out.c1; go_simp; rfl); simp only [Act.put, List.setIfInBounds_toArray, List.set_cons_zero, List.set_cons_succ])
    (refine Chg.LexW.pure (v := ?_) rfl rfl (fun w1 he => ?_) ?_; rotate_left; ( have he' : Drw S _ _ := he; have x0 := he'.cell (p := ⟨O, 0, none⟩) hgO HC.out.c0; have x1 := he'.cell (p := ⟨O, 1, none⟩) hgO HC.out.c1; go_simp; rfl); simp only [Act.put, List.setIfInBounds_toArray, List.set_cons_zero, List.set_cons_succ])
    (refine Chg.LexW.pure (v := ?_) rfl rfl (fun w1 he => ?_) ?_; rotate_left; ( have he' : Drw S _ _ := he; have x0 := he'.cell (p := ⟨O, 0, none⟩) hgO HC.out.c0; have x1 := he'.cell (p := ⟨O, 1, none⟩) hgO HC.out.c1; go_simp; rfl); simp only [Act.put, List.setIfInBounds_toArray, List.set_cons_zero, List.set_cons_succ])
    (refine Chg.LexW.callR (f := ?_) (args := ?_) rfl rfl (fun w1 => ?_) (fun w1 he hdep => ?_) (fun v hv => ?_); rotate_left 2; (go_simp; refine ⟨?_, ?_⟩ <;> rfl); ( have he' : Drw S _ _ := he; (refine Calls.mono (s_timesN HN.out p a c qs _ _ _ _ bx ex' w1 (by omega) (by omega) (by omega) (he'.own HQ.out (Nat.lt_succ_self _)).rd HQB.out (he'.own HX.out (Nat.lt_succ_self _)).rd (he'.own HEE.out (Nat.lt_succ_self _)).rd HMB.out (good_bits HGE.out)) ?_; rintro e w9 ⟨g9, rfl, ho9, x9⟩; exact ⟨_, rfl, Drw.of_ext x9, some ⟨g9, 0, none⟩, _, _, _, rfl, by omega, ho9.mono (show S.g + 1 ≤ _ from Nat.le_trans HS.out.lt (Nat.le_trans G.out.size he'.size))⟩)); simp only [Act.put, List.setIfInBounds_toArray, List.set_cons_zero, List.set_cons_succ])
    obtain ⟨_, a1, m1, c1, x1, rfl, _⟩ := hv
    refine Chg.LexW.nil (fun w15 he hkn => ?_)
    have gg : Drw S w14.drew w15 := he
    obtain ⟨a1', m1', c1', x1', q1, hm1', ho1⟩ : (Chg.SPred.own S (S.g + 1) 65 (Nat.lt_succ_self _)).holds (.slice a1 m1 c1) w15 := hkn (4, _) (by simp)
    cases q1
    have HO1 := Lib.hid ho1
    replace HRR := Lib.hid (HRR.out.drw gg hgR)
    replace HC := Lib.hid (HC.out.drw gg hgO)
    replace G := Lib.hid (G.out.trans gg)
    replace HQ := Lib.hid (gg.own HQ.out (Nat.lt_succ_self _))
    replace HX := Lib.hid (gg.own HX.out (Nat.lt_succ_self _))
    replace HEE := Lib.hid (gg.own HEE.out (Nat.lt_succ_self _))
    have r0 := HRR.out.c0
    have r1 := HRR.out.c1
    have f0 := HRR.out.f0
    have f1 := HRR.out.f1
    clear he gg hkn ho1
    go_wp2_with (fail)
    first
      | refine bodyPost_ret (v := .tuple #[.agg #[.int .i64 p, .slice a d c], .slice a1 m1 c1]) (by simp [results, Try.results123, go_sem, r0, r1]) rfl ⟨p, a, d, c, qs, a1, m1, c1, x1', rfl, by omega, by omega, by omega, by omega, ?_, ?_, ?_⟩
      | refine bodyPost_ret (v := .tuple #[.agg #[.int .i64 p, .slice a d c], .slice a1 m1 c1]) (by simp [results, Try.results123, go_sem, r0, r1]) rfl ⟨p, a, d, c, qs, a1, m1, c1, rfl, by omega, by omega, by omega, by omega, ?_, ⟨x1', ?_⟩, ?_⟩
    · exact ((HQ.out.other (by simp; omega) _).other (by simp; omega) _).mono (by omega)
    · exact ((HO1.out.other (by simp; omega) _).other (by simp; omega) _).mono (by omega)
    · exact ((G.out.toExt G1.out (by omega)).setCell (by simp) _).setCell (by simp) _

set_option maxHeartbeats 4000000 in
theorem s_drawLeftMatrix (ca : Option Addr) (n cap : Nat) (w : World) (hn : n ≤ 4096) (hb : RdY w ca n) :
    Calls Try.prog 55 #[.slice ca n cap] w fun e w' => ∃ p a d c qs a1 m1 c1 x1, e = .returned (.tuple #[.agg #[.int .i64 p, .slice a d c], .slice a1 m1 c1]) ∧ 0 ≤ p ∧ p ≤ 17 ∧ d ≤ 7 ∧ m1 ≤ 65 ∧ OwnC w.heap.size w' a d c qs ∧ OwnC w.heap.size w' a1 m1 c1 x1 ∧ Ext w w' := by
  obtain ⟨W, hW⟩ : ∃ W, W = w.alloc (.cells #[.int .i64 0, .slice none 0 0] 26) := ⟨_, rfl⟩
  have gW : Ext w W := by rw [hW]; exact ext_alloc _ _
  have HZ := Lib.hid (show W.heap.size = w.heap.size + 1 by rw [hW]; simp)
  have HR := Lib.hid (show SpAt W w.heap.size 0 (.slice none 0 0) by rw [hW]; exact ⟨by simp, by simp, by simp, by simp⟩)
  have HW := Lib.hid hW
  have GW := Lib.hid gW
  have HB := Lib.hid (hb.ext gW)
  clear gW hW hb
  go_enter Try.func55, Try.ntmps55
  go_wp2_with (fail)
  rw [← HW.out]
  refine Calls.mono (s_l09Draw ca n cap W hn HB.out) ?_
  rintro e w1 ⟨p, a, d, c, qs, a1, m1, c1, x1, rfl, hp0, hp1, hd, hm1, ho, ho1, g1⟩
  have hR1 := HR.out.ext g1
  have r0 := hR1.c0
  have r1 := hR1.c1
  have f0 := hR1.f0
  have f1 := hR1.f1
  have lR := hR1.lt
  have hz := HZ.out
  have HQ := Lib.hid ho
  have HO1 := Lib.hid ho1
  have G1 := Lib.hid (GW.out.trans g1)
  have HF := ((hR1.set0 p).set1 (.slice a d c)).ext (ext_alloc _ (.cells #[.int .i64 p, .slice a d c] 26))
  have r0' := HF.c0
  have r1' := HF.c1
  clear ho ho1 g1 hR1 HF
  go_wp2_with (fail)
  refine bodyPost_ret (v := .tuple #[.agg #[.int .i64 p, .slice a d c], .slice a1 m1 c1]) (by simp [results, Try.results55, go_sem, r0', r1']) rfl ⟨p, a, d, c, qs, a1, m1, c1, x1, rfl, hp0, hp1, hd, hm1, ?_, ?_, ?_⟩
  · exact (((HQ.out.other (by simp; omega) _).other (by simp; omega) _).ext (ext_alloc _ _)).mono (by omega)
  · exact (((HO1.out.other (by simp; omega) _).other (by simp; omega) _).ext (ext_alloc _ _)).mono (by omega)
  · exact ((G1.out.setCell (by simp) _).setCell (by simp) _).alloc _
end Go.Proofs.Ytbgnfjckbjmgbaa

/-
  The matrices of multiplications, in plain numbers: what they do to a multivector, their products.
  No condition. No program in sight.
-/
namespace Go.Proofs.Ytbgnfjckbjmgbaa
set_option maxRecDepth 100000
open Go.RowKit

theorem dotS_dot (x y : List Int) : ∀ n, dotS x y n = dotN n x y
  | 0 => rfl
  | n + 1 => by
    have ih := dotS_dot x y n
    unfold dotN at ih ⊢
    simp only [dotS, sumN]
    rw [ih]
theorem dot_comm (n : Nat) (x y : List Int) : dotN n x y = dotN n y x := sumN_congr fun _ _ => Int.mul_comm _ _
theorem blade_mul {p : Int} {qs x : List Int} {i j : Nat} (hp : 1 ≤ p) (hi : i < 2 ^ qs.length) (hj : j < 2 ^ qs.length) :
    nth (prodL p qs tkA (bladeL (2 ^ qs.length) j) x) i = (nth x (j ^^^ i) * facZ qs j (j ^^^ i) qs.length) % p := by
  rw [prodA_nth hp hi, sumN_single hj (fun a ha hne => by rw [bladeL_nth hj ha, if_neg (fun h => hne h.symm)]; simp)]
  rw [bladeL_nth hj hj, if_pos rfl, Int.one_mul]
/-- The right matrix leads a multivector to the product. -/
theorem mat_dotR {p : Int} {qs x y : List Int} {i : Nat} (hp : 1 ≤ p) (hi : i < 2 ^ qs.length) :
    dotN (2 ^ qs.length) (nthR (matM p qs x false) i) y % p = nth (prodL p qs tkA y x) i := by
  unfold dotN matM
  rw [turnL_nth hi, prodA_nth hp hi]
  refine sumN_emod fun m hm => ?_
  rw [colL_nth hm, colsM_nth hm, mulC, if_neg (by decide), blade_mul hp hi hm]
  have : nth y m * nth x (m ^^^ i) * facZ qs m (m ^^^ i) qs.length = nth x (m ^^^ i) * facZ qs m (m ^^^ i) qs.length * nth y m := by ac_rfl
  rw [this]
  exact mul_emod_congr (Int.emod_emod _ _) rfl
/-- The product with a multivector on the left or on the right. -/
def actP (p : Int) (qs x : List Int) (left : Bool) (y : List Int) : List Int := if left = true then prodL p qs tkA x y else prodL p qs tkA y x
theorem act_good {p : Int} {qs x y : List Int} {left : Bool} (hp : 1 ≤ p) : Good p (2 ^ qs.length) (actP p qs x left y) := by unfold actP; split <;> exact prod_good hp
theorem mat_act {p : Int} {qs x y : List Int} {left : Bool} {i : Nat} (hp : 1 ≤ p) (hd : qs.length ≤ 6) (hi : i < 2 ^ qs.length) :
    dotN (2 ^ qs.length) (nthR (matM p qs x left) i) y % p = nth (actP p qs x left y) i := by
  cases left
  · exact mat_dotR hp hi
  · exact mat_dot hp hd hi
theorem app_mat {p : Int} {qs x y : List Int} {left : Bool} (hp : 1 ≤ p) (hd : qs.length ≤ 6) :
    appL p (matM p qs x left) y (2 ^ qs.length) (2 ^ qs.length) = actP p qs x left y := by
  refine ext_nth (by rw [appL_len, (act_good hp).1]) fun i hi => ?_
  rw [appL_len] at hi
  rw [appL_nth hi, dotL, dotS_dot]
  exact mat_act hp hd hi
theorem mat_entry {p : Int} {qs x : List Int} {left : Bool} {i j : Nat} (hi : i < 2 ^ qs.length) (hj : j < 2 ^ qs.length) :
    nth (nthR (matM p qs x left) i) j = nth (actP p qs x left (bladeL (2 ^ qs.length) j)) i := by
  unfold matM
  rw [turnL_nth hi, colL_nth hj, colsM_nth hj]
  rfl
theorem mul_mats {p : Int} {qs x y : List Int} {l m : Bool} {i j : Nat} (hp : 1 ≤ p) (hd : qs.length ≤ 6) (hi : i < 2 ^ qs.length) (hj : j < 2 ^ qs.length) :
    nth (nthR (mulL p (matM p qs x l) (matM p qs y m) (2 ^ qs.length) (2 ^ qs.length) (2 ^ qs.length)) i) j = nth (actP p qs x l (actP p qs y m (bladeL (2 ^ qs.length) j))) i := by
  rw [mulL_nth hi, appL_nth hj, dotL, dotS_dot, turnL_nth hj, ← mat_act hp hd hi, dot_comm]
  congr 1
  refine sumN_congr fun t ht => ?_
  rw [colL_nth ht, mat_entry ht hj]
theorem mulL_row {p : Int} {a b : List (List Int)} {n m k i : Nat} (h : i < n) : (nthR (mulL p a b n m k) i).length = k := by
  rw [mulL_nth h, appL_len]
/-- Products of such matrices are equal if they do the same to each blade. -/
theorem mats_eq {p : Int} {qs x y z u : List Int} {l m r s : Bool} (hp : 1 ≤ p) (hd : qs.length ≤ 6)
    (h : ∀ e, actP p qs x l (actP p qs y m e) = actP p qs z r (actP p qs u s e)) :
    mulL p (matM p qs x l) (matM p qs y m) (2 ^ qs.length) (2 ^ qs.length) (2 ^ qs.length) = mulL p (matM p qs z r) (matM p qs u s) (2 ^ qs.length) (2 ^ qs.length) (2 ^ qs.length) := by
  refine ext_rows (by rw [mulL_len, mulL_len]) fun i hi => ?_
  rw [mulL_len] at hi
  refine ext_nth (by rw [mulL_row hi, mulL_row hi]) fun j hj => ?_
  rw [mulL_row hi] at hj
  rw [mul_mats hp hd hi hj, mul_mats hp hd hi hj, h]
theorem mat_eq {p : Int} {qs x y z : List Int} {l m r : Bool} (hp : 1 ≤ p) (hd : qs.length ≤ 6)
    (h : ∀ e, actP p qs z r e = actP p qs x l (actP p qs y m e)) :
    matM p qs z r = mulL p (matM p qs x l) (matM p qs y m) (2 ^ qs.length) (2 ^ qs.length) (2 ^ qs.length) := by
  refine ext_rows (by rw [mulL_len, matM_len]) fun i hi => ?_
  rw [matM_len] at hi
  have hg := matM_good (p := p) (qs := qs) (x := z) (left := r) hp i (by rw [matM_len]; exact hi)
  refine ext_nth (by rw [mulL_row hi, hg.1]) fun j hj => ?_
  rw [hg.1] at hj
  rw [mul_mats hp hd hi hj, mat_entry hi hj, h]
theorem mats_left {p : Int} {qs x y : List Int} (hp : 1 ≤ p) (hd : qs.length ≤ 6) :
    matM p qs (prodL p qs tkA x y) true = mulL p (matM p qs x true) (matM p qs y true) (2 ^ qs.length) (2 ^ qs.length) (2 ^ qs.length) :=
  mat_eq hp hd fun _ => by simp only [actP, if_true]; exact prod_assoc hp hd
theorem mats_right {p : Int} {qs x y : List Int} (hp : 1 ≤ p) (hd : qs.length ≤ 6) :
    matM p qs (prodL p qs tkA x y) false = mulL p (matM p qs y false) (matM p qs x false) (2 ^ qs.length) (2 ^ qs.length) (2 ^ qs.length) :=
  mat_eq hp hd fun _ => by simp only [actP, Bool.false_eq_true, if_false]; exact (prod_assoc hp hd).symm
theorem mats_swap {p : Int} {qs x y : List Int} (hp : 1 ≤ p) (hd : qs.length ≤ 6) :
    mulL p (matM p qs x true) (matM p qs y false) (2 ^ qs.length) (2 ^ qs.length) (2 ^ qs.length) = mulL p (matM p qs y false) (matM p qs x true) (2 ^ qs.length) (2 ^ qs.length) (2 ^ qs.length) :=
  mats_eq hp hd fun _ => by simp only [actP, if_true, Bool.false_eq_true, if_false]; exact (prod_assoc hp hd).symm
end Go.Proofs.Ytbgnfjckbjmgbaa

/-
  What is known of the arguments of a law in memory, read off the form's own words.
  No condition.
-/
namespace Go.Proofs.Ytbgnfjckbjmgbaa
set_option maxRecDepth 100000
open Go.ChangeShapes Go.WideShapes Go.ChangeAt Go.RowKit Go.Joins

theorem own : ownKnob Try.prog.godebug = none := by kernel_rfl
theorem laidOut : laidOutB Try.prog = true := by kernel_rfl
theorem Try.cellsI : Try.prog.cellsOf 2 = 1 := by kernel_rfl
theorem Try.cellsR : Try.prog.cellsOf 24 = 1 := by kernel_rfl

theorem add_cell {w : World} {x : Addr} {i : Nat} {v v0 : Value} (h0 : w.cell? (x.add 0) = some v0) (h : w.cell? (x.add i) = some v) : ∃ b off, some x = some (⟨b, off, none⟩ : Addr) ∧ w.cell? ⟨b, off + i, none⟩ = some v := by
  obtain ⟨b, off, spot⟩ := x
  cases spot with
  | none =>
    refine ⟨b, off, rfl, ?_⟩
    unfold Addr.add at h
    split at h
    · rename_i hi; subst hi; exact h
    · exact h
  | some s =>
    simp only [World.cell?, Addr.add, if_true] at h0
    split at h0
    · simp at h0
    · cases h0

theorem read_cells {H : Type} {enc : TypeId × Value → H} {W : World} {fuel : Nat} {v : Value} {x : DataW H × List MemPlace}
    (hf : DataW.trod enc Try.prog W 0 (fun _ => true) true fuel 24 [v] = some x) : ∃ a n cap xs, v = .slice a n cap ∧ RdC W a n xs ∧ n ≤ maxLen := by
  rcases open_ints Try.underlying24 Try.underlying2 Try.cellsI hf with ⟨hcs, _⟩ | ⟨y, l, c, zs, hcs, _, hl, hm, hz, _, hcell, hwz⟩
  · simp only [List.cons.injEq, and_true] at hcs
    exact ⟨none, 0, 0, [], hcs, ⟨rfl, fun i hi => by omega⟩, by omega⟩
  · simp only [List.cons.injEq, and_true] at hcs
    have hz' : zs.length = c := by simpa using hz
    refine ⟨some y, l, c, zs.take l, hcs, ⟨by simp; omega, fun i hi => ?_⟩, by omega⟩
    obtain ⟨b, off, h1, h2⟩ := add_cell (hcell 0 (by omega)) (hcell i (by omega))
    refine ⟨b, off, h1, ?_⟩
    rw [h2]
    simp [nth, List.getElem?_take_of_lt hi]

theorem read_ints {H : Type} {enc : TypeId × Value → H} {W : World} {base : Nat} {v : Value} {d : DataW H} {p : List MemPlace}
    (hv : Value.okWide Try.prog W .any base 24 v) (h : DataW.Trod enc Try.prog W 0 (fun _ => true) true 24 v d p) : ∃ a n cap xs, v = .slice a n cap ∧ RdC W a n xs ∧ n ≤ maxLen := by
  obtain ⟨a0, len0, cap0, rfl⟩ := okWide_slice Try.underlying24 hv
  obtain ⟨fuel, hf⟩ := h
  exact read_cells (by simpa [Value.cells] using hf)


end Go.Proofs.Ytbgnfjckbjmgbaa

/-
  What is known of the bytes that a law is handed.
  No condition.
-/
namespace Go.Proofs.Ytbgnfjckbjmgbaa
set_option maxRecDepth 100000
open Go.ChangeShapes Go.WideShapes Go.ChangeAt Go.RowKit Go.Joins

theorem Try.cellsB : Try.prog.cellsOf 5 = 1 := by kernel_rfl

theorem read_bytes {H : Type} {enc : TypeId × Value → H} {W : World} {base : Nat} {v : Value} {d : DataW H} {p : List MemPlace}
    (hv : Value.okWide Try.prog W .any base 22 v) (h : DataW.Trod enc Try.prog W 0 (fun _ => true) true 22 v d p) : ∃ a n cap, v = .slice a n cap ∧ RdY W a n := by
  obtain ⟨a0, len0, cap0, rfl⟩ := okWide_slice Try.underlying22 hv
  obtain ⟨fuel, hf⟩ := h
  have hf' : DataW.trod enc Try.prog W 0 (fun _ => true) true fuel 22 [.slice a0 len0 cap0] = some (d, p) := by simpa [Value.cells] using hf
  rcases open_ints Try.underlying22 Try.underlying5 Try.cellsB hf' with ⟨hcs, _⟩ | ⟨y, l, c, zs, hcs, _, hl, hm, hz, _, hcell, hwz⟩
  · simp only [List.cons.injEq, and_true] at hcs
    exact ⟨none, 0, 0, hcs, fun i hi => by omega⟩
  · simp only [List.cons.injEq, and_true] at hcs
    have hz' : zs.length = c := by simpa using hz
    refine ⟨some y, l, c, hcs, fun i hi => ?_⟩
    obtain ⟨b, off, h1, h2⟩ := add_cell (hcell 0 (by omega)) (hcell i (by omega))
    have hi' : i < zs.length := by omega
    have hw := hwz (zs.getD i 0) (by rw [List.getD_eq_getElem?_getD, List.getElem?_eq_getElem hi']; exact List.getElem_mem hi')
    refine ⟨b, off, zs.getD i 0, h1, h2, ?_⟩
    replace hw : (decide (IntKind.u8.min ≤ zs.getD i 0) && decide (zs.getD i 0 ≤ IntKind.u8.max)) = true := hw
    have h8 : IntKind.u8.min = 0 ∧ IntKind.u8.max = 255 := by decide
    rw [h8.1, h8.2] at hw
    simp only [Bool.and_eq_true, decide_eq_true_eq] at hw
    omega
end Go.Proofs.Ytbgnfjckbjmgbaa
