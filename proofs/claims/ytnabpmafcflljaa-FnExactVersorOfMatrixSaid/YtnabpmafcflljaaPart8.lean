/-
  Contracts and plain laws, part 8: Det, DetS, IsMat.
  No condition.
-/
import Derived.Test.YtnabpmafcflljaaPart3
import Derived.Test.YtnabpmafcflljaaPart5
import Derived.Test.YtnabpmafcflljaaPart6
import Derived.Test.YtnabpmafcflljaaPart1
/-
  Contract: the determinant in the program; Determinant.
  No condition.
-/
namespace Go.Proofs.Ytnabpmafcflljaa
set_option maxRecDepth 100000
open Go.RowKit

theorem elimS_start {p : Int} {m k : Nat} {rows : List (List Int)} : ∀ r, r ≤ k + 1 → elimS p m k rows r = rows
  | 0, _ => rfl
  | r + 1, h => by rw [elimS, if_neg (by omega)]; exact elimS_start r (by omega)
theorem elimS_good {p : Int} {m k : Nat} {rows : List (List Int)} (hp : 1 ≤ p) (h : RowsG p m rows) : ∀ r, r ≤ rows.length → RowsG p m (elimS p m k rows r) := fun r hr i hi => by
  rw [elimS_len] at hi
  rw [elimS_nth r hr]
  split
  · unfold elimN
    split
    · exact plus_good hp
    · exact h i hi
  · exact h i hi
theorem swapL_same {rows : List (List Int)} {k : Nat} : swapL rows k k = rows := by
  unfold swapL
  rw [set_self, set_self]
theorem detS_none {p : Int} {m : Nat} {rows : List (List Int)} {k : Nat} (h : detS p m rows k = none) : ∀ j, detS p m rows (k + j) = none
  | 0 => h
  | j + 1 => by rw [← Nat.add_assoc, detS, detS_none h j]
theorem mul_small {p x y : Int} (hp : p ≤ 13) (hx0 : 0 ≤ x) (hx : x < p) (hy0 : 0 ≤ y) (hy : y < p) : 0 ≤ x * y ∧ x * y ≤ 144 := by
  refine ⟨Int.mul_nonneg hx0 hy0, ?_⟩
  have h1 : x * y ≤ 12 * y := Int.mul_le_mul_of_nonneg_right (by omega) hy0
  omega

set_option maxHeartbeats 16000000 in
set_option maxRecDepth 100000 in
theorem c_det (p : Int) (a : Option Addr) (n cap m : Nat) (rows : List (List Int)) (w : World) (hpr : primeB p = true) (hn0 : 0 < n) (hnm : n ≤ m) (hm2 : m ≤ 4096) (hx : RdR w a n rows) (hg : RowsG p m rows) :
    Calls Try.prog 100 #[.int .i64 p, .slice a n cap] w fun e w' => e = .returned (.int .i64 (detL p m rows)) ∧ Ext w w' := by
  have hpb := prime_bd hpr
  have hp13 : p ≤ 13 := hpb.2
  have HX := Lib.hid hx
  have HG := Lib.hid hg
  have HPR := Lib.hid hpr
  have HLN := Lib.hid hx.1
  have HDB := Lib.hid (fun k hk r o h => (det_gauss (m := m) hpr hg (by rw [hx.1]; exact hnm) k hk).1 r o h)
  have HDG := Lib.hid (fun k hk r o h => detS_good (p := p) (m := m) (by omega) hg k hk r o h)
  clear hx hg hpr
  go_enter Try.func100, Try.ntmps100
  go_wp2_with (fail)
  refine (c_cloneRows a n cap m rows w (by omega) (by omega) (by omega) (fun i hi => ownR_put_len HG.out HLN.out hi) HX.out).mono ?_
  rintro e w1 ⟨g, rc, rfl, ho, h1⟩
  have HO := Lib.hid ho
  have H1 := Lib.hid h1
  clear ho h1
  go_wp2_with (fail)
  go_loopw [6, 14] (fun oo kk wr => ∃ (k : Nat) (R : List (List Int)) (o : Int), k ≤ n ∧ kk = .int .i64 k ∧ oo = .int .i64 o ∧ Hid (detS p m rows k = some (R, o)) ∧ Hid (OwnR w.heap.size wr (some ⟨g, 0, none⟩) n rc R) ∧ Hid (Ext w wr)) (fun _ k _ => n - (intOf k).toNat)
  case atStart => exact ⟨0, rows, 1, Nat.zero_le _, rfl, rfl, Lib.hid rfl, HO, H1⟩
  case round =>
    obtain ⟨k, R, o, hk, rfl, rfl, HS, HOwn, HExt⟩ := hrel
    clear HO H1
    have HRL := Lib.hid HOwn.out.1
    have hobd := (HDB.out k (by rw [HLN.out]; exact hk) R o HS.out).2.2
    by_cases hkn : k < n
    · have HRG : Hid (RowsG p m R) := Lib.hid (HDG.out k (by rw [HLN.out]; exact hk) R o HS.out).1
      have hkm : k < m := by omega
      have hwo : wrap64 (-o) = -o := by unfold wrap64; omega
      go_wp2_with (fail)
      go_loop [8] (fun i => ∃ j : Nat, k ≤ j ∧ j ≤ n ∧ i = .int .i64 j ∧ Hid (∀ t, k ≤ t → t < j → nth (nthR R t) k = 0)) (fun i => n - (intOf i).toNat)
      case atStart => exact ⟨k, Nat.le_refl _, by omega, rfl, Lib.hid (fun t h1 h2 => by omega)⟩
      case round =>
        obtain ⟨j, hkj, hj, rfl, HZ⟩ := hrel
        by_cases hjn : j < n
        · obtain ⟨aj, cj, hcj, hoj⟩ := HOwn.out.at hjn
          rw [ownR_put_len HRG.out HRL.out hjn] at hcj hoj
          obtain ⟨bj, oj, rfl, hcjk⟩ := hoj.rd.2 k hkm
          by_cases hz : nth (nthR R j) k = 0
          · have hzb : (nth (nthR R j) k == 0) = true := by simp [hz]
            have HZ' := Lib.hid hz
            clear hz hoj
            go_wp2_with (fail)
            go_round
            case rel => exact ⟨j + 1, by omega, by omega, by go_num, Lib.hid (fun t h1 h2 => by
              by_cases htj : t = j
              · subst htj; exact HZ'.out
              · exact HZ.out t h1 (by omega))⟩
            case measure => simp [intOf]; omega
          · have hzb : (nth (nthR R j) k == 0) = false := by simp [hz]
            have hjb : ((j : Int) == (n : Int)) = false := by simp; omega
            have HPiv := Lib.hid (pivG_eq (rows := R) (k := k) (d := k) hkj (by rw [HRL.out]; exact hj) HZ.out (.inr hz))
            clear hz hoj
            by_cases hkj2 : j = k
            · subst hkj2
              have hjk : ((j : Int) != (j : Int)) = false := by simp
              have HOw := Lib.hid (show OwnR w.heap.size wr (some ⟨g, 0, none⟩) n rc (swapL R j j) by rw [swapL_same]; exact HOwn.out)
              have HE2 := HExt
              obtain ⟨W2, hW2⟩ : ∃ W2, W2 = wr := ⟨_, rfl⟩
              rw [← hW2] at HOw HE2 hcj hcjk ⊢
              clear hW2
              have HSG := Lib.hid (swapL_good HRG.out (show j < R.length by rw [HRL.out]; exact hkn) (show j < R.length by rw [HRL.out]; exact hjn))
              have HSL := Lib.hid (show (swapL R j j).length = n by rw [swapL_len, HRL.out])
              have HSK := Lib.hid (swapL_at (show j < R.length by rw [HRL.out]; exact hkn) (show j < R.length by rw [HRL.out]; exact hjn))
              obtain ⟨Sr, hSr⟩ : ∃ S, S = swapL R j j := ⟨_, rfl⟩
              have HSr := Lib.hid hSr
              rw [← hSr] at HOw HSG HSL HSK
              clear hSr
              obtain ⟨pv, hpv⟩ : ∃ x, x = nth (nthR Sr j) j := ⟨_, rfl⟩
              have hpb2 : 0 ≤ pv ∧ pv < p := by rw [hpv]; exact (HSG.out j (by rw [HSL.out]; exact hkn)).2 j hkm
              have HPV := Lib.hid hpv
              obtain ⟨ax, cx, hcx, hox⟩ := HOw.out.at hkn
              rw [ownR_put_len HSG.out HSL.out hkn] at hcx hox
              obtain ⟨bx, ox, rfl, hck⟩ := hox.rd.2 j hkm
              rw [← hpv] at hck
              have hob : 0 ≤ o ∧ o < p := by omega
              have hmm := mul_bd (x := o) (y := pv) (p := p) (by omega) hob.1 hob.2 hpb2.1 hpb2.2
              have hwm : wrap64 (o * pv) = o * pv := by unfold wrap64; omega
              have hwk : wrap64 ((j : Int) + 1) = (j : Int) + 1 := by unfold wrap64; omega
              have hRpv : nth (nthR R j) j = pv := by rw [hpv, HSK.out]
              rw [hRpv] at hcjk hzb
              clear hRpv
              clear hpv hox
              go_wp2_with (fail)
              refine Calls.mono (c_num p (o * pv) W2 (by omega) (by omega)) ?_
              rintro e W3 ⟨rfl, g3⟩
              obtain ⟨o2, ho2⟩ : ∃ x, x = (o * pv) % p := ⟨_, rfl⟩
              rw [← ho2]
              have HO2 := Lib.hid ho2
              clear ho2 hwm hmm hob
              have HOw3 := Lib.hid (HOw.out.ext g3)
              have HE3 := Lib.hid (HE2.out.trans g3)
              clear g3 hcx hck HOw HE2
              go_wp2_with (fail)
              go_loopw [9] (fun i wr => ∃ (r : Nat) (C : List (List Int)), j + 1 ≤ r ∧ r ≤ n ∧ i = .int .i64 r ∧ Hid (C = elimS p m j Sr r) ∧ Hid (OwnR w.heap.size wr (some ⟨g, 0, none⟩) n rc C) ∧ Hid (Ext w wr)) (fun i _ => n - (intOf i).toNat)
              case atStart => exact ⟨j + 1, Sr, Nat.le_refl _, hkn, by go_num, Lib.hid (elimS_start _ (Nat.le_refl _)).symm, HOw3, HE3⟩
              case round =>
                obtain ⟨r, C, hkr, hr, rfl, HC, HCo, HCe⟩ := hrel
                clear HOw3 HE3
                by_cases hrn : r < n
                · have HCg : Hid (RowsG p m C) := Lib.hid (by rw [HC.out]; exact elimS_good (by omega) HSG.out r (by rw [HSL.out]; omega))
                  have HCl : Hid (C.length = n) := Lib.hid HCo.out.1
                  have HCK : Hid (nthR C j = nthR Sr j) := Lib.hid (by rw [HC.out, elimS_nth _ (by rw [HSL.out]; omega), if_pos (by omega)]; unfold elimN; rw [if_neg (by omega)])
                  have HCR : Hid (nthR C r = nthR Sr r) := Lib.hid (by rw [HC.out, elimS_nth _ (by rw [HSL.out]; omega), if_neg (by omega)])
                  obtain ⟨ar, cr, hcr, hor⟩ := HCo.out.at hrn
                  rw [ownR_put_len HCg.out HCl.out hrn] at hcr hor
                  obtain ⟨ad, cd, hcd, hod⟩ := HCo.out.at hkn
                  rw [ownR_put_len HCg.out HCl.out hkn] at hcd hod
                  obtain ⟨br, or, rfl, hcrk⟩ := hor.rd.2 j hkm
                  obtain ⟨bd, od, rfl, hcdk⟩ := hod.rd.2 j hkm
                  have HRr := Lib.hid (hor.rd.ext (ext_drew wr))
                  have HRd := Lib.hid (hod.rd.ext (ext_drew wr))
                  have HCr := Lib.hid ((ext_drew wr).cell hcr)
                  have HCd := Lib.hid ((ext_drew wr).cell hcd)
                  have HCk := Lib.hid ((ext_drew wr).cell hcrk)
                  have HCq := Lib.hid ((ext_drew wr).cell hcdk)
                  have HGr := Lib.hid (HCg.out r (by rw [HCl.out]; exact hrn))
                  have HGd := Lib.hid (HCg.out j (by rw [HCl.out]; exact hkn))
                  obtain ⟨xr, hxr⟩ : ∃ x, x = nth (nthR C r) j := ⟨_, rfl⟩
                  obtain ⟨xd, hxd⟩ : ∃ x, x = nth (nthR C j) j := ⟨_, rfl⟩
                  have hbr : 0 ≤ xr ∧ xr < p := by rw [hxr]; exact HGr.out.2 j hkm
                  have hbd : 0 ≤ xd ∧ xd < p := by rw [hxd]; exact HGd.out.2 j hkm
                  obtain ⟨iv, hiv⟩ : ∃ x, x = invN p xd := ⟨_, rfl⟩
                  have hbi : 0 ≤ iv ∧ iv < p := by rw [hiv]; exact invN_bd (by omega)
                  have hmi := mul_bd (x := xr) (y := iv) (p := p) (by omega) hbr.1 hbr.2 hbi.1 hbi.2
                  have hmi2 := mul_small hp13 hbr.1 hbr.2 hbi.1 hbi.2
                  have hnm : -xr * iv = -(xr * iv) := Int.neg_mul _ _
                  have HNeg : Hid (IntKind.i64.wrap (-xr) = -xr) := Lib.hid (IntWalk.i64_in _ (by omega))
                  have HMul : Hid (IntKind.i64.wrap (-xr * iv) = -xr * iv) := Lib.hid (IntWalk.i64_in _ (by omega))
                  have HWn : Hid (wrap64 (-xr * iv) = -xr * iv) := Lib.hid (by unfold wrap64; omega)
                  have hkk : -1000 ≤ -xr * iv ∧ -xr * iv ≤ 1000 := by omega
                  have HXR := Lib.hid hxr
                  have HXD := Lib.hid hxd
                  have HIV := Lib.hid hiv
                  rw [← hxr] at HCk
                  rw [← hxd] at HCq
                  clear hor hod hcr hcd hcrk hcdk hxr hxd hiv hnm
                  go_wp2_with (fail)
                  refine wp_region_lex_tail 31 [(27, .val (.int .i64 iv)), (29, .ownS wr.drew.heap.size m (plusL p (nthR C r) (nthR C j) (-xr * iv) m))] (by kernel_rfl) (by kernel_rfl) ?_
                  simp only [List.take, List.drop]
                  (refine LexW.pure (v := ?_) rfl rfl (fun w1 he => ?_) ?_; rotate_left; ( have e1 := he.cell HCr.out; have e2 := he.cell HCd.out; have e3 := he.cell HCk.out; have e5 := he.cell HCq.out; have e4 := HNeg.out; have e6 := HMul.out; have e7 := HWn.out; go_simp; rfl); simp only [Act.put, List.setIfInBounds_toArray, List.set_cons_zero, List.set_cons_succ])
                  (refine LexW.pure (v := ?_) rfl rfl (fun w1 he => ?_) ?_; rotate_left; ( have e1 := he.cell HCr.out; have e2 := he.cell HCd.out; have e3 := he.cell HCk.out; have e5 := he.cell HCq.out; have e4 := HNeg.out; have e6 := HMul.out; have e7 := HWn.out; go_simp; rfl); simp only [Act.put, List.setIfInBounds_toArray, List.set_cons_zero, List.set_cons_succ])
                  (refine LexW.pure (v := ?_) rfl rfl (fun w1 he => ?_) ?_; rotate_left; ( have e1 := he.cell HCr.out; have e2 := he.cell HCd.out; have e3 := he.cell HCk.out; have e5 := he.cell HCq.out; have e4 := HNeg.out; have e6 := HMul.out; have e7 := HWn.out; go_simp; rfl); simp only [Act.put, List.setIfInBounds_toArray, List.set_cons_zero, List.set_cons_succ])
                  (refine LexW.pure (v := ?_) rfl rfl (fun w1 he => ?_) ?_; rotate_left; ( have e1 := he.cell HCr.out; have e2 := he.cell HCd.out; have e3 := he.cell HCk.out; have e5 := he.cell HCq.out; have e4 := HNeg.out; have e6 := HMul.out; have e7 := HWn.out; go_simp; rfl); simp only [Act.put, List.setIfInBounds_toArray, List.set_cons_zero, List.set_cons_succ])
                  (refine LexW.pure (v := ?_) rfl rfl (fun w1 he => ?_) ?_; rotate_left; ( have e1 := he.cell HCr.out; have e2 := he.cell HCd.out; have e3 := he.cell HCk.out; have e5 := he.cell HCq.out; have e4 := HNeg.out; have e6 := HMul.out; have e7 := HWn.out; go_simp; rfl); simp only [Act.put, List.setIfInBounds_toArray, List.set_cons_zero, List.set_cons_succ])
                  (refine LexW.pure (v := ?_) rfl rfl (fun w1 he => ?_) ?_; rotate_left; ( have e1 := he.cell HCr.out; have e2 := he.cell HCd.out; have e3 := he.cell HCk.out; have e5 := he.cell HCq.out; have e4 := HNeg.out; have e6 := HMul.out; have e7 := HWn.out; go_simp; rfl); simp only [Act.put, List.setIfInBounds_toArray, List.set_cons_zero, List.set_cons_succ])
                  (refine LexW.pure (v := ?_) rfl rfl (fun w1 he => ?_) ?_; rotate_left; ( have e1 := he.cell HCr.out; have e2 := he.cell HCd.out; have e3 := he.cell HCk.out; have e5 := he.cell HCq.out; have e4 := HNeg.out; have e6 := HMul.out; have e7 := HWn.out; go_simp; rfl); simp only [Act.put, List.setIfInBounds_toArray, List.set_cons_zero, List.set_cons_succ])
                  (refine LexW.pure (v := ?_) rfl rfl (fun w1 he => ?_) ?_; rotate_left; ( have e1 := he.cell HCr.out; have e2 := he.cell HCd.out; have e3 := he.cell HCk.out; have e5 := he.cell HCq.out; have e4 := HNeg.out; have e6 := HMul.out; have e7 := HWn.out; go_simp; rfl); simp only [Act.put, List.setIfInBounds_toArray, List.set_cons_zero, List.set_cons_succ])
                  (refine LexW.pure (v := ?_) rfl rfl (fun w1 he => ?_) ?_; rotate_left; ( have e1 := he.cell HCr.out; have e2 := he.cell HCd.out; have e3 := he.cell HCk.out; have e5 := he.cell HCq.out; have e4 := HNeg.out; have e6 := HMul.out; have e7 := HWn.out; go_simp; rfl); simp only [Act.put, List.setIfInBounds_toArray, List.set_cons_zero, List.set_cons_succ])
                  (refine LexW.pure (v := ?_) rfl rfl (fun w1 he => ?_) ?_; rotate_left; ( have e1 := he.cell HCr.out; have e2 := he.cell HCd.out; have e3 := he.cell HCk.out; have e5 := he.cell HCq.out; have e4 := HNeg.out; have e6 := HMul.out; have e7 := HWn.out; go_simp; rfl); simp only [Act.put, List.setIfInBounds_toArray, List.set_cons_zero, List.set_cons_succ])
                  (refine LexW.pure (v := ?_) rfl rfl (fun w1 he => ?_) ?_; rotate_left; ( have e1 := he.cell HCr.out; have e2 := he.cell HCd.out; have e3 := he.cell HCk.out; have e5 := he.cell HCq.out; have e4 := HNeg.out; have e6 := HMul.out; have e7 := HWn.out; go_simp; rfl); simp only [Act.put, List.setIfInBounds_toArray, List.set_cons_zero, List.set_cons_succ])
                  (refine LexW.pure (v := ?_) rfl rfl (fun w1 he => ?_) ?_; rotate_left; ( have e1 := he.cell HCr.out; have e2 := he.cell HCd.out; have e3 := he.cell HCk.out; have e5 := he.cell HCq.out; have e4 := HNeg.out; have e6 := HMul.out; have e7 := HWn.out; go_simp; rfl); simp only [Act.put, List.setIfInBounds_toArray, List.set_cons_zero, List.set_cons_succ])
                  (refine LexW.pure (v := ?_) rfl rfl (fun w1 he => ?_) ?_; rotate_left; ( have e1 := he.cell HCr.out; have e2 := he.cell HCd.out; have e3 := he.cell HCk.out; have e5 := he.cell HCq.out; have e4 := HNeg.out; have e6 := HMul.out; have e7 := HWn.out; go_simp; rfl); simp only [Act.put, List.setIfInBounds_toArray, List.set_cons_zero, List.set_cons_succ])
                  (refine LexW.pure (v := ?_) rfl rfl (fun w1 he => ?_) ?_; rotate_left; ( have e1 := he.cell HCr.out; have e2 := he.cell HCd.out; have e3 := he.cell HCk.out; have e5 := he.cell HCq.out; have e4 := HNeg.out; have e6 := HMul.out; have e7 := HWn.out; go_simp; rfl); simp only [Act.put, List.setIfInBounds_toArray, List.set_cons_zero, List.set_cons_succ])
                  (refine LexW.pure (v := ?_) rfl rfl (fun w1 he => ?_) ?_; rotate_left; ( have e1 := he.cell HCr.out; have e2 := he.cell HCd.out; have e3 := he.cell HCk.out; have e5 := he.cell HCq.out; have e4 := HNeg.out; have e6 := HMul.out; have e7 := HWn.out; go_simp; rfl); simp only [Act.put, List.setIfInBounds_toArray, List.set_cons_zero, List.set_cons_succ])
                  (refine LexW.pure (v := ?_) rfl rfl (fun w1 he => ?_) ?_; rotate_left; ( have e1 := he.cell HCr.out; have e2 := he.cell HCd.out; have e3 := he.cell HCk.out; have e5 := he.cell HCq.out; have e4 := HNeg.out; have e6 := HMul.out; have e7 := HWn.out; go_simp; rfl); simp only [Act.put, List.setIfInBounds_toArray, List.set_cons_zero, List.set_cons_succ])
                  (refine LexW.pure (v := ?_) rfl rfl (fun w1 he => ?_) ?_; rotate_left; ( have e1 := he.cell HCr.out; have e2 := he.cell HCd.out; have e3 := he.cell HCk.out; have e5 := he.cell HCq.out; have e4 := HNeg.out; have e6 := HMul.out; have e7 := HWn.out; go_simp; rfl); simp only [Act.put, List.setIfInBounds_toArray, List.set_cons_zero, List.set_cons_succ])
                  (refine LexW.pure (v := ?_) rfl rfl (fun w1 he => ?_) ?_; rotate_left; ( have e1 := he.cell HCr.out; have e2 := he.cell HCd.out; have e3 := he.cell HCk.out; have e5 := he.cell HCq.out; have e4 := HNeg.out; have e6 := HMul.out; have e7 := HWn.out; go_simp; rfl); simp only [Act.put, List.setIfInBounds_toArray, List.set_cons_zero, List.set_cons_succ])
                  (refine LexW.pure (v := ?_) rfl rfl (fun w1 he => ?_) ?_; rotate_left; ( have e1 := he.cell HCr.out; have e2 := he.cell HCd.out; have e3 := he.cell HCk.out; have e5 := he.cell HCq.out; have e4 := HNeg.out; have e6 := HMul.out; have e7 := HWn.out; go_simp; rfl); simp only [Act.put, List.setIfInBounds_toArray, List.set_cons_zero, List.set_cons_succ])
                  (refine LexW.pure (v := ?_) rfl rfl (fun w1 he => ?_) ?_; rotate_left; ( have e1 := he.cell HCr.out; have e2 := he.cell HCd.out; have e3 := he.cell HCk.out; have e5 := he.cell HCq.out; have e4 := HNeg.out; have e6 := HMul.out; have e7 := HWn.out; go_simp; rfl); simp only [Act.put, List.setIfInBounds_toArray, List.set_cons_zero, List.set_cons_succ])
                  (refine LexW.pure (v := ?_) rfl rfl (fun w1 he => ?_) ?_; rotate_left; ( have e1 := he.cell HCr.out; have e2 := he.cell HCd.out; have e3 := he.cell HCk.out; have e5 := he.cell HCq.out; have e4 := HNeg.out; have e6 := HMul.out; have e7 := HWn.out; go_simp; rfl); simp only [Act.put, List.setIfInBounds_toArray, List.set_cons_zero, List.set_cons_succ])
                  (refine LexW.pure (v := ?_) rfl rfl (fun w1 he => ?_) ?_; rotate_left; ( have e1 := he.cell HCr.out; have e2 := he.cell HCd.out; have e3 := he.cell HCk.out; have e5 := he.cell HCq.out; have e4 := HNeg.out; have e6 := HMul.out; have e7 := HWn.out; go_simp; rfl); simp only [Act.put, List.setIfInBounds_toArray, List.set_cons_zero, List.set_cons_succ])
                  (refine LexW.pure (v := ?_) rfl rfl (fun w1 he => ?_) ?_; rotate_left; ( have e1 := he.cell HCr.out; have e2 := he.cell HCd.out; have e3 := he.cell HCk.out; have e5 := he.cell HCq.out; have e4 := HNeg.out; have e6 := HMul.out; have e7 := HWn.out; go_simp; rfl); simp only [Act.put, List.setIfInBounds_toArray, List.set_cons_zero, List.set_cons_succ])
                  (refine LexW.pure (v := ?_) rfl rfl (fun w1 he => ?_) ?_; rotate_left; ( have e1 := he.cell HCr.out; have e2 := he.cell HCd.out; have e3 := he.cell HCk.out; have e5 := he.cell HCq.out; have e4 := HNeg.out; have e6 := HMul.out; have e7 := HWn.out; go_simp; rfl); simp only [Act.put, List.setIfInBounds_toArray, List.set_cons_zero, List.set_cons_succ])
                  (refine LexW.pure (v := ?_) rfl rfl (fun w1 he => ?_) ?_; rotate_left; ( have e1 := he.cell HCr.out; have e2 := he.cell HCd.out; have e3 := he.cell HCk.out; have e5 := he.cell HCq.out; have e4 := HNeg.out; have e6 := HMul.out; have e7 := HWn.out; go_simp; rfl); simp only [Act.put, List.setIfInBounds_toArray, List.set_cons_zero, List.set_cons_succ])
                  (refine LexW.pure (v := ?_) rfl rfl (fun w1 he => ?_) ?_; rotate_left; ( have e1 := he.cell HCr.out; have e2 := he.cell HCd.out; have e3 := he.cell HCk.out; have e5 := he.cell HCq.out; have e4 := HNeg.out; have e6 := HMul.out; have e7 := HWn.out; go_simp; rfl); simp only [Act.put, List.setIfInBounds_toArray, List.set_cons_zero, List.set_cons_succ])
                  (refine LexW.pure (v := ?_) rfl rfl (fun w1 he => ?_) ?_; rotate_left; ( have e1 := he.cell HCr.out; have e2 := he.cell HCd.out; have e3 := he.cell HCk.out; have e5 := he.cell HCq.out; have e4 := HNeg.out; have e6 := HMul.out; have e7 := HWn.out; go_simp; rfl); simp only [Act.put, List.setIfInBounds_toArray, List.set_cons_zero, List.set_cons_succ])
                  (refine LexW.call (f := ?_) (args := ?_) rfl rfl (fun w1 => ?_) (fun w1 he hdep => ?_) ?_; rotate_left 2; (go_simp; refine ⟨?_, ?_⟩ <;> rfl); ( rw [HIV.out]; exact c_inv p xd w1 (by omega) (by omega) hbd.1 hbd.2); simp only [Act.put, List.setIfInBounds_toArray, List.set_cons_zero, List.set_cons_succ])
                  (refine LexW.pure (v := ?_) rfl rfl (fun w1 he => ?_) ?_; rotate_left; ( have e1 := he.cell HCr.out; have e2 := he.cell HCd.out; have e3 := he.cell HCk.out; have e5 := he.cell HCq.out; have e4 := HNeg.out; have e6 := HMul.out; have e7 := HWn.out; go_simp; rfl); simp only [Act.put, List.setIfInBounds_toArray, List.set_cons_zero, List.set_cons_succ])
                  (refine LexW.callR (f := ?_) (args := ?_) rfl rfl (fun w1 => ?_) (fun w1 he hdep => ?_) (fun v hv => ?_); rotate_left 2; (go_simp; refine ⟨?_, ?_⟩ <;> rfl); ( refine (c_plus p _ _ m _ _ (nthR C r) (nthR C j) (-xr * iv) w1 (by omega) (by omega) hkk (by omega) (HRr.out.ext he) (HRd.out.ext he) HGr.out HGd.out).mono ?_; rintro e w2 ⟨g2, rc2, rfl, ho, x2⟩; exact ⟨_, rfl, x2, g2, rc2, rfl, ho.mono he.size⟩); simp only [Act.put, List.setIfInBounds_toArray, List.set_cons_zero, List.set_cons_succ])
                  obtain ⟨_, g107, c107, rfl, _⟩ := hv
                  (refine LexW.pure (v := ?_) rfl rfl (fun w1 he => ?_) ?_; rotate_left; ( have e1 := he.cell HCr.out; have e2 := he.cell HCd.out; have e3 := he.cell HCk.out; have e5 := he.cell HCq.out; have e4 := HNeg.out; have e6 := HMul.out; have e7 := HWn.out; go_simp; rfl); simp only [Act.put, List.setIfInBounds_toArray, List.set_cons_zero, List.set_cons_succ])
                  refine LexW.nil (fun w3 he hkn2 => ?_)
                  obtain ⟨_, _, q107, r107⟩ : (SPred.ownS wr.drew.heap.size m (plusL p (nthR C r) (nthR C j) (-xr * iv) m)).holds (.slice (some ⟨g107, 0, none⟩) m c107) w3 := hkn2 (29, _) (by simp)
                  cases q107
                  have R107 := Lib.hid r107
                  have HE := Lib.hid he
                  clear he hkn2 r107
                  have ow4 := (HCo.out.ext (ext_drew wr)).ext HE.out
                  obtain ⟨ay, cy, hcy, _⟩ := ow4.at hrn
                  have hfy := ow4.frozen r
                  have HB := Lib.hid (HCo.out.base_of g rfl)
                  clear ow4
                  go_wp2_with (fail)
                  go_roundw
                  case rel => exact ⟨r + 1, C.set r (plusL p (nthR C r) (nthR C j) (-xr * iv) m), by omega, by omega, by go_num, Lib.hid (by
                    rw [elimS, if_pos (by omega), ← HC.out]
                    unfold elimN
                    rw [if_pos (by omega), ← HCR.out, ← HCK.out, ← HXR.out, ← HXD.out, ← HIV.out]), Lib.hid ((HCo.out.ext (ext_drew wr)).put HE.out (HCe.out.trans (ext_drew wr)).size R107.out hrn), Lib.hid ((HCe.out.trans ((ext_drew wr).trans HE.out)).setCell HB.out.1 _)⟩
                  case measure => simp [intOf]; omega
                · obtain rfl : r = n := by omega
                  go_wp2_with (fail)
                  go_roundw
                  case rel => exact ⟨j + 1, C, o2, by omega, by go_num, rfl, Lib.hid (by
                    rw [detS, HS.out, HO2.out]
                    simp only
                    rw [HPiv.out, if_neg (by rw [HRL.out]; omega), ← HSr.out, HC.out, HPV.out, HSK.out]
                    unfold elimL
                    rw [HSL.out]
                    rw [if_pos rfl]), HCo, HCe⟩
                  case measure => simp [intOf]; omega
            · have hjk : ((j : Int) != (k : Int)) = true := by simp; omega
              clear hcj hcjk
              obtain ⟨ad, cd, aj2, cj2, hcd, hcj2, hod, hoj2, hsw⟩ := HOwn.out.swap hkn hjn
              rw [ownR_put_len HRG.out HRL.out hkn, ownR_put_len HRG.out HRL.out hjn] at hsw
              rw [ownR_put_len HRG.out HRL.out hkn] at hcd hod
              rw [ownR_put_len HRG.out HRL.out hjn] at hcj2 hoj2
              have hcj2k := hoj2.rd
              obtain ⟨bj2, oj2, rfl, hcjk2⟩ := hoj2.rd.2 k hkm
              have hfd := HOwn.out.frozen k
              have hfj := HOwn.out.frozen j
              have HSw := Lib.hid hsw
              clear hod hoj2 hsw hcj2k
              have HNM := Lib.hid (HOwn.out.base_of g rfl)
              have hne : ¬ j = k := hkj2
              go_wp2_with (fail)
              clear hcjk2
              go_region
              obtain ⟨W1, hW1⟩ : ∃ W1, W1 = ((wr.setCell ⟨g, k, none⟩ (.slice (some ⟨bj2, oj2, none⟩) m cj2)).setCell ⟨g, j, none⟩ (.slice ad m cd)).drew := ⟨_, rfl⟩
              have HOw0 : Hid (OwnR w.heap.size W1 (some ⟨g, 0, none⟩) n rc (swapL R k j)) := by rw [hW1]; exact Lib.hid (HSw.out.ext (ext_drew _))
              have HE0 : Hid (Ext w W1) := by rw [hW1]; exact Lib.hid (((HExt.out.setCell HNM.out.1 _).setCell HNM.out.1 _).trans (ext_drew _))
              rw [← hW1]
              clear hW1 hcd hcj2 hfd hfj HSw
              go_wp2_with (fail)
              refine Calls.mono (c_num p (-o) W1 (by omega) (by omega)) ?_
              rintro e W2 ⟨rfl, g2⟩
              have HOw := Lib.hid (HOw0.out.ext g2)
              have HE2 := Lib.hid (HE0.out.trans g2)
              clear g2 HOw0 HE0
              obtain ⟨oz, hoz⟩ : ∃ x, x = (-o) % p := ⟨_, rfl⟩
              have hozb : 0 ≤ oz ∧ oz < p := by rw [hoz]; exact ⟨Int.emod_nonneg _ (by omega), Int.emod_lt_of_pos _ (by omega)⟩
              rw [← hoz]
              have HOZ := Lib.hid hoz
              clear hoz
              have HSG := Lib.hid (swapL_good HRG.out (show k < R.length by rw [HRL.out]; exact hkn) (show j < R.length by rw [HRL.out]; exact hjn))
              have HSL := Lib.hid (show (swapL R k j).length = n by rw [swapL_len, HRL.out])
              have HSK := Lib.hid (swapL_at (show k < R.length by rw [HRL.out]; exact hkn) (show j < R.length by rw [HRL.out]; exact hjn))
              obtain ⟨Sr, hSr⟩ : ∃ S, S = swapL R k j := ⟨_, rfl⟩
              have HSr := Lib.hid hSr
              rw [← hSr] at HOw HSG HSL HSK
              clear hSr
              obtain ⟨pv, hpv⟩ : ∃ x, x = nth (nthR Sr k) k := ⟨_, rfl⟩
              have hpb2 : 0 ≤ pv ∧ pv < p := by rw [hpv]; exact (HSG.out k (by rw [HSL.out]; exact hkn)).2 k hkm
              have HPV := Lib.hid hpv
              obtain ⟨ax, cx, hcx, hox⟩ := HOw.out.at hkn
              rw [ownR_put_len HSG.out HSL.out hkn] at hcx hox
              obtain ⟨bx, ox, rfl, hck⟩ := hox.rd.2 k hkm
              rw [← hpv] at hck
              have hob : 0 ≤ oz ∧ oz < p := by exact hozb
              have hmm := mul_bd (x := oz) (y := pv) (p := p) (by omega) hob.1 hob.2 hpb2.1 hpb2.2
              have hwm : wrap64 (oz * pv) = oz * pv := by unfold wrap64; omega
              have hwk : wrap64 ((k : Int) + 1) = (k : Int) + 1 := by unfold wrap64; omega
              clear hpv hox
              go_wp2_with (fail)
              refine Calls.mono (c_num p (oz * pv) W2 (by omega) (by omega)) ?_
              rintro e W3 ⟨rfl, g3⟩
              obtain ⟨o2, ho2⟩ : ∃ x, x = (oz * pv) % p := ⟨_, rfl⟩
              rw [← ho2]
              have HO2 := Lib.hid ho2
              clear ho2 hwm hmm hob
              have HOw3 := Lib.hid (HOw.out.ext g3)
              have HE3 := Lib.hid (HE2.out.trans g3)
              clear g3 hcx hck HOw HE2
              go_wp2_with (fail)
              go_loopw [9] (fun i wr => ∃ (r : Nat) (C : List (List Int)), k + 1 ≤ r ∧ r ≤ n ∧ i = .int .i64 r ∧ Hid (C = elimS p m k Sr r) ∧ Hid (OwnR w.heap.size wr (some ⟨g, 0, none⟩) n rc C) ∧ Hid (Ext w wr)) (fun i _ => n - (intOf i).toNat)
              case atStart => exact ⟨k + 1, Sr, Nat.le_refl _, hkn, by go_num, Lib.hid (elimS_start _ (Nat.le_refl _)).symm, HOw3, HE3⟩
              case round =>
                obtain ⟨r, C, hkr, hr, rfl, HC, HCo, HCe⟩ := hrel
                clear HOw3 HE3
                by_cases hrn : r < n
                · have HCg : Hid (RowsG p m C) := Lib.hid (by rw [HC.out]; exact elimS_good (by omega) HSG.out r (by rw [HSL.out]; omega))
                  have HCl : Hid (C.length = n) := Lib.hid HCo.out.1
                  have HCK : Hid (nthR C k = nthR Sr k) := Lib.hid (by rw [HC.out, elimS_nth _ (by rw [HSL.out]; omega), if_pos (by omega)]; unfold elimN; rw [if_neg (by omega)])
                  have HCR : Hid (nthR C r = nthR Sr r) := Lib.hid (by rw [HC.out, elimS_nth _ (by rw [HSL.out]; omega), if_neg (by omega)])
                  obtain ⟨ar, cr, hcr, hor⟩ := HCo.out.at hrn
                  rw [ownR_put_len HCg.out HCl.out hrn] at hcr hor
                  obtain ⟨ad, cd, hcd, hod⟩ := HCo.out.at hkn
                  rw [ownR_put_len HCg.out HCl.out hkn] at hcd hod
                  obtain ⟨br, or, rfl, hcrk⟩ := hor.rd.2 k hkm
                  obtain ⟨bd, od, rfl, hcdk⟩ := hod.rd.2 k hkm
                  have HRr := Lib.hid (hor.rd.ext (ext_drew wr))
                  have HRd := Lib.hid (hod.rd.ext (ext_drew wr))
                  have HCr := Lib.hid ((ext_drew wr).cell hcr)
                  have HCd := Lib.hid ((ext_drew wr).cell hcd)
                  have HCk := Lib.hid ((ext_drew wr).cell hcrk)
                  have HCq := Lib.hid ((ext_drew wr).cell hcdk)
                  have HGr := Lib.hid (HCg.out r (by rw [HCl.out]; exact hrn))
                  have HGd := Lib.hid (HCg.out k (by rw [HCl.out]; exact hkn))
                  obtain ⟨xr, hxr⟩ : ∃ x, x = nth (nthR C r) k := ⟨_, rfl⟩
                  obtain ⟨xd, hxd⟩ : ∃ x, x = nth (nthR C k) k := ⟨_, rfl⟩
                  have hbr : 0 ≤ xr ∧ xr < p := by rw [hxr]; exact HGr.out.2 k hkm
                  have hbd : 0 ≤ xd ∧ xd < p := by rw [hxd]; exact HGd.out.2 k hkm
                  obtain ⟨iv, hiv⟩ : ∃ x, x = invN p xd := ⟨_, rfl⟩
                  have hbi : 0 ≤ iv ∧ iv < p := by rw [hiv]; exact invN_bd (by omega)
                  have hmi := mul_bd (x := xr) (y := iv) (p := p) (by omega) hbr.1 hbr.2 hbi.1 hbi.2
                  have hmi2 := mul_small hp13 hbr.1 hbr.2 hbi.1 hbi.2
                  have hnm : -xr * iv = -(xr * iv) := Int.neg_mul _ _
                  have HNeg : Hid (IntKind.i64.wrap (-xr) = -xr) := Lib.hid (IntWalk.i64_in _ (by omega))
                  have HMul : Hid (IntKind.i64.wrap (-xr * iv) = -xr * iv) := Lib.hid (IntWalk.i64_in _ (by omega))
                  have HWn : Hid (wrap64 (-xr * iv) = -xr * iv) := Lib.hid (by unfold wrap64; omega)
                  have hkk : -1000 ≤ -xr * iv ∧ -xr * iv ≤ 1000 := by omega
                  have HXR := Lib.hid hxr
                  have HXD := Lib.hid hxd
                  have HIV := Lib.hid hiv
                  rw [← hxr] at HCk
                  rw [← hxd] at HCq
                  clear hor hod hcr hcd hcrk hcdk hxr hxd hiv hnm
                  go_wp2_with (fail)
                  refine wp_region_lex_tail 31 [(27, .val (.int .i64 iv)), (29, .ownS wr.drew.heap.size m (plusL p (nthR C r) (nthR C k) (-xr * iv) m))] (by kernel_rfl) (by kernel_rfl) ?_
                  simp only [List.take, List.drop]
                  (refine LexW.pure (v := ?_) rfl rfl (fun w1 he => ?_) ?_; rotate_left; ( have e1 := he.cell HCr.out; have e2 := he.cell HCd.out; have e3 := he.cell HCk.out; have e5 := he.cell HCq.out; have e4 := HNeg.out; have e6 := HMul.out; have e7 := HWn.out; go_simp; rfl); simp only [Act.put, List.setIfInBounds_toArray, List.set_cons_zero, List.set_cons_succ])
                  (refine LexW.pure (v := ?_) rfl rfl (fun w1 he => ?_) ?_; rotate_left; ( have e1 := he.cell HCr.out; have e2 := he.cell HCd.out; have e3 := he.cell HCk.out; have e5 := he.cell HCq.out; have e4 := HNeg.out; have e6 := HMul.out; have e7 := HWn.out; go_simp; rfl); simp only [Act.put, List.setIfInBounds_toArray, List.set_cons_zero, List.set_cons_succ])
                  (refine LexW.pure (v := ?_) rfl rfl (fun w1 he => ?_) ?_; rotate_left; ( have e1 := he.cell HCr.out; have e2 := he.cell HCd.out; have e3 := he.cell HCk.out; have e5 := he.cell HCq.out; have e4 := HNeg.out; have e6 := HMul.out; have e7 := HWn.out; go_simp; rfl); simp only [Act.put, List.setIfInBounds_toArray, List.set_cons_zero, List.set_cons_succ])
                  (refine LexW.pure (v := ?_) rfl rfl (fun w1 he => ?_) ?_; rotate_left; ( have e1 := he.cell HCr.out; have e2 := he.cell HCd.out; have e3 := he.cell HCk.out; have e5 := he.cell HCq.out; have e4 := HNeg.out; have e6 := HMul.out; have e7 := HWn.out; go_simp; rfl); simp only [Act.put, List.setIfInBounds_toArray, List.set_cons_zero, List.set_cons_succ])
                  (refine LexW.pure (v := ?_) rfl rfl (fun w1 he => ?_) ?_; rotate_left; ( have e1 := he.cell HCr.out; have e2 := he.cell HCd.out; have e3 := he.cell HCk.out; have e5 := he.cell HCq.out; have e4 := HNeg.out; have e6 := HMul.out; have e7 := HWn.out; go_simp; rfl); simp only [Act.put, List.setIfInBounds_toArray, List.set_cons_zero, List.set_cons_succ])
                  (refine LexW.pure (v := ?_) rfl rfl (fun w1 he => ?_) ?_; rotate_left; ( have e1 := he.cell HCr.out; have e2 := he.cell HCd.out; have e3 := he.cell HCk.out; have e5 := he.cell HCq.out; have e4 := HNeg.out; have e6 := HMul.out; have e7 := HWn.out; go_simp; rfl); simp only [Act.put, List.setIfInBounds_toArray, List.set_cons_zero, List.set_cons_succ])
                  (refine LexW.pure (v := ?_) rfl rfl (fun w1 he => ?_) ?_; rotate_left; ( have e1 := he.cell HCr.out; have e2 := he.cell HCd.out; have e3 := he.cell HCk.out; have e5 := he.cell HCq.out; have e4 := HNeg.out; have e6 := HMul.out; have e7 := HWn.out; go_simp; rfl); simp only [Act.put, List.setIfInBounds_toArray, List.set_cons_zero, List.set_cons_succ])
                  (refine LexW.pure (v := ?_) rfl rfl (fun w1 he => ?_) ?_; rotate_left; ( have e1 := he.cell HCr.out; have e2 := he.cell HCd.out; have e3 := he.cell HCk.out; have e5 := he.cell HCq.out; have e4 := HNeg.out; have e6 := HMul.out; have e7 := HWn.out; go_simp; rfl); simp only [Act.put, List.setIfInBounds_toArray, List.set_cons_zero, List.set_cons_succ])
                  (refine LexW.pure (v := ?_) rfl rfl (fun w1 he => ?_) ?_; rotate_left; ( have e1 := he.cell HCr.out; have e2 := he.cell HCd.out; have e3 := he.cell HCk.out; have e5 := he.cell HCq.out; have e4 := HNeg.out; have e6 := HMul.out; have e7 := HWn.out; go_simp; rfl); simp only [Act.put, List.setIfInBounds_toArray, List.set_cons_zero, List.set_cons_succ])
                  (refine LexW.pure (v := ?_) rfl rfl (fun w1 he => ?_) ?_; rotate_left; ( have e1 := he.cell HCr.out; have e2 := he.cell HCd.out; have e3 := he.cell HCk.out; have e5 := he.cell HCq.out; have e4 := HNeg.out; have e6 := HMul.out; have e7 := HWn.out; go_simp; rfl); simp only [Act.put, List.setIfInBounds_toArray, List.set_cons_zero, List.set_cons_succ])
                  (refine LexW.pure (v := ?_) rfl rfl (fun w1 he => ?_) ?_; rotate_left; ( have e1 := he.cell HCr.out; have e2 := he.cell HCd.out; have e3 := he.cell HCk.out; have e5 := he.cell HCq.out; have e4 := HNeg.out; have e6 := HMul.out; have e7 := HWn.out; go_simp; rfl); simp only [Act.put, List.setIfInBounds_toArray, List.set_cons_zero, List.set_cons_succ])
                  (refine LexW.pure (v := ?_) rfl rfl (fun w1 he => ?_) ?_; rotate_left; ( have e1 := he.cell HCr.out; have e2 := he.cell HCd.out; have e3 := he.cell HCk.out; have e5 := he.cell HCq.out; have e4 := HNeg.out; have e6 := HMul.out; have e7 := HWn.out; go_simp; rfl); simp only [Act.put, List.setIfInBounds_toArray, List.set_cons_zero, List.set_cons_succ])
                  (refine LexW.pure (v := ?_) rfl rfl (fun w1 he => ?_) ?_; rotate_left; ( have e1 := he.cell HCr.out; have e2 := he.cell HCd.out; have e3 := he.cell HCk.out; have e5 := he.cell HCq.out; have e4 := HNeg.out; have e6 := HMul.out; have e7 := HWn.out; go_simp; rfl); simp only [Act.put, List.setIfInBounds_toArray, List.set_cons_zero, List.set_cons_succ])
                  (refine LexW.pure (v := ?_) rfl rfl (fun w1 he => ?_) ?_; rotate_left; ( have e1 := he.cell HCr.out; have e2 := he.cell HCd.out; have e3 := he.cell HCk.out; have e5 := he.cell HCq.out; have e4 := HNeg.out; have e6 := HMul.out; have e7 := HWn.out; go_simp; rfl); simp only [Act.put, List.setIfInBounds_toArray, List.set_cons_zero, List.set_cons_succ])
                  (refine LexW.pure (v := ?_) rfl rfl (fun w1 he => ?_) ?_; rotate_left; ( have e1 := he.cell HCr.out; have e2 := he.cell HCd.out; have e3 := he.cell HCk.out; have e5 := he.cell HCq.out; have e4 := HNeg.out; have e6 := HMul.out; have e7 := HWn.out; go_simp; rfl); simp only [Act.put, List.setIfInBounds_toArray, List.set_cons_zero, List.set_cons_succ])
                  (refine LexW.pure (v := ?_) rfl rfl (fun w1 he => ?_) ?_; rotate_left; ( have e1 := he.cell HCr.out; have e2 := he.cell HCd.out; have e3 := he.cell HCk.out; have e5 := he.cell HCq.out; have e4 := HNeg.out; have e6 := HMul.out; have e7 := HWn.out; go_simp; rfl); simp only [Act.put, List.setIfInBounds_toArray, List.set_cons_zero, List.set_cons_succ])
                  (refine LexW.pure (v := ?_) rfl rfl (fun w1 he => ?_) ?_; rotate_left; ( have e1 := he.cell HCr.out; have e2 := he.cell HCd.out; have e3 := he.cell HCk.out; have e5 := he.cell HCq.out; have e4 := HNeg.out; have e6 := HMul.out; have e7 := HWn.out; go_simp; rfl); simp only [Act.put, List.setIfInBounds_toArray, List.set_cons_zero, List.set_cons_succ])
                  (refine LexW.pure (v := ?_) rfl rfl (fun w1 he => ?_) ?_; rotate_left; ( have e1 := he.cell HCr.out; have e2 := he.cell HCd.out; have e3 := he.cell HCk.out; have e5 := he.cell HCq.out; have e4 := HNeg.out; have e6 := HMul.out; have e7 := HWn.out; go_simp; rfl); simp only [Act.put, List.setIfInBounds_toArray, List.set_cons_zero, List.set_cons_succ])
                  (refine LexW.pure (v := ?_) rfl rfl (fun w1 he => ?_) ?_; rotate_left; ( have e1 := he.cell HCr.out; have e2 := he.cell HCd.out; have e3 := he.cell HCk.out; have e5 := he.cell HCq.out; have e4 := HNeg.out; have e6 := HMul.out; have e7 := HWn.out; go_simp; rfl); simp only [Act.put, List.setIfInBounds_toArray, List.set_cons_zero, List.set_cons_succ])
                  (refine LexW.pure (v := ?_) rfl rfl (fun w1 he => ?_) ?_; rotate_left; ( have e1 := he.cell HCr.out; have e2 := he.cell HCd.out; have e3 := he.cell HCk.out; have e5 := he.cell HCq.out; have e4 := HNeg.out; have e6 := HMul.out; have e7 := HWn.out; go_simp; rfl); simp only [Act.put, List.setIfInBounds_toArray, List.set_cons_zero, List.set_cons_succ])
                  (refine LexW.pure (v := ?_) rfl rfl (fun w1 he => ?_) ?_; rotate_left; ( have e1 := he.cell HCr.out; have e2 := he.cell HCd.out; have e3 := he.cell HCk.out; have e5 := he.cell HCq.out; have e4 := HNeg.out; have e6 := HMul.out; have e7 := HWn.out; go_simp; rfl); simp only [Act.put, List.setIfInBounds_toArray, List.set_cons_zero, List.set_cons_succ])
                  (refine LexW.pure (v := ?_) rfl rfl (fun w1 he => ?_) ?_; rotate_left; ( have e1 := he.cell HCr.out; have e2 := he.cell HCd.out; have e3 := he.cell HCk.out; have e5 := he.cell HCq.out; have e4 := HNeg.out; have e6 := HMul.out; have e7 := HWn.out; go_simp; rfl); simp only [Act.put, List.setIfInBounds_toArray, List.set_cons_zero, List.set_cons_succ])
                  (refine LexW.pure (v := ?_) rfl rfl (fun w1 he => ?_) ?_; rotate_left; ( have e1 := he.cell HCr.out; have e2 := he.cell HCd.out; have e3 := he.cell HCk.out; have e5 := he.cell HCq.out; have e4 := HNeg.out; have e6 := HMul.out; have e7 := HWn.out; go_simp; rfl); simp only [Act.put, List.setIfInBounds_toArray, List.set_cons_zero, List.set_cons_succ])
                  (refine LexW.pure (v := ?_) rfl rfl (fun w1 he => ?_) ?_; rotate_left; ( have e1 := he.cell HCr.out; have e2 := he.cell HCd.out; have e3 := he.cell HCk.out; have e5 := he.cell HCq.out; have e4 := HNeg.out; have e6 := HMul.out; have e7 := HWn.out; go_simp; rfl); simp only [Act.put, List.setIfInBounds_toArray, List.set_cons_zero, List.set_cons_succ])
                  (refine LexW.pure (v := ?_) rfl rfl (fun w1 he => ?_) ?_; rotate_left; ( have e1 := he.cell HCr.out; have e2 := he.cell HCd.out; have e3 := he.cell HCk.out; have e5 := he.cell HCq.out; have e4 := HNeg.out; have e6 := HMul.out; have e7 := HWn.out; go_simp; rfl); simp only [Act.put, List.setIfInBounds_toArray, List.set_cons_zero, List.set_cons_succ])
                  (refine LexW.pure (v := ?_) rfl rfl (fun w1 he => ?_) ?_; rotate_left; ( have e1 := he.cell HCr.out; have e2 := he.cell HCd.out; have e3 := he.cell HCk.out; have e5 := he.cell HCq.out; have e4 := HNeg.out; have e6 := HMul.out; have e7 := HWn.out; go_simp; rfl); simp only [Act.put, List.setIfInBounds_toArray, List.set_cons_zero, List.set_cons_succ])
                  (refine LexW.pure (v := ?_) rfl rfl (fun w1 he => ?_) ?_; rotate_left; ( have e1 := he.cell HCr.out; have e2 := he.cell HCd.out; have e3 := he.cell HCk.out; have e5 := he.cell HCq.out; have e4 := HNeg.out; have e6 := HMul.out; have e7 := HWn.out; go_simp; rfl); simp only [Act.put, List.setIfInBounds_toArray, List.set_cons_zero, List.set_cons_succ])
                  (refine LexW.call (f := ?_) (args := ?_) rfl rfl (fun w1 => ?_) (fun w1 he hdep => ?_) ?_; rotate_left 2; (go_simp; refine ⟨?_, ?_⟩ <;> rfl); ( rw [HIV.out]; exact c_inv p xd w1 (by omega) (by omega) hbd.1 hbd.2); simp only [Act.put, List.setIfInBounds_toArray, List.set_cons_zero, List.set_cons_succ])
                  (refine LexW.pure (v := ?_) rfl rfl (fun w1 he => ?_) ?_; rotate_left; ( have e1 := he.cell HCr.out; have e2 := he.cell HCd.out; have e3 := he.cell HCk.out; have e5 := he.cell HCq.out; have e4 := HNeg.out; have e6 := HMul.out; have e7 := HWn.out; go_simp; rfl); simp only [Act.put, List.setIfInBounds_toArray, List.set_cons_zero, List.set_cons_succ])
                  (refine LexW.callR (f := ?_) (args := ?_) rfl rfl (fun w1 => ?_) (fun w1 he hdep => ?_) (fun v hv => ?_); rotate_left 2; (go_simp; refine ⟨?_, ?_⟩ <;> rfl); ( refine (c_plus p _ _ m _ _ (nthR C r) (nthR C k) (-xr * iv) w1 (by omega) (by omega) hkk (by omega) (HRr.out.ext he) (HRd.out.ext he) HGr.out HGd.out).mono ?_; rintro e w2 ⟨g2, rc2, rfl, ho, x2⟩; exact ⟨_, rfl, x2, g2, rc2, rfl, ho.mono he.size⟩); simp only [Act.put, List.setIfInBounds_toArray, List.set_cons_zero, List.set_cons_succ])
                  obtain ⟨_, g107, c107, rfl, _⟩ := hv
                  (refine LexW.pure (v := ?_) rfl rfl (fun w1 he => ?_) ?_; rotate_left; ( have e1 := he.cell HCr.out; have e2 := he.cell HCd.out; have e3 := he.cell HCk.out; have e5 := he.cell HCq.out; have e4 := HNeg.out; have e6 := HMul.out; have e7 := HWn.out; go_simp; rfl); simp only [Act.put, List.setIfInBounds_toArray, List.set_cons_zero, List.set_cons_succ])
                  refine LexW.nil (fun w3 he hkn2 => ?_)
                  obtain ⟨_, _, q107, r107⟩ : (SPred.ownS wr.drew.heap.size m (plusL p (nthR C r) (nthR C k) (-xr * iv) m)).holds (.slice (some ⟨g107, 0, none⟩) m c107) w3 := hkn2 (29, _) (by simp)
                  cases q107
                  have R107 := Lib.hid r107
                  have HE := Lib.hid he
                  clear he hkn2 r107
                  have ow4 := (HCo.out.ext (ext_drew wr)).ext HE.out
                  obtain ⟨ay, cy, hcy, _⟩ := ow4.at hrn
                  have hfy := ow4.frozen r
                  have HB := Lib.hid (HCo.out.base_of g rfl)
                  clear ow4
                  go_wp2_with (fail)
                  go_roundw
                  case rel => exact ⟨r + 1, C.set r (plusL p (nthR C r) (nthR C k) (-xr * iv) m), by omega, by omega, by go_num, Lib.hid (by
                    rw [elimS, if_pos (by omega), ← HC.out]
                    unfold elimN
                    rw [if_pos (by omega), ← HCR.out, ← HCK.out, ← HXR.out, ← HXD.out, ← HIV.out]), Lib.hid ((HCo.out.ext (ext_drew wr)).put HE.out (HCe.out.trans (ext_drew wr)).size R107.out hrn), Lib.hid ((HCe.out.trans ((ext_drew wr).trans HE.out)).setCell HB.out.1 _)⟩
                  case measure => simp [intOf]; omega
                · obtain rfl : r = n := by omega
                  go_wp2_with (fail)
                  go_roundw
                  case rel => exact ⟨k + 1, C, o2, by omega, by go_num, rfl, Lib.hid (by
                    rw [detS, HS.out, HO2.out]
                    simp only
                    rw [HPiv.out, if_neg (by rw [HRL.out]; omega), ← HSr.out, HC.out, HPV.out, HSK.out]
                    unfold elimL
                    rw [HSL.out]
                    rw [if_neg hne, ← HOZ.out]), HCo, HCe⟩
                  case measure => simp [intOf]; omega
        · obtain rfl : j = n := by omega
          have hjj : ((j : Int) == (j : Int)) = true := by simp
          have HPiv := Lib.hid (pivG_eq (rows := R) (k := k) (d := k) hkj (by rw [HRL.out]; exact Nat.le_refl _) HZ.out (.inl HRL.out.symm))
          have HDT := Lib.hid (show detL p m rows = 0 by
            have hnone : detS p m rows (k + 1) = none := by
              rw [detS, HS.out]
              simp only
              rw [HPiv.out, if_pos HRL.out.symm]
            have := detS_none hnone (j - (k + 1))
            rw [Nat.add_sub_cancel' (by omega)] at this
            unfold detL
            rw [HLN.out, this])
          go_wp2_with (fail)
          go_ret
          exact ⟨ret_int HDT.out.symm, HExt.out⟩
    · obtain rfl : k = n := by omega
      have HDT := Lib.hid (show detL p m rows = o by unfold detL; rw [HLN.out, HS.out])
      go_wp2_with (fail)
      go_ret
      exact ⟨ret_int HDT.out.symm, HExt.out⟩

end Go.Proofs.Ytnabpmafcflljaa

/-
  Contract: the determinant in the reference.
  No condition.
-/
namespace Go.Proofs.Ytnabpmafcflljaa
set_option maxRecDepth 100000
open Go.RowKit

theorem swapL_comm {rows : List (List Int)} {i j : Nat} (hi : i < rows.length) (hj : j < rows.length) : swapL rows i j = swapL rows j i := by
  refine ext_rows (by rw [swapL_len, swapL_len]) fun k _ => ?_
  rw [swapL_nth hi hj, swapL_nth hj hi]
  by_cases h1 : k = j
  · by_cases h2 : k = i
    · subst h1; subst h2; rfl
    · rw [if_pos h1, if_neg h2, if_pos h1]
  · by_cases h2 : k = i
    · rw [if_neg h1, if_pos h2, if_pos h2]
    · rw [if_neg h1, if_neg h2, if_neg h2, if_neg h1]

set_option maxHeartbeats 16000000 in
set_option maxRecDepth 100000 in
theorem s_det (p : Int) (a : Option Addr) (n cap m : Nat) (rows : List (List Int)) (w : World) (hpr : primeB p = true) (hn0 : 0 < n) (hnm : n ≤ m) (hm2 : m ≤ 4096) (hx : RdR w a n rows) (hg : RowsG p m rows) :
    Calls Try.prog 92 #[.int .i64 p, .slice a n cap] w fun e w' => e = .returned (.int .i64 (detL p m rows)) ∧ Ext w w' := by
  have hpb := prime_bd hpr
  have hp13 : p ≤ 13 := hpb.2
  have hpz : ¬ p = 0 := by omega
  have HX := Lib.hid hx
  have HG := Lib.hid hg
  have HPR := Lib.hid hpr
  have HLN := Lib.hid hx.1
  have HDB := Lib.hid (fun k hk r o h => (det_gauss (m := m) hpr hg (by rw [hx.1]; exact hnm) k hk).1 r o h)
  have HDG := Lib.hid (fun k hk r o h => detS_good (p := p) (m := m) (by omega) hg k hk r o h)
  clear hx hg hpr
  go_enter Try.func92, Try.ntmps92
  go_wp2_with (fail)
  refine (s_own2 a n cap m rows w (by omega) (by omega) (by omega) (fun i hi => ownR_put_len HG.out HLN.out hi) HX.out).mono ?_
  rintro e w1 ⟨g, rc, rfl, ho, h1⟩
  have HO := Lib.hid ho
  have H1 := Lib.hid h1
  clear ho h1
  go_wp2_with (fail)
  go_loopw [6, 7] (fun oo kk wr => ∃ (k : Nat) (R : List (List Int)) (o : Int), k ≤ n ∧ kk = .int .i64 k ∧ oo = .int .i64 o ∧ Hid (detS p m rows k = some (R, o)) ∧ Hid (OwnR w.heap.size wr (some ⟨g, 0, none⟩) n rc R) ∧ Hid (Ext w wr)) (fun _ k _ => n - (intOf k).toNat)
  case atStart => exact ⟨0, rows, 1, Nat.zero_le _, rfl, rfl, Lib.hid rfl, HO, H1⟩
  case round =>
    obtain ⟨k, R, o, hk, rfl, rfl, HS, HOwn, HExt⟩ := hrel
    clear HO H1
    have HRL := Lib.hid HOwn.out.1
    have hobd := (HDB.out k (by rw [HLN.out]; exact hk) R o HS.out).2.2
    by_cases hkn : k < n
    · have HRG : Hid (RowsG p m R) := Lib.hid (HDG.out k (by rw [HLN.out]; exact hk) R o HS.out).1
      have hkm : k < m := by omega
      go_wp2_with (fail)
      go_loop [8] (fun i => ∃ j : Nat, k ≤ j ∧ j ≤ n ∧ i = .int .i64 j ∧ Hid (∀ t, k ≤ t → t < j → nth (nthR R t) k = 0)) (fun i => n - (intOf i).toNat)
      case atStart => exact ⟨k, Nat.le_refl _, by omega, rfl, Lib.hid (fun t h1 h2 => by omega)⟩
      case round =>
        obtain ⟨j, hkj, hj, rfl, HZ⟩ := hrel
        by_cases hjn : j < n
        · obtain ⟨aj, cj, hcj, hoj⟩ := HOwn.out.at hjn
          rw [ownR_put_len HRG.out HRL.out hjn] at hcj hoj
          obtain ⟨bj, oj, rfl, hcjk⟩ := hoj.rd.2 k hkm
          by_cases hz : nth (nthR R j) k = 0
          · have hzb : (nth (nthR R j) k == 0) = true := by simp [hz]
            have HZ' := Lib.hid hz
            clear hz hoj
            go_wp2_with (fail)
            go_round
            case rel => exact ⟨j + 1, by omega, by omega, by go_num, Lib.hid (fun t h1 h2 => by
              by_cases htj : t = j
              · subst htj; exact HZ'.out
              · exact HZ.out t h1 (by omega))⟩
            case measure => simp [intOf]; omega
          · have hzb : (nth (nthR R j) k == 0) = false := by simp [hz]
            have hjb : ((j : Int) == (n : Int)) = false := by simp; omega
            have HPiv := Lib.hid (pivG_eq (rows := R) (k := k) (d := k) hkj (by rw [HRL.out]; exact hj) HZ.out (.inr hz))
            have HNZ := Lib.hid hz
            clear hz hoj
            by_cases hkj2 : j = k
            · subst hkj2
              have hjk : ¬ (j : Int) < (j : Int) := by omega
              have HOw := Lib.hid (show OwnR w.heap.size wr (some ⟨g, 0, none⟩) n rc (swapL R j j) by rw [swapL_same]; exact HOwn.out)
              have HE2 := HExt
              obtain ⟨W2, hW2⟩ : ∃ W2, W2 = wr := ⟨_, rfl⟩
              rw [← hW2] at HOw HE2 hcj hcjk ⊢
              clear hW2
              have HSG := Lib.hid (swapL_good HRG.out (show j < R.length by rw [HRL.out]; exact hkn) (show j < R.length by rw [HRL.out]; exact hjn))
              have HSL := Lib.hid (show (swapL R j j).length = n by rw [swapL_len, HRL.out])
              have HSK := Lib.hid (swapL_at (show j < R.length by rw [HRL.out]; exact hkn) (show j < R.length by rw [HRL.out]; exact hjn))
              obtain ⟨Sr, hSr⟩ : ∃ S, S = swapL R j j := ⟨_, rfl⟩
              have HSr := Lib.hid hSr
              rw [← hSr] at HOw HSG HSL HSK
              clear hSr
              obtain ⟨pv, hpv⟩ : ∃ x, x = nth (nthR Sr j) j := ⟨_, rfl⟩
              have hpb2 : 0 ≤ pv ∧ pv < p := by rw [hpv]; exact (HSG.out j (by rw [HSL.out]; exact hkn)).2 j hkm
              have hpn : pv ≠ 0 := by rw [hpv, HSK.out]; exact HNZ.out
              have HPV := Lib.hid hpv
              obtain ⟨ax, cx, hcx, hox⟩ := HOw.out.at hkn
              rw [ownR_put_len HSG.out HSL.out hkn] at hcx hox
              obtain ⟨bx, ox, rfl, hck⟩ := hox.rd.2 j hkm
              rw [← hpv] at hck
              have hob : 0 ≤ o ∧ o < p := by omega
              have hmm := mul_bd (x := o) (y := pv) (p := p) (by omega) hob.1 hob.2 hpb2.1 hpb2.2
              have hwm : wrap64 (o * pv) = o * pv := by unfold wrap64; omega
              have hwm2 : IntKind.i64.wrap (o * pv) = o * pv := IntWalk.i64_in _ (by omega)
              have hwk : wrap64 ((j : Int) + 1) = (j : Int) + 1 := by unfold wrap64; omega
              obtain ⟨o2, ho2⟩ : ∃ x, x = (o * pv) % p := ⟨_, rfl⟩
              have HO2 := Lib.hid ho2
              have hrem : (o * pv).tmod p = o2 := by rw [ho2]; exact Int.tmod_eq_emod_of_nonneg hmm.1
              clear ho2
              have hRpv : nth (nthR R j) j = pv := by rw [hpv, HSK.out]
              rw [hRpv] at hcjk hzb
              clear hRpv
              clear hpv hox
              go_wp2_with (fail)
              refine Calls.mono (s_inv p pv W2 HPR.out (by omega) hpb2.2) ?_
              rintro e W3 ⟨rfl, g3⟩
              obtain ⟨iv, hiv⟩ : ∃ x, x = invN p pv := ⟨_, rfl⟩
              have hbi : 0 ≤ iv ∧ iv < p := by rw [hiv]; exact invN_bd (by omega)
              rw [← hiv]
              have HIV := Lib.hid hiv
              clear hiv hwm hwm2 hrem hmm hob
              have HOw3 := Lib.hid (HOw.out.ext g3)
              have HE3 := Lib.hid (HE2.out.trans g3)
              clear g3 hcx hck HOw HE2
              go_wp2_with (fail)
              go_loopw [11] (fun i wr => ∃ (r : Nat) (C : List (List Int)), j + 1 ≤ r ∧ r ≤ n ∧ i = .int .i64 r ∧ Hid (C = elimS p m j Sr r) ∧ Hid (OwnR w.heap.size wr (some ⟨g, 0, none⟩) n rc C) ∧ Hid (Ext w wr)) (fun i _ => n - (intOf i).toNat)
              case atStart => exact ⟨j + 1, Sr, Nat.le_refl _, hkn, by go_num, Lib.hid (elimS_start _ (Nat.le_refl _)).symm, HOw3, HE3⟩
              case round =>
                obtain ⟨r, C, hkr, hr, rfl, HC, HCo, HCe⟩ := hrel
                clear HOw3 HE3
                by_cases hrn : r < n
                · have HCg : Hid (RowsG p m C) := Lib.hid (by rw [HC.out]; exact elimS_good (by omega) HSG.out r (by rw [HSL.out]; omega))
                  have HCl : Hid (C.length = n) := Lib.hid HCo.out.1
                  have HCK : Hid (nthR C j = nthR Sr j) := Lib.hid (by rw [HC.out, elimS_nth _ (by rw [HSL.out]; omega), if_pos (by omega)]; unfold elimN; rw [if_neg (by omega)])
                  have HCR : Hid (nthR C r = nthR Sr r) := Lib.hid (by rw [HC.out, elimS_nth _ (by rw [HSL.out]; omega), if_neg (by omega)])
                  obtain ⟨ar, cr, hcr, hor⟩ := HCo.out.at hrn
                  rw [ownR_put_len HCg.out HCl.out hrn] at hcr hor
                  obtain ⟨ad, cd, hcd, hod⟩ := HCo.out.at hkn
                  rw [ownR_put_len HCg.out HCl.out hkn] at hcd hod
                  obtain ⟨br, or, rfl, hcrk⟩ := hor.rd.2 j hkm
                  have HRr := Lib.hid (hor.rd.ext (ext_drew wr))
                  have HRd := Lib.hid (hod.rd.ext (ext_drew wr))
                  have HCr := Lib.hid ((ext_drew wr).cell hcr)
                  have HCd := Lib.hid ((ext_drew wr).cell hcd)
                  have HCk := Lib.hid ((ext_drew wr).cell hcrk)
                  have HGr := Lib.hid (HCg.out r (by rw [HCl.out]; exact hrn))
                  have HGd := Lib.hid (HCg.out j (by rw [HCl.out]; exact hkn))
                  obtain ⟨xr, hxr⟩ : ∃ x, x = nth (nthR C r) j := ⟨_, rfl⟩
                  have hbr : 0 ≤ xr ∧ xr < p := by rw [hxr]; exact HGr.out.2 j hkm
                  obtain ⟨sx, hsx⟩ : ∃ x, x = p - xr := ⟨_, rfl⟩
                  have hsb : 0 ≤ sx ∧ sx ≤ 13 := by omega
                  have hmi : 0 ≤ sx * iv ∧ sx * iv ≤ 1000 := by
                    refine ⟨Int.mul_nonneg hsb.1 hbi.1, ?_⟩
                    have h1 : sx * iv ≤ 13 * iv := Int.mul_le_mul_of_nonneg_right (by omega) hbi.1
                    omega
                  obtain ⟨kk, hkk0⟩ : ∃ x, x = (sx * iv) % p := ⟨_, rfl⟩
                  have HSub : Hid (IntKind.i64.wrap (p - xr) = sx) := Lib.hid (by rw [hsx]; exact IntWalk.i64_in _ (by omega))
                  have HMul : Hid (IntKind.i64.wrap (sx * iv) = sx * iv) := Lib.hid (IntWalk.i64_in _ (by omega))
                  have HRem : Hid ((sx * iv).tmod p = kk) := Lib.hid (by rw [hkk0]; exact Int.tmod_eq_emod_of_nonneg hmi.1)
                  have HKb : Hid (0 ≤ kk ∧ kk ≤ 1000) := Lib.hid (by have h1 := Int.emod_nonneg (sx * iv) (show p ≠ 0 by omega); have h2 := Int.emod_lt_of_pos (sx * iv) (show 0 < p by omega); rw [hkk0]; omega)
                  have HMod : Hid (kk % p = (-xr * iv) % p) := Lib.hid (by rw [hkk0, Int.emod_emod, hsx, Int.mul_emod, show p - xr = -xr + p by omega, Int.add_emod_right, ← Int.mul_emod])
                  have HXR := Lib.hid hxr
                  rw [← hxr] at HCk
                  clear hor hod hcr hcd hcrk hxr hsx hkk0
                  go_wp2_with (fail)
                  refine wp_region_lex_tail 26 [(24, .ownS wr.drew.heap.size m (plusL p (nthR C r) (nthR C j) kk m))] (by kernel_rfl) (by kernel_rfl) ?_
                  simp only [List.take, List.drop]
                  (refine LexW.pure (v := ?_) rfl rfl (fun w1 he => ?_) ?_; rotate_left; ( have e1 := he.cell HCr.out; have e2 := he.cell HCd.out; have e3 := he.cell HCk.out; have e4 := HSub.out; have e6 := HMul.out; have e5 := HRem.out; go_simp; rfl); simp only [Act.put, List.setIfInBounds_toArray, List.set_cons_zero, List.set_cons_succ])
                  (refine LexW.pure (v := ?_) rfl rfl (fun w1 he => ?_) ?_; rotate_left; ( have e1 := he.cell HCr.out; have e2 := he.cell HCd.out; have e3 := he.cell HCk.out; have e4 := HSub.out; have e6 := HMul.out; have e5 := HRem.out; go_simp; rfl); simp only [Act.put, List.setIfInBounds_toArray, List.set_cons_zero, List.set_cons_succ])
                  (refine LexW.pure (v := ?_) rfl rfl (fun w1 he => ?_) ?_; rotate_left; ( have e1 := he.cell HCr.out; have e2 := he.cell HCd.out; have e3 := he.cell HCk.out; have e4 := HSub.out; have e6 := HMul.out; have e5 := HRem.out; go_simp; rfl); simp only [Act.put, List.setIfInBounds_toArray, List.set_cons_zero, List.set_cons_succ])
                  (refine LexW.pure (v := ?_) rfl rfl (fun w1 he => ?_) ?_; rotate_left; ( have e1 := he.cell HCr.out; have e2 := he.cell HCd.out; have e3 := he.cell HCk.out; have e4 := HSub.out; have e6 := HMul.out; have e5 := HRem.out; go_simp; rfl); simp only [Act.put, List.setIfInBounds_toArray, List.set_cons_zero, List.set_cons_succ])
                  (refine LexW.pure (v := ?_) rfl rfl (fun w1 he => ?_) ?_; rotate_left; ( have e1 := he.cell HCr.out; have e2 := he.cell HCd.out; have e3 := he.cell HCk.out; have e4 := HSub.out; have e6 := HMul.out; have e5 := HRem.out; go_simp; rfl); simp only [Act.put, List.setIfInBounds_toArray, List.set_cons_zero, List.set_cons_succ])
                  (refine LexW.pure (v := ?_) rfl rfl (fun w1 he => ?_) ?_; rotate_left; ( have e1 := he.cell HCr.out; have e2 := he.cell HCd.out; have e3 := he.cell HCk.out; have e4 := HSub.out; have e6 := HMul.out; have e5 := HRem.out; go_simp; rfl); simp only [Act.put, List.setIfInBounds_toArray, List.set_cons_zero, List.set_cons_succ])
                  (refine LexW.pure (v := ?_) rfl rfl (fun w1 he => ?_) ?_; rotate_left; ( have e1 := he.cell HCr.out; have e2 := he.cell HCd.out; have e3 := he.cell HCk.out; have e4 := HSub.out; have e6 := HMul.out; have e5 := HRem.out; go_simp; rfl); simp only [Act.put, List.setIfInBounds_toArray, List.set_cons_zero, List.set_cons_succ])
                  (refine LexW.pure (v := ?_) rfl rfl (fun w1 he => ?_) ?_; rotate_left; ( have e1 := he.cell HCr.out; have e2 := he.cell HCd.out; have e3 := he.cell HCk.out; have e4 := HSub.out; have e6 := HMul.out; have e5 := HRem.out; go_simp; rfl); simp only [Act.put, List.setIfInBounds_toArray, List.set_cons_zero, List.set_cons_succ])
                  (refine LexW.pure (v := ?_) rfl rfl (fun w1 he => ?_) ?_; rotate_left; ( have e1 := he.cell HCr.out; have e2 := he.cell HCd.out; have e3 := he.cell HCk.out; have e4 := HSub.out; have e6 := HMul.out; have e5 := HRem.out; go_simp; rfl); simp only [Act.put, List.setIfInBounds_toArray, List.set_cons_zero, List.set_cons_succ])
                  (refine LexW.pure (v := ?_) rfl rfl (fun w1 he => ?_) ?_; rotate_left; ( have e1 := he.cell HCr.out; have e2 := he.cell HCd.out; have e3 := he.cell HCk.out; have e4 := HSub.out; have e6 := HMul.out; have e5 := HRem.out; go_simp; rfl); simp only [Act.put, List.setIfInBounds_toArray, List.set_cons_zero, List.set_cons_succ])
                  (refine LexW.pure (v := ?_) rfl rfl (fun w1 he => ?_) ?_; rotate_left; ( have e1 := he.cell HCr.out; have e2 := he.cell HCd.out; have e3 := he.cell HCk.out; have e4 := HSub.out; have e6 := HMul.out; have e5 := HRem.out; go_simp; rfl); simp only [Act.put, List.setIfInBounds_toArray, List.set_cons_zero, List.set_cons_succ])
                  (refine LexW.pure (v := ?_) rfl rfl (fun w1 he => ?_) ?_; rotate_left; ( have e1 := he.cell HCr.out; have e2 := he.cell HCd.out; have e3 := he.cell HCk.out; have e4 := HSub.out; have e6 := HMul.out; have e5 := HRem.out; go_simp; rfl); simp only [Act.put, List.setIfInBounds_toArray, List.set_cons_zero, List.set_cons_succ])
                  (refine LexW.pure (v := ?_) rfl rfl (fun w1 he => ?_) ?_; rotate_left; ( have e1 := he.cell HCr.out; have e2 := he.cell HCd.out; have e3 := he.cell HCk.out; have e4 := HSub.out; have e6 := HMul.out; have e5 := HRem.out; go_simp; rfl); simp only [Act.put, List.setIfInBounds_toArray, List.set_cons_zero, List.set_cons_succ])
                  (refine LexW.pure (v := ?_) rfl rfl (fun w1 he => ?_) ?_; rotate_left; ( have e1 := he.cell HCr.out; have e2 := he.cell HCd.out; have e3 := he.cell HCk.out; have e4 := HSub.out; have e6 := HMul.out; have e5 := HRem.out; go_simp; rfl); simp only [Act.put, List.setIfInBounds_toArray, List.set_cons_zero, List.set_cons_succ])
                  (refine LexW.pure (v := ?_) rfl rfl (fun w1 he => ?_) ?_; rotate_left; ( have e1 := he.cell HCr.out; have e2 := he.cell HCd.out; have e3 := he.cell HCk.out; have e4 := HSub.out; have e6 := HMul.out; have e5 := HRem.out; go_simp; rfl); simp only [Act.put, List.setIfInBounds_toArray, List.set_cons_zero, List.set_cons_succ])
                  (refine LexW.pure (v := ?_) rfl rfl (fun w1 he => ?_) ?_; rotate_left; ( have e1 := he.cell HCr.out; have e2 := he.cell HCd.out; have e3 := he.cell HCk.out; have e4 := HSub.out; have e6 := HMul.out; have e5 := HRem.out; go_simp; rfl); simp only [Act.put, List.setIfInBounds_toArray, List.set_cons_zero, List.set_cons_succ])
                  (refine LexW.pure (v := ?_) rfl rfl (fun w1 he => ?_) ?_; rotate_left; ( have e1 := he.cell HCr.out; have e2 := he.cell HCd.out; have e3 := he.cell HCk.out; have e4 := HSub.out; have e6 := HMul.out; have e5 := HRem.out; go_simp; rfl); simp only [Act.put, List.setIfInBounds_toArray, List.set_cons_zero, List.set_cons_succ])
                  (refine LexW.pure (v := ?_) rfl rfl (fun w1 he => ?_) ?_; rotate_left; ( have e1 := he.cell HCr.out; have e2 := he.cell HCd.out; have e3 := he.cell HCk.out; have e4 := HSub.out; have e6 := HMul.out; have e5 := HRem.out; go_simp; rfl); simp only [Act.put, List.setIfInBounds_toArray, List.set_cons_zero, List.set_cons_succ])
                  (refine LexW.pure (v := ?_) rfl rfl (fun w1 he => ?_) ?_; rotate_left; ( have e1 := he.cell HCr.out; have e2 := he.cell HCd.out; have e3 := he.cell HCk.out; have e4 := HSub.out; have e6 := HMul.out; have e5 := HRem.out; go_simp; rfl); simp only [Act.put, List.setIfInBounds_toArray, List.set_cons_zero, List.set_cons_succ])
                  (refine LexW.pure (v := ?_) rfl rfl (fun w1 he => ?_) ?_; rotate_left; ( have e1 := he.cell HCr.out; have e2 := he.cell HCd.out; have e3 := he.cell HCk.out; have e4 := HSub.out; have e6 := HMul.out; have e5 := HRem.out; go_simp; rfl); simp only [Act.put, List.setIfInBounds_toArray, List.set_cons_zero, List.set_cons_succ])
                  (refine LexW.pure (v := ?_) rfl rfl (fun w1 he => ?_) ?_; rotate_left; ( have e1 := he.cell HCr.out; have e2 := he.cell HCd.out; have e3 := he.cell HCk.out; have e4 := HSub.out; have e6 := HMul.out; have e5 := HRem.out; go_simp; rfl); simp only [Act.put, List.setIfInBounds_toArray, List.set_cons_zero, List.set_cons_succ])
                  (refine LexW.pure (v := ?_) rfl rfl (fun w1 he => ?_) ?_; rotate_left; ( have e1 := he.cell HCr.out; have e2 := he.cell HCd.out; have e3 := he.cell HCk.out; have e4 := HSub.out; have e6 := HMul.out; have e5 := HRem.out; go_simp; rfl); simp only [Act.put, List.setIfInBounds_toArray, List.set_cons_zero, List.set_cons_succ])
                  (refine LexW.pure (v := ?_) rfl rfl (fun w1 he => ?_) ?_; rotate_left; ( have e1 := he.cell HCr.out; have e2 := he.cell HCd.out; have e3 := he.cell HCk.out; have e4 := HSub.out; have e6 := HMul.out; have e5 := HRem.out; go_simp; rfl); simp only [Act.put, List.setIfInBounds_toArray, List.set_cons_zero, List.set_cons_succ])
                  (refine LexW.pure (v := ?_) rfl rfl (fun w1 he => ?_) ?_; rotate_left; ( have e1 := he.cell HCr.out; have e2 := he.cell HCd.out; have e3 := he.cell HCk.out; have e4 := HSub.out; have e6 := HMul.out; have e5 := HRem.out; go_simp; rfl); simp only [Act.put, List.setIfInBounds_toArray, List.set_cons_zero, List.set_cons_succ])
                  (refine LexW.callR (f := ?_) (args := ?_) rfl rfl (fun w1 => ?_) (fun w1 he hdep => ?_) (fun v hv => ?_); rotate_left 2; (go_simp; refine ⟨?_, ?_⟩ <;> rfl); ( refine (s_plus p _ _ m _ _ (nthR C r) (nthR C j) kk w1 (by omega) (by omega) HKb.out (by omega) (HRr.out.ext he) (HRd.out.ext he) HGr.out HGd.out).mono ?_; rintro e w2 ⟨g2, rc2, rfl, ho, x2⟩; exact ⟨_, rfl, x2, g2, rc2, rfl, ho.mono he.size⟩); simp only [Act.put, List.setIfInBounds_toArray, List.set_cons_zero, List.set_cons_succ])
                  obtain ⟨_, g107, c107, rfl, _⟩ := hv
                  (refine LexW.pure (v := ?_) rfl rfl (fun w1 he => ?_) ?_; rotate_left; ( have e1 := he.cell HCr.out; have e2 := he.cell HCd.out; have e3 := he.cell HCk.out; have e4 := HSub.out; have e6 := HMul.out; have e5 := HRem.out; go_simp; rfl); simp only [Act.put, List.setIfInBounds_toArray, List.set_cons_zero, List.set_cons_succ])
                  refine LexW.nil (fun w3 he hkn2 => ?_)
                  obtain ⟨_, _, q107, r107⟩ : (SPred.ownS wr.drew.heap.size m (plusL p (nthR C r) (nthR C j) kk m)).holds (.slice (some ⟨g107, 0, none⟩) m c107) w3 := hkn2 (24, _) (by simp)
                  cases q107
                  have R107 := Lib.hid r107
                  have HE := Lib.hid he
                  clear he hkn2 r107
                  have ow4 := (HCo.out.ext (ext_drew wr)).ext HE.out
                  obtain ⟨ay, cy, hcy, _⟩ := ow4.at hrn
                  have hfy := ow4.frozen r
                  have HB := Lib.hid (HCo.out.base_of g rfl)
                  clear ow4
                  go_wp2_with (fail)
                  go_roundw
                  case rel => exact ⟨r + 1, C.set r (plusL p (nthR C r) (nthR C j) kk m), by omega, by omega, by go_num, Lib.hid (by
                    rw [elimS, if_pos (by omega), ← HC.out, plus_mod HMod.out]
                    unfold elimN
                    rw [if_pos (by omega), ← HCR.out, ← HCK.out, ← HXR.out, HIV.out, HPV.out, HCK.out]), Lib.hid ((HCo.out.ext (ext_drew wr)).put HE.out (HCe.out.trans (ext_drew wr)).size R107.out hrn), Lib.hid ((HCe.out.trans ((ext_drew wr).trans HE.out)).setCell HB.out.1 _)⟩
                  case measure => simp [intOf]; omega
                · obtain rfl : r = n := by omega
                  go_wp2_with (fail)
                  go_roundw
                  case rel => exact ⟨j + 1, C, o2, by omega, by go_num, rfl, Lib.hid (by
                    rw [detS, HS.out, HO2.out]
                    simp only
                    rw [HPiv.out, if_neg (by rw [HRL.out]; omega), ← HSr.out, HC.out, HPV.out, HSK.out]
                    unfold elimL
                    rw [HSL.out]
                    rw [if_pos rfl]), HCo, HCe⟩
                  case measure => simp [intOf]; omega
            · have hjk : (k : Int) < (j : Int) := by omega
              clear hcj hcjk
              obtain ⟨aj2, cj2, ad, cd, hcj2, hcd, hoj2, hod, hsw⟩ := HOwn.out.swap hjn hkn
              rw [ownR_put_len HRG.out HRL.out hkn, ownR_put_len HRG.out HRL.out hjn] at hsw
              replace hsw : OwnR w.heap.size _ (some ⟨g, 0, none⟩) n rc (swapL R j k) := hsw
              rw [swapL_comm (by rw [HRL.out]; exact hjn) (by rw [HRL.out]; exact hkn)] at hsw
              rw [ownR_put_len HRG.out HRL.out hkn] at hcd hod
              rw [ownR_put_len HRG.out HRL.out hjn] at hcj2 hoj2
              obtain ⟨bj2, oj2, rfl, hcjk2⟩ := hoj2.rd.2 k hkm
              have hfd := HOwn.out.frozen k
              have hfj := HOwn.out.frozen j
              have HSw := Lib.hid hsw
              clear hod hoj2 hsw
              have HNM := Lib.hid (HOwn.out.base_of g rfl)
              have hne : ¬ j = k := hkj2
              have HNE := Lib.hid hkj2
              clear hkj2
              have hne' : ¬ k = j := fun h => hne h.symm
              obtain ⟨oz, hoz⟩ : ∃ x, x = (-o) % p := ⟨_, rfl⟩
              have hozb : 0 ≤ oz ∧ oz < p := by rw [hoz]; exact ⟨Int.emod_nonneg _ (by omega), Int.emod_lt_of_pos _ (by omega)⟩
              have HOZ := Lib.hid hoz
              obtain ⟨sx, hsx⟩ : ∃ x, x = p - o := ⟨_, rfl⟩
              have hwo : wrap64 (p - o) = sx := by unfold wrap64; omega
              have hwo2 : IntKind.i64.wrap (p - o) = sx := by rw [hsx]; exact IntWalk.i64_in _ (by omega)
              have hro : sx.tmod p = oz := by rw [hoz, hsx, Int.tmod_eq_emod_of_nonneg (by omega), show p - o = -o + p by omega, Int.add_emod_right]
              clear hoz hsx
              obtain ⟨W2, hW2⟩ : ∃ W2, W2 = (wr.setCell ⟨g, j, none⟩ (.slice ad m cd)).setCell ⟨g, k, none⟩ (.slice (some ⟨bj2, oj2, none⟩) m cj2) := ⟨_, rfl⟩
              have HOw : Hid (OwnR w.heap.size W2 (some ⟨g, 0, none⟩) n rc (swapL R k j)) := by rw [hW2]; exact Lib.hid HSw.out
              have HE2 : Hid (Ext w W2) := by rw [hW2]; exact Lib.hid ((HExt.out.setCell HNM.out.1 _).setCell HNM.out.1 _)
              have HW2 := Lib.hid hW2
              clear hW2 HSw
              have HSG := Lib.hid (swapL_good HRG.out (show k < R.length by rw [HRL.out]; exact hkn) (show j < R.length by rw [HRL.out]; exact hjn))
              have HSL := Lib.hid (show (swapL R k j).length = n by rw [swapL_len, HRL.out])
              have HSK := Lib.hid (swapL_at (show k < R.length by rw [HRL.out]; exact hkn) (show j < R.length by rw [HRL.out]; exact hjn))
              obtain ⟨Sr, hSr⟩ : ∃ S, S = swapL R k j := ⟨_, rfl⟩
              have HSr := Lib.hid hSr
              rw [← hSr] at HOw HSG HSL HSK
              clear hSr
              obtain ⟨pv, hpv⟩ : ∃ x, x = nth (nthR Sr k) k := ⟨_, rfl⟩
              have hpb2 : 0 ≤ pv ∧ pv < p := by rw [hpv]; exact (HSG.out k (by rw [HSL.out]; exact hkn)).2 k hkm
              have hpn : pv ≠ 0 := by rw [hpv, HSK.out]; exact HNZ.out
              have HPV := Lib.hid hpv
              obtain ⟨ax, cx, hcx, hox⟩ := HOw.out.at hkn
              rw [ownR_put_len HSG.out HSL.out hkn] at hcx hox
              obtain ⟨bx, ox, rfl, hck⟩ := hox.rd.2 k hkm
              rw [← hpv] at hck
              have hob : 0 ≤ oz ∧ oz < p := by exact hozb
              have hmm := mul_bd (x := oz) (y := pv) (p := p) (by omega) hob.1 hob.2 hpb2.1 hpb2.2
              have hwm : wrap64 (oz * pv) = oz * pv := by unfold wrap64; omega
              have hwm2 : IntKind.i64.wrap (oz * pv) = oz * pv := IntWalk.i64_in _ (by omega)
              have hwk : wrap64 ((k : Int) + 1) = (k : Int) + 1 := by unfold wrap64; omega
              obtain ⟨o2, ho2⟩ : ∃ x, x = (oz * pv) % p := ⟨_, rfl⟩
              have HO2 := Lib.hid ho2
              have hrem : (oz * pv).tmod p = o2 := by rw [ho2]; exact Int.tmod_eq_emod_of_nonneg hmm.1
              clear ho2
              clear hpv hox
              have hane : ¬ (⟨g, j, none⟩ : Addr) = ⟨g, k, none⟩ := fun h => hne (Addr.mk.inj h).2.1
              have hane' : ¬ (⟨g, k, none⟩ : Addr) = ⟨g, j, none⟩ := fun h => hne (Addr.mk.inj h).2.1.symm
              have hA : (wr.setCell ⟨g, j, none⟩ (.slice ad m cd)).cell? ⟨g, k, none⟩ = some (.slice ad m cd) := (World.cell?_setCell_other wr ⟨g, j, none⟩ ⟨g, k, none⟩ _ hane).trans hcd
              have hB : ((wr.setCell ⟨g, j, none⟩ (.slice ad m cd)).setCell ⟨g, k, none⟩ (.slice (some ⟨bj2, oj2, none⟩) m cj2)).cell? ⟨g, k, none⟩ = some (.slice (some ⟨bj2, oj2, none⟩) m cj2) := World.cell?_setCell_same _ _ _ hA
              rw [HW2.out, hB] at hcx
              have hcxe := Value.slice.inj (Option.some.inj hcx)
              have hcxa := Addr.mk.inj (Option.some.inj hcxe.1)
              obtain rfl := hcxa.1
              obtain rfl := hcxa.2.1
              obtain rfl := hcxe.2.2
              rw [HW2.out] at hck
              clear hcx hcxe hcxa hne hne'
              skip
              go_wp2_with (fail)
              clear hcjk2 hA hB hck hro hwo hwo2 hrem hwm hwm2
              rw [← HW2.out]
              clear HW2 hcd hcj2 hfd hfj hane hane'
              refine Calls.mono (s_inv p pv W2 HPR.out (by omega) hpb2.2) ?_
              rintro e W3 ⟨rfl, g3⟩
              obtain ⟨iv, hiv⟩ : ∃ x, x = invN p pv := ⟨_, rfl⟩
              have hbi : 0 ≤ iv ∧ iv < p := by rw [hiv]; exact invN_bd (by omega)
              rw [← hiv]
              have HIV := Lib.hid hiv
              clear hiv hmm hob
              have HOw3 := Lib.hid (HOw.out.ext g3)
              have HE3 := Lib.hid (HE2.out.trans g3)
              clear g3 HOw HE2
              go_wp2_with (fail)
              go_loopw [11] (fun i wr => ∃ (r : Nat) (C : List (List Int)), k + 1 ≤ r ∧ r ≤ n ∧ i = .int .i64 r ∧ Hid (C = elimS p m k Sr r) ∧ Hid (OwnR w.heap.size wr (some ⟨g, 0, none⟩) n rc C) ∧ Hid (Ext w wr)) (fun i _ => n - (intOf i).toNat)
              case atStart => exact ⟨k + 1, Sr, Nat.le_refl _, hkn, by go_num, Lib.hid (elimS_start _ (Nat.le_refl _)).symm, HOw3, HE3⟩
              case round =>
                obtain ⟨r, C, hkr, hr, rfl, HC, HCo, HCe⟩ := hrel
                clear HOw3 HE3
                by_cases hrn : r < n
                · have HCg : Hid (RowsG p m C) := Lib.hid (by rw [HC.out]; exact elimS_good (by omega) HSG.out r (by rw [HSL.out]; omega))
                  have HCl : Hid (C.length = n) := Lib.hid HCo.out.1
                  have HCK : Hid (nthR C k = nthR Sr k) := Lib.hid (by rw [HC.out, elimS_nth _ (by rw [HSL.out]; omega), if_pos (by omega)]; unfold elimN; rw [if_neg (by omega)])
                  have HCR : Hid (nthR C r = nthR Sr r) := Lib.hid (by rw [HC.out, elimS_nth _ (by rw [HSL.out]; omega), if_neg (by omega)])
                  obtain ⟨ar, cr, hcr, hor⟩ := HCo.out.at hrn
                  rw [ownR_put_len HCg.out HCl.out hrn] at hcr hor
                  obtain ⟨ad, cd, hcd, hod⟩ := HCo.out.at hkn
                  rw [ownR_put_len HCg.out HCl.out hkn] at hcd hod
                  obtain ⟨br, or, rfl, hcrk⟩ := hor.rd.2 k hkm
                  have HRr := Lib.hid (hor.rd.ext (ext_drew wr))
                  have HRd := Lib.hid (hod.rd.ext (ext_drew wr))
                  have HCr := Lib.hid ((ext_drew wr).cell hcr)
                  have HCd := Lib.hid ((ext_drew wr).cell hcd)
                  have HCk := Lib.hid ((ext_drew wr).cell hcrk)
                  have HGr := Lib.hid (HCg.out r (by rw [HCl.out]; exact hrn))
                  have HGd := Lib.hid (HCg.out k (by rw [HCl.out]; exact hkn))
                  obtain ⟨xr, hxr⟩ : ∃ x, x = nth (nthR C r) k := ⟨_, rfl⟩
                  have hbr : 0 ≤ xr ∧ xr < p := by rw [hxr]; exact HGr.out.2 k hkm
                  obtain ⟨sx, hsx⟩ : ∃ x, x = p - xr := ⟨_, rfl⟩
                  have hsb : 0 ≤ sx ∧ sx ≤ 13 := by omega
                  have hmi : 0 ≤ sx * iv ∧ sx * iv ≤ 1000 := by
                    refine ⟨Int.mul_nonneg hsb.1 hbi.1, ?_⟩
                    have h1 : sx * iv ≤ 13 * iv := Int.mul_le_mul_of_nonneg_right (by omega) hbi.1
                    omega
                  obtain ⟨kk, hkk0⟩ : ∃ x, x = (sx * iv) % p := ⟨_, rfl⟩
                  have HSub : Hid (IntKind.i64.wrap (p - xr) = sx) := Lib.hid (by rw [hsx]; exact IntWalk.i64_in _ (by omega))
                  have HMul : Hid (IntKind.i64.wrap (sx * iv) = sx * iv) := Lib.hid (IntWalk.i64_in _ (by omega))
                  have HRem : Hid ((sx * iv).tmod p = kk) := Lib.hid (by rw [hkk0]; exact Int.tmod_eq_emod_of_nonneg hmi.1)
                  have HKb : Hid (0 ≤ kk ∧ kk ≤ 1000) := Lib.hid (by have h1 := Int.emod_nonneg (sx * iv) (show p ≠ 0 by omega); have h2 := Int.emod_lt_of_pos (sx * iv) (show 0 < p by omega); rw [hkk0]; omega)
                  have HMod : Hid (kk % p = (-xr * iv) % p) := Lib.hid (by rw [hkk0, Int.emod_emod, hsx, Int.mul_emod, show p - xr = -xr + p by omega, Int.add_emod_right, ← Int.mul_emod])
                  have HXR := Lib.hid hxr
                  rw [← hxr] at HCk
                  clear hor hod hcr hcd hcrk hxr hsx hkk0
                  go_wp2_with (fail)
                  refine wp_region_lex_tail 26 [(24, .ownS wr.drew.heap.size m (plusL p (nthR C r) (nthR C k) kk m))] (by kernel_rfl) (by kernel_rfl) ?_
                  simp only [List.take, List.drop]
                  (refine LexW.pure (v := ?_) rfl rfl (fun w1 he => ?_) ?_; rotate_left; ( have e1 := he.cell HCr.out; have e2 := he.cell HCd.out; have e3 := he.cell HCk.out; have e4 := HSub.out; have e6 := HMul.out; have e5 := HRem.out; go_simp; rfl); simp only [Act.put, List.setIfInBounds_toArray, List.set_cons_zero, List.set_cons_succ])
                  (refine LexW.pure (v := ?_) rfl rfl (fun w1 he => ?_) ?_; rotate_left; ( have e1 := he.cell HCr.out; have e2 := he.cell HCd.out; have e3 := he.cell HCk.out; have e4 := HSub.out; have e6 := HMul.out; have e5 := HRem.out; go_simp; rfl); simp only [Act.put, List.setIfInBounds_toArray, List.set_cons_zero, List.set_cons_succ])
                  (refine LexW.pure (v := ?_) rfl rfl (fun w1 he => ?_) ?_; rotate_left; ( have e1 := he.cell HCr.out; have e2 := he.cell HCd.out; have e3 := he.cell HCk.out; have e4 := HSub.out; have e6 := HMul.out; have e5 := HRem.out; go_simp; rfl); simp only [Act.put, List.setIfInBounds_toArray, List.set_cons_zero, List.set_cons_succ])
                  (refine LexW.pure (v := ?_) rfl rfl (fun w1 he => ?_) ?_; rotate_left; ( have e1 := he.cell HCr.out; have e2 := he.cell HCd.out; have e3 := he.cell HCk.out; have e4 := HSub.out; have e6 := HMul.out; have e5 := HRem.out; go_simp; rfl); simp only [Act.put, List.setIfInBounds_toArray, List.set_cons_zero, List.set_cons_succ])
                  (refine LexW.pure (v := ?_) rfl rfl (fun w1 he => ?_) ?_; rotate_left; ( have e1 := he.cell HCr.out; have e2 := he.cell HCd.out; have e3 := he.cell HCk.out; have e4 := HSub.out; have e6 := HMul.out; have e5 := HRem.out; go_simp; rfl); simp only [Act.put, List.setIfInBounds_toArray, List.set_cons_zero, List.set_cons_succ])
                  (refine LexW.pure (v := ?_) rfl rfl (fun w1 he => ?_) ?_; rotate_left; ( have e1 := he.cell HCr.out; have e2 := he.cell HCd.out; have e3 := he.cell HCk.out; have e4 := HSub.out; have e6 := HMul.out; have e5 := HRem.out; go_simp; rfl); simp only [Act.put, List.setIfInBounds_toArray, List.set_cons_zero, List.set_cons_succ])
                  (refine LexW.pure (v := ?_) rfl rfl (fun w1 he => ?_) ?_; rotate_left; ( have e1 := he.cell HCr.out; have e2 := he.cell HCd.out; have e3 := he.cell HCk.out; have e4 := HSub.out; have e6 := HMul.out; have e5 := HRem.out; go_simp; rfl); simp only [Act.put, List.setIfInBounds_toArray, List.set_cons_zero, List.set_cons_succ])
                  (refine LexW.pure (v := ?_) rfl rfl (fun w1 he => ?_) ?_; rotate_left; ( have e1 := he.cell HCr.out; have e2 := he.cell HCd.out; have e3 := he.cell HCk.out; have e4 := HSub.out; have e6 := HMul.out; have e5 := HRem.out; go_simp; rfl); simp only [Act.put, List.setIfInBounds_toArray, List.set_cons_zero, List.set_cons_succ])
                  (refine LexW.pure (v := ?_) rfl rfl (fun w1 he => ?_) ?_; rotate_left; ( have e1 := he.cell HCr.out; have e2 := he.cell HCd.out; have e3 := he.cell HCk.out; have e4 := HSub.out; have e6 := HMul.out; have e5 := HRem.out; go_simp; rfl); simp only [Act.put, List.setIfInBounds_toArray, List.set_cons_zero, List.set_cons_succ])
                  (refine LexW.pure (v := ?_) rfl rfl (fun w1 he => ?_) ?_; rotate_left; ( have e1 := he.cell HCr.out; have e2 := he.cell HCd.out; have e3 := he.cell HCk.out; have e4 := HSub.out; have e6 := HMul.out; have e5 := HRem.out; go_simp; rfl); simp only [Act.put, List.setIfInBounds_toArray, List.set_cons_zero, List.set_cons_succ])
                  (refine LexW.pure (v := ?_) rfl rfl (fun w1 he => ?_) ?_; rotate_left; ( have e1 := he.cell HCr.out; have e2 := he.cell HCd.out; have e3 := he.cell HCk.out; have e4 := HSub.out; have e6 := HMul.out; have e5 := HRem.out; go_simp; rfl); simp only [Act.put, List.setIfInBounds_toArray, List.set_cons_zero, List.set_cons_succ])
                  (refine LexW.pure (v := ?_) rfl rfl (fun w1 he => ?_) ?_; rotate_left; ( have e1 := he.cell HCr.out; have e2 := he.cell HCd.out; have e3 := he.cell HCk.out; have e4 := HSub.out; have e6 := HMul.out; have e5 := HRem.out; go_simp; rfl); simp only [Act.put, List.setIfInBounds_toArray, List.set_cons_zero, List.set_cons_succ])
                  (refine LexW.pure (v := ?_) rfl rfl (fun w1 he => ?_) ?_; rotate_left; ( have e1 := he.cell HCr.out; have e2 := he.cell HCd.out; have e3 := he.cell HCk.out; have e4 := HSub.out; have e6 := HMul.out; have e5 := HRem.out; go_simp; rfl); simp only [Act.put, List.setIfInBounds_toArray, List.set_cons_zero, List.set_cons_succ])
                  (refine LexW.pure (v := ?_) rfl rfl (fun w1 he => ?_) ?_; rotate_left; ( have e1 := he.cell HCr.out; have e2 := he.cell HCd.out; have e3 := he.cell HCk.out; have e4 := HSub.out; have e6 := HMul.out; have e5 := HRem.out; go_simp; rfl); simp only [Act.put, List.setIfInBounds_toArray, List.set_cons_zero, List.set_cons_succ])
                  (refine LexW.pure (v := ?_) rfl rfl (fun w1 he => ?_) ?_; rotate_left; ( have e1 := he.cell HCr.out; have e2 := he.cell HCd.out; have e3 := he.cell HCk.out; have e4 := HSub.out; have e6 := HMul.out; have e5 := HRem.out; go_simp; rfl); simp only [Act.put, List.setIfInBounds_toArray, List.set_cons_zero, List.set_cons_succ])
                  (refine LexW.pure (v := ?_) rfl rfl (fun w1 he => ?_) ?_; rotate_left; ( have e1 := he.cell HCr.out; have e2 := he.cell HCd.out; have e3 := he.cell HCk.out; have e4 := HSub.out; have e6 := HMul.out; have e5 := HRem.out; go_simp; rfl); simp only [Act.put, List.setIfInBounds_toArray, List.set_cons_zero, List.set_cons_succ])
                  (refine LexW.pure (v := ?_) rfl rfl (fun w1 he => ?_) ?_; rotate_left; ( have e1 := he.cell HCr.out; have e2 := he.cell HCd.out; have e3 := he.cell HCk.out; have e4 := HSub.out; have e6 := HMul.out; have e5 := HRem.out; go_simp; rfl); simp only [Act.put, List.setIfInBounds_toArray, List.set_cons_zero, List.set_cons_succ])
                  (refine LexW.pure (v := ?_) rfl rfl (fun w1 he => ?_) ?_; rotate_left; ( have e1 := he.cell HCr.out; have e2 := he.cell HCd.out; have e3 := he.cell HCk.out; have e4 := HSub.out; have e6 := HMul.out; have e5 := HRem.out; go_simp; rfl); simp only [Act.put, List.setIfInBounds_toArray, List.set_cons_zero, List.set_cons_succ])
                  (refine LexW.pure (v := ?_) rfl rfl (fun w1 he => ?_) ?_; rotate_left; ( have e1 := he.cell HCr.out; have e2 := he.cell HCd.out; have e3 := he.cell HCk.out; have e4 := HSub.out; have e6 := HMul.out; have e5 := HRem.out; go_simp; rfl); simp only [Act.put, List.setIfInBounds_toArray, List.set_cons_zero, List.set_cons_succ])
                  (refine LexW.pure (v := ?_) rfl rfl (fun w1 he => ?_) ?_; rotate_left; ( have e1 := he.cell HCr.out; have e2 := he.cell HCd.out; have e3 := he.cell HCk.out; have e4 := HSub.out; have e6 := HMul.out; have e5 := HRem.out; go_simp; rfl); simp only [Act.put, List.setIfInBounds_toArray, List.set_cons_zero, List.set_cons_succ])
                  (refine LexW.pure (v := ?_) rfl rfl (fun w1 he => ?_) ?_; rotate_left; ( have e1 := he.cell HCr.out; have e2 := he.cell HCd.out; have e3 := he.cell HCk.out; have e4 := HSub.out; have e6 := HMul.out; have e5 := HRem.out; go_simp; rfl); simp only [Act.put, List.setIfInBounds_toArray, List.set_cons_zero, List.set_cons_succ])
                  (refine LexW.pure (v := ?_) rfl rfl (fun w1 he => ?_) ?_; rotate_left; ( have e1 := he.cell HCr.out; have e2 := he.cell HCd.out; have e3 := he.cell HCk.out; have e4 := HSub.out; have e6 := HMul.out; have e5 := HRem.out; go_simp; rfl); simp only [Act.put, List.setIfInBounds_toArray, List.set_cons_zero, List.set_cons_succ])
                  (refine LexW.pure (v := ?_) rfl rfl (fun w1 he => ?_) ?_; rotate_left; ( have e1 := he.cell HCr.out; have e2 := he.cell HCd.out; have e3 := he.cell HCk.out; have e4 := HSub.out; have e6 := HMul.out; have e5 := HRem.out; go_simp; rfl); simp only [Act.put, List.setIfInBounds_toArray, List.set_cons_zero, List.set_cons_succ])
                  (refine LexW.pure (v := ?_) rfl rfl (fun w1 he => ?_) ?_; rotate_left; ( have e1 := he.cell HCr.out; have e2 := he.cell HCd.out; have e3 := he.cell HCk.out; have e4 := HSub.out; have e6 := HMul.out; have e5 := HRem.out; go_simp; rfl); simp only [Act.put, List.setIfInBounds_toArray, List.set_cons_zero, List.set_cons_succ])
                  (refine LexW.callR (f := ?_) (args := ?_) rfl rfl (fun w1 => ?_) (fun w1 he hdep => ?_) (fun v hv => ?_); rotate_left 2; (go_simp; refine ⟨?_, ?_⟩ <;> rfl); ( refine (s_plus p _ _ m _ _ (nthR C r) (nthR C k) kk w1 (by omega) (by omega) HKb.out (by omega) (HRr.out.ext he) (HRd.out.ext he) HGr.out HGd.out).mono ?_; rintro e w2 ⟨g2, rc2, rfl, ho, x2⟩; exact ⟨_, rfl, x2, g2, rc2, rfl, ho.mono he.size⟩); simp only [Act.put, List.setIfInBounds_toArray, List.set_cons_zero, List.set_cons_succ])
                  obtain ⟨_, g107, c107, rfl, _⟩ := hv
                  (refine LexW.pure (v := ?_) rfl rfl (fun w1 he => ?_) ?_; rotate_left; ( have e1 := he.cell HCr.out; have e2 := he.cell HCd.out; have e3 := he.cell HCk.out; have e4 := HSub.out; have e6 := HMul.out; have e5 := HRem.out; go_simp; rfl); simp only [Act.put, List.setIfInBounds_toArray, List.set_cons_zero, List.set_cons_succ])
                  refine LexW.nil (fun w3 he hkn2 => ?_)
                  obtain ⟨_, _, q107, r107⟩ : (SPred.ownS wr.drew.heap.size m (plusL p (nthR C r) (nthR C k) kk m)).holds (.slice (some ⟨g107, 0, none⟩) m c107) w3 := hkn2 (24, _) (by simp)
                  cases q107
                  have R107 := Lib.hid r107
                  have HE := Lib.hid he
                  clear he hkn2 r107
                  have ow4 := (HCo.out.ext (ext_drew wr)).ext HE.out
                  obtain ⟨ay, cy, hcy, _⟩ := ow4.at hrn
                  have hfy := ow4.frozen r
                  have HB := Lib.hid (HCo.out.base_of g rfl)
                  clear ow4
                  go_wp2_with (fail)
                  go_roundw
                  case rel => exact ⟨r + 1, C.set r (plusL p (nthR C r) (nthR C k) kk m), by omega, by omega, by go_num, Lib.hid (by
                    rw [elimS, if_pos (by omega), ← HC.out, plus_mod HMod.out]
                    unfold elimN
                    rw [if_pos (by omega), ← HCR.out, ← HCK.out, ← HXR.out, HIV.out, HPV.out, HCK.out]), Lib.hid ((HCo.out.ext (ext_drew wr)).put HE.out (HCe.out.trans (ext_drew wr)).size R107.out hrn), Lib.hid ((HCe.out.trans ((ext_drew wr).trans HE.out)).setCell HB.out.1 _)⟩
                  case measure => simp [intOf]; omega
                · obtain rfl : r = n := by omega
                  go_wp2_with (fail)
                  go_roundw
                  case rel => exact ⟨k + 1, C, o2, by omega, by go_num, rfl, Lib.hid (by
                    rw [detS, HS.out, HO2.out]
                    simp only
                    rw [HPiv.out, if_neg (by rw [HRL.out]; omega), ← HSr.out, HC.out, HPV.out, HSK.out]
                    unfold elimL
                    rw [HSL.out]
                    rw [if_neg HNE.out, ← HOZ.out]), HCo, HCe⟩
                  case measure => simp [intOf]; omega
        · obtain rfl : j = n := by omega
          have hjj : ((j : Int) == (j : Int)) = true := by simp
          have HPiv := Lib.hid (pivG_eq (rows := R) (k := k) (d := k) hkj (by rw [HRL.out]; exact Nat.le_refl _) HZ.out (.inl HRL.out.symm))
          have HDT := Lib.hid (show detL p m rows = 0 by
            have hnone : detS p m rows (k + 1) = none := by
              rw [detS, HS.out]
              simp only
              rw [HPiv.out, if_pos HRL.out.symm]
            have := detS_none hnone (j - (k + 1))
            rw [Nat.add_sub_cancel' (by omega)] at this
            unfold detL
            rw [HLN.out, this])
          go_wp2_with (fail)
          go_ret
          exact ⟨ret_int HDT.out.symm, HExt.out⟩
    · obtain rfl : k = n := by omega
      have HDT := Lib.hid (show detL p m rows = o by unfold detL; rw [HLN.out, HS.out])
      go_wp2_with (fail)
      go_ret
      exact ⟨ret_int HDT.out.symm, HExt.out⟩
end Go.Proofs.Ytnabpmafcflljaa

/-
  The reference's test of matrices.
  No condition.
-/
namespace Go.Proofs.Ytnabpmafcflljaa
set_option maxRecDepth 100000
open Go.RowKit

theorem mat_row {p : Int} {rows : List (List Int)} {k : Nat} (hk : k < rows.length) (h : rowOk p (nthR rows 0).length (nthR rows k) = false) : matB p rows = false := by
  unfold matB; rw [table_not hk rfl h]; simp
theorem mat_len {p : Int} {rows : List (List Int)} (h : rows.length < 1 ∨ 16 < rows.length) : matB p rows = false := by
  unfold matB
  rcases h with h | h
  · rw [decide_eq_false (by omega)]; rfl
  · rw [table_big h]; simp
set_option maxHeartbeats 4000000 in
set_option maxRecDepth 100000 in
theorem s_isMat (p : Int) (a : Option Addr) (n cap : Nat) (rows : List (List Int)) (w : World) (hpr : primeB p = true) (hl : n ≤ 4194304) (hr : ∀ i, i < n → (nthR rows i).length ≤ 4194304) (hx : RdR w a n rows) :
    Calls Try.prog 88 #[.int .i64 p, .slice a n cap] w fun e w' => e = .returned (.bool (matB p rows)) ∧ Ext w w' := by
  have hpb := prime_bd hpr
  have HPR := Lib.hid hpr
  have HX := Lib.hid hx
  have HLN := Lib.hid hx.1
  have HR := Lib.hid hr
  clear hpr hx hr
  go_enter Try.func88, Try.ntmps88
  go_wp2_with (fail)
  refine Calls.mono (s_prime p w) ?_
  rintro e w1 ⟨rfl, g1⟩
  rw [HPR.out]
  have HG := Lib.hid g1
  clear g1
  by_cases h1 : n < 1
  · have hc1 : (n : Int) < 1 := by omega
    have HB := Lib.hid (mat_len (p := p) (rows := rows) (.inl (by rw [HLN.out]; exact h1)))
    clear h1
    go_wp2_with (fail)
    go_ret
    exact ⟨ret_bool HB.out.symm, HG.out⟩
  have hc1 : ¬ (n : Int) < 1 := by omega
  by_cases h2 : 16 < n
  · have hc2 : (16 : Int) < n := by omega
    have HB := Lib.hid (mat_len (p := p) (rows := rows) (.inr (by rw [HLN.out]; exact h2)))
    clear h2
    go_wp2_with (fail)
    go_ret
    exact ⟨ret_bool HB.out.symm, HG.out⟩
  have hc2 : ¬ (16 : Int) < n := by omega
  have hn0 : 0 < n := by omega
  obtain ⟨b0, o0, a0, c0, rfl, hk0, _⟩ := HX.out.2 0 hn0
  rw [Nat.add_zero] at hk0
  obtain ⟨m, hm⟩ : ∃ m, m = (nthR rows 0).length := ⟨_, rfl⟩
  have hm4 : m ≤ 4194304 := by rw [hm]; exact HR.out 0 hn0
  rw [← hm] at hk0
  have HM := Lib.hid hm
  have HK0 := Lib.hid hk0
  have hk1 := HG.out.cell hk0
  clear hm hk0 h1 h2
  by_cases h3 : m < 1
  · have hc3 : (m : Int) < 1 := by omega
    have HB := Lib.hid (mat_row (p := p) (k := 0) (rows := rows) (by rw [HLN.out]; exact hn0) (by unfold rowOk; rw [← HM.out, decide_eq_false (p := 1 ≤ m) (by omega)]; simp))
    clear h3
    go_wp2_with (fail)
    go_ret
    exact ⟨ret_bool HB.out.symm, HG.out⟩
  have hc3 : ¬ (m : Int) < 1 := by omega
  by_cases h4 : 16 < m
  · have hc4 : (16 : Int) < m := by omega
    have HB := Lib.hid (mat_row (p := p) (k := 0) (rows := rows) (by rw [HLN.out]; exact hn0) (by unfold rowOk; rw [← HM.out, decide_eq_false (p := m ≤ 16) (by omega)]; simp))
    clear h4
    go_wp2_with (fail)
    go_ret
    exact ⟨ret_bool HB.out.symm, HG.out⟩
  have hc4 : ¬ (16 : Int) < m := by omega
  go_wp2_with (fail)
  clear hk1
  go_loopw [5] (fun x wr => ∃ (k : Nat), k ≤ n ∧ x = .int .i64 k ∧ Hid (∀ j, j < k → rowOk p (nthR rows 0).length (nthR rows j) = true) ∧ Hid (Ext w wr)) (fun x _ => n - (intOf x).toNat)
  case atStart => exact ⟨0, Nat.zero_le _, rfl, Lib.hid (fun j hj => by omega), HG⟩
  case round =>
    rename World => y
    obtain ⟨k, hk, rfl, HT, HY⟩ := hrel
    by_cases hlt : k < n
    · obtain ⟨b1, o1, a1, c1, hab, hk1, hr1⟩ := HX.out.2 k hlt
      cases hab
      obtain ⟨mk, hmk⟩ : ∃ m, m = (nthR rows k).length := ⟨_, rfl⟩
      have hmk4 : mk ≤ 4194304 := by rw [hmk]; exact HR.out k hlt
      rw [← hmk] at hk1 hr1
      have HMK := Lib.hid hmk
      have HK1 := Lib.hid ((HY.out.trans (ext_drew y)).cell hk1)
      have HKZ := Lib.hid ((HY.out.trans (ext_drew y)).cell HK0.out)
      have HRR := Lib.hid (hr1.ext (HY.out.trans (ext_drew y)))
      clear hmk hk1 hr1
      go_wp2_with (fail)
      by_cases he1 : mk = m
      · have hne : ((mk : Int) != (m : Int)) = false := by rw [he1]; simp
        have HEQ := Lib.hid he1
        obtain ⟨bb, hbb⟩ : ∃ x, x = isB p (nthR rows k) := ⟨_, rfl⟩
        have HBB := Lib.hid hbb
        clear hbb he1
        refine wp_region_lex [(16, .val (.bool bb))] (by kernel_rfl) (by kernel_rfl) ?_
        (refine LexW.pure (v := ?_) rfl rfl (fun w1 he => ?_) ?_; rotate_left; ( have e1 := he.cell HK1.out; have e2 := he.cell HKZ.out; go_simp; rfl); simp only [Act.put, List.setIfInBounds_toArray, List.set_cons_zero, List.set_cons_succ])
        (refine LexW.pure (v := ?_) rfl rfl (fun w1 he => ?_) ?_; rotate_left; ( have e1 := he.cell HK1.out; have e2 := he.cell HKZ.out; go_simp; rfl); simp only [Act.put, List.setIfInBounds_toArray, List.set_cons_zero, List.set_cons_succ])
        (refine LexW.pure (v := ?_) rfl rfl (fun w1 he => ?_) ?_; rotate_left; ( have e1 := he.cell HK1.out; have e2 := he.cell HKZ.out; go_simp; rfl); simp only [Act.put, List.setIfInBounds_toArray, List.set_cons_zero, List.set_cons_succ])
        (refine LexW.pure (v := ?_) rfl rfl (fun w1 he => ?_) ?_; rotate_left; ( have e1 := he.cell HK1.out; have e2 := he.cell HKZ.out; go_simp; rfl); simp only [Act.put, List.setIfInBounds_toArray, List.set_cons_zero, List.set_cons_succ])
        (refine LexW.pure (v := ?_) rfl rfl (fun w1 he => ?_) ?_; rotate_left; ( have e1 := he.cell HK1.out; have e2 := he.cell HKZ.out; go_simp; rfl); simp only [Act.put, List.setIfInBounds_toArray, List.set_cons_zero, List.set_cons_succ])
        (refine LexW.pure (v := ?_) rfl rfl (fun w1 he => ?_) ?_; rotate_left; ( have e1 := he.cell HK1.out; have e2 := he.cell HKZ.out; go_simp; rfl); simp only [Act.put, List.setIfInBounds_toArray, List.set_cons_zero, List.set_cons_succ])
        (refine LexW.pure (v := ?_) rfl rfl (fun w1 he => ?_) ?_; rotate_left; ( have e1 := he.cell HK1.out; have e2 := he.cell HKZ.out; go_simp; rfl); simp only [Act.put, List.setIfInBounds_toArray, List.set_cons_zero, List.set_cons_succ])
        (refine LexW.pure (v := ?_) rfl rfl (fun w1 he => ?_) ?_; rotate_left; ( have e1 := he.cell HK1.out; have e2 := he.cell HKZ.out; go_simp; rfl); simp only [Act.put, List.setIfInBounds_toArray, List.set_cons_zero, List.set_cons_succ])
        (refine LexW.pure (v := ?_) rfl rfl (fun w1 he => ?_) ?_; rotate_left; ( have e1 := he.cell HK1.out; have e2 := he.cell HKZ.out; go_simp; rfl); simp only [Act.put, List.setIfInBounds_toArray, List.set_cons_zero, List.set_cons_succ])
        (refine LexW.pure (v := ?_) rfl rfl (fun w1 he => ?_) ?_; rotate_left; ( have e1 := he.cell HK1.out; have e2 := he.cell HKZ.out; go_simp; rfl); simp only [Act.put, List.setIfInBounds_toArray, List.set_cons_zero, List.set_cons_succ])
        (refine LexW.pure (v := ?_) rfl rfl (fun w1 he => ?_) ?_; rotate_left; ( have e1 := he.cell HK1.out; have e2 := he.cell HKZ.out; go_simp; rfl); simp only [Act.put, List.setIfInBounds_toArray, List.set_cons_zero, List.set_cons_succ])
        (refine LexW.pure (v := ?_) rfl rfl (fun w1 he => ?_) ?_; rotate_left; ( have e1 := he.cell HK1.out; have e2 := he.cell HKZ.out; go_simp; rfl); simp only [Act.put, List.setIfInBounds_toArray, List.set_cons_zero, List.set_cons_succ])
        (refine LexW.pure (v := ?_) rfl rfl (fun w1 he => ?_) ?_; rotate_left; ( have e1 := he.cell HK1.out; have e2 := he.cell HKZ.out; go_simp; rfl); simp only [Act.put, List.setIfInBounds_toArray, List.set_cons_zero, List.set_cons_succ])
        (refine LexW.pure (v := ?_) rfl rfl (fun w1 he => ?_) ?_; rotate_left; ( have e1 := he.cell HK1.out; have e2 := he.cell HKZ.out; go_simp; rfl); simp only [Act.put, List.setIfInBounds_toArray, List.set_cons_zero, List.set_cons_succ])
        (refine LexW.pure (v := ?_) rfl rfl (fun w1 he => ?_) ?_; rotate_left; ( have e1 := he.cell HK1.out; have e2 := he.cell HKZ.out; go_simp; rfl); simp only [Act.put, List.setIfInBounds_toArray, List.set_cons_zero, List.set_cons_succ])
        (refine LexW.pure (v := ?_) rfl rfl (fun w1 he => ?_) ?_; rotate_left; ( have e1 := he.cell HK1.out; have e2 := he.cell HKZ.out; go_simp; rfl); simp only [Act.put, List.setIfInBounds_toArray, List.set_cons_zero, List.set_cons_succ])
        (refine LexW.call (f := ?_) (args := ?_) rfl rfl (fun w1 => ?_) (fun w1 he hdep => ?_) ?_; rotate_left 2; (go_simp; refine ⟨?_, ?_⟩ <;> rfl); ( rw [HBB.out]; exact s_numbers p a1 mk c1 (nthR rows k) w1 (by omega) (by omega) hmk4 (HRR.out.ext he)); simp only [Act.put, List.setIfInBounds_toArray, List.set_cons_zero, List.set_cons_succ])
        (refine LexW.pure (v := ?_) rfl rfl (fun w1 he => ?_) ?_; rotate_left; ( have e1 := he.cell HK1.out; have e2 := he.cell HKZ.out; go_simp; rfl); simp only [Act.put, List.setIfInBounds_toArray, List.set_cons_zero, List.set_cons_succ])
        (refine LexW.pure (v := ?_) rfl rfl (fun w1 he => ?_) ?_; rotate_left; ( have e1 := he.cell HK1.out; have e2 := he.cell HKZ.out; go_simp; rfl); simp only [Act.put, List.setIfInBounds_toArray, List.set_cons_zero, List.set_cons_succ])
        refine LexW.nil (fun w3 he hkn => ?_)
        have HE := Lib.hid ((HY.out.trans (ext_drew y)).trans he)
        clear he hkn 
        rename World => z
        cases bb
        · have HB := Lib.hid (mat_row (p := p) (rows := rows) (k := k) (by rw [HLN.out]; exact hlt) (by unfold rowOk; rw [← HBB.out]; simp))
          go_wp2_with (fail)
          go_ret
          exact ⟨ret_bool HB.out.symm, HE.out⟩
        · have HOKK := Lib.hid (show rowOk p (nthR rows 0).length (nthR rows k) = true by unfold rowOk; rw [← HBB.out, ← HM.out, ← HMK.out, HEQ.out, decide_eq_true rfl, decide_eq_true (p := 1 ≤ m) (by omega), decide_eq_true (p := m ≤ 16) (by omega)]; rfl)
          go_wp2_with (fail)
          go_roundw
          case rel => exact ⟨k + 1, by omega, by go_num, Lib.hid (fun j hj => by
            by_cases hjk : j = k
            · subst hjk; exact HOKK.out
            · exact HT.out j (by omega)), HE⟩
          case measure => simp [intOf]; omega
      · have hne : ((mk : Int) != (m : Int)) = true := by simp; omega
        have HB := Lib.hid (mat_row (p := p) (rows := rows) (k := k) (by rw [HLN.out]; exact hlt) (by unfold rowOk; rw [← HM.out, ← HMK.out, decide_eq_false he1]; simp))
        clear he1
        refine wp_region_lex [] (by kernel_rfl) (by kernel_rfl) ?_
        (refine LexW.pure (v := ?_) rfl rfl (fun w1 he => ?_) ?_; rotate_left; ( have e1 := he.cell HK1.out; have e2 := he.cell HKZ.out; go_simp; rfl); simp only [Act.put, List.setIfInBounds_toArray, List.set_cons_zero, List.set_cons_succ])
        (refine LexW.pure (v := ?_) rfl rfl (fun w1 he => ?_) ?_; rotate_left; ( have e1 := he.cell HK1.out; have e2 := he.cell HKZ.out; go_simp; rfl); simp only [Act.put, List.setIfInBounds_toArray, List.set_cons_zero, List.set_cons_succ])
        (refine LexW.pure (v := ?_) rfl rfl (fun w1 he => ?_) ?_; rotate_left; ( have e1 := he.cell HK1.out; have e2 := he.cell HKZ.out; go_simp; rfl); simp only [Act.put, List.setIfInBounds_toArray, List.set_cons_zero, List.set_cons_succ])
        (refine LexW.pure (v := ?_) rfl rfl (fun w1 he => ?_) ?_; rotate_left; ( have e1 := he.cell HK1.out; have e2 := he.cell HKZ.out; go_simp; rfl); simp only [Act.put, List.setIfInBounds_toArray, List.set_cons_zero, List.set_cons_succ])
        (refine LexW.pure (v := ?_) rfl rfl (fun w1 he => ?_) ?_; rotate_left; ( have e1 := he.cell HK1.out; have e2 := he.cell HKZ.out; go_simp; rfl); simp only [Act.put, List.setIfInBounds_toArray, List.set_cons_zero, List.set_cons_succ])
        (refine LexW.pure (v := ?_) rfl rfl (fun w1 he => ?_) ?_; rotate_left; ( have e1 := he.cell HK1.out; have e2 := he.cell HKZ.out; go_simp; rfl); simp only [Act.put, List.setIfInBounds_toArray, List.set_cons_zero, List.set_cons_succ])
        (refine LexW.pure (v := ?_) rfl rfl (fun w1 he => ?_) ?_; rotate_left; ( have e1 := he.cell HK1.out; have e2 := he.cell HKZ.out; go_simp; rfl); simp only [Act.put, List.setIfInBounds_toArray, List.set_cons_zero, List.set_cons_succ])
        (refine LexW.pure (v := ?_) rfl rfl (fun w1 he => ?_) ?_; rotate_left; ( have e1 := he.cell HK1.out; have e2 := he.cell HKZ.out; go_simp; rfl); simp only [Act.put, List.setIfInBounds_toArray, List.set_cons_zero, List.set_cons_succ])
        (refine LexW.pure (v := ?_) rfl rfl (fun w1 he => ?_) ?_; rotate_left; ( have e1 := he.cell HK1.out; have e2 := he.cell HKZ.out; go_simp; rfl); simp only [Act.put, List.setIfInBounds_toArray, List.set_cons_zero, List.set_cons_succ])
        (refine LexW.pure (v := ?_) rfl rfl (fun w1 he => ?_) ?_; rotate_left; ( have e1 := he.cell HK1.out; have e2 := he.cell HKZ.out; go_simp; rfl); simp only [Act.put, List.setIfInBounds_toArray, List.set_cons_zero, List.set_cons_succ])
        (refine LexW.pure (v := ?_) rfl rfl (fun w1 he => ?_) ?_; rotate_left; ( have e1 := he.cell HK1.out; have e2 := he.cell HKZ.out; go_simp; rfl); simp only [Act.put, List.setIfInBounds_toArray, List.set_cons_zero, List.set_cons_succ])
        (refine LexW.skip rfl rfl ?_; simp only [Act.put, List.setIfInBounds_toArray, List.set_cons_zero, List.set_cons_succ])
        (refine LexW.skip rfl rfl ?_; simp only [Act.put, List.setIfInBounds_toArray, List.set_cons_zero, List.set_cons_succ])
        (refine LexW.skip rfl rfl ?_; simp only [Act.put, List.setIfInBounds_toArray, List.set_cons_zero, List.set_cons_succ])
        (refine LexW.skip rfl rfl ?_; simp only [Act.put, List.setIfInBounds_toArray, List.set_cons_zero, List.set_cons_succ])
        (refine LexW.skip rfl rfl ?_; simp only [Act.put, List.setIfInBounds_toArray, List.set_cons_zero, List.set_cons_succ])
        (refine LexW.skip rfl rfl ?_; simp only [Act.put, List.setIfInBounds_toArray, List.set_cons_zero, List.set_cons_succ])
        (refine LexW.skip rfl rfl ?_; simp only [Act.put, List.setIfInBounds_toArray, List.set_cons_zero, List.set_cons_succ])
        (refine LexW.pure (v := ?_) rfl rfl (fun w1 he => ?_) ?_; rotate_left; ( have e1 := he.cell HK1.out; have e2 := he.cell HKZ.out; go_simp; rfl); simp only [Act.put, List.setIfInBounds_toArray, List.set_cons_zero, List.set_cons_succ])
        refine LexW.nil (fun w3 he hkn => ?_)
        have HE := Lib.hid ((HY.out.trans (ext_drew y)).trans he)
        clear he hkn 
        rename World => z
        go_wp2_with (fail)
        go_ret
        exact ⟨ret_bool HB.out.symm, HE.out⟩
    · obtain rfl : k = n := by omega
      have HB := Lib.hid (show matB p rows = true by unfold matB; rw [table_yes HLN.out (by omega) HT.out, decide_eq_true (by rw [HLN.out]; omega)]; rfl)
      go_wp2_with (fail)
      go_ret
      exact ⟨ret_bool HB.out.symm, HY.out⟩
end Go.Proofs.Ytnabpmafcflljaa
