/-
  Contract: the reduced basis of rows, in the program and in the reference.
  No condition.
-/
import Derived.Test.YthimjfnmpicbiaaRowsC
import Derived.Test.YthimjfnmpicbiaaGauss
import Derived.RegionTactic
import Derived.ChangeAlike
namespace Go.Proofs.Ythimjfnmpicbiaa
set_option maxRecDepth 100000
open Go.RowKit

theorem ownR_put_len {p : Int} {m : Nat} {rows : List (List Int)} (h : RowsG p m rows) {n i : Nat} (hn : rows.length = n) (hi : i < n) : (nthR rows i).length = m := (h i (by omega)).1
theorem basis_nil {p : Int} {m : Nat} : basisL p m [] = [] := by unfold basisL; rw [List.take_of_length_le (by rw [gaussS_len]; exact Nat.zero_le _)]; have := gaussS_len (p := p) (m := m) (rows := []) m; exact List.length_eq_zero_iff.1 this

theorem swapL_at {rows : List (List Int)} {d j : Nat} (hd : d < rows.length) (hj : j < rows.length) : nthR (swapL rows d j) d = nthR rows j := by
  rw [swapL_nth hd hj]
  by_cases h : d = j
  · subst h; rw [if_pos rfl]
  · rw [if_neg h, if_pos rfl]
set_option maxHeartbeats 8000000 in
set_option maxRecDepth 100000 in
theorem c_basis (p : Int) (a : Option Addr) (n cap m : Nat) (rows : List (List Int)) (w : World) (hpr : primeB p = true) (hm : 0 < m) (hm2 : m ≤ 4096) (hl : n ≤ 4096) (hx : RdR w a n rows) (hg : RowsG p m rows) :
    Calls Try.prog 176 #[.int .i64 p, .slice a n cap] w fun e w' => ∃ g rc r, e = .returned (.slice (some ⟨g, 0, none⟩) r rc) ∧ OwnR w.heap.size w' (some ⟨g, 0, none⟩) r rc (basisL p m rows) ∧ Ext w w' := by
  have hpb := prime_bd hpr
  have HX := Lib.hid hx
  have HG := Lib.hid hg
  have HPR := Lib.hid hpr
  have HLN := Lib.hid hx.1
  have HRed := Lib.hid (fun k (hk : k ≤ m) => gaussS_red hpr hg k hk)
  clear hx hg hpr
  go_enter Try.func176, Try.ntmps176
  go_wp2_with (fail)
  refine (c_cloneRows a n cap m rows w hm (by omega) (by omega) (fun i hi => ownR_put_len HG.out HLN.out hi) HX.out).mono ?_
  rintro e w1 ⟨g, rc, rfl, ho, h1⟩
  have HO := Lib.hid ho
  have H1 := Lib.hid h1
  have hgw := Lib.hid (ho.base_of g rfl).1
  clear ho h1
  go_wp2_with (fail)
  go_loopw [6, 7] (fun dd kk wr => ∃ (k d : Nat) (R : List (List Int)), k ≤ m ∧ d ≤ n ∧ kk = .int .i64 k ∧ dd = .int .i64 d ∧ Hid (gaussS p m rows k = (R, d)) ∧ OwnR w.heap.size wr (some ⟨g, 0, none⟩) n rc R ∧ Ext w wr) (fun _ kk _ => m - (intOf kk).toNat)
  case atStart => exact ⟨0, 0, rows, Nat.zero_le _, Nat.zero_le _, rfl, rfl, Lib.hid rfl, HO.out, H1.out⟩
  case round =>
    obtain ⟨k, d, R, hk, hd, rfl, rfl, HS, hown, hext⟩ := hrel
    have HOwn := Lib.hid hown
    have HExt := Lib.hid hext
    have HRL := Lib.hid hown.1
    have HRG : Hid (RowsG p m R) := Lib.hid (by have := (HRed.out k hk).1; rw [HS.out] at this; exact this)
    clear hown hext
    by_cases hfin : n = 0 ∨ k = m ∨ d = n
    · have HRes : Hid (R.take d = basisL p m rows) := Lib.hid (by
        unfold basisL
        rcases hfin with h | h | h
        · have hr : rows = [] := List.length_eq_zero_iff.1 (by rw [HLN.out]; exact h)
          have hR : R = [] := List.length_eq_zero_iff.1 (by rw [HRL.out]; exact h)
          have h2 : (gaussS p m rows m).1 = [] := List.length_eq_zero_iff.1 (by rw [gaussS_len, hr]; rfl)
          rw [hR, h2]; simp
        · have hS := HS.out
          rw [h] at hS
          rw [hS]
        · have := gaussS_stop (p := p) (m := m) (rows := rows) (k := k) (by rw [HS.out, HLN.out]; exact h) (m - k)
          rw [Nat.add_sub_cancel' hk] at this
          rw [this, HS.out])
      by_cases hn0 : n = 0
      · have hd0 : d = 0 := by omega
        subst hd0
        subst hn0
        go_wp2_with (fail)
        go_ret
        exact ⟨g, rc, 0, rfl, by rw [← HRes.out]; exact HOwn.out.take (Nat.le_refl _), HExt.out⟩
      · obtain ⟨a0, c0, hc0, _⟩ := HOwn.out.at (show 0 < n by omega)
        rw [ownR_put_len HRG.out HRL.out (show 0 < n by omega)] at hc0
        have hcap : n ≤ rc := by obtain ⟨_, vs, h2, _⟩ := HOwn.out; rcases h2.2 with ⟨h3, _⟩ | ⟨_, _, _, h3, _, _, h4, _⟩; cases h3; cases h3; exact h4
        have hdc : (d : Int) ≤ (rc : Int) := by omega
        by_cases hkm : k = m
        · subst hkm
          go_wp2_with (fail)
          go_ret
          exact ⟨g, rc, d, rfl, by rw [← HRes.out]; exact HOwn.out.take hd, HExt.out⟩
        · have hdn : d = n := by omega
          have hkm' : k < m := by omega
          subst hdn
          go_wp2_with (fail)
          go_ret
          exact ⟨g, rc, d, rfl, by rw [← HRes.out]; exact HOwn.out.take hd, HExt.out⟩
    · have hkm : k < m := by omega
      have hdn : d < n := by omega
      have hn0 : 0 < n := by omega
      clear hfin
      obtain ⟨a0, c0, hc0, _⟩ := HOwn.out.at hn0
      rw [ownR_put_len HRG.out HRL.out hn0] at hc0
      go_wp2_with (fail)
      clear hc0
      go_loop [8] (fun i => ∃ j : Nat, d ≤ j ∧ j ≤ n ∧ i = .int .i64 j ∧ Hid (∀ t, d ≤ t → t < j → nth (nthR R t) k = 0)) (fun i => n - (intOf i).toNat)
      case atStart => exact ⟨d, Nat.le_refl _, hd, rfl, Lib.hid (fun t h1 h2 => by omega)⟩
      case round =>
        obtain ⟨j, hdj, hj, rfl, HZ⟩ := hrel
        by_cases hjn : j < n
        · obtain ⟨aj, cj, hcj, hoj⟩ := HOwn.out.at hjn
          rw [ownR_put_len HRG.out HRL.out hjn] at hcj hoj
          obtain ⟨bj, oj, rfl, hcjk⟩ := hoj.rd.2 k hkm
          by_cases hz : nth (nthR R j) k = 0
          · have hzb : (nth (nthR R j) k == 0) = true := by simp [hz]
            have HZ' := Lib.hid hz
            clear hz hoj
            go_wp2_with (fail)
            go_round
            case rel => exact ⟨j + 1, by omega, by omega, by go_num, Lib.hid (fun t h1 h2 => by
              by_cases htj : t = j
              · subst htj; exact HZ'.out
              · exact HZ.out t h1 (by omega))⟩
            case measure => simp [intOf]; omega
          · have hzb : (nth (nthR R j) k == 0) = false := by simp [hz]
            have hjb : ((j : Int) == (n : Int)) = false := by simp; omega
            have HPiv := Lib.hid (pivG_eq (rows := R) (k := k) (d := d) hdj (by rw [HRL.out]; exact hj) HZ.out (.inr hz))
            have HNZ := Lib.hid hz
            clear hz hoj
            go_wp2_with (fail)
            clear hcj hcjk
            obtain ⟨ad, cd, aj2, cj2, hcd, hcj2, hod, hoj2, hsw⟩ := HOwn.out.swap hdn hjn
            rw [ownR_put_len HRG.out HRL.out hdn, ownR_put_len HRG.out HRL.out hjn] at hsw
            rw [ownR_put_len HRG.out HRL.out hdn] at hcd hod
            rw [ownR_put_len HRG.out HRL.out hjn] at hcj2 hoj2
            have hfd := HOwn.out.frozen d
            have hfj := HOwn.out.frozen j
            have HOd := Lib.hid hod
            have HOj := Lib.hid hoj2
            have HSw := Lib.hid hsw
            clear hod hoj2 hsw
            have HNM := Lib.hid (HOwn.out.base_of g rfl)
            by_cases hdj2 : d = j
            · subst hdj2
              cases (hcd.symm.trans hcj2)
              go_region
              obtain ⟨W2, hW2⟩ : ∃ W2, W2 = ((wr.setCell ⟨g, d, none⟩ (.slice ad m cd)).setCell ⟨g, d, none⟩ (.slice ad m cd)).drew := ⟨_, rfl⟩
              have HOw2 : Hid (OwnR w.heap.size W2 (some ⟨g, 0, none⟩) n rc (swapL R d d)) := by rw [hW2]; exact HSw.out.ext (ext_drew _)
              have HE2 : Hid (Ext w W2) := by rw [hW2]; exact (((HExt.out.setCell HNM.out.1 _).setCell HNM.out.1 _).trans (ext_drew _))
              rw [← hW2]
              clear hW2 hcd hcj2 hfd hfj HSw HOd HOj
              have HR1 := Lib.hid (swapL_at (show d < R.length by rw [HRL.out]; exact hdn) (show d < R.length by rw [HRL.out]; exact hjn))
              have HXg := Lib.hid (HRG.out d (by rw [HRL.out]; exact hjn))
              obtain ⟨ax, cx, hcx, hox⟩ := HOw2.out.at hdn
              rw [HR1.out, HXg.out.1] at hcx hox
              obtain ⟨bx, ox, rfl, hck⟩ := hox.rd.2 k hkm
              have HXc := Lib.hid ((ext_drew W2).cell hcx)
              have HXk := Lib.hid ((ext_drew W2).cell hck)
              have HXr := Lib.hid (hox.rd.ext (ext_drew W2))
              have HZb := Lib.hid (HXg.out.2 k hkm)
              have HIb : Hid (-1000 ≤ invN p (nth (nthR R d) k) ∧ invN p (nth (nthR R d) k) ≤ 1000) := Lib.hid (by have := invN_bd (p := p) (a := nth (nthR R d) k) (by omega); omega)
              clear hcx hck hox
              go_wp2_with (fail)
              refine wp_region_lex_tail 18 [(15, .val (.int .i64 (invN p (nth (nthR R d) k)))), (16, .ownS W2.drew.heap.size m (scaleL p (nthR R d) (invN p (nth (nthR R d) k)) m))] (by kernel_rfl) (by kernel_rfl) ?_
              simp only [List.take, List.drop]
              (refine LexW.pure (v := ?_) rfl rfl (fun w1 he => ?_) ?_; rotate_left; ( have e1 := he.cell HXc.out; have e2 := he.cell HXk.out; go_simp; rfl); simp only [Act.put, List.setIfInBounds_toArray, List.set_cons_zero, List.set_cons_succ])
              (refine LexW.pure (v := ?_) rfl rfl (fun w1 he => ?_) ?_; rotate_left; ( have e1 := he.cell HXc.out; have e2 := he.cell HXk.out; go_simp; rfl); simp only [Act.put, List.setIfInBounds_toArray, List.set_cons_zero, List.set_cons_succ])
              (refine LexW.pure (v := ?_) rfl rfl (fun w1 he => ?_) ?_; rotate_left; ( have e1 := he.cell HXc.out; have e2 := he.cell HXk.out; go_simp; rfl); simp only [Act.put, List.setIfInBounds_toArray, List.set_cons_zero, List.set_cons_succ])
              (refine LexW.pure (v := ?_) rfl rfl (fun w1 he => ?_) ?_; rotate_left; ( have e1 := he.cell HXc.out; have e2 := he.cell HXk.out; go_simp; rfl); simp only [Act.put, List.setIfInBounds_toArray, List.set_cons_zero, List.set_cons_succ])
              (refine LexW.pure (v := ?_) rfl rfl (fun w1 he => ?_) ?_; rotate_left; ( have e1 := he.cell HXc.out; have e2 := he.cell HXk.out; go_simp; rfl); simp only [Act.put, List.setIfInBounds_toArray, List.set_cons_zero, List.set_cons_succ])
              (refine LexW.pure (v := ?_) rfl rfl (fun w1 he => ?_) ?_; rotate_left; ( have e1 := he.cell HXc.out; have e2 := he.cell HXk.out; go_simp; rfl); simp only [Act.put, List.setIfInBounds_toArray, List.set_cons_zero, List.set_cons_succ])
              (refine LexW.pure (v := ?_) rfl rfl (fun w1 he => ?_) ?_; rotate_left; ( have e1 := he.cell HXc.out; have e2 := he.cell HXk.out; go_simp; rfl); simp only [Act.put, List.setIfInBounds_toArray, List.set_cons_zero, List.set_cons_succ])
              (refine LexW.pure (v := ?_) rfl rfl (fun w1 he => ?_) ?_; rotate_left; ( have e1 := he.cell HXc.out; have e2 := he.cell HXk.out; go_simp; rfl); simp only [Act.put, List.setIfInBounds_toArray, List.set_cons_zero, List.set_cons_succ])
              (refine LexW.pure (v := ?_) rfl rfl (fun w1 he => ?_) ?_; rotate_left; ( have e1 := he.cell HXc.out; have e2 := he.cell HXk.out; go_simp; rfl); simp only [Act.put, List.setIfInBounds_toArray, List.set_cons_zero, List.set_cons_succ])
              (refine LexW.pure (v := ?_) rfl rfl (fun w1 he => ?_) ?_; rotate_left; ( have e1 := he.cell HXc.out; have e2 := he.cell HXk.out; go_simp; rfl); simp only [Act.put, List.setIfInBounds_toArray, List.set_cons_zero, List.set_cons_succ])
              (refine LexW.pure (v := ?_) rfl rfl (fun w1 he => ?_) ?_; rotate_left; ( have e1 := he.cell HXc.out; have e2 := he.cell HXk.out; go_simp; rfl); simp only [Act.put, List.setIfInBounds_toArray, List.set_cons_zero, List.set_cons_succ])
              (refine LexW.pure (v := ?_) rfl rfl (fun w1 he => ?_) ?_; rotate_left; ( have e1 := he.cell HXc.out; have e2 := he.cell HXk.out; go_simp; rfl); simp only [Act.put, List.setIfInBounds_toArray, List.set_cons_zero, List.set_cons_succ])
              (refine LexW.pure (v := ?_) rfl rfl (fun w1 he => ?_) ?_; rotate_left; ( have e1 := he.cell HXc.out; have e2 := he.cell HXk.out; go_simp; rfl); simp only [Act.put, List.setIfInBounds_toArray, List.set_cons_zero, List.set_cons_succ])
              (refine LexW.pure (v := ?_) rfl rfl (fun w1 he => ?_) ?_; rotate_left; ( have e1 := he.cell HXc.out; have e2 := he.cell HXk.out; go_simp; rfl); simp only [Act.put, List.setIfInBounds_toArray, List.set_cons_zero, List.set_cons_succ])
              (refine LexW.pure (v := ?_) rfl rfl (fun w1 he => ?_) ?_; rotate_left; ( have e1 := he.cell HXc.out; have e2 := he.cell HXk.out; go_simp; rfl); simp only [Act.put, List.setIfInBounds_toArray, List.set_cons_zero, List.set_cons_succ])
              (refine LexW.call (f := ?_) (args := ?_) rfl rfl (fun w1 => ?_) (fun w1 he hdep => ?_) ?_; rotate_left 2; (go_simp; refine ⟨?_, ?_⟩ <;> rfl); ( exact c_inv p _ w1 (by omega) (by omega) HZb.out.1 HZb.out.2); simp only [Act.put, List.setIfInBounds_toArray, List.set_cons_zero, List.set_cons_succ])
              (refine LexW.callR (f := ?_) (args := ?_) rfl rfl (fun w1 => ?_) (fun w1 he hdep => ?_) (fun v hv => ?_); rotate_left 2; (go_simp; refine ⟨?_, ?_⟩ <;> rfl); ( refine (c_scaled p _ m _ (nthR R d) (invN p (nth (nthR R d) k)) w1 (by omega) (by omega) HIb.out (by omega) (HXr.out.ext he) HXg.out).mono ?_; rintro e w2 ⟨g, rc, rfl, ho, g2⟩; exact ⟨_, rfl, g2, g, rc, rfl, ho.mono he.size⟩); simp only [Act.put, List.setIfInBounds_toArray, List.set_cons_zero, List.set_cons_succ])
              obtain ⟨_, g82, c82, rfl, _⟩ := hv
              (refine LexW.pure (v := ?_) rfl rfl (fun w1 he => ?_) ?_; rotate_left; ( have e1 := he.cell HXc.out; have e2 := he.cell HXk.out; go_simp; rfl); simp only [Act.put, List.setIfInBounds_toArray, List.set_cons_zero, List.set_cons_succ])
              refine LexW.nil (fun w3 he hkn => ?_)
              obtain ⟨_, _, q82, r82⟩ : (SPred.ownS W2.drew.heap.size m (scaleL p (nthR R d) (invN p (nth (nthR R d) k)) m)).holds (.slice (some ⟨g82, 0, none⟩) m c82) w3 := hkn (16, _) (by simp)
              cases q82
              have R82 := Lib.hid r82
              have HE := Lib.hid he
              clear he hkn r82
              have ow3 := (HOw2.out.ext (ext_drew W2)).ext HE.out
              obtain ⟨ay, cy, hcy, _⟩ := ow3.at hdn
              have hfy := ow3.frozen d
              clear ow3
              go_wp2_with (fail)
              obtain ⟨W3, hW3⟩ : ∃ W3, W3 = w3.setCell ⟨g, d, none⟩ (.slice (some ⟨g82, 0, none⟩) m c82) := ⟨_, rfl⟩
              have HOw3 : Hid (OwnR w.heap.size W3 (some ⟨g, 0, none⟩) n rc (upG p m R d k d)) := by rw [hW3]; exact (HOw2.out.ext (ext_drew W2)).put HE.out (HE2.out.trans (ext_drew W2)).size R82.out hdn
              have HE3 : Hid (Ext w W3) := by rw [hW3]; exact (HE2.out.trans ((ext_drew W2).trans HE.out)).setCell HNM.out.1 _
              rw [← hW3]
              clear hW3 hcy hfy R82 HE HXc HXk HXr HOw2 HE2
              have HUG := Lib.hid (upG_good (k := k) (show 1 ≤ p by omega) HRG.out (show d < R.length by rw [HRL.out]; exact hdn) (show d < R.length by rw [HRL.out]; exact hjn))
              have HUL := Lib.hid (show (upG p m R d k d).length = n by rw [upG_len, HRL.out])
              obtain ⟨U, hU⟩ : ∃ U, U = upG p m R d k d := ⟨_, rfl⟩
              have HU := Lib.hid hU
              rw [← hU] at HOw3 HUG HUL
              clear hU
              go_loopw [86] (fun i wr => ∃ (r : Nat) (C : List (List Int)), r ≤ n ∧ i = .int .i64 r ∧ Hid (C = clrS p k m d U r) ∧ OwnR w.heap.size wr (some ⟨g, 0, none⟩) n rc C ∧ Ext w wr) (fun i _ => n - (intOf i).toNat)
              case atStart => exact ⟨0, U, Nat.zero_le _, rfl, Lib.hid rfl, HOw3.out, HE3.out⟩
              case round =>
                obtain ⟨r, C, hr, rfl, HC, hown, hext⟩ := hrel
                have HCo := Lib.hid hown
                have HCe := Lib.hid hext
                have HCg : Hid (RowsG p m C) := Lib.hid (by rw [HC.out]; exact clrS_good (by omega) HUG.out r)
                have HCl : Hid (C.length = n) := Lib.hid hown.1
                clear hown hext
                by_cases hrn : r < n
                · by_cases hrd : r = d
                  · have hrb : ((r : Int) != (d : Int)) = false := by simp [hrd]
                    have HRD := Lib.hid hrd
                    clear hrd
                    go_wp2_with (fail)
                    go_roundw
                    case rel => exact ⟨r + 1, C, by omega, by go_num, Lib.hid (by rw [HC.out, clrS_self HRD.out]), HCo.out, HCe.out⟩
                    case measure => simp [intOf]; omega
                  · have hrb : ((r : Int) != (d : Int)) = true := by simp; omega
                    obtain ⟨ar, cr, hcr, hor⟩ := HCo.out.at hrn
                    rw [ownR_put_len HCg.out HCl.out hrn] at hcr hor
                    obtain ⟨br, or, rfl, hcrk⟩ := hor.rd.2 k hkm
                    by_cases hz : nth (nthR C r) k = 0
                    · have hzb : (nth (nthR C r) k != 0) = false := by simp [hz]
                      have HZ0 := Lib.hid hz
                      clear hz hor
                      go_wp2_with (fail)
                      go_roundw
                      case rel => exact ⟨r + 1, C, by omega, by go_num, Lib.hid (by rw [clrS_zero (by omega) HUG.out (by rw [HUL.out]; exact hrn) (by rw [← HC.out]; exact HZ0.out)]; exact HC.out), HCo.out, HCe.out⟩
                      case measure => simp [intOf]; omega
                    · have hzb : (nth (nthR C r) k != 0) = true := by simp [hz]
                      have HRd0 := Lib.hid hrd
                      obtain ⟨ad2, cd2, hcd2, hod2⟩ := HCo.out.at hdn
                      rw [ownR_put_len HCg.out HCl.out hdn] at hcd2 hod2
                      have HRr := Lib.hid (hor.rd.ext (ext_drew wr))
                      have HRd := Lib.hid (hod2.rd.ext (ext_drew wr))
                      have HCr := Lib.hid ((ext_drew wr).cell hcr)
                      have HCd := Lib.hid ((ext_drew wr).cell hcd2)
                      have HCk := Lib.hid ((ext_drew wr).cell hcrk)
                      have HGr := Lib.hid (HCg.out r (by rw [HCl.out]; exact hrn))
                      have HGd := Lib.hid (HCg.out d (by rw [HCl.out]; exact hdn))
                      have HZr := Lib.hid (HGr.out.2 k hkm)
                      have HNeg : Hid (IntKind.i64.wrap (-(nth (nthR C r) k)) = -(nth (nthR C r) k)) := Lib.hid (IntWalk.i64_in _ (by have := HZr.out; omega))
                      clear hz hor hod2 hcd2
                      go_wp2_with (fail)
                      clear hcr hcrk
                      refine wp_region_lex_tail 21 [(19, .ownS wr.drew.heap.size m (plusL p (nthR C r) (nthR C d) (-(nth (nthR C r) k)) m))] (by kernel_rfl) (by kernel_rfl) ?_
                      simp only [List.take, List.drop]
                      (refine LexW.pure (v := ?_) rfl rfl (fun w1 he => ?_) ?_; rotate_left; ( have e1 := he.cell HCr.out; have e2 := he.cell HCd.out; have e3 := he.cell HCk.out; have e4 := HNeg.out; go_simp; rfl); simp only [Act.put, List.setIfInBounds_toArray, List.set_cons_zero, List.set_cons_succ])
                      (refine LexW.pure (v := ?_) rfl rfl (fun w1 he => ?_) ?_; rotate_left; ( have e1 := he.cell HCr.out; have e2 := he.cell HCd.out; have e3 := he.cell HCk.out; have e4 := HNeg.out; go_simp; rfl); simp only [Act.put, List.setIfInBounds_toArray, List.set_cons_zero, List.set_cons_succ])
                      (refine LexW.pure (v := ?_) rfl rfl (fun w1 he => ?_) ?_; rotate_left; ( have e1 := he.cell HCr.out; have e2 := he.cell HCd.out; have e3 := he.cell HCk.out; have e4 := HNeg.out; go_simp; rfl); simp only [Act.put, List.setIfInBounds_toArray, List.set_cons_zero, List.set_cons_succ])
                      (refine LexW.pure (v := ?_) rfl rfl (fun w1 he => ?_) ?_; rotate_left; ( have e1 := he.cell HCr.out; have e2 := he.cell HCd.out; have e3 := he.cell HCk.out; have e4 := HNeg.out; go_simp; rfl); simp only [Act.put, List.setIfInBounds_toArray, List.set_cons_zero, List.set_cons_succ])
                      (refine LexW.pure (v := ?_) rfl rfl (fun w1 he => ?_) ?_; rotate_left; ( have e1 := he.cell HCr.out; have e2 := he.cell HCd.out; have e3 := he.cell HCk.out; have e4 := HNeg.out; go_simp; rfl); simp only [Act.put, List.setIfInBounds_toArray, List.set_cons_zero, List.set_cons_succ])
                      (refine LexW.pure (v := ?_) rfl rfl (fun w1 he => ?_) ?_; rotate_left; ( have e1 := he.cell HCr.out; have e2 := he.cell HCd.out; have e3 := he.cell HCk.out; have e4 := HNeg.out; go_simp; rfl); simp only [Act.put, List.setIfInBounds_toArray, List.set_cons_zero, List.set_cons_succ])
                      (refine LexW.pure (v := ?_) rfl rfl (fun w1 he => ?_) ?_; rotate_left; ( have e1 := he.cell HCr.out; have e2 := he.cell HCd.out; have e3 := he.cell HCk.out; have e4 := HNeg.out; go_simp; rfl); simp only [Act.put, List.setIfInBounds_toArray, List.set_cons_zero, List.set_cons_succ])
                      (refine LexW.pure (v := ?_) rfl rfl (fun w1 he => ?_) ?_; rotate_left; ( have e1 := he.cell HCr.out; have e2 := he.cell HCd.out; have e3 := he.cell HCk.out; have e4 := HNeg.out; go_simp; rfl); simp only [Act.put, List.setIfInBounds_toArray, List.set_cons_zero, List.set_cons_succ])
                      (refine LexW.pure (v := ?_) rfl rfl (fun w1 he => ?_) ?_; rotate_left; ( have e1 := he.cell HCr.out; have e2 := he.cell HCd.out; have e3 := he.cell HCk.out; have e4 := HNeg.out; go_simp; rfl); simp only [Act.put, List.setIfInBounds_toArray, List.set_cons_zero, List.set_cons_succ])
                      (refine LexW.pure (v := ?_) rfl rfl (fun w1 he => ?_) ?_; rotate_left; ( have e1 := he.cell HCr.out; have e2 := he.cell HCd.out; have e3 := he.cell HCk.out; have e4 := HNeg.out; go_simp; rfl); simp only [Act.put, List.setIfInBounds_toArray, List.set_cons_zero, List.set_cons_succ])
                      (refine LexW.pure (v := ?_) rfl rfl (fun w1 he => ?_) ?_; rotate_left; ( have e1 := he.cell HCr.out; have e2 := he.cell HCd.out; have e3 := he.cell HCk.out; have e4 := HNeg.out; go_simp; rfl); simp only [Act.put, List.setIfInBounds_toArray, List.set_cons_zero, List.set_cons_succ])
                      (refine LexW.pure (v := ?_) rfl rfl (fun w1 he => ?_) ?_; rotate_left; ( have e1 := he.cell HCr.out; have e2 := he.cell HCd.out; have e3 := he.cell HCk.out; have e4 := HNeg.out; go_simp; rfl); simp only [Act.put, List.setIfInBounds_toArray, List.set_cons_zero, List.set_cons_succ])
                      (refine LexW.pure (v := ?_) rfl rfl (fun w1 he => ?_) ?_; rotate_left; ( have e1 := he.cell HCr.out; have e2 := he.cell HCd.out; have e3 := he.cell HCk.out; have e4 := HNeg.out; go_simp; rfl); simp only [Act.put, List.setIfInBounds_toArray, List.set_cons_zero, List.set_cons_succ])
                      (refine LexW.pure (v := ?_) rfl rfl (fun w1 he => ?_) ?_; rotate_left; ( have e1 := he.cell HCr.out; have e2 := he.cell HCd.out; have e3 := he.cell HCk.out; have e4 := HNeg.out; go_simp; rfl); simp only [Act.put, List.setIfInBounds_toArray, List.set_cons_zero, List.set_cons_succ])
                      (refine LexW.pure (v := ?_) rfl rfl (fun w1 he => ?_) ?_; rotate_left; ( have e1 := he.cell HCr.out; have e2 := he.cell HCd.out; have e3 := he.cell HCk.out; have e4 := HNeg.out; go_simp; rfl); simp only [Act.put, List.setIfInBounds_toArray, List.set_cons_zero, List.set_cons_succ])
                      (refine LexW.pure (v := ?_) rfl rfl (fun w1 he => ?_) ?_; rotate_left; ( have e1 := he.cell HCr.out; have e2 := he.cell HCd.out; have e3 := he.cell HCk.out; have e4 := HNeg.out; go_simp; rfl); simp only [Act.put, List.setIfInBounds_toArray, List.set_cons_zero, List.set_cons_succ])
                      (refine LexW.pure (v := ?_) rfl rfl (fun w1 he => ?_) ?_; rotate_left; ( have e1 := he.cell HCr.out; have e2 := he.cell HCd.out; have e3 := he.cell HCk.out; have e4 := HNeg.out; go_simp; rfl); simp only [Act.put, List.setIfInBounds_toArray, List.set_cons_zero, List.set_cons_succ])
                      (refine LexW.pure (v := ?_) rfl rfl (fun w1 he => ?_) ?_; rotate_left; ( have e1 := he.cell HCr.out; have e2 := he.cell HCd.out; have e3 := he.cell HCk.out; have e4 := HNeg.out; go_simp; rfl); simp only [Act.put, List.setIfInBounds_toArray, List.set_cons_zero, List.set_cons_succ])
                      (refine LexW.pure (v := ?_) rfl rfl (fun w1 he => ?_) ?_; rotate_left; ( have e1 := he.cell HCr.out; have e2 := he.cell HCd.out; have e3 := he.cell HCk.out; have e4 := HNeg.out; go_simp; rfl); simp only [Act.put, List.setIfInBounds_toArray, List.set_cons_zero, List.set_cons_succ])
                      (refine LexW.callR (f := ?_) (args := ?_) rfl rfl (fun w1 => ?_) (fun w1 he hdep => ?_) (fun v hv => ?_); rotate_left 2; (go_simp; refine ⟨?_, ?_⟩ <;> rfl); ( refine (c_plus p _ _ m _ _ (nthR C r) (nthR C d) (-(nth (nthR C r) k)) w1 (by omega) (by omega) (by have := HZr.out; omega) (by omega) (HRr.out.ext he) (HRd.out.ext he) HGr.out HGd.out).mono ?_; rintro e w2 ⟨g, rc, rfl, ho, g2⟩; exact ⟨_, rfl, g2, g, rc, rfl, ho.mono he.size⟩); simp only [Act.put, List.setIfInBounds_toArray, List.set_cons_zero, List.set_cons_succ])
                      obtain ⟨_, g121, c121, rfl, _⟩ := hv
                      (refine LexW.pure (v := ?_) rfl rfl (fun w1 he => ?_) ?_; rotate_left; ( have e1 := he.cell HCr.out; have e2 := he.cell HCd.out; have e3 := he.cell HCk.out; have e4 := HNeg.out; go_simp; rfl); simp only [Act.put, List.setIfInBounds_toArray, List.set_cons_zero, List.set_cons_succ])
                      refine LexW.nil (fun w3 he hkn => ?_)
                      obtain ⟨_, _, q121, r121⟩ : (SPred.ownS wr.drew.heap.size m (plusL p (nthR C r) (nthR C d) (-(nth (nthR C r) k)) m)).holds (.slice (some ⟨g121, 0, none⟩) m c121) w3 := hkn (19, _) (by simp)
                      cases q121
                      have R121 := Lib.hid r121
                      have HE := Lib.hid he
                      clear he hkn r121
                      have ow4 := (HCo.out.ext (ext_drew wr)).ext HE.out
                      obtain ⟨ay, cy, hcy, _⟩ := ow4.at hrn
                      have hfy := ow4.frozen r
                      clear ow4
                      go_wp2_with (fail)
                      go_roundw
                      case rel => exact ⟨r + 1, C.set r (plusL p (nthR C r) (nthR C d) (-(nth (nthR C r) k)) m), by omega, by go_num, Lib.hid (by rw [clrS_ne HRd0.out, ← HC.out]), (HCo.out.ext (ext_drew wr)).put HE.out (HCe.out.trans (ext_drew wr)).size R121.out hrn, (HCe.out.trans ((ext_drew wr).trans HE.out)).setCell HNM.out.1 _⟩
                      case measure => simp [intOf]; omega
                · obtain rfl : r = n := by omega
                  go_wp2_with (fail)
                  go_roundw
                  case rel => exact ⟨k + 1, d + 1, C, by omega, by omega, by go_num, by go_num, Lib.hid (by
                    show stepG p m (gaussS p m rows k) k = _
                    rw [HS.out, stepG_yes (s := (R, d)) HPiv.out (by rw [HRL.out]; exact hjn), HC.out, HU.out, HRL.out]), HCo.out, HCe.out⟩
                  case measure => simp [intOf]; omega
            · have hne : ¬ j = d := fun e => hdj2 e.symm
              go_region
              obtain ⟨W2, hW2⟩ : ∃ W2, W2 = ((wr.setCell ⟨g, d, none⟩ (.slice aj2 m cj2)).setCell ⟨g, j, none⟩ (.slice ad m cd)).drew := ⟨_, rfl⟩
              have HOw2 : Hid (OwnR w.heap.size W2 (some ⟨g, 0, none⟩) n rc (swapL R d j)) := by rw [hW2]; exact HSw.out.ext (ext_drew _)
              have HE2 : Hid (Ext w W2) := by rw [hW2]; exact (((HExt.out.setCell HNM.out.1 _).setCell HNM.out.1 _).trans (ext_drew _))
              rw [← hW2]
              clear hW2 hcd hcj2 hfd hfj HSw HOd HOj
              have HR1 := Lib.hid (swapL_at (show d < R.length by rw [HRL.out]; exact hdn) (show j < R.length by rw [HRL.out]; exact hjn))
              have HXg := Lib.hid (HRG.out j (by rw [HRL.out]; exact hjn))
              obtain ⟨ax, cx, hcx, hox⟩ := HOw2.out.at hdn
              rw [HR1.out, HXg.out.1] at hcx hox
              obtain ⟨bx, ox, rfl, hck⟩ := hox.rd.2 k hkm
              have HXc := Lib.hid ((ext_drew W2).cell hcx)
              have HXk := Lib.hid ((ext_drew W2).cell hck)
              have HXr := Lib.hid (hox.rd.ext (ext_drew W2))
              have HZb := Lib.hid (HXg.out.2 k hkm)
              have HIb : Hid (-1000 ≤ invN p (nth (nthR R j) k) ∧ invN p (nth (nthR R j) k) ≤ 1000) := Lib.hid (by have := invN_bd (p := p) (a := nth (nthR R j) k) (by omega); omega)
              clear hcx hck hox
              go_wp2_with (fail)
              refine wp_region_lex_tail 18 [(15, .val (.int .i64 (invN p (nth (nthR R j) k)))), (16, .ownS W2.drew.heap.size m (scaleL p (nthR R j) (invN p (nth (nthR R j) k)) m))] (by kernel_rfl) (by kernel_rfl) ?_
              simp only [List.take, List.drop]
              (refine LexW.pure (v := ?_) rfl rfl (fun w1 he => ?_) ?_; rotate_left; ( have e1 := he.cell HXc.out; have e2 := he.cell HXk.out; go_simp; rfl); simp only [Act.put, List.setIfInBounds_toArray, List.set_cons_zero, List.set_cons_succ])
              (refine LexW.pure (v := ?_) rfl rfl (fun w1 he => ?_) ?_; rotate_left; ( have e1 := he.cell HXc.out; have e2 := he.cell HXk.out; go_simp; rfl); simp only [Act.put, List.setIfInBounds_toArray, List.set_cons_zero, List.set_cons_succ])
              (refine LexW.pure (v := ?_) rfl rfl (fun w1 he => ?_) ?_; rotate_left; ( have e1 := he.cell HXc.out; have e2 := he.cell HXk.out; go_simp; rfl); simp only [Act.put, List.setIfInBounds_toArray, List.set_cons_zero, List.set_cons_succ])
              (refine LexW.pure (v := ?_) rfl rfl (fun w1 he => ?_) ?_; rotate_left; ( have e1 := he.cell HXc.out; have e2 := he.cell HXk.out; go_simp; rfl); simp only [Act.put, List.setIfInBounds_toArray, List.set_cons_zero, List.set_cons_succ])
              (refine LexW.pure (v := ?_) rfl rfl (fun w1 he => ?_) ?_; rotate_left; ( have e1 := he.cell HXc.out; have e2 := he.cell HXk.out; go_simp; rfl); simp only [Act.put, List.setIfInBounds_toArray, List.set_cons_zero, List.set_cons_succ])
              (refine LexW.pure (v := ?_) rfl rfl (fun w1 he => ?_) ?_; rotate_left; ( have e1 := he.cell HXc.out; have e2 := he.cell HXk.out; go_simp; rfl); simp only [Act.put, List.setIfInBounds_toArray, List.set_cons_zero, List.set_cons_succ])
              (refine LexW.pure (v := ?_) rfl rfl (fun w1 he => ?_) ?_; rotate_left; ( have e1 := he.cell HXc.out; have e2 := he.cell HXk.out; go_simp; rfl); simp only [Act.put, List.setIfInBounds_toArray, List.set_cons_zero, List.set_cons_succ])
              (refine LexW.pure (v := ?_) rfl rfl (fun w1 he => ?_) ?_; rotate_left; ( have e1 := he.cell HXc.out; have e2 := he.cell HXk.out; go_simp; rfl); simp only [Act.put, List.setIfInBounds_toArray, List.set_cons_zero, List.set_cons_succ])
              (refine LexW.pure (v := ?_) rfl rfl (fun w1 he => ?_) ?_; rotate_left; ( have e1 := he.cell HXc.out; have e2 := he.cell HXk.out; go_simp; rfl); simp only [Act.put, List.setIfInBounds_toArray, List.set_cons_zero, List.set_cons_succ])
              (refine LexW.pure (v := ?_) rfl rfl (fun w1 he => ?_) ?_; rotate_left; ( have e1 := he.cell HXc.out; have e2 := he.cell HXk.out; go_simp; rfl); simp only [Act.put, List.setIfInBounds_toArray, List.set_cons_zero, List.set_cons_succ])
              (refine LexW.pure (v := ?_) rfl rfl (fun w1 he => ?_) ?_; rotate_left; ( have e1 := he.cell HXc.out; have e2 := he.cell HXk.out; go_simp; rfl); simp only [Act.put, List.setIfInBounds_toArray, List.set_cons_zero, List.set_cons_succ])
              (refine LexW.pure (v := ?_) rfl rfl (fun w1 he => ?_) ?_; rotate_left; ( have e1 := he.cell HXc.out; have e2 := he.cell HXk.out; go_simp; rfl); simp only [Act.put, List.setIfInBounds_toArray, List.set_cons_zero, List.set_cons_succ])
              (refine LexW.pure (v := ?_) rfl rfl (fun w1 he => ?_) ?_; rotate_left; ( have e1 := he.cell HXc.out; have e2 := he.cell HXk.out; go_simp; rfl); simp only [Act.put, List.setIfInBounds_toArray, List.set_cons_zero, List.set_cons_succ])
              (refine LexW.pure (v := ?_) rfl rfl (fun w1 he => ?_) ?_; rotate_left; ( have e1 := he.cell HXc.out; have e2 := he.cell HXk.out; go_simp; rfl); simp only [Act.put, List.setIfInBounds_toArray, List.set_cons_zero, List.set_cons_succ])
              (refine LexW.pure (v := ?_) rfl rfl (fun w1 he => ?_) ?_; rotate_left; ( have e1 := he.cell HXc.out; have e2 := he.cell HXk.out; go_simp; rfl); simp only [Act.put, List.setIfInBounds_toArray, List.set_cons_zero, List.set_cons_succ])
              (refine LexW.call (f := ?_) (args := ?_) rfl rfl (fun w1 => ?_) (fun w1 he hdep => ?_) ?_; rotate_left 2; (go_simp; refine ⟨?_, ?_⟩ <;> rfl); ( exact c_inv p _ w1 (by omega) (by omega) HZb.out.1 HZb.out.2); simp only [Act.put, List.setIfInBounds_toArray, List.set_cons_zero, List.set_cons_succ])
              (refine LexW.callR (f := ?_) (args := ?_) rfl rfl (fun w1 => ?_) (fun w1 he hdep => ?_) (fun v hv => ?_); rotate_left 2; (go_simp; refine ⟨?_, ?_⟩ <;> rfl); ( refine (c_scaled p _ m _ (nthR R j) (invN p (nth (nthR R j) k)) w1 (by omega) (by omega) HIb.out (by omega) (HXr.out.ext he) HXg.out).mono ?_; rintro e w2 ⟨g, rc, rfl, ho, g2⟩; exact ⟨_, rfl, g2, g, rc, rfl, ho.mono he.size⟩); simp only [Act.put, List.setIfInBounds_toArray, List.set_cons_zero, List.set_cons_succ])
              obtain ⟨_, g82, c82, rfl, _⟩ := hv
              (refine LexW.pure (v := ?_) rfl rfl (fun w1 he => ?_) ?_; rotate_left; ( have e1 := he.cell HXc.out; have e2 := he.cell HXk.out; go_simp; rfl); simp only [Act.put, List.setIfInBounds_toArray, List.set_cons_zero, List.set_cons_succ])
              refine LexW.nil (fun w3 he hkn => ?_)
              obtain ⟨_, _, q82, r82⟩ : (SPred.ownS W2.drew.heap.size m (scaleL p (nthR R j) (invN p (nth (nthR R j) k)) m)).holds (.slice (some ⟨g82, 0, none⟩) m c82) w3 := hkn (16, _) (by simp)
              cases q82
              have R82 := Lib.hid r82
              have HE := Lib.hid he
              clear he hkn r82
              have ow3 := (HOw2.out.ext (ext_drew W2)).ext HE.out
              obtain ⟨ay, cy, hcy, _⟩ := ow3.at hdn
              have hfy := ow3.frozen d
              clear ow3
              go_wp2_with (fail)
              obtain ⟨W3, hW3⟩ : ∃ W3, W3 = w3.setCell ⟨g, d, none⟩ (.slice (some ⟨g82, 0, none⟩) m c82) := ⟨_, rfl⟩
              have HOw3 : Hid (OwnR w.heap.size W3 (some ⟨g, 0, none⟩) n rc (upG p m R d k j)) := by rw [hW3]; exact (HOw2.out.ext (ext_drew W2)).put HE.out (HE2.out.trans (ext_drew W2)).size R82.out hdn
              have HE3 : Hid (Ext w W3) := by rw [hW3]; exact (HE2.out.trans ((ext_drew W2).trans HE.out)).setCell HNM.out.1 _
              rw [← hW3]
              clear hW3 hcy hfy R82 HE HXc HXk HXr HOw2 HE2
              have HUG := Lib.hid (upG_good (k := k) (show 1 ≤ p by omega) HRG.out (show d < R.length by rw [HRL.out]; exact hdn) (show j < R.length by rw [HRL.out]; exact hjn))
              have HUL := Lib.hid (show (upG p m R d k j).length = n by rw [upG_len, HRL.out])
              obtain ⟨U, hU⟩ : ∃ U, U = upG p m R d k j := ⟨_, rfl⟩
              have HU := Lib.hid hU
              rw [← hU] at HOw3 HUG HUL
              clear hU
              go_loopw [86] (fun i wr => ∃ (r : Nat) (C : List (List Int)), r ≤ n ∧ i = .int .i64 r ∧ Hid (C = clrS p k m d U r) ∧ OwnR w.heap.size wr (some ⟨g, 0, none⟩) n rc C ∧ Ext w wr) (fun i _ => n - (intOf i).toNat)
              case atStart => exact ⟨0, U, Nat.zero_le _, rfl, Lib.hid rfl, HOw3.out, HE3.out⟩
              case round =>
                obtain ⟨r, C, hr, rfl, HC, hown, hext⟩ := hrel
                have HCo := Lib.hid hown
                have HCe := Lib.hid hext
                have HCg : Hid (RowsG p m C) := Lib.hid (by rw [HC.out]; exact clrS_good (by omega) HUG.out r)
                have HCl : Hid (C.length = n) := Lib.hid hown.1
                clear hown hext
                by_cases hrn : r < n
                · by_cases hrd : r = d
                  · have hrb : ((r : Int) != (d : Int)) = false := by simp [hrd]
                    have HRD := Lib.hid hrd
                    clear hrd
                    go_wp2_with (fail)
                    go_roundw
                    case rel => exact ⟨r + 1, C, by omega, by go_num, Lib.hid (by rw [HC.out, clrS_self HRD.out]), HCo.out, HCe.out⟩
                    case measure => simp [intOf]; omega
                  · have hrb : ((r : Int) != (d : Int)) = true := by simp; omega
                    obtain ⟨ar, cr, hcr, hor⟩ := HCo.out.at hrn
                    rw [ownR_put_len HCg.out HCl.out hrn] at hcr hor
                    obtain ⟨br, or, rfl, hcrk⟩ := hor.rd.2 k hkm
                    by_cases hz : nth (nthR C r) k = 0
                    · have hzb : (nth (nthR C r) k != 0) = false := by simp [hz]
                      have HZ0 := Lib.hid hz
                      clear hz hor
                      go_wp2_with (fail)
                      go_roundw
                      case rel => exact ⟨r + 1, C, by omega, by go_num, Lib.hid (by rw [clrS_zero (by omega) HUG.out (by rw [HUL.out]; exact hrn) (by rw [← HC.out]; exact HZ0.out)]; exact HC.out), HCo.out, HCe.out⟩
                      case measure => simp [intOf]; omega
                    · have hzb : (nth (nthR C r) k != 0) = true := by simp [hz]
                      have HRd0 := Lib.hid hrd
                      obtain ⟨ad2, cd2, hcd2, hod2⟩ := HCo.out.at hdn
                      rw [ownR_put_len HCg.out HCl.out hdn] at hcd2 hod2
                      have HRr := Lib.hid (hor.rd.ext (ext_drew wr))
                      have HRd := Lib.hid (hod2.rd.ext (ext_drew wr))
                      have HCr := Lib.hid ((ext_drew wr).cell hcr)
                      have HCd := Lib.hid ((ext_drew wr).cell hcd2)
                      have HCk := Lib.hid ((ext_drew wr).cell hcrk)
                      have HGr := Lib.hid (HCg.out r (by rw [HCl.out]; exact hrn))
                      have HGd := Lib.hid (HCg.out d (by rw [HCl.out]; exact hdn))
                      have HZr := Lib.hid (HGr.out.2 k hkm)
                      have HNeg : Hid (IntKind.i64.wrap (-(nth (nthR C r) k)) = -(nth (nthR C r) k)) := Lib.hid (IntWalk.i64_in _ (by have := HZr.out; omega))
                      clear hz hor hod2 hcd2
                      go_wp2_with (fail)
                      clear hcr hcrk
                      refine wp_region_lex_tail 21 [(19, .ownS wr.drew.heap.size m (plusL p (nthR C r) (nthR C d) (-(nth (nthR C r) k)) m))] (by kernel_rfl) (by kernel_rfl) ?_
                      simp only [List.take, List.drop]
                      (refine LexW.pure (v := ?_) rfl rfl (fun w1 he => ?_) ?_; rotate_left; ( have e1 := he.cell HCr.out; have e2 := he.cell HCd.out; have e3 := he.cell HCk.out; have e4 := HNeg.out; go_simp; rfl); simp only [Act.put, List.setIfInBounds_toArray, List.set_cons_zero, List.set_cons_succ])
                      (refine LexW.pure (v := ?_) rfl rfl (fun w1 he => ?_) ?_; rotate_left; ( have e1 := he.cell HCr.out; have e2 := he.cell HCd.out; have e3 := he.cell HCk.out; have e4 := HNeg.out; go_simp; rfl); simp only [Act.put, List.setIfInBounds_toArray, List.set_cons_zero, List.set_cons_succ])
                      (refine LexW.pure (v := ?_) rfl rfl (fun w1 he => ?_) ?_; rotate_left; ( have e1 := he.cell HCr.out; have e2 := he.cell HCd.out; have e3 := he.cell HCk.out; have e4 := HNeg.out; go_simp; rfl); simp only [Act.put, List.setIfInBounds_toArray, List.set_cons_zero, List.set_cons_succ])
                      (refine LexW.pure (v := ?_) rfl rfl (fun w1 he => ?_) ?_; rotate_left; ( have e1 := he.cell HCr.out; have e2 := he.cell HCd.out; have e3 := he.cell HCk.out; have e4 := HNeg.out; go_simp; rfl); simp only [Act.put, List.setIfInBounds_toArray, List.set_cons_zero, List.set_cons_succ])
                      (refine LexW.pure (v := ?_) rfl rfl (fun w1 he => ?_) ?_; rotate_left; ( have e1 := he.cell HCr.out; have e2 := he.cell HCd.out; have e3 := he.cell HCk.out; have e4 := HNeg.out; go_simp; rfl); simp only [Act.put, List.setIfInBounds_toArray, List.set_cons_zero, List.set_cons_succ])
                      (refine LexW.pure (v := ?_) rfl rfl (fun w1 he => ?_) ?_; rotate_left; ( have e1 := he.cell HCr.out; have e2 := he.cell HCd.out; have e3 := he.cell HCk.out; have e4 := HNeg.out; go_simp; rfl); simp only [Act.put, List.setIfInBounds_toArray, List.set_cons_zero, List.set_cons_succ])
                      (refine LexW.pure (v := ?_) rfl rfl (fun w1 he => ?_) ?_; rotate_left; ( have e1 := he.cell HCr.out; have e2 := he.cell HCd.out; have e3 := he.cell HCk.out; have e4 := HNeg.out; go_simp; rfl); simp only [Act.put, List.setIfInBounds_toArray, List.set_cons_zero, List.set_cons_succ])
                      (refine LexW.pure (v := ?_) rfl rfl (fun w1 he => ?_) ?_; rotate_left; ( have e1 := he.cell HCr.out; have e2 := he.cell HCd.out; have e3 := he.cell HCk.out; have e4 := HNeg.out; go_simp; rfl); simp only [Act.put, List.setIfInBounds_toArray, List.set_cons_zero, List.set_cons_succ])
                      (refine LexW.pure (v := ?_) rfl rfl (fun w1 he => ?_) ?_; rotate_left; ( have e1 := he.cell HCr.out; have e2 := he.cell HCd.out; have e3 := he.cell HCk.out; have e4 := HNeg.out; go_simp; rfl); simp only [Act.put, List.setIfInBounds_toArray, List.set_cons_zero, List.set_cons_succ])
                      (refine LexW.pure (v := ?_) rfl rfl (fun w1 he => ?_) ?_; rotate_left; ( have e1 := he.cell HCr.out; have e2 := he.cell HCd.out; have e3 := he.cell HCk.out; have e4 := HNeg.out; go_simp; rfl); simp only [Act.put, List.setIfInBounds_toArray, List.set_cons_zero, List.set_cons_succ])
                      (refine LexW.pure (v := ?_) rfl rfl (fun w1 he => ?_) ?_; rotate_left; ( have e1 := he.cell HCr.out; have e2 := he.cell HCd.out; have e3 := he.cell HCk.out; have e4 := HNeg.out; go_simp; rfl); simp only [Act.put, List.setIfInBounds_toArray, List.set_cons_zero, List.set_cons_succ])
                      (refine LexW.pure (v := ?_) rfl rfl (fun w1 he => ?_) ?_; rotate_left; ( have e1 := he.cell HCr.out; have e2 := he.cell HCd.out; have e3 := he.cell HCk.out; have e4 := HNeg.out; go_simp; rfl); simp only [Act.put, List.setIfInBounds_toArray, List.set_cons_zero, List.set_cons_succ])
                      (refine LexW.pure (v := ?_) rfl rfl (fun w1 he => ?_) ?_; rotate_left; ( have e1 := he.cell HCr.out; have e2 := he.cell HCd.out; have e3 := he.cell HCk.out; have e4 := HNeg.out; go_simp; rfl); simp only [Act.put, List.setIfInBounds_toArray, List.set_cons_zero, List.set_cons_succ])
                      (refine LexW.pure (v := ?_) rfl rfl (fun w1 he => ?_) ?_; rotate_left; ( have e1 := he.cell HCr.out; have e2 := he.cell HCd.out; have e3 := he.cell HCk.out; have e4 := HNeg.out; go_simp; rfl); simp only [Act.put, List.setIfInBounds_toArray, List.set_cons_zero, List.set_cons_succ])
                      (refine LexW.pure (v := ?_) rfl rfl (fun w1 he => ?_) ?_; rotate_left; ( have e1 := he.cell HCr.out; have e2 := he.cell HCd.out; have e3 := he.cell HCk.out; have e4 := HNeg.out; go_simp; rfl); simp only [Act.put, List.setIfInBounds_toArray, List.set_cons_zero, List.set_cons_succ])
                      (refine LexW.pure (v := ?_) rfl rfl (fun w1 he => ?_) ?_; rotate_left; ( have e1 := he.cell HCr.out; have e2 := he.cell HCd.out; have e3 := he.cell HCk.out; have e4 := HNeg.out; go_simp; rfl); simp only [Act.put, List.setIfInBounds_toArray, List.set_cons_zero, List.set_cons_succ])
                      (refine LexW.pure (v := ?_) rfl rfl (fun w1 he => ?_) ?_; rotate_left; ( have e1 := he.cell HCr.out; have e2 := he.cell HCd.out; have e3 := he.cell HCk.out; have e4 := HNeg.out; go_simp; rfl); simp only [Act.put, List.setIfInBounds_toArray, List.set_cons_zero, List.set_cons_succ])
                      (refine LexW.pure (v := ?_) rfl rfl (fun w1 he => ?_) ?_; rotate_left; ( have e1 := he.cell HCr.out; have e2 := he.cell HCd.out; have e3 := he.cell HCk.out; have e4 := HNeg.out; go_simp; rfl); simp only [Act.put, List.setIfInBounds_toArray, List.set_cons_zero, List.set_cons_succ])
                      (refine LexW.pure (v := ?_) rfl rfl (fun w1 he => ?_) ?_; rotate_left; ( have e1 := he.cell HCr.out; have e2 := he.cell HCd.out; have e3 := he.cell HCk.out; have e4 := HNeg.out; go_simp; rfl); simp only [Act.put, List.setIfInBounds_toArray, List.set_cons_zero, List.set_cons_succ])
                      (refine LexW.callR (f := ?_) (args := ?_) rfl rfl (fun w1 => ?_) (fun w1 he hdep => ?_) (fun v hv => ?_); rotate_left 2; (go_simp; refine ⟨?_, ?_⟩ <;> rfl); ( refine (c_plus p _ _ m _ _ (nthR C r) (nthR C d) (-(nth (nthR C r) k)) w1 (by omega) (by omega) (by have := HZr.out; omega) (by omega) (HRr.out.ext he) (HRd.out.ext he) HGr.out HGd.out).mono ?_; rintro e w2 ⟨g, rc, rfl, ho, g2⟩; exact ⟨_, rfl, g2, g, rc, rfl, ho.mono he.size⟩); simp only [Act.put, List.setIfInBounds_toArray, List.set_cons_zero, List.set_cons_succ])
                      obtain ⟨_, g121, c121, rfl, _⟩ := hv
                      (refine LexW.pure (v := ?_) rfl rfl (fun w1 he => ?_) ?_; rotate_left; ( have e1 := he.cell HCr.out; have e2 := he.cell HCd.out; have e3 := he.cell HCk.out; have e4 := HNeg.out; go_simp; rfl); simp only [Act.put, List.setIfInBounds_toArray, List.set_cons_zero, List.set_cons_succ])
                      refine LexW.nil (fun w3 he hkn => ?_)
                      obtain ⟨_, _, q121, r121⟩ : (SPred.ownS wr.drew.heap.size m (plusL p (nthR C r) (nthR C d) (-(nth (nthR C r) k)) m)).holds (.slice (some ⟨g121, 0, none⟩) m c121) w3 := hkn (19, _) (by simp)
                      cases q121
                      have R121 := Lib.hid r121
                      have HE := Lib.hid he
                      clear he hkn r121
                      have ow4 := (HCo.out.ext (ext_drew wr)).ext HE.out
                      obtain ⟨ay, cy, hcy, _⟩ := ow4.at hrn
                      have hfy := ow4.frozen r
                      clear ow4
                      go_wp2_with (fail)
                      go_roundw
                      case rel => exact ⟨r + 1, C.set r (plusL p (nthR C r) (nthR C d) (-(nth (nthR C r) k)) m), by omega, by go_num, Lib.hid (by rw [clrS_ne HRd0.out, ← HC.out]), (HCo.out.ext (ext_drew wr)).put HE.out (HCe.out.trans (ext_drew wr)).size R121.out hrn, (HCe.out.trans ((ext_drew wr).trans HE.out)).setCell HNM.out.1 _⟩
                      case measure => simp [intOf]; omega
                · obtain rfl : r = n := by omega
                  go_wp2_with (fail)
                  go_roundw
                  case rel => exact ⟨k + 1, d + 1, C, by omega, by omega, by go_num, by go_num, Lib.hid (by
                    show stepG p m (gaussS p m rows k) k = _
                    rw [HS.out, stepG_yes (s := (R, d)) HPiv.out (by rw [HRL.out]; exact hjn), HC.out, HU.out, HRL.out]), HCo.out, HCe.out⟩
                  case measure => simp [intOf]; omega
        · have hjb : ((j : Int) == (n : Int)) = true := by simp; omega
          have HPiv := Lib.hid (pivG_eq (rows := R) (k := k) (d := d) hdj (by rw [HRL.out]; exact hj) HZ.out (.inl (by rw [HRL.out]; omega)))
          go_wp2_with (fail)
          go_roundw
          case rel => exact ⟨k + 1, d, R, by omega, hd, by go_num, rfl, Lib.hid (by
            show stepG p m (gaussS p m rows k) k = _
            rw [HS.out]
            exact stepG_no (s := (R, d)) (by rw [HPiv.out, HRL.out]; omega)), HOwn.out, HExt.out⟩
          case measure => simp [intOf]; omega
end Go.Proofs.Ythimjfnmpicbiaa
