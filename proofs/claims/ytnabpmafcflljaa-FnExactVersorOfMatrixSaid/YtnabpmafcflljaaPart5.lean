/-
  Contracts and plain laws, part 5: Basis, Scale, BasisS, Ideal, Matrix.
  No condition.
-/
import Derived.Test.YtnabpmafcflljaaPart3
import Derived.Test.YtnabpmafcflljaaPart2
import Derived.RegionTactic
import Derived.ChangeAlike
import Derived.Test.YtnabpmafcflljaaPart4
/-
  Contract: the reduced basis of rows, in the program and in the reference.
  No condition.
-/
namespace Go.Proofs.Ytnabpmafcflljaa
set_option maxRecDepth 100000
open Go.RowKit

theorem ownR_put_len {p : Int} {m : Nat} {rows : List (List Int)} (h : RowsG p m rows) {n i : Nat} (hn : rows.length = n) (hi : i < n) : (nthR rows i).length = m := (h i (by omega)).1
theorem basis_nil {p : Int} {m : Nat} : basisL p m [] = [] := by unfold basisL; rw [List.take_of_length_le (by rw [gaussS_len]; exact Nat.zero_le _)]; have := gaussS_len (p := p) (m := m) (rows := []) m; exact List.length_eq_zero_iff.1 this

theorem swapL_at {rows : List (List Int)} {d j : Nat} (hd : d < rows.length) (hj : j < rows.length) : nthR (swapL rows d j) d = nthR rows j := by
  rw [swapL_nth hd hj]
  by_cases h : d = j
  · subst h; rw [if_pos rfl]
  · rw [if_neg h, if_pos rfl]
set_option maxHeartbeats 8000000 in
set_option maxRecDepth 100000 in
theorem c_basis (p : Int) (a : Option Addr) (n cap m : Nat) (rows : List (List Int)) (w : World) (hpr : primeB p = true) (hm : 0 < m) (hm2 : m ≤ 4096) (hl : n ≤ 4096) (hx : RdR w a n rows) (hg : RowsG p m rows) :
    Calls Try.prog 84 #[.int .i64 p, .slice a n cap] w fun e w' => ∃ g rc r, e = .returned (.slice (some ⟨g, 0, none⟩) r rc) ∧ OwnR w.heap.size w' (some ⟨g, 0, none⟩) r rc (basisL p m rows) ∧ Ext w w' := by
  have hpb := prime_bd hpr
  have HX := Lib.hid hx
  have HG := Lib.hid hg
  have HPR := Lib.hid hpr
  have HLN := Lib.hid hx.1
  have HRed := Lib.hid (fun k (hk : k ≤ m) => gaussS_red hpr hg k hk)
  clear hx hg hpr
  go_enter Try.func84, Try.ntmps84
  go_wp2_with (fail)
  refine (c_cloneRows a n cap m rows w hm (by omega) (by omega) (fun i hi => ownR_put_len HG.out HLN.out hi) HX.out).mono ?_
  rintro e w1 ⟨g, rc, rfl, ho, h1⟩
  have HO := Lib.hid ho
  have H1 := Lib.hid h1
  have hgw := Lib.hid (ho.base_of g rfl).1
  clear ho h1
  go_wp2_with (fail)
  go_loopw [6, 7] (fun dd kk wr => ∃ (k d : Nat) (R : List (List Int)), k ≤ m ∧ d ≤ n ∧ kk = .int .i64 k ∧ dd = .int .i64 d ∧ Hid (gaussS p m rows k = (R, d)) ∧ OwnR w.heap.size wr (some ⟨g, 0, none⟩) n rc R ∧ Ext w wr) (fun _ kk _ => m - (intOf kk).toNat)
  case atStart => exact ⟨0, 0, rows, Nat.zero_le _, Nat.zero_le _, rfl, rfl, Lib.hid rfl, HO.out, H1.out⟩
  case round =>
    obtain ⟨k, d, R, hk, hd, rfl, rfl, HS, hown, hext⟩ := hrel
    have HOwn := Lib.hid hown
    have HExt := Lib.hid hext
    have HRL := Lib.hid hown.1
    have HRG : Hid (RowsG p m R) := Lib.hid (by have := (HRed.out k hk).1; rw [HS.out] at this; exact this)
    clear hown hext
    by_cases hfin : n = 0 ∨ k = m ∨ d = n
    · have HRes : Hid (R.take d = basisL p m rows) := Lib.hid (by
        unfold basisL
        rcases hfin with h | h | h
        · have hr : rows = [] := List.length_eq_zero_iff.1 (by rw [HLN.out]; exact h)
          have hR : R = [] := List.length_eq_zero_iff.1 (by rw [HRL.out]; exact h)
          have h2 : (gaussS p m rows m).1 = [] := List.length_eq_zero_iff.1 (by rw [gaussS_len, hr]; rfl)
          rw [hR, h2]; simp
        · have hS := HS.out
          rw [h] at hS
          rw [hS]
        · have := gaussS_stop (p := p) (m := m) (rows := rows) (k := k) (by rw [HS.out, HLN.out]; exact h) (m - k)
          rw [Nat.add_sub_cancel' hk] at this
          rw [this, HS.out])
      by_cases hn0 : n = 0
      · have hd0 : d = 0 := by omega
        subst hd0
        subst hn0
        go_wp2_with (fail)
        go_ret
        exact ⟨g, rc, 0, rfl, by rw [← HRes.out]; exact HOwn.out.take (Nat.le_refl _), HExt.out⟩
      · obtain ⟨a0, c0, hc0, _⟩ := HOwn.out.at (show 0 < n by omega)
        rw [ownR_put_len HRG.out HRL.out (show 0 < n by omega)] at hc0
        have hcap : n ≤ rc := by obtain ⟨_, vs, h2, _⟩ := HOwn.out; rcases h2.2 with ⟨h3, _⟩ | ⟨_, _, _, h3, _, _, h4, _⟩; cases h3; cases h3; exact h4
        have hdc : (d : Int) ≤ (rc : Int) := by omega
        by_cases hkm : k = m
        · subst hkm
          go_wp2_with (fail)
          go_ret
          exact ⟨g, rc, d, rfl, by rw [← HRes.out]; exact HOwn.out.take hd, HExt.out⟩
        · have hdn : d = n := by omega
          have hkm' : k < m := by omega
          subst hdn
          go_wp2_with (fail)
          go_ret
          exact ⟨g, rc, d, rfl, by rw [← HRes.out]; exact HOwn.out.take hd, HExt.out⟩
    · have hkm : k < m := by omega
      have hdn : d < n := by omega
      have hn0 : 0 < n := by omega
      clear hfin
      obtain ⟨a0, c0, hc0, _⟩ := HOwn.out.at hn0
      rw [ownR_put_len HRG.out HRL.out hn0] at hc0
      go_wp2_with (fail)
      clear hc0
      go_loop [8] (fun i => ∃ j : Nat, d ≤ j ∧ j ≤ n ∧ i = .int .i64 j ∧ Hid (∀ t, d ≤ t → t < j → nth (nthR R t) k = 0)) (fun i => n - (intOf i).toNat)
      case atStart => exact ⟨d, Nat.le_refl _, hd, rfl, Lib.hid (fun t h1 h2 => by omega)⟩
      case round =>
        obtain ⟨j, hdj, hj, rfl, HZ⟩ := hrel
        by_cases hjn : j < n
        · obtain ⟨aj, cj, hcj, hoj⟩ := HOwn.out.at hjn
          rw [ownR_put_len HRG.out HRL.out hjn] at hcj hoj
          obtain ⟨bj, oj, rfl, hcjk⟩ := hoj.rd.2 k hkm
          by_cases hz : nth (nthR R j) k = 0
          · have hzb : (nth (nthR R j) k == 0) = true := by simp [hz]
            have HZ' := Lib.hid hz
            clear hz hoj
            go_wp2_with (fail)
            go_round
            case rel => exact ⟨j + 1, by omega, by omega, by go_num, Lib.hid (fun t h1 h2 => by
              by_cases htj : t = j
              · subst htj; exact HZ'.out
              · exact HZ.out t h1 (by omega))⟩
            case measure => simp [intOf]; omega
          · have hzb : (nth (nthR R j) k == 0) = false := by simp [hz]
            have hjb : ((j : Int) == (n : Int)) = false := by simp; omega
            have HPiv := Lib.hid (pivG_eq (rows := R) (k := k) (d := d) hdj (by rw [HRL.out]; exact hj) HZ.out (.inr hz))
            have HNZ := Lib.hid hz
            clear hz hoj
            go_wp2_with (fail)
            clear hcj hcjk
            obtain ⟨ad, cd, aj2, cj2, hcd, hcj2, hod, hoj2, hsw⟩ := HOwn.out.swap hdn hjn
            rw [ownR_put_len HRG.out HRL.out hdn, ownR_put_len HRG.out HRL.out hjn] at hsw
            rw [ownR_put_len HRG.out HRL.out hdn] at hcd hod
            rw [ownR_put_len HRG.out HRL.out hjn] at hcj2 hoj2
            have hfd := HOwn.out.frozen d
            have hfj := HOwn.out.frozen j
            have HOd := Lib.hid hod
            have HOj := Lib.hid hoj2
            have HSw := Lib.hid hsw
            clear hod hoj2 hsw
            have HNM := Lib.hid (HOwn.out.base_of g rfl)
            by_cases hdj2 : d = j
            · subst hdj2
              cases (hcd.symm.trans hcj2)
              go_region
              obtain ⟨W2, hW2⟩ : ∃ W2, W2 = ((wr.setCell ⟨g, d, none⟩ (.slice ad m cd)).setCell ⟨g, d, none⟩ (.slice ad m cd)).drew := ⟨_, rfl⟩
              have HOw2 : Hid (OwnR w.heap.size W2 (some ⟨g, 0, none⟩) n rc (swapL R d d)) := by rw [hW2]; exact HSw.out.ext (ext_drew _)
              have HE2 : Hid (Ext w W2) := by rw [hW2]; exact (((HExt.out.setCell HNM.out.1 _).setCell HNM.out.1 _).trans (ext_drew _))
              rw [← hW2]
              clear hW2 hcd hcj2 hfd hfj HSw HOd HOj
              have HR1 := Lib.hid (swapL_at (show d < R.length by rw [HRL.out]; exact hdn) (show d < R.length by rw [HRL.out]; exact hjn))
              have HXg := Lib.hid (HRG.out d (by rw [HRL.out]; exact hjn))
              obtain ⟨ax, cx, hcx, hox⟩ := HOw2.out.at hdn
              rw [HR1.out, HXg.out.1] at hcx hox
              obtain ⟨bx, ox, rfl, hck⟩ := hox.rd.2 k hkm
              have HXc := Lib.hid ((ext_drew W2).cell hcx)
              have HXk := Lib.hid ((ext_drew W2).cell hck)
              have HXr := Lib.hid (hox.rd.ext (ext_drew W2))
              have HZb := Lib.hid (HXg.out.2 k hkm)
              have HIb : Hid (-1000 ≤ invN p (nth (nthR R d) k) ∧ invN p (nth (nthR R d) k) ≤ 1000) := Lib.hid (by have := invN_bd (p := p) (a := nth (nthR R d) k) (by omega); omega)
              clear hcx hck hox
              go_wp2_with (fail)
              refine wp_region_lex_tail 18 [(15, .val (.int .i64 (invN p (nth (nthR R d) k)))), (16, .ownS W2.drew.heap.size m (scaleL p (nthR R d) (invN p (nth (nthR R d) k)) m))] (by kernel_rfl) (by kernel_rfl) ?_
              simp only [List.take, List.drop]
              (refine LexW.pure (v := ?_) rfl rfl (fun w1 he => ?_) ?_; rotate_left; ( have e1 := he.cell HXc.out; have e2 := he.cell HXk.out; go_simp; rfl); simp only [Act.put, List.setIfInBounds_toArray, List.set_cons_zero, List.set_cons_succ])
              (refine LexW.pure (v := ?_) rfl rfl (fun w1 he => ?_) ?_; rotate_left; ( have e1 := he.cell HXc.out; have e2 := he.cell HXk.out; go_simp; rfl); simp only [Act.put, List.setIfInBounds_toArray, List.set_cons_zero, List.set_cons_succ])
              (refine LexW.pure (v := ?_) rfl rfl (fun w1 he => ?_) ?_; rotate_left; ( have e1 := he.cell HXc.out; have e2 := he.cell HXk.out; go_simp; rfl); simp only [Act.put, List.setIfInBounds_toArray, List.set_cons_zero, List.set_cons_succ])
              (refine LexW.pure (v := ?_) rfl rfl (fun w1 he => ?_) ?_; rotate_left; ( have e1 := he.cell HXc.out; have e2 := he.cell HXk.out; go_simp; rfl); simp only [Act.put, List.setIfInBounds_toArray, List.set_cons_zero, List.set_cons_succ])
              (refine LexW.pure (v := ?_) rfl rfl (fun w1 he => ?_) ?_; rotate_left; ( have e1 := he.cell HXc.out; have e2 := he.cell HXk.out; go_simp; rfl); simp only [Act.put, List.setIfInBounds_toArray, List.set_cons_zero, List.set_cons_succ])
              (refine LexW.pure (v := ?_) rfl rfl (fun w1 he => ?_) ?_; rotate_left; ( have e1 := he.cell HXc.out; have e2 := he.cell HXk.out; go_simp; rfl); simp only [Act.put, List.setIfInBounds_toArray, List.set_cons_zero, List.set_cons_succ])
              (refine LexW.pure (v := ?_) rfl rfl (fun w1 he => ?_) ?_; rotate_left; ( have e1 := he.cell HXc.out; have e2 := he.cell HXk.out; go_simp; rfl); simp only [Act.put, List.setIfInBounds_toArray, List.set_cons_zero, List.set_cons_succ])
              (refine LexW.pure (v := ?_) rfl rfl (fun w1 he => ?_) ?_; rotate_left; ( have e1 := he.cell HXc.out; have e2 := he.cell HXk.out; go_simp; rfl); simp only [Act.put, List.setIfInBounds_toArray, List.set_cons_zero, List.set_cons_succ])
              (refine LexW.pure (v := ?_) rfl rfl (fun w1 he => ?_) ?_; rotate_left; ( have e1 := he.cell HXc.out; have e2 := he.cell HXk.out; go_simp; rfl); simp only [Act.put, List.setIfInBounds_toArray, List.set_cons_zero, List.set_cons_succ])
              (refine LexW.pure (v := ?_) rfl rfl (fun w1 he => ?_) ?_; rotate_left; ( have e1 := he.cell HXc.out; have e2 := he.cell HXk.out; go_simp; rfl); simp only [Act.put, List.setIfInBounds_toArray, List.set_cons_zero, List.set_cons_succ])
              (refine LexW.pure (v := ?_) rfl rfl (fun w1 he => ?_) ?_; rotate_left; ( have e1 := he.cell HXc.out; have e2 := he.cell HXk.out; go_simp; rfl); simp only [Act.put, List.setIfInBounds_toArray, List.set_cons_zero, List.set_cons_succ])
              (refine LexW.pure (v := ?_) rfl rfl (fun w1 he => ?_) ?_; rotate_left; ( have e1 := he.cell HXc.out; have e2 := he.cell HXk.out; go_simp; rfl); simp only [Act.put, List.setIfInBounds_toArray, List.set_cons_zero, List.set_cons_succ])
              (refine LexW.pure (v := ?_) rfl rfl (fun w1 he => ?_) ?_; rotate_left; ( have e1 := he.cell HXc.out; have e2 := he.cell HXk.out; go_simp; rfl); simp only [Act.put, List.setIfInBounds_toArray, List.set_cons_zero, List.set_cons_succ])
              (refine LexW.pure (v := ?_) rfl rfl (fun w1 he => ?_) ?_; rotate_left; ( have e1 := he.cell HXc.out; have e2 := he.cell HXk.out; go_simp; rfl); simp only [Act.put, List.setIfInBounds_toArray, List.set_cons_zero, List.set_cons_succ])
              (refine LexW.pure (v := ?_) rfl rfl (fun w1 he => ?_) ?_; rotate_left; ( have e1 := he.cell HXc.out; have e2 := he.cell HXk.out; go_simp; rfl); simp only [Act.put, List.setIfInBounds_toArray, List.set_cons_zero, List.set_cons_succ])
              (refine LexW.call (f := ?_) (args := ?_) rfl rfl (fun w1 => ?_) (fun w1 he hdep => ?_) ?_; rotate_left 2; (go_simp; refine ⟨?_, ?_⟩ <;> rfl); ( exact c_inv p _ w1 (by omega) (by omega) HZb.out.1 HZb.out.2); simp only [Act.put, List.setIfInBounds_toArray, List.set_cons_zero, List.set_cons_succ])
              (refine LexW.callR (f := ?_) (args := ?_) rfl rfl (fun w1 => ?_) (fun w1 he hdep => ?_) (fun v hv => ?_); rotate_left 2; (go_simp; refine ⟨?_, ?_⟩ <;> rfl); ( refine (c_scaled p _ m _ (nthR R d) (invN p (nth (nthR R d) k)) w1 (by omega) (by omega) HIb.out (by omega) (HXr.out.ext he) HXg.out).mono ?_; rintro e w2 ⟨g, rc, rfl, ho, g2⟩; exact ⟨_, rfl, g2, g, rc, rfl, ho.mono he.size⟩); simp only [Act.put, List.setIfInBounds_toArray, List.set_cons_zero, List.set_cons_succ])
              obtain ⟨_, g82, c82, rfl, _⟩ := hv
              (refine LexW.pure (v := ?_) rfl rfl (fun w1 he => ?_) ?_; rotate_left; ( have e1 := he.cell HXc.out; have e2 := he.cell HXk.out; go_simp; rfl); simp only [Act.put, List.setIfInBounds_toArray, List.set_cons_zero, List.set_cons_succ])
              refine LexW.nil (fun w3 he hkn => ?_)
              obtain ⟨_, _, q82, r82⟩ : (SPred.ownS W2.drew.heap.size m (scaleL p (nthR R d) (invN p (nth (nthR R d) k)) m)).holds (.slice (some ⟨g82, 0, none⟩) m c82) w3 := hkn (16, _) (by simp)
              cases q82
              have R82 := Lib.hid r82
              have HE := Lib.hid he
              clear he hkn r82
              have ow3 := (HOw2.out.ext (ext_drew W2)).ext HE.out
              obtain ⟨ay, cy, hcy, _⟩ := ow3.at hdn
              have hfy := ow3.frozen d
              clear ow3
              go_wp2_with (fail)
              obtain ⟨W3, hW3⟩ : ∃ W3, W3 = w3.setCell ⟨g, d, none⟩ (.slice (some ⟨g82, 0, none⟩) m c82) := ⟨_, rfl⟩
              have HOw3 : Hid (OwnR w.heap.size W3 (some ⟨g, 0, none⟩) n rc (upG p m R d k d)) := by rw [hW3]; exact (HOw2.out.ext (ext_drew W2)).put HE.out (HE2.out.trans (ext_drew W2)).size R82.out hdn
              have HE3 : Hid (Ext w W3) := by rw [hW3]; exact (HE2.out.trans ((ext_drew W2).trans HE.out)).setCell HNM.out.1 _
              rw [← hW3]
              clear hW3 hcy hfy R82 HE HXc HXk HXr HOw2 HE2
              have HUG := Lib.hid (upG_good (k := k) (show 1 ≤ p by omega) HRG.out (show d < R.length by rw [HRL.out]; exact hdn) (show d < R.length by rw [HRL.out]; exact hjn))
              have HUL := Lib.hid (show (upG p m R d k d).length = n by rw [upG_len, HRL.out])
              obtain ⟨U, hU⟩ : ∃ U, U = upG p m R d k d := ⟨_, rfl⟩
              have HU := Lib.hid hU
              rw [← hU] at HOw3 HUG HUL
              clear hU
              go_loopw [86] (fun i wr => ∃ (r : Nat) (C : List (List Int)), r ≤ n ∧ i = .int .i64 r ∧ Hid (C = clrS p k m d U r) ∧ OwnR w.heap.size wr (some ⟨g, 0, none⟩) n rc C ∧ Ext w wr) (fun i _ => n - (intOf i).toNat)
              case atStart => exact ⟨0, U, Nat.zero_le _, rfl, Lib.hid rfl, HOw3.out, HE3.out⟩
              case round =>
                obtain ⟨r, C, hr, rfl, HC, hown, hext⟩ := hrel
                have HCo := Lib.hid hown
                have HCe := Lib.hid hext
                have HCg : Hid (RowsG p m C) := Lib.hid (by rw [HC.out]; exact clrS_good (by omega) HUG.out r)
                have HCl : Hid (C.length = n) := Lib.hid hown.1
                clear hown hext
                by_cases hrn : r < n
                · by_cases hrd : r = d
                  · have hrb : ((r : Int) != (d : Int)) = false := by simp [hrd]
                    have HRD := Lib.hid hrd
                    clear hrd
                    go_wp2_with (fail)
                    go_roundw
                    case rel => exact ⟨r + 1, C, by omega, by go_num, Lib.hid (by rw [HC.out, clrS_self HRD.out]), HCo.out, HCe.out⟩
                    case measure => simp [intOf]; omega
                  · have hrb : ((r : Int) != (d : Int)) = true := by simp; omega
                    obtain ⟨ar, cr, hcr, hor⟩ := HCo.out.at hrn
                    rw [ownR_put_len HCg.out HCl.out hrn] at hcr hor
                    obtain ⟨br, or, rfl, hcrk⟩ := hor.rd.2 k hkm
                    by_cases hz : nth (nthR C r) k = 0
                    · have hzb : (nth (nthR C r) k != 0) = false := by simp [hz]
                      have HZ0 := Lib.hid hz
                      clear hz hor
                      go_wp2_with (fail)
                      go_roundw
                      case rel => exact ⟨r + 1, C, by omega, by go_num, Lib.hid (by rw [clrS_zero (by omega) HUG.out (by rw [HUL.out]; exact hrn) (by rw [← HC.out]; exact HZ0.out)]; exact HC.out), HCo.out, HCe.out⟩
                      case measure => simp [intOf]; omega
                    · have hzb : (nth (nthR C r) k != 0) = true := by simp [hz]
                      have HRd0 := Lib.hid hrd
                      obtain ⟨ad2, cd2, hcd2, hod2⟩ := HCo.out.at hdn
                      rw [ownR_put_len HCg.out HCl.out hdn] at hcd2 hod2
                      have HRr := Lib.hid (hor.rd.ext (ext_drew wr))
                      have HRd := Lib.hid (hod2.rd.ext (ext_drew wr))
                      have HCr := Lib.hid ((ext_drew wr).cell hcr)
                      have HCd := Lib.hid ((ext_drew wr).cell hcd2)
                      have HCk := Lib.hid ((ext_drew wr).cell hcrk)
                      have HGr := Lib.hid (HCg.out r (by rw [HCl.out]; exact hrn))
                      have HGd := Lib.hid (HCg.out d (by rw [HCl.out]; exact hdn))
                      have HZr := Lib.hid (HGr.out.2 k hkm)
                      have HNeg : Hid (IntKind.i64.wrap (-(nth (nthR C r) k)) = -(nth (nthR C r) k)) := Lib.hid (IntWalk.i64_in _ (by have := HZr.out; omega))
                      clear hz hor hod2 hcd2
                      go_wp2_with (fail)
                      clear hcr hcrk
                      refine wp_region_lex_tail 21 [(19, .ownS wr.drew.heap.size m (plusL p (nthR C r) (nthR C d) (-(nth (nthR C r) k)) m))] (by kernel_rfl) (by kernel_rfl) ?_
                      simp only [List.take, List.drop]
                      (refine LexW.pure (v := ?_) rfl rfl (fun w1 he => ?_) ?_; rotate_left; ( have e1 := he.cell HCr.out; have e2 := he.cell HCd.out; have e3 := he.cell HCk.out; have e4 := HNeg.out; go_simp; rfl); simp only [Act.put, List.setIfInBounds_toArray, List.set_cons_zero, List.set_cons_succ])
                      (refine LexW.pure (v := ?_) rfl rfl (fun w1 he => ?_) ?_; rotate_left; ( have e1 := he.cell HCr.out; have e2 := he.cell HCd.out; have e3 := he.cell HCk.out; have e4 := HNeg.out; go_simp; rfl); simp only [Act.put, List.setIfInBounds_toArray, List.set_cons_zero, List.set_cons_succ])
                      (refine LexW.pure (v := ?_) rfl rfl (fun w1 he => ?_) ?_; rotate_left; ( have e1 := he.cell HCr.out; have e2 := he.cell HCd.out; have e3 := he.cell HCk.out; have e4 := HNeg.out; go_simp; rfl); simp only [Act.put, List.setIfInBounds_toArray, List.set_cons_zero, List.set_cons_succ])
                      (refine LexW.pure (v := ?_) rfl rfl (fun w1 he => ?_) ?_; rotate_left; ( have e1 := he.cell HCr.out; have e2 := he.cell HCd.out; have e3 := he.cell HCk.out; have e4 := HNeg.out; go_simp; rfl); simp only [Act.put, List.setIfInBounds_toArray, List.set_cons_zero, List.set_cons_succ])
                      (refine LexW.pure (v := ?_) rfl rfl (fun w1 he => ?_) ?_; rotate_left; ( have e1 := he.cell HCr.out; have e2 := he.cell HCd.out; have e3 := he.cell HCk.out; have e4 := HNeg.out; go_simp; rfl); simp only [Act.put, List.setIfInBounds_toArray, List.set_cons_zero, List.set_cons_succ])
                      (refine LexW.pure (v := ?_) rfl rfl (fun w1 he => ?_) ?_; rotate_left; ( have e1 := he.cell HCr.out; have e2 := he.cell HCd.out; have e3 := he.cell HCk.out; have e4 := HNeg.out; go_simp; rfl); simp only [Act.put, List.setIfInBounds_toArray, List.set_cons_zero, List.set_cons_succ])
                      (refine LexW.pure (v := ?_) rfl rfl (fun w1 he => ?_) ?_; rotate_left; ( have e1 := he.cell HCr.out; have e2 := he.cell HCd.out; have e3 := he.cell HCk.out; have e4 := HNeg.out; go_simp; rfl); simp only [Act.put, List.setIfInBounds_toArray, List.set_cons_zero, List.set_cons_succ])
                      (refine LexW.pure (v := ?_) rfl rfl (fun w1 he => ?_) ?_; rotate_left; ( have e1 := he.cell HCr.out; have e2 := he.cell HCd.out; have e3 := he.cell HCk.out; have e4 := HNeg.out; go_simp; rfl); simp only [Act.put, List.setIfInBounds_toArray, List.set_cons_zero, List.set_cons_succ])
                      (refine LexW.pure (v := ?_) rfl rfl (fun w1 he => ?_) ?_; rotate_left; ( have e1 := he.cell HCr.out; have e2 := he.cell HCd.out; have e3 := he.cell HCk.out; have e4 := HNeg.out; go_simp; rfl); simp only [Act.put, List.setIfInBounds_toArray, List.set_cons_zero, List.set_cons_succ])
                      (refine LexW.pure (v := ?_) rfl rfl (fun w1 he => ?_) ?_; rotate_left; ( have e1 := he.cell HCr.out; have e2 := he.cell HCd.out; have e3 := he.cell HCk.out; have e4 := HNeg.out; go_simp; rfl); simp only [Act.put, List.setIfInBounds_toArray, List.set_cons_zero, List.set_cons_succ])
                      (refine LexW.pure (v := ?_) rfl rfl (fun w1 he => ?_) ?_; rotate_left; ( have e1 := he.cell HCr.out; have e2 := he.cell HCd.out; have e3 := he.cell HCk.out; have e4 := HNeg.out; go_simp; rfl); simp only [Act.put, List.setIfInBounds_toArray, List.set_cons_zero, List.set_cons_succ])
                      (refine LexW.pure (v := ?_) rfl rfl (fun w1 he => ?_) ?_; rotate_left; ( have e1 := he.cell HCr.out; have e2 := he.cell HCd.out; have e3 := he.cell HCk.out; have e4 := HNeg.out; go_simp; rfl); simp only [Act.put, List.setIfInBounds_toArray, List.set_cons_zero, List.set_cons_succ])
                      (refine LexW.pure (v := ?_) rfl rfl (fun w1 he => ?_) ?_; rotate_left; ( have e1 := he.cell HCr.out; have e2 := he.cell HCd.out; have e3 := he.cell HCk.out; have e4 := HNeg.out; go_simp; rfl); simp only [Act.put, List.setIfInBounds_toArray, List.set_cons_zero, List.set_cons_succ])
                      (refine LexW.pure (v := ?_) rfl rfl (fun w1 he => ?_) ?_; rotate_left; ( have e1 := he.cell HCr.out; have e2 := he.cell HCd.out; have e3 := he.cell HCk.out; have e4 := HNeg.out; go_simp; rfl); simp only [Act.put, List.setIfInBounds_toArray, List.set_cons_zero, List.set_cons_succ])
                      (refine LexW.pure (v := ?_) rfl rfl (fun w1 he => ?_) ?_; rotate_left; ( have e1 := he.cell HCr.out; have e2 := he.cell HCd.out; have e3 := he.cell HCk.out; have e4 := HNeg.out; go_simp; rfl); simp only [Act.put, List.setIfInBounds_toArray, List.set_cons_zero, List.set_cons_succ])
                      (refine LexW.pure (v := ?_) rfl rfl (fun w1 he => ?_) ?_; rotate_left; ( have e1 := he.cell HCr.out; have e2 := he.cell HCd.out; have e3 := he.cell HCk.out; have e4 := HNeg.out; go_simp; rfl); simp only [Act.put, List.setIfInBounds_toArray, List.set_cons_zero, List.set_cons_succ])
                      (refine LexW.pure (v := ?_) rfl rfl (fun w1 he => ?_) ?_; rotate_left; ( have e1 := he.cell HCr.out; have e2 := he.cell HCd.out; have e3 := he.cell HCk.out; have e4 := HNeg.out; go_simp; rfl); simp only [Act.put, List.setIfInBounds_toArray, List.set_cons_zero, List.set_cons_succ])
                      (refine LexW.pure (v := ?_) rfl rfl (fun w1 he => ?_) ?_; rotate_left; ( have e1 := he.cell HCr.out; have e2 := he.cell HCd.out; have e3 := he.cell HCk.out; have e4 := HNeg.out; go_simp; rfl); simp only [Act.put, List.setIfInBounds_toArray, List.set_cons_zero, List.set_cons_succ])
                      (refine LexW.pure (v := ?_) rfl rfl (fun w1 he => ?_) ?_; rotate_left; ( have e1 := he.cell HCr.out; have e2 := he.cell HCd.out; have e3 := he.cell HCk.out; have e4 := HNeg.out; go_simp; rfl); simp only [Act.put, List.setIfInBounds_toArray, List.set_cons_zero, List.set_cons_succ])
                      (refine LexW.callR (f := ?_) (args := ?_) rfl rfl (fun w1 => ?_) (fun w1 he hdep => ?_) (fun v hv => ?_); rotate_left 2; (go_simp; refine ⟨?_, ?_⟩ <;> rfl); ( refine (c_plus p _ _ m _ _ (nthR C r) (nthR C d) (-(nth (nthR C r) k)) w1 (by omega) (by omega) (by have := HZr.out; omega) (by omega) (HRr.out.ext he) (HRd.out.ext he) HGr.out HGd.out).mono ?_; rintro e w2 ⟨g, rc, rfl, ho, g2⟩; exact ⟨_, rfl, g2, g, rc, rfl, ho.mono he.size⟩); simp only [Act.put, List.setIfInBounds_toArray, List.set_cons_zero, List.set_cons_succ])
                      obtain ⟨_, g121, c121, rfl, _⟩ := hv
                      (refine LexW.pure (v := ?_) rfl rfl (fun w1 he => ?_) ?_; rotate_left; ( have e1 := he.cell HCr.out; have e2 := he.cell HCd.out; have e3 := he.cell HCk.out; have e4 := HNeg.out; go_simp; rfl); simp only [Act.put, List.setIfInBounds_toArray, List.set_cons_zero, List.set_cons_succ])
                      refine LexW.nil (fun w3 he hkn => ?_)
                      obtain ⟨_, _, q121, r121⟩ : (SPred.ownS wr.drew.heap.size m (plusL p (nthR C r) (nthR C d) (-(nth (nthR C r) k)) m)).holds (.slice (some ⟨g121, 0, none⟩) m c121) w3 := hkn (19, _) (by simp)
                      cases q121
                      have R121 := Lib.hid r121
                      have HE := Lib.hid he
                      clear he hkn r121
                      have ow4 := (HCo.out.ext (ext_drew wr)).ext HE.out
                      obtain ⟨ay, cy, hcy, _⟩ := ow4.at hrn
                      have hfy := ow4.frozen r
                      clear ow4
                      go_wp2_with (fail)
                      go_roundw
                      case rel => exact ⟨r + 1, C.set r (plusL p (nthR C r) (nthR C d) (-(nth (nthR C r) k)) m), by omega, by go_num, Lib.hid (by rw [clrS_ne HRd0.out, ← HC.out]), (HCo.out.ext (ext_drew wr)).put HE.out (HCe.out.trans (ext_drew wr)).size R121.out hrn, (HCe.out.trans ((ext_drew wr).trans HE.out)).setCell HNM.out.1 _⟩
                      case measure => simp [intOf]; omega
                · obtain rfl : r = n := by omega
                  go_wp2_with (fail)
                  go_roundw
                  case rel => exact ⟨k + 1, d + 1, C, by omega, by omega, by go_num, by go_num, Lib.hid (by
                    show stepG p m (gaussS p m rows k) k = _
                    rw [HS.out, stepG_yes (s := (R, d)) HPiv.out (by rw [HRL.out]; exact hjn), HC.out, HU.out, HRL.out]), HCo.out, HCe.out⟩
                  case measure => simp [intOf]; omega
            · have hne : ¬ j = d := fun e => hdj2 e.symm
              go_region
              obtain ⟨W2, hW2⟩ : ∃ W2, W2 = ((wr.setCell ⟨g, d, none⟩ (.slice aj2 m cj2)).setCell ⟨g, j, none⟩ (.slice ad m cd)).drew := ⟨_, rfl⟩
              have HOw2 : Hid (OwnR w.heap.size W2 (some ⟨g, 0, none⟩) n rc (swapL R d j)) := by rw [hW2]; exact HSw.out.ext (ext_drew _)
              have HE2 : Hid (Ext w W2) := by rw [hW2]; exact (((HExt.out.setCell HNM.out.1 _).setCell HNM.out.1 _).trans (ext_drew _))
              rw [← hW2]
              clear hW2 hcd hcj2 hfd hfj HSw HOd HOj
              have HR1 := Lib.hid (swapL_at (show d < R.length by rw [HRL.out]; exact hdn) (show j < R.length by rw [HRL.out]; exact hjn))
              have HXg := Lib.hid (HRG.out j (by rw [HRL.out]; exact hjn))
              obtain ⟨ax, cx, hcx, hox⟩ := HOw2.out.at hdn
              rw [HR1.out, HXg.out.1] at hcx hox
              obtain ⟨bx, ox, rfl, hck⟩ := hox.rd.2 k hkm
              have HXc := Lib.hid ((ext_drew W2).cell hcx)
              have HXk := Lib.hid ((ext_drew W2).cell hck)
              have HXr := Lib.hid (hox.rd.ext (ext_drew W2))
              have HZb := Lib.hid (HXg.out.2 k hkm)
              have HIb : Hid (-1000 ≤ invN p (nth (nthR R j) k) ∧ invN p (nth (nthR R j) k) ≤ 1000) := Lib.hid (by have := invN_bd (p := p) (a := nth (nthR R j) k) (by omega); omega)
              clear hcx hck hox
              go_wp2_with (fail)
              refine wp_region_lex_tail 18 [(15, .val (.int .i64 (invN p (nth (nthR R j) k)))), (16, .ownS W2.drew.heap.size m (scaleL p (nthR R j) (invN p (nth (nthR R j) k)) m))] (by kernel_rfl) (by kernel_rfl) ?_
              simp only [List.take, List.drop]
              (refine LexW.pure (v := ?_) rfl rfl (fun w1 he => ?_) ?_; rotate_left; ( have e1 := he.cell HXc.out; have e2 := he.cell HXk.out; go_simp; rfl); simp only [Act.put, List.setIfInBounds_toArray, List.set_cons_zero, List.set_cons_succ])
              (refine LexW.pure (v := ?_) rfl rfl (fun w1 he => ?_) ?_; rotate_left; ( have e1 := he.cell HXc.out; have e2 := he.cell HXk.out; go_simp; rfl); simp only [Act.put, List.setIfInBounds_toArray, List.set_cons_zero, List.set_cons_succ])
              (refine LexW.pure (v := ?_) rfl rfl (fun w1 he => ?_) ?_; rotate_left; ( have e1 := he.cell HXc.out; have e2 := he.cell HXk.out; go_simp; rfl); simp only [Act.put, List.setIfInBounds_toArray, List.set_cons_zero, List.set_cons_succ])
              (refine LexW.pure (v := ?_) rfl rfl (fun w1 he => ?_) ?_; rotate_left; ( have e1 := he.cell HXc.out; have e2 := he.cell HXk.out; go_simp; rfl); simp only [Act.put, List.setIfInBounds_toArray, List.set_cons_zero, List.set_cons_succ])
              (refine LexW.pure (v := ?_) rfl rfl (fun w1 he => ?_) ?_; rotate_left; ( have e1 := he.cell HXc.out; have e2 := he.cell HXk.out; go_simp; rfl); simp only [Act.put, List.setIfInBounds_toArray, List.set_cons_zero, List.set_cons_succ])
              (refine LexW.pure (v := ?_) rfl rfl (fun w1 he => ?_) ?_; rotate_left; ( have e1 := he.cell HXc.out; have e2 := he.cell HXk.out; go_simp; rfl); simp only [Act.put, List.setIfInBounds_toArray, List.set_cons_zero, List.set_cons_succ])
              (refine LexW.pure (v := ?_) rfl rfl (fun w1 he => ?_) ?_; rotate_left; ( have e1 := he.cell HXc.out; have e2 := he.cell HXk.out; go_simp; rfl); simp only [Act.put, List.setIfInBounds_toArray, List.set_cons_zero, List.set_cons_succ])
              (refine LexW.pure (v := ?_) rfl rfl (fun w1 he => ?_) ?_; rotate_left; ( have e1 := he.cell HXc.out; have e2 := he.cell HXk.out; go_simp; rfl); simp only [Act.put, List.setIfInBounds_toArray, List.set_cons_zero, List.set_cons_succ])
              (refine LexW.pure (v := ?_) rfl rfl (fun w1 he => ?_) ?_; rotate_left; ( have e1 := he.cell HXc.out; have e2 := he.cell HXk.out; go_simp; rfl); simp only [Act.put, List.setIfInBounds_toArray, List.set_cons_zero, List.set_cons_succ])
              (refine LexW.pure (v := ?_) rfl rfl (fun w1 he => ?_) ?_; rotate_left; ( have e1 := he.cell HXc.out; have e2 := he.cell HXk.out; go_simp; rfl); simp only [Act.put, List.setIfInBounds_toArray, List.set_cons_zero, List.set_cons_succ])
              (refine LexW.pure (v := ?_) rfl rfl (fun w1 he => ?_) ?_; rotate_left; ( have e1 := he.cell HXc.out; have e2 := he.cell HXk.out; go_simp; rfl); simp only [Act.put, List.setIfInBounds_toArray, List.set_cons_zero, List.set_cons_succ])
              (refine LexW.pure (v := ?_) rfl rfl (fun w1 he => ?_) ?_; rotate_left; ( have e1 := he.cell HXc.out; have e2 := he.cell HXk.out; go_simp; rfl); simp only [Act.put, List.setIfInBounds_toArray, List.set_cons_zero, List.set_cons_succ])
              (refine LexW.pure (v := ?_) rfl rfl (fun w1 he => ?_) ?_; rotate_left; ( have e1 := he.cell HXc.out; have e2 := he.cell HXk.out; go_simp; rfl); simp only [Act.put, List.setIfInBounds_toArray, List.set_cons_zero, List.set_cons_succ])
              (refine LexW.pure (v := ?_) rfl rfl (fun w1 he => ?_) ?_; rotate_left; ( have e1 := he.cell HXc.out; have e2 := he.cell HXk.out; go_simp; rfl); simp only [Act.put, List.setIfInBounds_toArray, List.set_cons_zero, List.set_cons_succ])
              (refine LexW.pure (v := ?_) rfl rfl (fun w1 he => ?_) ?_; rotate_left; ( have e1 := he.cell HXc.out; have e2 := he.cell HXk.out; go_simp; rfl); simp only [Act.put, List.setIfInBounds_toArray, List.set_cons_zero, List.set_cons_succ])
              (refine LexW.call (f := ?_) (args := ?_) rfl rfl (fun w1 => ?_) (fun w1 he hdep => ?_) ?_; rotate_left 2; (go_simp; refine ⟨?_, ?_⟩ <;> rfl); ( exact c_inv p _ w1 (by omega) (by omega) HZb.out.1 HZb.out.2); simp only [Act.put, List.setIfInBounds_toArray, List.set_cons_zero, List.set_cons_succ])
              (refine LexW.callR (f := ?_) (args := ?_) rfl rfl (fun w1 => ?_) (fun w1 he hdep => ?_) (fun v hv => ?_); rotate_left 2; (go_simp; refine ⟨?_, ?_⟩ <;> rfl); ( refine (c_scaled p _ m _ (nthR R j) (invN p (nth (nthR R j) k)) w1 (by omega) (by omega) HIb.out (by omega) (HXr.out.ext he) HXg.out).mono ?_; rintro e w2 ⟨g, rc, rfl, ho, g2⟩; exact ⟨_, rfl, g2, g, rc, rfl, ho.mono he.size⟩); simp only [Act.put, List.setIfInBounds_toArray, List.set_cons_zero, List.set_cons_succ])
              obtain ⟨_, g82, c82, rfl, _⟩ := hv
              (refine LexW.pure (v := ?_) rfl rfl (fun w1 he => ?_) ?_; rotate_left; ( have e1 := he.cell HXc.out; have e2 := he.cell HXk.out; go_simp; rfl); simp only [Act.put, List.setIfInBounds_toArray, List.set_cons_zero, List.set_cons_succ])
              refine LexW.nil (fun w3 he hkn => ?_)
              obtain ⟨_, _, q82, r82⟩ : (SPred.ownS W2.drew.heap.size m (scaleL p (nthR R j) (invN p (nth (nthR R j) k)) m)).holds (.slice (some ⟨g82, 0, none⟩) m c82) w3 := hkn (16, _) (by simp)
              cases q82
              have R82 := Lib.hid r82
              have HE := Lib.hid he
              clear he hkn r82
              have ow3 := (HOw2.out.ext (ext_drew W2)).ext HE.out
              obtain ⟨ay, cy, hcy, _⟩ := ow3.at hdn
              have hfy := ow3.frozen d
              clear ow3
              go_wp2_with (fail)
              obtain ⟨W3, hW3⟩ : ∃ W3, W3 = w3.setCell ⟨g, d, none⟩ (.slice (some ⟨g82, 0, none⟩) m c82) := ⟨_, rfl⟩
              have HOw3 : Hid (OwnR w.heap.size W3 (some ⟨g, 0, none⟩) n rc (upG p m R d k j)) := by rw [hW3]; exact (HOw2.out.ext (ext_drew W2)).put HE.out (HE2.out.trans (ext_drew W2)).size R82.out hdn
              have HE3 : Hid (Ext w W3) := by rw [hW3]; exact (HE2.out.trans ((ext_drew W2).trans HE.out)).setCell HNM.out.1 _
              rw [← hW3]
              clear hW3 hcy hfy R82 HE HXc HXk HXr HOw2 HE2
              have HUG := Lib.hid (upG_good (k := k) (show 1 ≤ p by omega) HRG.out (show d < R.length by rw [HRL.out]; exact hdn) (show j < R.length by rw [HRL.out]; exact hjn))
              have HUL := Lib.hid (show (upG p m R d k j).length = n by rw [upG_len, HRL.out])
              obtain ⟨U, hU⟩ : ∃ U, U = upG p m R d k j := ⟨_, rfl⟩
              have HU := Lib.hid hU
              rw [← hU] at HOw3 HUG HUL
              clear hU
              go_loopw [86] (fun i wr => ∃ (r : Nat) (C : List (List Int)), r ≤ n ∧ i = .int .i64 r ∧ Hid (C = clrS p k m d U r) ∧ OwnR w.heap.size wr (some ⟨g, 0, none⟩) n rc C ∧ Ext w wr) (fun i _ => n - (intOf i).toNat)
              case atStart => exact ⟨0, U, Nat.zero_le _, rfl, Lib.hid rfl, HOw3.out, HE3.out⟩
              case round =>
                obtain ⟨r, C, hr, rfl, HC, hown, hext⟩ := hrel
                have HCo := Lib.hid hown
                have HCe := Lib.hid hext
                have HCg : Hid (RowsG p m C) := Lib.hid (by rw [HC.out]; exact clrS_good (by omega) HUG.out r)
                have HCl : Hid (C.length = n) := Lib.hid hown.1
                clear hown hext
                by_cases hrn : r < n
                · by_cases hrd : r = d
                  · have hrb : ((r : Int) != (d : Int)) = false := by simp [hrd]
                    have HRD := Lib.hid hrd
                    clear hrd
                    go_wp2_with (fail)
                    go_roundw
                    case rel => exact ⟨r + 1, C, by omega, by go_num, Lib.hid (by rw [HC.out, clrS_self HRD.out]), HCo.out, HCe.out⟩
                    case measure => simp [intOf]; omega
                  · have hrb : ((r : Int) != (d : Int)) = true := by simp; omega
                    obtain ⟨ar, cr, hcr, hor⟩ := HCo.out.at hrn
                    rw [ownR_put_len HCg.out HCl.out hrn] at hcr hor
                    obtain ⟨br, or, rfl, hcrk⟩ := hor.rd.2 k hkm
                    by_cases hz : nth (nthR C r) k = 0
                    · have hzb : (nth (nthR C r) k != 0) = false := by simp [hz]
                      have HZ0 := Lib.hid hz
                      clear hz hor
                      go_wp2_with (fail)
                      go_roundw
                      case rel => exact ⟨r + 1, C, by omega, by go_num, Lib.hid (by rw [clrS_zero (by omega) HUG.out (by rw [HUL.out]; exact hrn) (by rw [← HC.out]; exact HZ0.out)]; exact HC.out), HCo.out, HCe.out⟩
                      case measure => simp [intOf]; omega
                    · have hzb : (nth (nthR C r) k != 0) = true := by simp [hz]
                      have HRd0 := Lib.hid hrd
                      obtain ⟨ad2, cd2, hcd2, hod2⟩ := HCo.out.at hdn
                      rw [ownR_put_len HCg.out HCl.out hdn] at hcd2 hod2
                      have HRr := Lib.hid (hor.rd.ext (ext_drew wr))
                      have HRd := Lib.hid (hod2.rd.ext (ext_drew wr))
                      have HCr := Lib.hid ((ext_drew wr).cell hcr)
                      have HCd := Lib.hid ((ext_drew wr).cell hcd2)
                      have HCk := Lib.hid ((ext_drew wr).cell hcrk)
                      have HGr := Lib.hid (HCg.out r (by rw [HCl.out]; exact hrn))
                      have HGd := Lib.hid (HCg.out d (by rw [HCl.out]; exact hdn))
                      have HZr := Lib.hid (HGr.out.2 k hkm)
                      have HNeg : Hid (IntKind.i64.wrap (-(nth (nthR C r) k)) = -(nth (nthR C r) k)) := Lib.hid (IntWalk.i64_in _ (by have := HZr.out; omega))
                      clear hz hor hod2 hcd2
                      go_wp2_with (fail)
                      clear hcr hcrk
                      refine wp_region_lex_tail 21 [(19, .ownS wr.drew.heap.size m (plusL p (nthR C r) (nthR C d) (-(nth (nthR C r) k)) m))] (by kernel_rfl) (by kernel_rfl) ?_
                      simp only [List.take, List.drop]
                      (refine LexW.pure (v := ?_) rfl rfl (fun w1 he => ?_) ?_; rotate_left; ( have e1 := he.cell HCr.out; have e2 := he.cell HCd.out; have e3 := he.cell HCk.out; have e4 := HNeg.out; go_simp; rfl); simp only [Act.put, List.setIfInBounds_toArray, List.set_cons_zero, List.set_cons_succ])
                      (refine LexW.pure (v := ?_) rfl rfl (fun w1 he => ?_) ?_; rotate_left; ( have e1 := he.cell HCr.out; have e2 := he.cell HCd.out; have e3 := he.cell HCk.out; have e4 := HNeg.out; go_simp; rfl); simp only [Act.put, List.setIfInBounds_toArray, List.set_cons_zero, List.set_cons_succ])
                      (refine LexW.pure (v := ?_) rfl rfl (fun w1 he => ?_) ?_; rotate_left; ( have e1 := he.cell HCr.out; have e2 := he.cell HCd.out; have e3 := he.cell HCk.out; have e4 := HNeg.out; go_simp; rfl); simp only [Act.put, List.setIfInBounds_toArray, List.set_cons_zero, List.set_cons_succ])
                      (refine LexW.pure (v := ?_) rfl rfl (fun w1 he => ?_) ?_; rotate_left; ( have e1 := he.cell HCr.out; have e2 := he.cell HCd.out; have e3 := he.cell HCk.out; have e4 := HNeg.out; go_simp; rfl); simp only [Act.put, List.setIfInBounds_toArray, List.set_cons_zero, List.set_cons_succ])
                      (refine LexW.pure (v := ?_) rfl rfl (fun w1 he => ?_) ?_; rotate_left; ( have e1 := he.cell HCr.out; have e2 := he.cell HCd.out; have e3 := he.cell HCk.out; have e4 := HNeg.out; go_simp; rfl); simp only [Act.put, List.setIfInBounds_toArray, List.set_cons_zero, List.set_cons_succ])
                      (refine LexW.pure (v := ?_) rfl rfl (fun w1 he => ?_) ?_; rotate_left; ( have e1 := he.cell HCr.out; have e2 := he.cell HCd.out; have e3 := he.cell HCk.out; have e4 := HNeg.out; go_simp; rfl); simp only [Act.put, List.setIfInBounds_toArray, List.set_cons_zero, List.set_cons_succ])
                      (refine LexW.pure (v := ?_) rfl rfl (fun w1 he => ?_) ?_; rotate_left; ( have e1 := he.cell HCr.out; have e2 := he.cell HCd.out; have e3 := he.cell HCk.out; have e4 := HNeg.out; go_simp; rfl); simp only [Act.put, List.setIfInBounds_toArray, List.set_cons_zero, List.set_cons_succ])
                      (refine LexW.pure (v := ?_) rfl rfl (fun w1 he => ?_) ?_; rotate_left; ( have e1 := he.cell HCr.out; have e2 := he.cell HCd.out; have e3 := he.cell HCk.out; have e4 := HNeg.out; go_simp; rfl); simp only [Act.put, List.setIfInBounds_toArray, List.set_cons_zero, List.set_cons_succ])
                      (refine LexW.pure (v := ?_) rfl rfl (fun w1 he => ?_) ?_; rotate_left; ( have e1 := he.cell HCr.out; have e2 := he.cell HCd.out; have e3 := he.cell HCk.out; have e4 := HNeg.out; go_simp; rfl); simp only [Act.put, List.setIfInBounds_toArray, List.set_cons_zero, List.set_cons_succ])
                      (refine LexW.pure (v := ?_) rfl rfl (fun w1 he => ?_) ?_; rotate_left; ( have e1 := he.cell HCr.out; have e2 := he.cell HCd.out; have e3 := he.cell HCk.out; have e4 := HNeg.out; go_simp; rfl); simp only [Act.put, List.setIfInBounds_toArray, List.set_cons_zero, List.set_cons_succ])
                      (refine LexW.pure (v := ?_) rfl rfl (fun w1 he => ?_) ?_; rotate_left; ( have e1 := he.cell HCr.out; have e2 := he.cell HCd.out; have e3 := he.cell HCk.out; have e4 := HNeg.out; go_simp; rfl); simp only [Act.put, List.setIfInBounds_toArray, List.set_cons_zero, List.set_cons_succ])
                      (refine LexW.pure (v := ?_) rfl rfl (fun w1 he => ?_) ?_; rotate_left; ( have e1 := he.cell HCr.out; have e2 := he.cell HCd.out; have e3 := he.cell HCk.out; have e4 := HNeg.out; go_simp; rfl); simp only [Act.put, List.setIfInBounds_toArray, List.set_cons_zero, List.set_cons_succ])
                      (refine LexW.pure (v := ?_) rfl rfl (fun w1 he => ?_) ?_; rotate_left; ( have e1 := he.cell HCr.out; have e2 := he.cell HCd.out; have e3 := he.cell HCk.out; have e4 := HNeg.out; go_simp; rfl); simp only [Act.put, List.setIfInBounds_toArray, List.set_cons_zero, List.set_cons_succ])
                      (refine LexW.pure (v := ?_) rfl rfl (fun w1 he => ?_) ?_; rotate_left; ( have e1 := he.cell HCr.out; have e2 := he.cell HCd.out; have e3 := he.cell HCk.out; have e4 := HNeg.out; go_simp; rfl); simp only [Act.put, List.setIfInBounds_toArray, List.set_cons_zero, List.set_cons_succ])
                      (refine LexW.pure (v := ?_) rfl rfl (fun w1 he => ?_) ?_; rotate_left; ( have e1 := he.cell HCr.out; have e2 := he.cell HCd.out; have e3 := he.cell HCk.out; have e4 := HNeg.out; go_simp; rfl); simp only [Act.put, List.setIfInBounds_toArray, List.set_cons_zero, List.set_cons_succ])
                      (refine LexW.pure (v := ?_) rfl rfl (fun w1 he => ?_) ?_; rotate_left; ( have e1 := he.cell HCr.out; have e2 := he.cell HCd.out; have e3 := he.cell HCk.out; have e4 := HNeg.out; go_simp; rfl); simp only [Act.put, List.setIfInBounds_toArray, List.set_cons_zero, List.set_cons_succ])
                      (refine LexW.pure (v := ?_) rfl rfl (fun w1 he => ?_) ?_; rotate_left; ( have e1 := he.cell HCr.out; have e2 := he.cell HCd.out; have e3 := he.cell HCk.out; have e4 := HNeg.out; go_simp; rfl); simp only [Act.put, List.setIfInBounds_toArray, List.set_cons_zero, List.set_cons_succ])
                      (refine LexW.pure (v := ?_) rfl rfl (fun w1 he => ?_) ?_; rotate_left; ( have e1 := he.cell HCr.out; have e2 := he.cell HCd.out; have e3 := he.cell HCk.out; have e4 := HNeg.out; go_simp; rfl); simp only [Act.put, List.setIfInBounds_toArray, List.set_cons_zero, List.set_cons_succ])
                      (refine LexW.pure (v := ?_) rfl rfl (fun w1 he => ?_) ?_; rotate_left; ( have e1 := he.cell HCr.out; have e2 := he.cell HCd.out; have e3 := he.cell HCk.out; have e4 := HNeg.out; go_simp; rfl); simp only [Act.put, List.setIfInBounds_toArray, List.set_cons_zero, List.set_cons_succ])
                      (refine LexW.callR (f := ?_) (args := ?_) rfl rfl (fun w1 => ?_) (fun w1 he hdep => ?_) (fun v hv => ?_); rotate_left 2; (go_simp; refine ⟨?_, ?_⟩ <;> rfl); ( refine (c_plus p _ _ m _ _ (nthR C r) (nthR C d) (-(nth (nthR C r) k)) w1 (by omega) (by omega) (by have := HZr.out; omega) (by omega) (HRr.out.ext he) (HRd.out.ext he) HGr.out HGd.out).mono ?_; rintro e w2 ⟨g, rc, rfl, ho, g2⟩; exact ⟨_, rfl, g2, g, rc, rfl, ho.mono he.size⟩); simp only [Act.put, List.setIfInBounds_toArray, List.set_cons_zero, List.set_cons_succ])
                      obtain ⟨_, g121, c121, rfl, _⟩ := hv
                      (refine LexW.pure (v := ?_) rfl rfl (fun w1 he => ?_) ?_; rotate_left; ( have e1 := he.cell HCr.out; have e2 := he.cell HCd.out; have e3 := he.cell HCk.out; have e4 := HNeg.out; go_simp; rfl); simp only [Act.put, List.setIfInBounds_toArray, List.set_cons_zero, List.set_cons_succ])
                      refine LexW.nil (fun w3 he hkn => ?_)
                      obtain ⟨_, _, q121, r121⟩ : (SPred.ownS wr.drew.heap.size m (plusL p (nthR C r) (nthR C d) (-(nth (nthR C r) k)) m)).holds (.slice (some ⟨g121, 0, none⟩) m c121) w3 := hkn (19, _) (by simp)
                      cases q121
                      have R121 := Lib.hid r121
                      have HE := Lib.hid he
                      clear he hkn r121
                      have ow4 := (HCo.out.ext (ext_drew wr)).ext HE.out
                      obtain ⟨ay, cy, hcy, _⟩ := ow4.at hrn
                      have hfy := ow4.frozen r
                      clear ow4
                      go_wp2_with (fail)
                      go_roundw
                      case rel => exact ⟨r + 1, C.set r (plusL p (nthR C r) (nthR C d) (-(nth (nthR C r) k)) m), by omega, by go_num, Lib.hid (by rw [clrS_ne HRd0.out, ← HC.out]), (HCo.out.ext (ext_drew wr)).put HE.out (HCe.out.trans (ext_drew wr)).size R121.out hrn, (HCe.out.trans ((ext_drew wr).trans HE.out)).setCell HNM.out.1 _⟩
                      case measure => simp [intOf]; omega
                · obtain rfl : r = n := by omega
                  go_wp2_with (fail)
                  go_roundw
                  case rel => exact ⟨k + 1, d + 1, C, by omega, by omega, by go_num, by go_num, Lib.hid (by
                    show stepG p m (gaussS p m rows k) k = _
                    rw [HS.out, stepG_yes (s := (R, d)) HPiv.out (by rw [HRL.out]; exact hjn), HC.out, HU.out, HRL.out]), HCo.out, HCe.out⟩
                  case measure => simp [intOf]; omega
        · have hjb : ((j : Int) == (n : Int)) = true := by simp; omega
          have HPiv := Lib.hid (pivG_eq (rows := R) (k := k) (d := d) hdj (by rw [HRL.out]; exact hj) HZ.out (.inl (by rw [HRL.out]; omega)))
          go_wp2_with (fail)
          go_roundw
          case rel => exact ⟨k + 1, d, R, by omega, hd, by go_num, rfl, Lib.hid (by
            show stepG p m (gaussS p m rows k) k = _
            rw [HS.out]
            exact stepG_no (s := (R, d)) (by rw [HPiv.out, HRL.out]; omega)), HOwn.out, HExt.out⟩
          case measure => simp [intOf]; omega
end Go.Proofs.Ytnabpmafcflljaa

/-
  Contract: multiples of lists, in the reference; a row brought up by two stores with calls between.
  No condition.
-/
namespace Go.Proofs.Ytnabpmafcflljaa
set_option maxRecDepth 100000
open Go.RowKit

set_option maxHeartbeats 1000000 in
theorem s_scale (p : Int) (ax : Option Addr) (n cx : Nat) (x : List Int) (k : Int) (w : World) (hp1 : 3 ≤ p) (hp2 : p ≤ 1000) (hk : 0 ≤ k ∧ k ≤ 1000) (hn : n ≤ 4194303) (hx : RdC w ax n x) (hgx : Good p n x) :
    Calls Try.prog 119 #[.int .i64 p, .slice ax n cx, .int .i64 k] w fun e w' => ∃ g rc, e = .returned (.slice (some ⟨g, 0, none⟩) n rc) ∧ OwnC w.heap.size w' (some ⟨g, 0, none⟩) n rc (scaleL p x k n) ∧ Ext w w' := by
  have hpz : ¬ p = 0 := by omega
  have HX := Lib.hid hx
  have HGX := Lib.hid hgx
  clear hx hgx
  go_enter Try.func119, Try.ntmps119
  go_wp2_with (fail)
  go_loopw [7, 8] (fun v i wr => ∃ (j g rc : Nat), j ≤ n ∧ i = .int .i64 j ∧ v = .slice (some ⟨g, 0, none⟩) j rc ∧ OwnC w.heap.size wr (some ⟨g, 0, none⟩) j rc (scaleL p x k j) ∧ Ext w wr) (fun _ i _ => n - (intOf i).toNat)
  case atStart => exact ⟨0, _, _, Nat.zero_le _, rfl, rfl, own_empty w, ext_alloc _ _⟩
  case round =>
    obtain ⟨j, g, rc, hj, rfl, rfl, hown, hext⟩ := hrel
    have HOwn := Lib.hid hown
    have HExt := Lib.hid hext
    clear hown hext
    by_cases hlt : j < n
    · obtain ⟨bx, ox, rfl, hcx⟩ := HX.out.2 j hlt
      have hcx' := HExt.out.cell hcx
      have hbx := HGX.out.2 j hlt
      have hkb := kmul_bd ⟨by omega, hk.2⟩ hbx.1 (show nth x j ≤ 1000 by omega)
      rw [Int.mul_comm] at hkb
      have hkn : 0 ≤ nth x j * k := Int.mul_nonneg hbx.1 hk.1
      have hw1 : IntKind.i64.wrap (nth x j * k) = nth x j * k := IntWalk.i64_in _ (by omega)
      have hw3 : (nth x j * k).tmod p = scaleN p x k j := Int.tmod_eq_emod_of_nonneg hkn
      clear hcx
      go_wp2_with (at_builtin; refine wpList_push rfl (.tmp 16) (.tmp 25) rfl rfl rfl (v := scaleN p x k j) (HOwn.out.ext (ext_alloc _ _)) ?hc ?hn ?hB ?hk)
      case hc => simp [scaleN]
      case hn => omega
      case hB => have hz := HExt.out.size'; simp; omega
      case hk =>
        intro g' cap' w3 ho3 hg3 he3
        have HO3 := Lib.hid ho3
        have HE3 := Lib.hid (he3 w (Nat.le_refl _) (HExt.out.alloc _))
        clear ho3 hg3 he3
        go_wp2_with (fail)
        go_roundw
        case rel => exact ⟨j + 1, g', cap', by omega, by go_num, rfl, by rw [scaleL_succ]; exact HO3.out, HE3.out⟩
        case measure => simp [intOf]; omega
    · go_wp2_with (fail)
      go_ret
      obtain rfl : j = n := by omega
      exact ⟨g, rc, rfl, HOwn.out, HExt.out⟩

/-- Row d is stored at place i; later a new row at place d. -/
theorem OwnR.up {B : Nat} {w0 w2 : World} {g n cap : Nat} {rows : List (List Int)} {b : Option Addr} {m c : Nat} {xs : List Int} {i d : Nat} {ad : Option Addr} {cd : Nat}
    (h : OwnR B w0 (some ⟨g, 0, none⟩) n cap rows) (hi : i < n) (hd : d < n) (hc : w0.cell? ⟨g, d, none⟩ = some (.slice ad (nthR rows d).length cd))
    (he : Ext (w0.setCell ⟨g, i, none⟩ (.slice ad (nthR rows d).length cd)) w2) (hB : B ≤ w0.heap.size) (hx : OwnC w0.heap.size w2 b m c xs) :
    OwnR B (w2.setCell ⟨g, d, none⟩ (.slice b m c)) (some ⟨g, 0, none⟩) n cap ((rows.set i (nthR rows d)).set d xs) ∧ (∃ v, w2.cell? ⟨g, d, none⟩ = some v) ∧ w2.frozen? ⟨g, d, none⟩ = false := by
  obtain ⟨h1, vs, h2, hap, h4⟩ := h
  have hvl : vs.length = n := by have := h2.1; omega
  have vd : vs[d]? = some (.slice ad (nthR rows d).length cd) := by rw [← h2.cellAt d (by omega)]; exact hc
  have h3 := (h2.stored i (.slice ad (nthR rows d).length cd)).1
  have h3' := ownsRow_ext h3 he
  refine ⟨?_, ⟨_, (h3'.cellAt d (by omega)).trans (List.getElem?_eq_getElem (by simp; omega))⟩, h3'.frozenAt d⟩
  have h5 := (h3'.stored d (.slice b m c)).1
  have get : ∀ k, k < n → ((vs.set i (.slice ad (nthR rows d).length cd)).set d (.slice b m c))[k]? = if k = d then some (.slice b m c) else vs[if k = i then d else k]? := fun k hk => by
    by_cases hkd : k = d
    · subst hkd; rw [List.getElem?_set_self (by simp; omega), if_pos rfl]
    · rw [List.getElem?_set_ne (Ne.symm hkd), if_neg hkd]
      by_cases hki : k = i
      · subst hki; rw [List.getElem?_set_self (by omega), if_pos rfl, vd]
      · rw [List.getElem?_set_ne (Ne.symm hki), if_neg hki]
  have old : ∀ l n3 c3 g', l < n → vs[l]? = some (.slice (some ⟨g', 0, none⟩) n3 c3) → g' < w0.heap.size := fun l n3 c3 g' hl e => by
    obtain ⟨ai, ci, h5, h6⟩ := h4 l hl
    rw [h5] at e
    simp only [Option.some.injEq, Value.slice.injEq] at e
    exact (h6.base_of g' e.1).2
  refine ⟨by simpa using h1, _, h5, ?_, fun k hk => ?_⟩
  · intro k l g' n1 c1 n2 c2 hkl hk hl
    have lt : ∀ l n3 c3, ((vs.set i (.slice ad (nthR rows d).length cd)).set d (.slice b m c))[l]? = some (.slice (some ⟨g', 0, none⟩) n3 c3) → l < n := fun l n3 c3 e => by
      rcases Nat.lt_or_ge l n with h | h
      · exact h
      · rw [List.getElem?_eq_none (by simp; omega)] at e; cases e
    have hk' := lt _ _ _ hk
    have hl' := lt _ _ _ hl
    rw [get k hk'] at hk
    rw [get l hl'] at hl
    by_cases hkd : k = d
    · rw [if_pos hkd] at hk
      simp only [Option.some.injEq, Value.slice.injEq] at hk
      have h7 := (hx.base_of g' hk.1).1
      rw [if_neg (by omega)] at hl
      have h8 := old _ _ _ _ (by split <;> omega) hl
      omega
    · rw [if_neg hkd] at hk
      by_cases hld : l = d
      · rw [if_pos hld] at hl
        simp only [Option.some.injEq, Value.slice.injEq] at hl
        have h7 := (hx.base_of g' hl.1).1
        have h8 := old _ _ _ _ (by split <;> omega) hk
        omega
      · rw [if_neg hld] at hl
        refine hap _ _ g' _ _ _ _ ?_ hk hl
        split <;> split <;> omega
  · rw [get k hk, nthR_set (by simp; omega)]
    by_cases hkd : k = d
    · subst hkd
      rw [if_pos rfl, if_pos rfl, hx.1]
      exact ⟨b, c, rfl, (hx.mono hB).setOuter h3' _⟩
    · rw [if_neg hkd, if_neg (Ne.symm hkd), nthR_set (by omega)]
      have e : (if i = k then nthR rows d else nthR rows k) = nthR rows (if k = i then d else k) := by
        by_cases hki : k = i
        · subst hki; simp
        · rw [if_neg hki, if_neg (Ne.symm hki)]
      rw [e]
      obtain ⟨al, cl, h6, h7⟩ := h4 (if k = i then d else k) (by split <;> omega)
      exact ⟨al, cl, h6, ((h7.setOuter h2 _).ext he).setOuter h3' _⟩
theorem upG_eq {p : Int} {m : Nat} {rows : List (List Int)} {d k i : Nat} : upG p m rows d k i = (rows.set i (nthR rows d)).set d (scaleL p (nthR rows i) (invN p (nth (nthR rows i) k)) m) := by
  unfold upG swapL
  by_cases h : d = i
  · subst h; simp
  · rw [List.set_comm _ _ (by omega : i ≠ d), List.set_set, List.set_comm _ _ (by omega : d ≠ i)]

end Go.Proofs.Ytnabpmafcflljaa

/-
  Contract: the reduced basis of rows, in the reference.
  No condition.
-/
namespace Go.Proofs.Ytnabpmafcflljaa
set_option maxRecDepth 100000
open Go.RowKit

set_option maxHeartbeats 8000000 in
set_option maxRecDepth 100000 in
theorem s_basis (p : Int) (a : Option Addr) (n cap m : Nat) (rows : List (List Int)) (w : World) (hpr : primeB p = true) (hm : 0 < m) (hm2 : m ≤ 4096) (hl : n ≤ 4096) (hx : RdR w a n rows) (hg : RowsG p m rows) :
    Calls Try.prog 79 #[.int .i64 p, .slice a n cap] w fun e w' => ∃ g rc r, e = .returned (.slice (some ⟨g, 0, none⟩) r rc) ∧ OwnR w.heap.size w' (some ⟨g, 0, none⟩) r rc (basisL p m rows) ∧ Ext w w' := by
  have hpb := prime_bd hpr
  have hpz : ¬ p = 0 := by omega
  have HX := Lib.hid hx
  have HG := Lib.hid hg
  have HPR := Lib.hid hpr
  have HLN := Lib.hid hx.1
  have HRed := Lib.hid (fun k (hk : k ≤ m) => gaussS_red hpr hg k hk)
  clear hx hg hpr
  go_enter Try.func79, Try.ntmps79
  go_wp2_with (fail)
  refine (s_own2 a n cap m rows w hm (by omega) (by omega) (fun i hi => (HG.out i (by rw [HLN.out]; exact hi)).1) HX.out).mono ?_
  rintro e w1 ⟨g, rc, rfl, ho, h1⟩
  have HO := Lib.hid ho
  have H1 := Lib.hid h1
  have hgw := Lib.hid (ho.base_of g rfl).1
  clear ho h1
  go_wp2_with (fail)
  go_loopw [6, 7] (fun dd kk wr => ∃ (k d : Nat) (R : List (List Int)), k ≤ m ∧ d ≤ n ∧ kk = .int .i64 k ∧ dd = .int .i64 d ∧ Hid (gaussS p m rows k = (R, d)) ∧ OwnR w.heap.size wr (some ⟨g, 0, none⟩) n rc R ∧ Ext w wr) (fun _ kk _ => m - (intOf kk).toNat)
  case atStart => exact ⟨0, 0, rows, Nat.zero_le _, Nat.zero_le _, rfl, rfl, Lib.hid rfl, HO.out, H1.out⟩
  case round =>
    obtain ⟨k, d, R, hk, hd, rfl, rfl, HS, hown, hext⟩ := hrel
    have HOwn := Lib.hid hown
    have HExt := Lib.hid hext
    have HRL := Lib.hid hown.1
    have HRG : Hid (RowsG p m R) := Lib.hid (by have := (HRed.out k hk).1; rw [HS.out] at this; exact this)
    have HLen : Hid (∀ i, i < n → (nthR R i).length = m) := Lib.hid (fun i hi => (HRG.out i (by rw [HRL.out]; exact hi)).1)
    clear hown hext
    by_cases hfin : n = 0 ∨ k = m
    · have HRes : Hid (R.take d = basisL p m rows) := Lib.hid (by
        unfold basisL
        rcases hfin with h | h
        · have hr : rows = [] := List.length_eq_zero_iff.1 (by rw [HLN.out]; exact h)
          have hR : R = [] := List.length_eq_zero_iff.1 (by rw [HRL.out]; exact h)
          have h2 : (gaussS p m rows m).1 = [] := List.length_eq_zero_iff.1 (by rw [gaussS_len, hr]; rfl)
          rw [hR, h2]; simp
        · have hS := HS.out
          rw [h] at hS
          rw [hS])
      by_cases hn0 : n = 0
      · have hd0 : d = 0 := by omega
        subst hd0
        subst hn0
        go_wp2_with (fail)
        go_ret
        exact ⟨g, rc, 0, rfl, by rw [← HRes.out]; exact HOwn.out.take (Nat.le_refl _), HExt.out⟩
      · obtain ⟨a0, c0, hc0, _⟩ := HOwn.out.at (show 0 < n by omega)
        rw [HLen.out 0 (by omega)] at hc0
        have hcap : n ≤ rc := by obtain ⟨_, vs, h2, _⟩ := HOwn.out; rcases h2.2 with ⟨h3, _⟩ | ⟨_, _, _, h3, _, _, h4, _⟩; cases h3; cases h3; exact h4
        have hdc : (d : Int) ≤ (rc : Int) := by omega
        have hkm : k = m := by omega
        subst hkm
        go_wp2_with (fail)
        go_ret
        exact ⟨g, rc, d, rfl, by rw [← HRes.out]; exact HOwn.out.take hd, HExt.out⟩
    · have hkm : k < m := by omega
      have hn0 : 0 < n := by omega
      clear hfin
      obtain ⟨a0, c0, hc0, _⟩ := HOwn.out.at hn0
      rw [HLen.out 0 hn0] at hc0
      go_wp2_with (fail)
      clear hc0
      go_loop [8] (fun i => ∃ j : Nat, d ≤ j ∧ j ≤ n ∧ i = .int .i64 j ∧ Hid (∀ t, d ≤ t → t < j → nth (nthR R t) k = 0)) (fun i => n - (intOf i).toNat)
      case atStart => exact ⟨d, Nat.le_refl _, hd, rfl, Lib.hid (fun t h1 h2 => by omega)⟩
      case round =>
        obtain ⟨j, hdj, hj, rfl, HZ⟩ := hrel
        by_cases hjn : j < n
        · obtain ⟨aj, cj, hcj, hoj⟩ := HOwn.out.at hjn
          rw [HLen.out j hjn] at hcj hoj
          obtain ⟨bj, oj, rfl, hcjk⟩ := hoj.rd.2 k hkm
          by_cases hz : nth (nthR R j) k = 0
          · have hzb : (nth (nthR R j) k == 0) = true := by simp [hz]
            have HZ' := Lib.hid hz
            clear hz hoj
            go_wp2_with (fail)
            go_round
            case rel => exact ⟨j + 1, by omega, by omega, by go_num, Lib.hid (fun t h1 h2 => by
              by_cases htj : t = j
              · subst htj; exact HZ'.out
              · exact HZ.out t h1 (by omega))⟩
            case measure => simp [intOf]; omega
          · have hzb : (nth (nthR R j) k == 0) = false := by simp [hz]
            have hjb : ((j : Int) == (n : Int)) = false := by simp; omega
            have HPiv := Lib.hid (pivG_eq (rows := R) (k := k) (d := d) hdj (by rw [HRL.out]; exact hj) HZ.out (.inr hz))
            have hdn : d < n := by omega
            have HOj := Lib.hid hoj
            have HXg := Lib.hid (HRG.out j (by rw [HRL.out]; exact hjn))
            have HZb := Lib.hid (show 0 < nth (nthR R j) k ∧ nth (nthR R j) k < p by have := HXg.out.2 k hkm; omega)
            obtain ⟨ad, cd, hcd, _⟩ := HOwn.out.at hdn
            have HCd := Lib.hid hcd
            rw [HLen.out d hdn] at hcd
            have hfj := HOwn.out.frozen j
            have HNM := Lib.hid (HOwn.out.base_of g rfl)
            have HSt := Lib.hid (show OwnC w.heap.size (wr.setCell ⟨g, j, none⟩ (.slice ad m cd)) (some ⟨bj, oj, none⟩) m cj (nthR R j) by
              obtain ⟨_, vs, h2, _⟩ := HOwn.out
              exact HOj.out.setOuter h2 _)
            have hck2 : (wr.setCell ⟨g, j, none⟩ (.slice ad m cd)).cell? ⟨bj, oj + k, none⟩ = some (.int .i64 (nth (nthR R j) k)) := by
              obtain ⟨b', o', hb', hc'⟩ := HSt.out.rd.2 k hkm
              cases hb'; exact hc'
            have HE2 : Hid (Ext w (wr.setCell ⟨g, j, none⟩ (.slice ad m cd))) := Lib.hid (HExt.out.setCell HNM.out.1 _)
            clear hz hoj
            go_wp2_with (fail)
            obtain ⟨W2, hW2⟩ : ∃ W2, W2 = wr.setCell ⟨g, j, none⟩ (.slice ad m cd) := ⟨_, rfl⟩
            have HW2 := Lib.hid hW2
            rw [← hW2] at HSt hck2 HE2
            rw [← hW2]
            clear hW2
            have hsz : W2.heap.size = wr.heap.size := by rw [HW2.out]; simp [World.setCell]
            clear hcj hcjk hcd hfj
            refine (s_inv p (nth (nthR R j) k) W2 HPR.out HZb.out.1 HZb.out.2).mono ?_
            rintro e w3 ⟨rfl, x3⟩
            have X3 := Lib.hid x3
            have HIb := invN_bd (p := p) (a := nth (nthR R j) k) (by omega)
            clear x3 hck2
            go_wp2_with (fail)
            refine (s_scale p (some ⟨bj, oj, none⟩) m cj (nthR R j) (invN p (nth (nthR R j) k)) w3 (by omega) (by omega) (by omega) (by omega) (HSt.out.rd.ext X3.out) HXg.out).mono ?_
            rintro e w4 ⟨gn, cn, rfl, ho4, x4⟩
            have HN4 := Lib.hid (ho4.mono (B' := wr.heap.size) (by rw [← hsz]; exact X3.out.size))
            have X4 := Lib.hid (X3.out.trans x4)
            have hup := HOwn.out.up (i := j) hjn hdn HCd.out (by rw [HLen.out d hdn, ← HW2.out]; exact X4.out) HExt.out.size HN4.out
            obtain ⟨hup1, ⟨vd, hcd4⟩, hfd4⟩ := hup
            have HUp := Lib.hid hup1
            clear ho4 x4 hup1 HIb
            go_wp2_with (fail)
            obtain ⟨W3, hW3⟩ : ∃ W3, W3 = w4.setCell ⟨g, d, none⟩ (.slice (some ⟨gn, 0, none⟩) m cn) := ⟨_, rfl⟩
            have HOw3 : Hid (OwnR w.heap.size W3 (some ⟨g, 0, none⟩) n rc (upG p m R d k j)) := by rw [hW3, upG_eq]; exact HUp.out
            have HE3 : Hid (Ext w W3) := by rw [hW3]; exact (HE2.out.trans X4.out).setCell HNM.out.1 _
            have HNr : Hid (OwnC w.heap.size W3 (some ⟨gn, 0, none⟩) m cn (nthR (upG p m R d k j) d)) := Lib.hid (by
              rw [upG_nth (by rw [HRL.out]; exact hdn) (by rw [HRL.out]; exact hjn), if_pos rfl, hW3]
              obtain ⟨_, vs, h2, _⟩ := HOwn.out
              have h3 := ownsRow_ext ((HW2.out ▸ (h2.stored j (.slice ad m cd)).1 : W2.ownsRow _ _ _ _ _ _)) X4.out
              exact (HN4.out.mono HExt.out.size).setOuter h3 _)
            rw [← hW3]
            clear hW3 hcd4 hfd4 HUp HE2 HSt HOj HN4 X3 X4 hsz
            have HUG := Lib.hid (upG_good (k := k) (show 1 ≤ p by omega) HRG.out (show d < R.length by rw [HRL.out]; exact hdn) (show j < R.length by rw [HRL.out]; exact hjn))
            have HUL := Lib.hid (show (upG p m R d k j).length = n by rw [upG_len, HRL.out])
            obtain ⟨U, hU⟩ : ∃ U, U = upG p m R d k j := ⟨_, rfl⟩
            have HU := Lib.hid hU
            rw [← hU] at HOw3 HUG HUL HNr
            clear hU
            go_wp2_with (fail)
            go_loopw [10] (fun i wr => ∃ (r : Nat) (C : List (List Int)), r ≤ n ∧ i = .int .i64 r ∧ Hid (C = clrS p k m d U r) ∧ OwnR w.heap.size wr (some ⟨g, 0, none⟩) n rc C ∧ OwnC w.heap.size wr (some ⟨gn, 0, none⟩) m cn (nthR U d) ∧ Ext w wr) (fun i _ => n - (intOf i).toNat)
            case atStart => exact ⟨0, U, Nat.zero_le _, rfl, Lib.hid rfl, HOw3.out, HNr.out, HE3.out⟩
            case round =>
              obtain ⟨r, C, hr, rfl, HC, hown, hrow, hext⟩ := hrel
              have HCo := Lib.hid hown
              have HRw := Lib.hid hrow
              have HCe := Lib.hid hext
              have HCg : Hid (RowsG p m C) := Lib.hid (by rw [HC.out]; exact clrS_good (by omega) HUG.out r)
              have HCl : Hid (C.length = n) := Lib.hid hown.1
              clear hown hrow hext
              by_cases hrn : r < n
              · by_cases hrd : r = d
                · have hrb : ((r : Int) != (d : Int)) = false := by simp [hrd]
                  have HRD := Lib.hid hrd
                  clear hrd
                  go_wp2_with (fail)
                  go_roundw
                  case rel => exact ⟨r + 1, C, by omega, by go_num, Lib.hid (by rw [HC.out, clrS_self HRD.out]), HCo.out, HRw.out, HCe.out⟩
                  case measure => simp [intOf]; omega
                · have hrb : ((r : Int) != (d : Int)) = true := by simp; omega
                  have HRd0 := Lib.hid hrd
                  obtain ⟨ar, cr, hcr, hor⟩ := HCo.out.at hrn
                  rw [(HCg.out r (by rw [HCl.out]; exact hrn)).1] at hcr hor
                  obtain ⟨br, or, rfl, hcrk⟩ := hor.rd.2 k hkm
                  have HRr := Lib.hid (hor.rd.ext (ext_drew wr))
                  have HCr := Lib.hid ((ext_drew wr).cell hcr)
                  have HCk := Lib.hid ((ext_drew wr).cell hcrk)
                  have HGr := Lib.hid (HCg.out r (by rw [HCl.out]; exact hrn))
                  have HGd := Lib.hid (HUG.out d (by rw [HUL.out]; exact hdn))
                  have HZr := Lib.hid (HGr.out.2 k hkm)
                  have HSub : Hid (IntKind.i64.wrap (p - nth (nthR C r) k) = p - nth (nthR C r) k) := Lib.hid (IntWalk.i64_in _ (by have := HZr.out; omega))
                  obtain ⟨kk, hkk⟩ : ∃ kk, kk = (p - nth (nthR C r) k) % p := ⟨_, rfl⟩
                  have HRem : Hid ((p - nth (nthR C r) k).tmod p = kk) := Lib.hid (by rw [hkk]; exact Int.tmod_eq_emod_of_nonneg (by have := HZr.out; omega))
                  have HKb : Hid (0 ≤ kk ∧ kk ≤ 1000) := Lib.hid (by have h1 := Int.emod_nonneg (p - nth (nthR C r) k) (show p ≠ 0 by omega); have h2 := Int.emod_lt_of_pos (p - nth (nthR C r) k) (show 0 < p by omega); rw [hkk]; constructor; exact h1; exact Int.le_of_lt (Int.lt_of_lt_of_le h2 (by omega)))
                  have HMod : Hid (kk % p = (-(nth (nthR C r) k)) % p) := Lib.hid (by rw [hkk, Int.emod_emod, show p - nth (nthR C r) k = -(nth (nthR C r) k) + p by omega, Int.add_emod_right])
                  clear hkk
                  clear hor hrd
                  go_wp2_with (fail)
                  clear hcr hcrk
                  refine wp_region_lex_tail 21 [(19, .ownS wr.drew.heap.size m (plusL p (nthR C r) (nthR U d) kk m))] (by kernel_rfl) (by kernel_rfl) ?_
                  simp only [List.take, List.drop]
                  (refine LexW.pure (v := ?_) rfl rfl (fun w1 he => ?_) ?_; rotate_left; ( have e1 := he.cell HCr.out; have e3 := he.cell HCk.out; have e4 := HSub.out; have e5 := HRem.out; go_simp; rfl); simp only [Act.put, List.setIfInBounds_toArray, List.set_cons_zero, List.set_cons_succ])
                  (refine LexW.pure (v := ?_) rfl rfl (fun w1 he => ?_) ?_; rotate_left; ( have e1 := he.cell HCr.out; have e3 := he.cell HCk.out; have e4 := HSub.out; have e5 := HRem.out; go_simp; rfl); simp only [Act.put, List.setIfInBounds_toArray, List.set_cons_zero, List.set_cons_succ])
                  (refine LexW.pure (v := ?_) rfl rfl (fun w1 he => ?_) ?_; rotate_left; ( have e1 := he.cell HCr.out; have e3 := he.cell HCk.out; have e4 := HSub.out; have e5 := HRem.out; go_simp; rfl); simp only [Act.put, List.setIfInBounds_toArray, List.set_cons_zero, List.set_cons_succ])
                  (refine LexW.pure (v := ?_) rfl rfl (fun w1 he => ?_) ?_; rotate_left; ( have e1 := he.cell HCr.out; have e3 := he.cell HCk.out; have e4 := HSub.out; have e5 := HRem.out; go_simp; rfl); simp only [Act.put, List.setIfInBounds_toArray, List.set_cons_zero, List.set_cons_succ])
                  (refine LexW.pure (v := ?_) rfl rfl (fun w1 he => ?_) ?_; rotate_left; ( have e1 := he.cell HCr.out; have e3 := he.cell HCk.out; have e4 := HSub.out; have e5 := HRem.out; go_simp; rfl); simp only [Act.put, List.setIfInBounds_toArray, List.set_cons_zero, List.set_cons_succ])
                  (refine LexW.pure (v := ?_) rfl rfl (fun w1 he => ?_) ?_; rotate_left; ( have e1 := he.cell HCr.out; have e3 := he.cell HCk.out; have e4 := HSub.out; have e5 := HRem.out; go_simp; rfl); simp only [Act.put, List.setIfInBounds_toArray, List.set_cons_zero, List.set_cons_succ])
                  (refine LexW.pure (v := ?_) rfl rfl (fun w1 he => ?_) ?_; rotate_left; ( have e1 := he.cell HCr.out; have e3 := he.cell HCk.out; have e4 := HSub.out; have e5 := HRem.out; go_simp; rfl); simp only [Act.put, List.setIfInBounds_toArray, List.set_cons_zero, List.set_cons_succ])
                  (refine LexW.pure (v := ?_) rfl rfl (fun w1 he => ?_) ?_; rotate_left; ( have e1 := he.cell HCr.out; have e3 := he.cell HCk.out; have e4 := HSub.out; have e5 := HRem.out; go_simp; rfl); simp only [Act.put, List.setIfInBounds_toArray, List.set_cons_zero, List.set_cons_succ])
                  (refine LexW.pure (v := ?_) rfl rfl (fun w1 he => ?_) ?_; rotate_left; ( have e1 := he.cell HCr.out; have e3 := he.cell HCk.out; have e4 := HSub.out; have e5 := HRem.out; go_simp; rfl); simp only [Act.put, List.setIfInBounds_toArray, List.set_cons_zero, List.set_cons_succ])
                  (refine LexW.pure (v := ?_) rfl rfl (fun w1 he => ?_) ?_; rotate_left; ( have e1 := he.cell HCr.out; have e3 := he.cell HCk.out; have e4 := HSub.out; have e5 := HRem.out; go_simp; rfl); simp only [Act.put, List.setIfInBounds_toArray, List.set_cons_zero, List.set_cons_succ])
                  (refine LexW.pure (v := ?_) rfl rfl (fun w1 he => ?_) ?_; rotate_left; ( have e1 := he.cell HCr.out; have e3 := he.cell HCk.out; have e4 := HSub.out; have e5 := HRem.out; go_simp; rfl); simp only [Act.put, List.setIfInBounds_toArray, List.set_cons_zero, List.set_cons_succ])
                  (refine LexW.pure (v := ?_) rfl rfl (fun w1 he => ?_) ?_; rotate_left; ( have e1 := he.cell HCr.out; have e3 := he.cell HCk.out; have e4 := HSub.out; have e5 := HRem.out; go_simp; rfl); simp only [Act.put, List.setIfInBounds_toArray, List.set_cons_zero, List.set_cons_succ])
                  (refine LexW.pure (v := ?_) rfl rfl (fun w1 he => ?_) ?_; rotate_left; ( have e1 := he.cell HCr.out; have e3 := he.cell HCk.out; have e4 := HSub.out; have e5 := HRem.out; go_simp; rfl); simp only [Act.put, List.setIfInBounds_toArray, List.set_cons_zero, List.set_cons_succ])
                  (refine LexW.pure (v := ?_) rfl rfl (fun w1 he => ?_) ?_; rotate_left; ( have e1 := he.cell HCr.out; have e3 := he.cell HCk.out; have e4 := HSub.out; have e5 := HRem.out; go_simp; rfl); simp only [Act.put, List.setIfInBounds_toArray, List.set_cons_zero, List.set_cons_succ])
                  (refine LexW.pure (v := ?_) rfl rfl (fun w1 he => ?_) ?_; rotate_left; ( have e1 := he.cell HCr.out; have e3 := he.cell HCk.out; have e4 := HSub.out; have e5 := HRem.out; go_simp; rfl); simp only [Act.put, List.setIfInBounds_toArray, List.set_cons_zero, List.set_cons_succ])
                  (refine LexW.pure (v := ?_) rfl rfl (fun w1 he => ?_) ?_; rotate_left; ( have e1 := he.cell HCr.out; have e3 := he.cell HCk.out; have e4 := HSub.out; have e5 := HRem.out; go_simp; rfl); simp only [Act.put, List.setIfInBounds_toArray, List.set_cons_zero, List.set_cons_succ])
                  (refine LexW.pure (v := ?_) rfl rfl (fun w1 he => ?_) ?_; rotate_left; ( have e1 := he.cell HCr.out; have e3 := he.cell HCk.out; have e4 := HSub.out; have e5 := HRem.out; go_simp; rfl); simp only [Act.put, List.setIfInBounds_toArray, List.set_cons_zero, List.set_cons_succ])
                  (refine LexW.pure (v := ?_) rfl rfl (fun w1 he => ?_) ?_; rotate_left; ( have e1 := he.cell HCr.out; have e3 := he.cell HCk.out; have e4 := HSub.out; have e5 := HRem.out; go_simp; rfl); simp only [Act.put, List.setIfInBounds_toArray, List.set_cons_zero, List.set_cons_succ])
                  (refine LexW.pure (v := ?_) rfl rfl (fun w1 he => ?_) ?_; rotate_left; ( have e1 := he.cell HCr.out; have e3 := he.cell HCk.out; have e4 := HSub.out; have e5 := HRem.out; go_simp; rfl); simp only [Act.put, List.setIfInBounds_toArray, List.set_cons_zero, List.set_cons_succ])
                  (refine LexW.callR (f := ?_) (args := ?_) rfl rfl (fun w1 => ?_) (fun w1 he hdep => ?_) (fun v hv => ?_); rotate_left 2; (go_simp; refine ⟨?_, ?_⟩ <;> rfl); ( refine (s_plus p _ _ m _ _ (nthR C r) (nthR U d) kk w1 (by omega) (by omega) HKb.out (by omega) (HRr.out.ext he) (HRw.out.rd.ext ((ext_drew wr).trans he)) HGr.out HGd.out).mono ?_; rintro e w2 ⟨g, rc, rfl, ho, g2⟩; exact ⟨_, rfl, g2, g, rc, rfl, ho.mono he.size⟩); simp only [Act.put, List.setIfInBounds_toArray, List.set_cons_zero, List.set_cons_succ])
                  obtain ⟨_, g99, c99, rfl, _⟩ := hv
                  (refine LexW.pure (v := ?_) rfl rfl (fun w1 he => ?_) ?_; rotate_left; ( have e1 := he.cell HCr.out; have e3 := he.cell HCk.out; have e4 := HSub.out; have e5 := HRem.out; go_simp; rfl); simp only [Act.put, List.setIfInBounds_toArray, List.set_cons_zero, List.set_cons_succ])
                  refine LexW.nil (fun w3 he hkn => ?_)
                  obtain ⟨_, _, q99, r99⟩ : (SPred.ownS wr.drew.heap.size m (plusL p (nthR C r) (nthR U d) kk m)).holds (.slice (some ⟨g99, 0, none⟩) m c99) w3 := hkn (19, _) (by simp)
                  cases q99
                  have R99 := Lib.hid r99
                  have HE := Lib.hid he
                  clear he hkn r99
                  have ow4 := (HCo.out.ext (ext_drew wr)).ext HE.out
                  obtain ⟨ay, cy, hcy, _⟩ := ow4.at hrn
                  have hfy := ow4.frozen r
                  have HOw4 := Lib.hid ow4
                  clear ow4
                  go_wp2_with (fail)
                  go_roundw
                  case rel => exact ⟨r + 1, C.set r (plusL p (nthR C r) (nthR U d) kk m), by omega, by go_num, Lib.hid (by
                    rw [clrS_ne HRd0.out, ← HC.out, plus_mod HMod.out]
                    have : nthR C d = nthR U d := by rw [HC.out, clrS_nth _ (by rw [HUL.out]; exact hr), if_neg (by omega)]
                    rw [this]), (HCo.out.ext (ext_drew wr)).put HE.out (HCe.out.trans (ext_drew wr)).size R99.out hrn, (by
                    obtain ⟨_, vs, h2, _⟩ := HOw4.out
                    exact (HRw.out.ext ((ext_drew wr).trans HE.out)).setOuter h2 _), (HCe.out.trans ((ext_drew wr).trans HE.out)).setCell HNM.out.1 _⟩
                  case measure => simp [intOf]; omega
              · obtain rfl : r = n := by omega
                go_wp2_with (fail)
                go_roundw
                case rel => exact ⟨k + 1, d + 1, C, by omega, by omega, by go_num, by go_num, Lib.hid (by
                  show stepG p m (gaussS p m rows k) k = _
                  rw [HS.out, stepG_yes (s := (R, d)) HPiv.out (by rw [HRL.out]; exact hjn), HC.out, HU.out, HRL.out]), HCo.out, HCe.out⟩
                case measure => simp [intOf]; omega
        · have hjb : ((j : Int) == (n : Int)) = true := by simp; omega
          have HPiv := Lib.hid (pivG_eq (rows := R) (k := k) (d := d) hdj (by rw [HRL.out]; exact hj) HZ.out (.inl (by rw [HRL.out]; omega)))
          go_wp2_with (fail)
          go_roundw
          case rel => exact ⟨k + 1, d, R, by omega, hd, by go_num, rfl, Lib.hid (by
            show stepG p m (gaussS p m rows k) k = _
            rw [HS.out]
            exact stepG_no (s := (R, d)) (by rw [HPiv.out, HRL.out]; omega)), HOwn.out, HExt.out⟩
          case measure => simp [intOf]; omega
end Go.Proofs.Ytnabpmafcflljaa

/-
  The listed function LeftIdealOf.
  No condition.
-/
namespace Go.Proofs.Ytnabpmafcflljaa
set_option maxRecDepth 100000
open Go.RowKit

def idealL (p : Int) (qs x : List Int) : List (List Int) := basisL p (2 ^ qs.length) (turnL (matM p qs x false) (2 ^ qs.length) (2 ^ qs.length))
theorem turn_good {p : Int} {n m : Nat} {rows : List (List Int)} (h : RowsG p m rows) (hn : n = rows.length) : RowsG p n (turnL rows n m) := fun i hi => by
  rw [turnL_len] at hi
  rw [turnL_nth hi]
  exact ⟨colL_len _ _ _, fun j hj => by rw [colL_nth hj]; exact (h j (by omega)).2 i hi⟩
theorem ideal_cnt {p : Int} {qs x : List Int} (hp : primeB p = true) (hd : qs.length ≤ 6) : (idealL p qs x).length ≤ 1048576 ∧ cntR (idealL p qs x) (idealL p qs x).length ≤ 1048576 := by
  have hpb := prime_bd hp
  have h64 := pow_le64 hd
  obtain ⟨c, hb⟩ := basis_red hp (turn_good (matM_good (qs := qs) (x := x) (left := false) (show 1 ≤ p by omega)) (matM_len p qs x false).symm)
  have hl : (idealL p qs x).length ≤ 2 ^ qs.length := hb.len
  refine ⟨by omega, ?_⟩
  rw [cnt_good (show RowsG p (2 ^ qs.length) (idealL p qs x) from hb.good) _ (Nat.le_refl _)]
  exact Nat.le_trans (Nat.mul_le_mul hl (Nat.le_refl _)) (Nat.le_trans (Nat.mul_le_mul h64 h64) (by omega))




end Go.Proofs.Ytnabpmafcflljaa

/-
  Matrices: checks, products, the listed functions of them at matrices.
  No condition.
-/
namespace Go.Proofs.Ytnabpmafcflljaa
set_option maxRecDepth 100000
open Go.RowKit

/-- A row fits a table. -/
def rowOk (p : Int) (m : Nat) (r : List Int) : Bool := decide (r.length = m) && decide (1 ≤ r.length) && decide (r.length ≤ 16) && isB p r
def tableB (p : Int) (rows : List (List Int)) : Bool := decide (rows.length ≤ 16) && decide (∀ i, i < rows.length → rowOk p (nthR rows 0).length (nthR rows i) = true)
def matB (p : Int) (rows : List (List Int)) : Bool := decide (0 < rows.length) && tableB p rows
theorem table_big {p : Int} {rows : List (List Int)} (h : 16 < rows.length) : tableB p rows = false := by
  unfold tableB; rw [decide_eq_false (by omega)]; rfl
theorem table_not {p : Int} {rows : List (List Int)} {n k : Nat} (hk : k < n) (hn : rows.length = n) (h : rowOk p (nthR rows 0).length (nthR rows k) = false) : tableB p rows = false := by
  unfold tableB
  rw [decide_eq_false (p := ∀ i, i < rows.length → _) (fun ha => by have := ha k (by omega); rw [h] at this; cases this)]
  simp
theorem table_yes {p : Int} {rows : List (List Int)} {n : Nat} (hn : rows.length = n) (h16 : n ≤ 16) (h : ∀ k, k < n → rowOk p (nthR rows 0).length (nthR rows k) = true) : tableB p rows = true := by
  unfold tableB
  rw [decide_eq_true (by omega), decide_eq_true (by rw [hn]; exact h)]; rfl
theorem rowOk_of {p : Int} {m : Nat} {r : List Int} (h : rowOk p m r = true) : Good p m r ∧ 1 ≤ m ∧ m ≤ 16 := by
  unfold rowOk at h
  simp only [Bool.and_eq_true, decide_eq_true_eq] at h
  obtain ⟨⟨⟨h1, h2⟩, h3⟩, h4⟩ := h
  exact ⟨good_isB h1 h4, by omega, by omega⟩
theorem matB_of {p : Int} {rows : List (List Int)} (h : matB p rows = true) : 0 < rows.length ∧ rows.length ≤ 16 ∧ ∃ m, 1 ≤ m ∧ m ≤ 16 ∧ ∀ i, i < rows.length → Good p m (nthR rows i) := by
  unfold matB tableB at h
  simp only [Bool.and_eq_true, decide_eq_true_eq] at h
  obtain ⟨h1, h2, h3⟩ := h
  have h0 := rowOk_of (h3 0 h1)
  exact ⟨h1, h2, _, h0.2.1, h0.2.2, fun i hi => (rowOk_of (h3 i hi)).1⟩
theorem matB_good {p : Int} {rows : List (List Int)} {n m : Nat} (hn : rows.length = n) (h0 : 0 < n) (h16 : n ≤ 16) (hm : 1 ≤ m) (hm16 : m ≤ 16) (h : ∀ i, i < n → Good p m (nthR rows i)) : matB p rows = true := by
  unfold matB
  rw [decide_eq_true (by omega), table_yes hn h16 (fun k hk => ?_)]
  · rfl
  · have hk' := h k hk
    unfold rowOk
    rw [(h 0 h0).1, hk'.1, good_bits hk', decide_eq_true rfl, decide_eq_true hm, decide_eq_true hm16]; rfl

set_option maxHeartbeats 4000000 in
theorem c_isTable (p : Int) (a : Option Addr) (n cap : Nat) (rows : List (List Int)) (w : World) (hp1 : 1 ≤ p) (hp2 : p ≤ 1000) (hl : n ≤ 4194304) (hr : ∀ i, i < n → (nthR rows i).length ≤ 4194304) (hx : RdR w a n rows) :
    Calls Try.prog 132 #[.int .i64 p, .slice a n cap] w fun e w' => e = .returned (.bool (tableB p rows)) ∧ Ext w w' := by
  have HX := Lib.hid hx.2
  have HL := Lib.hid hx.1
  have HR := Lib.hid hr
  clear hx hr
  by_cases hbig : 16 < n
  · have hb : (16 : Int) < n := by omega
    have HT := Lib.hid (table_big (p := p) (rows := rows) (by rw [HL.out]; exact hbig))
    go_enter Try.func132, Try.ntmps132
    go_wp2_with (fail)
    go_ret
    exact ⟨ret_bool HT.out.symm, Ext.refl _⟩
  have hb : ¬ (16 : Int) < n := by omega
  go_enter Try.func132, Try.ntmps132
  go_wp2_with (fail)
  go_loopw [6, 12] (fun _ i wr => ∃ (k : Nat), k ≤ n ∧ i = .int .i64 k ∧ Hid (∀ j, j < k → rowOk p (nthR rows 0).length (nthR rows j) = true) ∧ Hid (Ext w wr)) (fun _ i _ => n - (intOf i).toNat)
  case atStart => exact ⟨0, Nat.zero_le _, rfl, Lib.hid (fun j hj => by omega), Lib.hid (Ext.refl _)⟩
  case round =>
    obtain ⟨k, hk, rfl, HT, HE⟩ := hrel
    by_cases hlt : k < n
    · obtain ⟨b0, off0, a0, c0, rfl, hc0, hr0⟩ := HX.out 0 (by omega)
      obtain ⟨b1, off1, a1, c1, hab, hc1, hr1⟩ := HX.out k hlt
      simp only [Option.some.injEq, Addr.mk.injEq, and_true] at hab
      obtain ⟨rfl, rfl⟩ := hab
      have hc0' := HE.out.cell hc0
      have hc1' := HE.out.cell hc1
      rw [Nat.add_zero] at hc0'
      have HR1 := Lib.hid (hr1.ext HE.out)
      have hl1 := HR.out k hlt
      have hn0 : 0 < n := by omega
      clear hc0 hc1 hr0 hr1
      by_cases h1 : (nthR rows k).length = (nthR rows 0).length
      · have e1 : (((nthR rows k).length : Int) != ((nthR rows 0).length : Int)) = false := by rw [h1]; simp
        have H1 := Lib.hid h1
        clear h1
        by_cases h2 : 1 ≤ (nthR rows k).length
        · have e2 : ¬ ((nthR rows k).length : Int) < 1 := by omega
          by_cases h3 : (nthR rows k).length ≤ 16
          · have e3 : ¬ (16 : Int) < ((nthR rows k).length : Int) := by omega
            go_wp2_with (fail)
            refine Calls.mono (c_is p a1 _ c1 (nthR rows k) wr hp1 hp2 hl1 HR1.out) ?_
            rintro e w1 ⟨rfl, g1⟩
            replace HE := Lib.hid (HE.out.trans g1)
            clear g1
            cases h4 : isB p (nthR rows k)
            · have HB := Lib.hid (table_not (p := p) hlt HL.out (by simp [rowOk, h4]))
              go_wp2_with (fail)
              go_ret
              exact ⟨ret_bool HB.out.symm, HE.out⟩
            · have HK := Lib.hid (show rowOk p (nthR rows 0).length (nthR rows k) = true by
                unfold rowOk
                rw [h4, decide_eq_true H1.out, decide_eq_true h2, decide_eq_true h3]; rfl)
              go_wp2_with (fail)
              go_roundw
              case rel => exact ⟨k + 1, by omega, by go_num, Lib.hid (fun j hj => by
                by_cases hjk : j = k
                · subst hjk; exact HK.out
                · exact HT.out j (by omega)), HE⟩
              case measure => simp [intOf]; omega
          · have e3 : (16 : Int) < ((nthR rows k).length : Int) := by omega
            have HB := Lib.hid (table_not (p := p) hlt HL.out (by unfold rowOk; rw [decide_eq_false h3]; simp))
            go_wp2_with (fail)
            go_ret
            exact ⟨ret_bool HB.out.symm, HE.out⟩
        · have e2 : ((nthR rows k).length : Int) < 1 := by omega
          have HB := Lib.hid (table_not (p := p) hlt HL.out (by unfold rowOk; rw [decide_eq_false h2]; simp))
          go_wp2_with (fail)
          go_ret
          exact ⟨ret_bool HB.out.symm, HE.out⟩
      · have e1 : (((nthR rows k).length : Int) != ((nthR rows 0).length : Int)) = true := by simp; omega
        have HB := Lib.hid (table_not (p := p) hlt HL.out (by unfold rowOk; rw [decide_eq_false h1]; simp))
        go_wp2_with (fail)
        go_ret
        exact ⟨ret_bool HB.out.symm, HE.out⟩
    · have HB := Lib.hid (table_yes (p := p) HL.out (by omega) (fun k hk => HT.out k (by omega)))
      go_wp2_with (fail)
      go_ret
      exact ⟨ret_bool HB.out.symm, HE.out⟩
set_option maxHeartbeats 1000000 in
theorem c_isMatrix (p : Int) (a : Option Addr) (n cap : Nat) (rows : List (List Int)) (w : World) (hp1 : 1 ≤ p) (hp2 : p ≤ 1000) (hl : n ≤ 4194304) (hr : ∀ i, i < n → (nthR rows i).length ≤ 4194304) (hx : RdR w a n rows) :
    Calls Try.prog 99 #[.int .i64 p, .slice a n cap] w fun e w' => e = .returned (.bool (matB p rows)) ∧ Ext w w' := by
  by_cases h0 : 0 < n
  · have hb : (0 : Int) < n := by omega
    have HM := Lib.hid (show matB p rows = tableB p rows by unfold matB; rw [decide_eq_true (by rw [hx.1]; exact h0)]; rfl)
    go_enter Try.func99, Try.ntmps99
    go_wp2_with (fail)
    refine Calls.mono (c_isTable p a n cap rows w hp1 hp2 hl hr hx) ?_
    rintro e w1 ⟨rfl, g1⟩
    go_wp2_with (fail)
    go_ret
    exact ⟨ret_bool HM.out.symm, g1⟩
  · have hb : ¬ (0 : Int) < n := by omega
    have HM := Lib.hid (show matB p rows = false by unfold matB; rw [decide_eq_false (by rw [hx.1]; exact h0)]; rfl)
    go_enter Try.func99, Try.ntmps99
    go_wp2_with (fail)
    go_ret
    exact ⟨ret_bool HM.out.symm, Ext.refl _⟩

/-! ### Products -/
/-- A matrix and a vector. -/
def appL (p : Int) (rows : List (List Int)) (v : List Int) (m n : Nat) : List Int := (List.range n).map fun i => dotL p (nthR rows i) v m
theorem appL_succ (p : Int) (rows : List (List Int)) (v : List Int) (m n : Nat) : appL p rows v m (n + 1) = appL p rows v m n ++ [dotL p (nthR rows n) v m] := by simp [appL, List.range_succ]
theorem appL_len (p : Int) (rows : List (List Int)) (v : List Int) (m n : Nat) : (appL p rows v m n).length = n := by simp [appL]
theorem appL_nth {p : Int} {rows : List (List Int)} {v : List Int} {m n i : Nat} (h : i < n) : nth (appL p rows v m n) i = dotL p (nthR rows i) v m := by
  unfold appL; rw [nth_map (by simpa using h)]; simp
theorem dotL_bd {p : Int} {x y : List Int} {n : Nat} (hp : 1 ≤ p) : 0 ≤ dotL p x y n ∧ dotL p x y n < p := ⟨Int.emod_nonneg _ (by omega), Int.emod_lt_of_pos _ (by omega)⟩
theorem app_good {p : Int} {rows : List (List Int)} {v : List Int} {m n : Nat} (hp : 1 ≤ p) : Good p n (appL p rows v m n) := ⟨appL_len _ _ _ _ _, fun i hi => by rw [appL_nth hi]; exact dotL_bd hp⟩
/-- The product of matrices: n rows, k columns, m in between. -/
def mulL (p : Int) (a b : List (List Int)) (n m k : Nat) : List (List Int) := (List.range n).map fun i => appL p (turnL b m k) (nthR a i) m k
theorem mulL_succ (p : Int) (a b : List (List Int)) (n m k : Nat) : mulL p a b (n + 1) m k = mulL p a b n m k ++ [appL p (turnL b m k) (nthR a n) m k] := by simp [mulL, List.range_succ]
theorem mulL_len (p : Int) (a b : List (List Int)) (n m k : Nat) : (mulL p a b n m k).length = n := by simp [mulL]
theorem mulL_nth {p : Int} {a b : List (List Int)} {n m k i : Nat} (h : i < n) : nthR (mulL p a b n m k) i = appL p (turnL b m k) (nthR a i) m k := by
  unfold mulL; rw [nthR_map (by simpa using h)]; simp
theorem mul_good {p : Int} {a b : List (List Int)} {n m k : Nat} (hp : 1 ≤ p) : ∀ i, i < n → Good p k (nthR (mulL p a b n m k) i) := fun i hi => by
  rw [mulL_nth hi]; exact app_good hp

set_option maxHeartbeats 2000000 in
theorem c_apply (p : Int) (a : Option Addr) (n cap : Nat) (rows : List (List Int)) (av : Option Addr) (m cv : Nat) (v : List Int) (w : World) (hp1 : 1 ≤ p) (hp2 : p ≤ 1000) (hn : n ≤ 1048576) (hm : m ≤ 1048576) (hx : RdR w a n rows) (hg : ∀ i, i < n → Good p m (nthR rows i)) (hv : RdC w av m v) (hgv : Good p m v) :
    Calls Try.prog 131 #[.int .i64 p, .slice a n cap, .slice av m cv] w fun e w' => ∃ g rc, e = .returned (.slice (some ⟨g, 0, none⟩) n rc) ∧ OwnC w.heap.size w' (some ⟨g, 0, none⟩) n rc (appL p rows v m n) ∧ Ext w w' := by
  have HX := Lib.hid hx
  have HG := Lib.hid hg
  have HV := Lib.hid hv
  clear hx hg hv
  go_enter Try.func131, Try.ntmps131
  go_wp2_with (fail)
  go_loopw [7, 9, 13] (fun o _ i wr => ∃ (j g rc : Nat), j ≤ n ∧ i = .int .i64 j ∧ o = .slice (some ⟨g, 0, none⟩) j rc ∧ Hid (OwnC w.heap.size wr (some ⟨g, 0, none⟩) j rc (appL p rows v m j)) ∧ Hid (Ext w wr)) (fun _ _ i _ => n - (intOf i).toNat)
  case atStart => exact ⟨0, _, 0, Nat.zero_le _, rfl, rfl, Lib.hid (own_empty w), Lib.hid (ext_alloc _ _)⟩
  case round =>
    obtain ⟨j, g, rc, hj, rfl, rfl, HO, HE⟩ := hrel
    by_cases hlt : j < n
    · obtain ⟨b, off, a1, c1, rfl, hc, hr⟩ := HX.out.2 j hlt
      have hgj := HG.out j hlt
      rw [hgj.1] at hc hr
      have hc1 := HE.out.cell hc
      have HR := Lib.hid (hr.ext HE.out)
      clear hc hr
      go_wp2_with (fail)
      refine Calls.mono (c_dot p a1 av m c1 cv (nthR rows j) v wr hp1 hp2 hm HR.out (HV.out.ext HE.out) hgj hgv) ?_
      rintro e w1 ⟨rfl, g1⟩
      replace HO := Lib.hid (HO.out.ext g1)
      replace HE := Lib.hid (HE.out.trans g1)
      clear g1 hc1
      go_wp2_with (at_builtin; refine wpList_push rfl (.tmp 17) (.tmp 22) rfl rfl rfl (v := dotL p (nthR rows j) v m) (HO.out.ext (ext_alloc _ _)) ?hc ?hn ?hB ?hk)
      case hc => simp
      case hn => omega
      case hB => have := HE.out.size; simp; omega
      case hk =>
        intro g' cap' w3 ho3 hg3 he3
        have HO3 := Lib.hid ho3
        have HE3 := Lib.hid (he3 w (Nat.le_refl _) (HE.out.trans (ext_alloc _ _)))
        clear ho3 hg3 he3
        go_wp2_with (fail)
        go_roundw
        case rel => exact ⟨j + 1, g', cap', by omega, by go_num, rfl, Lib.hid (by rw [appL_succ]; exact HO3.out), HE3⟩
        case measure => simp [intOf]; omega
    · go_wp2_with (fail)
      go_ret
      obtain rfl : j = n := by omega
      exact ⟨g, rc, rfl, HO.out, HE.out⟩
set_option maxHeartbeats 2000000 in
theorem c_mtimes (p : Int) (a : Option Addr) (n ca : Nat) (ra : List (List Int)) (b : Option Addr) (m cb : Nat) (rb : List (List Int)) (k : Nat) (w : World) (hp1 : 1 ≤ p) (hp2 : p ≤ 1000) (hn : n ≤ 1048576) (hm0 : 0 < m) (hm : m ≤ 1048576) (hk : k ≤ 1048576) (hx : RdR w a n ra) (hga : ∀ i, i < n → Good p m (nthR ra i)) (hy : RdR w b m rb) (hgb : ∀ i, i < m → Good p k (nthR rb i)) :
    Calls Try.prog 97 #[.int .i64 p, .slice a n ca, .slice b m cb] w fun e w' => ∃ g rc, e = .returned (.slice (some ⟨g, 0, none⟩) n rc) ∧ (0 < n → OwnR w.heap.size w' (some ⟨g, 0, none⟩) n rc (mulL p ra rb n m k)) ∧ Ext w w' := by
  have HX := Lib.hid hx
  have HG := Lib.hid hga
  have HTG := Lib.hid (show ∀ i, i < k → Good p m (nthR (turnL rb m k) i) from fun i hi => turn_good (p := p) (m := k) (n := m) (rows := rb) (fun j hj => hgb j (by rw [← hy.1]; exact hj)) hy.1.symm i (by rw [turnL_len]; exact hi))
  go_enter Try.func97, Try.ntmps97
  go_wp2_with (fail)
  refine Calls.mono (c_transpose b m cb k rb w hm0 hk hm (fun i hi => (hgb i hi).1) hy) ?_
  rintro e w1 ⟨gt, rt, rfl, ho, g1⟩
  have HT := Lib.hid (ho.ext (ext_alloc w1 (.cells #[] 22)))
  have hz1 := g1.size
  have E1 := Lib.hid (g1.trans (ext_alloc w1 (.cells #[] 22)))
  have HT1 := Lib.hid ho
  have G1 := Lib.hid g1
  clear hx hga hy hgb ho g1
  go_wp2_with (fail)
  go_loopw [8, 10, 16] (fun o _ i wr => ∃ (j : Nat) (g rc : Nat), j ≤ n ∧ i = .int .i64 j ∧ o = .slice (some ⟨g, 0, none⟩) j rc ∧ Hid (OwnW w1.heap.size wr (some ⟨g, 0, none⟩) j rc (mulL p ra rb j m k)) ∧ Hid (Ext w1 wr)) (fun _ _ i _ => n - (intOf i).toNat)
  case atStart => exact ⟨0, _, 0, Nat.zero_le _, rfl, rfl, Lib.hid (OwnW.start _ _ _), Lib.hid (ext_alloc _ _)⟩
  case round =>
    obtain ⟨j, g, rc, hj, rfl, rfl, HO, HE⟩ := hrel
    by_cases hlt : j < n
    · obtain ⟨b1, off, a1, c1, rfl, hc, hr⟩ := HX.out.2 j hlt
      have hgj := HG.out j hlt
      rw [hgj.1] at hc hr
      have hc1 := HE.out.cell (G1.out.cell hc)
      have HR := Lib.hid (hr.ext (G1.out.trans HE.out))
      clear hc hr
      go_wp2_with (fail)
      refine Calls.mono (c_apply p (some ⟨gt, 0, none⟩) k rt (turnL rb m k) a1 m c1 (nthR ra j) wr hp1 hp2 hk hm (HT1.out.ext HE.out).rd HTG.out HR.out hgj) ?_
      rintro e w2 ⟨g2, rc2, rfl, ho2, x2⟩
      have HO2 := Lib.hid ho2
      have X2 := Lib.hid x2
      clear ho2 x2 hc1
      go_wp2_with (at_builtin; refine wpList_pushRW rfl (.tmp 20) (.tmp 25) rfl rfl rfl HO.out (X2.out.trans (ext_alloc _ _)) (HO2.out.ext (ext_alloc _ _)) ?hc ?hn ?hB ?hk)
      case hc => simp
      case hn => omega
      case hB => exact HE.out.size
      case hk =>
        intro g' cap' w3 ho3 he3
        have HO3 := Lib.hid ho3
        have HE3 := Lib.hid (he3 w1 (Nat.le_refl _) (HE.out.trans (X2.out.trans (ext_alloc _ _))))
        clear ho3 he3
        go_wp2_with (fail)
        go_roundw
        case rel => exact ⟨j + 1, g', cap', by omega, by go_num, rfl, Lib.hid (.inr (by rw [mulL_succ]; exact HO3.out)), HE3⟩
        case measure => simp [intOf]; omega
    · go_wp2_with (fail)
      go_ret
      obtain rfl : j = n := by omega
      exact ⟨g, rc, rfl, fun h => (HO.out.strong h).mono G1.out.size, G1.out.trans HE.out⟩

end Go.Proofs.Ytnabpmafcflljaa
