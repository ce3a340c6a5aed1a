/-
  Contracts and plain laws, part 6: Basis, Idem, Ker, Kill, Rank, DetP, Mat, Scale, BasisS, Ideal.
  No condition.
-/
import Derived.Test.YtnbhlabcecdbgaaPart2
import Derived.RegionTactic
import Derived.ChangeAlike
import Derived.Test.YtnbhlabcecdbgaaPart0
import Derived.Test.YtnbhlabcecdbgaaPart5
import Derived.Test.YtnbhlabcecdbgaaPart3
import Derived.Test.YtnbhlabcecdbgaaPart1
/-
  Contract: the reduced basis of rows, in the program and in the reference.
  No condition.
-/
namespace Go.Proofs.Ytnbhlabcecdbgaa
set_option maxRecDepth 100000
open Go.RowKit

theorem ownR_put_len {p : Int} {m : Nat} {rows : List (List Int)} (h : RowsG p m rows) {n i : Nat} (hn : rows.length = n) (hi : i < n) : (nthR rows i).length = m := (h i (by omega)).1
theorem basis_nil {p : Int} {m : Nat} : basisL p m [] = [] := by unfold basisL; rw [List.take_of_length_le (by rw [gaussS_len]; exact Nat.zero_le _)]; have := gaussS_len (p := p) (m := m) (rows := []) m; exact List.length_eq_zero_iff.1 this

theorem swapL_at {rows : List (List Int)} {d j : Nat} (hd : d < rows.length) (hj : j < rows.length) : nthR (swapL rows d j) d = nthR rows j := by
  rw [swapL_nth hd hj]
  by_cases h : d = j
  · subst h; rw [if_pos rfl]
  · rw [if_neg h, if_pos rfl]
set_option maxHeartbeats 8000000 in
set_option maxRecDepth 100000 in
theorem c_basis (p : Int) (a : Option Addr) (n cap m : Nat) (rows : List (List Int)) (w : World) (hpr : primeB p = true) (hm : 0 < m) (hm2 : m ≤ 4096) (hl : n ≤ 4096) (hx : RdR w a n rows) (hg : RowsG p m rows) :
    Calls Try.prog 32 #[.int .i64 p, .slice a n cap] w fun e w' => ∃ g rc r, e = .returned (.slice (some ⟨g, 0, none⟩) r rc) ∧ OwnR w.heap.size w' (some ⟨g, 0, none⟩) r rc (basisL p m rows) ∧ Ext w w' := by
  have hpb := prime_bd hpr
  have HX := Lib.hid hx
  have HG := Lib.hid hg
  have HPR := Lib.hid hpr
  have HLN := Lib.hid hx.1
  have HRed := Lib.hid (fun k (hk : k ≤ m) => gaussS_red hpr hg k hk)
  clear hx hg hpr
  go_enter Try.func32, Try.ntmps32
  go_wp2_with (fail)
  refine (c_cloneRows a n cap m rows w hm (by omega) (by omega) (fun i hi => ownR_put_len HG.out HLN.out hi) HX.out).mono ?_
  rintro e w1 ⟨g, rc, rfl, ho, h1⟩
  have HO := Lib.hid ho
  have H1 := Lib.hid h1
  have hgw := Lib.hid (ho.base_of g rfl).1
  clear ho h1
  go_wp2_with (fail)
  go_loopw [6, 7] (fun dd kk wr => ∃ (k d : Nat) (R : List (List Int)), k ≤ m ∧ d ≤ n ∧ kk = .int .i64 k ∧ dd = .int .i64 d ∧ Hid (gaussS p m rows k = (R, d)) ∧ OwnR w.heap.size wr (some ⟨g, 0, none⟩) n rc R ∧ Ext w wr) (fun _ kk _ => m - (intOf kk).toNat)
  case atStart => exact ⟨0, 0, rows, Nat.zero_le _, Nat.zero_le _, rfl, rfl, Lib.hid rfl, HO.out, H1.out⟩
  case round =>
    obtain ⟨k, d, R, hk, hd, rfl, rfl, HS, hown, hext⟩ := hrel
    have HOwn := Lib.hid hown
    have HExt := Lib.hid hext
    have HRL := Lib.hid hown.1
    have HRG : Hid (RowsG p m R) := Lib.hid (by have := (HRed.out k hk).1; rw [HS.out] at this; exact this)
    clear hown hext
    by_cases hfin : n = 0 ∨ k = m ∨ d = n
    · have HRes : Hid (R.take d = basisL p m rows) := Lib.hid (by
        unfold basisL
        rcases hfin with h | h | h
        · have hr : rows = [] := List.length_eq_zero_iff.1 (by rw [HLN.out]; exact h)
          have hR : R = [] := List.length_eq_zero_iff.1 (by rw [HRL.out]; exact h)
          have h2 : (gaussS p m rows m).1 = [] := List.length_eq_zero_iff.1 (by rw [gaussS_len, hr]; rfl)
          rw [hR, h2]; simp
        · have hS := HS.out
          rw [h] at hS
          rw [hS]
        · have := gaussS_stop (p := p) (m := m) (rows := rows) (k := k) (by rw [HS.out, HLN.out]; exact h) (m - k)
          rw [Nat.add_sub_cancel' hk] at this
          rw [this, HS.out])
      by_cases hn0 : n = 0
      · have hd0 : d = 0 := by omega
        subst hd0
        subst hn0
        go_wp2_with (fail)
        go_ret
        exact ⟨g, rc, 0, rfl, by rw [← HRes.out]; exact HOwn.out.take (Nat.le_refl _), HExt.out⟩
      · obtain ⟨a0, c0, hc0, _⟩ := HOwn.out.at (show 0 < n by omega)
        rw [ownR_put_len HRG.out HRL.out (show 0 < n by omega)] at hc0
        have hcap : n ≤ rc := by obtain ⟨_, vs, h2, _⟩ := HOwn.out; rcases h2.2 with ⟨h3, _⟩ | ⟨_, _, _, h3, _, _, h4, _⟩; cases h3; cases h3; exact h4
        have hdc : (d : Int) ≤ (rc : Int) := by omega
        by_cases hkm : k = m
        · subst hkm
          go_wp2_with (fail)
          go_ret
          exact ⟨g, rc, d, rfl, by rw [← HRes.out]; exact HOwn.out.take hd, HExt.out⟩
        · have hdn : d = n := by omega
          have hkm' : k < m := by omega
          subst hdn
          go_wp2_with (fail)
          go_ret
          exact ⟨g, rc, d, rfl, by rw [← HRes.out]; exact HOwn.out.take hd, HExt.out⟩
    · have hkm : k < m := by omega
      have hdn : d < n := by omega
      have hn0 : 0 < n := by omega
      clear hfin
      obtain ⟨a0, c0, hc0, _⟩ := HOwn.out.at hn0
      rw [ownR_put_len HRG.out HRL.out hn0] at hc0
      go_wp2_with (fail)
      clear hc0
      go_loop [8] (fun i => ∃ j : Nat, d ≤ j ∧ j ≤ n ∧ i = .int .i64 j ∧ Hid (∀ t, d ≤ t → t < j → nth (nthR R t) k = 0)) (fun i => n - (intOf i).toNat)
      case atStart => exact ⟨d, Nat.le_refl _, hd, rfl, Lib.hid (fun t h1 h2 => by omega)⟩
      case round =>
        obtain ⟨j, hdj, hj, rfl, HZ⟩ := hrel
        by_cases hjn : j < n
        · obtain ⟨aj, cj, hcj, hoj⟩ := HOwn.out.at hjn
          rw [ownR_put_len HRG.out HRL.out hjn] at hcj hoj
          obtain ⟨bj, oj, rfl, hcjk⟩ := hoj.rd.2 k hkm
          by_cases hz : nth (nthR R j) k = 0
          · have hzb : (nth (nthR R j) k == 0) = true := by simp [hz]
            have HZ' := Lib.hid hz
            clear hz hoj
            go_wp2_with (fail)
            go_round
            case rel => exact ⟨j + 1, by omega, by omega, by go_num, Lib.hid (fun t h1 h2 => by
              by_cases htj : t = j
              · subst htj; exact HZ'.out
              · exact HZ.out t h1 (by omega))⟩
            case measure => simp [intOf]; omega
          · have hzb : (nth (nthR R j) k == 0) = false := by simp [hz]
            have hjb : ((j : Int) == (n : Int)) = false := by simp; omega
            have HPiv := Lib.hid (pivG_eq (rows := R) (k := k) (d := d) hdj (by rw [HRL.out]; exact hj) HZ.out (.inr hz))
            have HNZ := Lib.hid hz
            clear hz hoj
            go_wp2_with (fail)
            clear hcj hcjk
            obtain ⟨ad, cd, aj2, cj2, hcd, hcj2, hod, hoj2, hsw⟩ := HOwn.out.swap hdn hjn
            rw [ownR_put_len HRG.out HRL.out hdn, ownR_put_len HRG.out HRL.out hjn] at hsw
            rw [ownR_put_len HRG.out HRL.out hdn] at hcd hod
            rw [ownR_put_len HRG.out HRL.out hjn] at hcj2 hoj2
            have hfd := HOwn.out.frozen d
            have hfj := HOwn.out.frozen j
            have HOd := Lib.hid hod
            have HOj := Lib.hid hoj2
            have HSw := Lib.hid hsw
            clear hod hoj2 hsw
            have HNM := Lib.hid (HOwn.out.base_of g rfl)
            by_cases hdj2 : d = j
            · subst hdj2
              cases (hcd.symm.trans hcj2)
              go_region
              obtain ⟨W2, hW2⟩ : ∃ W2, W2 = ((wr.setCell ⟨g, d, none⟩ (.slice ad m cd)).setCell ⟨g, d, none⟩ (.slice ad m cd)).drew := ⟨_, rfl⟩
              have HOw2 : Hid (OwnR w.heap.size W2 (some ⟨g, 0, none⟩) n rc (swapL R d d)) := by rw [hW2]; exact HSw.out.ext (ext_drew _)
              have HE2 : Hid (Ext w W2) := by rw [hW2]; exact (((HExt.out.setCell HNM.out.1 _).setCell HNM.out.1 _).trans (ext_drew _))
              rw [← hW2]
              clear hW2 hcd hcj2 hfd hfj HSw HOd HOj
              have HR1 := Lib.hid (swapL_at (show d < R.length by rw [HRL.out]; exact hdn) (show d < R.length by rw [HRL.out]; exact hjn))
              have HXg := Lib.hid (HRG.out d (by rw [HRL.out]; exact hjn))
              obtain ⟨ax, cx, hcx, hox⟩ := HOw2.out.at hdn
              rw [HR1.out, HXg.out.1] at hcx hox
              obtain ⟨bx, ox, rfl, hck⟩ := hox.rd.2 k hkm
              have HXc := Lib.hid ((ext_drew W2).cell hcx)
              have HXk := Lib.hid ((ext_drew W2).cell hck)
              have HXr := Lib.hid (hox.rd.ext (ext_drew W2))
              have HZb := Lib.hid (HXg.out.2 k hkm)
              have HIb : Hid (-1000 ≤ invN p (nth (nthR R d) k) ∧ invN p (nth (nthR R d) k) ≤ 1000) := Lib.hid (by have := invN_bd (p := p) (a := nth (nthR R d) k) (by omega); omega)
              clear hcx hck hox
              go_wp2_with (fail)
              refine wp_region_lex_tail 18 [(15, .val (.int .i64 (invN p (nth (nthR R d) k)))), (16, .ownS W2.drew.heap.size m (scaleL p (nthR R d) (invN p (nth (nthR R d) k)) m))] (by kernel_rfl) (by kernel_rfl) ?_
              simp only [List.take, List.drop]
              (refine LexW.pure (v := ?_) rfl rfl (fun w1 he => ?_) ?_; rotate_left; ( have e1 := he.cell HXc.out; have e2 := he.cell HXk.out; go_simp; rfl); simp only [Act.put, List.setIfInBounds_toArray, List.set_cons_zero, List.set_cons_succ])
              (refine LexW.pure (v := ?_) rfl rfl (fun w1 he => ?_) ?_; rotate_left; ( have e1 := he.cell HXc.out; have e2 := he.cell HXk.out; go_simp; rfl); simp only [Act.put, List.setIfInBounds_toArray, List.set_cons_zero, List.set_cons_succ])
              (refine LexW.pure (v := ?_) rfl rfl (fun w1 he => ?_) ?_; rotate_left; ( have e1 := he.cell HXc.out; have e2 := he.cell HXk.out; go_simp; rfl); simp only [Act.put, List.setIfInBounds_toArray, List.set_cons_zero, List.set_cons_succ])
              (refine LexW.pure (v := ?_) rfl rfl (fun w1 he => ?_) ?_; rotate_left; ( have e1 := he.cell HXc.out; have e2 := he.cell HXk.out; go_simp; rfl); simp only [Act.put, List.setIfInBounds_toArray, List.set_cons_zero, List.set_cons_succ])
              (refine LexW.pure (v := ?_) rfl rfl (fun w1 he => ?_) ?_; rotate_left; ( have e1 := he.cell HXc.out; have e2 := he.cell HXk.out; go_simp; rfl); simp only [Act.put, List.setIfInBounds_toArray, List.set_cons_zero, List.set_cons_succ])
              (refine LexW.pure (v := ?_) rfl rfl (fun w1 he => ?_) ?_; rotate_left; ( have e1 := he.cell HXc.out; have e2 := he.cell HXk.out; go_simp; rfl); simp only [Act.put, List.setIfInBounds_toArray, List.set_cons_zero, List.set_cons_succ])
              (refine LexW.pure (v := ?_) rfl rfl (fun w1 he => ?_) ?_; rotate_left; ( have e1 := he.cell HXc.out; have e2 := he.cell HXk.out; go_simp; rfl); simp only [Act.put, List.setIfInBounds_toArray, List.set_cons_zero, List.set_cons_succ])
              (refine LexW.pure (v := ?_) rfl rfl (fun w1 he => ?_) ?_; rotate_left; ( have e1 := he.cell HXc.out; have e2 := he.cell HXk.out; go_simp; rfl); simp only [Act.put, List.setIfInBounds_toArray, List.set_cons_zero, List.set_cons_succ])
              (refine LexW.pure (v := ?_) rfl rfl (fun w1 he => ?_) ?_; rotate_left; ( have e1 := he.cell HXc.out; have e2 := he.cell HXk.out; go_simp; rfl); simp only [Act.put, List.setIfInBounds_toArray, List.set_cons_zero, List.set_cons_succ])
              (refine LexW.pure (v := ?_) rfl rfl (fun w1 he => ?_) ?_; rotate_left; ( have e1 := he.cell HXc.out; have e2 := he.cell HXk.out; go_simp; rfl); simp only [Act.put, List.setIfInBounds_toArray, List.set_cons_zero, List.set_cons_succ])
              (refine LexW.pure (v := ?_) rfl rfl (fun w1 he => ?_) ?_; rotate_left; ( have e1 := he.cell HXc.out; have e2 := he.cell HXk.out; go_simp; rfl); simp only [Act.put, List.setIfInBounds_toArray, List.set_cons_zero, List.set_cons_succ])
              (refine LexW.pure (v := ?_) rfl rfl (fun w1 he => ?_) ?_; rotate_left; ( have e1 := he.cell HXc.out; have e2 := he.cell HXk.out; go_simp; rfl); simp only [Act.put, List.setIfInBounds_toArray, List.set_cons_zero, List.set_cons_succ])
              (refine LexW.pure (v := ?_) rfl rfl (fun w1 he => ?_) ?_; rotate_left; ( have e1 := he.cell HXc.out; have e2 := he.cell HXk.out; go_simp; rfl); simp only [Act.put, List.setIfInBounds_toArray, List.set_cons_zero, List.set_cons_succ])
              (refine LexW.pure (v := ?_) rfl rfl (fun w1 he => ?_) ?_; rotate_left; ( have e1 := he.cell HXc.out; have e2 := he.cell HXk.out; go_simp; rfl); simp only [Act.put, List.setIfInBounds_toArray, List.set_cons_zero, List.set_cons_succ])
              (refine LexW.pure (v := ?_) rfl rfl (fun w1 he => ?_) ?_; rotate_left; ( have e1 := he.cell HXc.out; have e2 := he.cell HXk.out; go_simp; rfl); simp only [Act.put, List.setIfInBounds_toArray, List.set_cons_zero, List.set_cons_succ])
              (refine LexW.call (f := ?_) (args := ?_) rfl rfl (fun w1 => ?_) (fun w1 he hdep => ?_) ?_; rotate_left 2; (go_simp; refine ⟨?_, ?_⟩ <;> rfl); ( exact c_inv p _ w1 (by omega) (by omega) HZb.out.1 HZb.out.2); simp only [Act.put, List.setIfInBounds_toArray, List.set_cons_zero, List.set_cons_succ])
              (refine LexW.callR (f := ?_) (args := ?_) rfl rfl (fun w1 => ?_) (fun w1 he hdep => ?_) (fun v hv => ?_); rotate_left 2; (go_simp; refine ⟨?_, ?_⟩ <;> rfl); ( refine (c_scaled p _ m _ (nthR R d) (invN p (nth (nthR R d) k)) w1 (by omega) (by omega) HIb.out (by omega) (HXr.out.ext he) HXg.out).mono ?_; rintro e w2 ⟨g, rc, rfl, ho, g2⟩; exact ⟨_, rfl, g2, g, rc, rfl, ho.mono he.size⟩); simp only [Act.put, List.setIfInBounds_toArray, List.set_cons_zero, List.set_cons_succ])
              obtain ⟨_, g82, c82, rfl, _⟩ := hv
              (refine LexW.pure (v := ?_) rfl rfl (fun w1 he => ?_) ?_; rotate_left; ( have e1 := he.cell HXc.out; have e2 := he.cell HXk.out; go_simp; rfl); simp only [Act.put, List.setIfInBounds_toArray, List.set_cons_zero, List.set_cons_succ])
              refine LexW.nil (fun w3 he hkn => ?_)
              obtain ⟨_, _, q82, r82⟩ : (SPred.ownS W2.drew.heap.size m (scaleL p (nthR R d) (invN p (nth (nthR R d) k)) m)).holds (.slice (some ⟨g82, 0, none⟩) m c82) w3 := hkn (16, _) (by simp)
              cases q82
              have R82 := Lib.hid r82
              have HE := Lib.hid he
              clear he hkn r82
              have ow3 := (HOw2.out.ext (ext_drew W2)).ext HE.out
              obtain ⟨ay, cy, hcy, _⟩ := ow3.at hdn
              have hfy := ow3.frozen d
              clear ow3
              go_wp2_with (fail)
              obtain ⟨W3, hW3⟩ : ∃ W3, W3 = w3.setCell ⟨g, d, none⟩ (.slice (some ⟨g82, 0, none⟩) m c82) := ⟨_, rfl⟩
              have HOw3 : Hid (OwnR w.heap.size W3 (some ⟨g, 0, none⟩) n rc (upG p m R d k d)) := by rw [hW3]; exact (HOw2.out.ext (ext_drew W2)).put HE.out (HE2.out.trans (ext_drew W2)).size R82.out hdn
              have HE3 : Hid (Ext w W3) := by rw [hW3]; exact (HE2.out.trans ((ext_drew W2).trans HE.out)).setCell HNM.out.1 _
              rw [← hW3]
              clear hW3 hcy hfy R82 HE HXc HXk HXr HOw2 HE2
              have HUG := Lib.hid (upG_good (k := k) (show 1 ≤ p by omega) HRG.out (show d < R.length by rw [HRL.out]; exact hdn) (show d < R.length by rw [HRL.out]; exact hjn))
              have HUL := Lib.hid (show (upG p m R d k d).length = n by rw [upG_len, HRL.out])
              obtain ⟨U, hU⟩ : ∃ U, U = upG p m R d k d := ⟨_, rfl⟩
              have HU := Lib.hid hU
              rw [← hU] at HOw3 HUG HUL
              clear hU
              go_loopw [86] (fun i wr => ∃ (r : Nat) (C : List (List Int)), r ≤ n ∧ i = .int .i64 r ∧ Hid (C = clrS p k m d U r) ∧ OwnR w.heap.size wr (some ⟨g, 0, none⟩) n rc C ∧ Ext w wr) (fun i _ => n - (intOf i).toNat)
              case atStart => exact ⟨0, U, Nat.zero_le _, rfl, Lib.hid rfl, HOw3.out, HE3.out⟩
              case round =>
                obtain ⟨r, C, hr, rfl, HC, hown, hext⟩ := hrel
                have HCo := Lib.hid hown
                have HCe := Lib.hid hext
                have HCg : Hid (RowsG p m C) := Lib.hid (by rw [HC.out]; exact clrS_good (by omega) HUG.out r)
                have HCl : Hid (C.length = n) := Lib.hid hown.1
                clear hown hext
                by_cases hrn : r < n
                · by_cases hrd : r = d
                  · have hrb : ((r : Int) != (d : Int)) = false := by simp [hrd]
                    have HRD := Lib.hid hrd
                    clear hrd
                    go_wp2_with (fail)
                    go_roundw
                    case rel => exact ⟨r + 1, C, by omega, by go_num, Lib.hid (by rw [HC.out, clrS_self HRD.out]), HCo.out, HCe.out⟩
                    case measure => simp [intOf]; omega
                  · have hrb : ((r : Int) != (d : Int)) = true := by simp; omega
                    obtain ⟨ar, cr, hcr, hor⟩ := HCo.out.at hrn
                    rw [ownR_put_len HCg.out HCl.out hrn] at hcr hor
                    obtain ⟨br, or, rfl, hcrk⟩ := hor.rd.2 k hkm
                    by_cases hz : nth (nthR C r) k = 0
                    · have hzb : (nth (nthR C r) k != 0) = false := by simp [hz]
                      have HZ0 := Lib.hid hz
                      clear hz hor
                      go_wp2_with (fail)
                      go_roundw
                      case rel => exact ⟨r + 1, C, by omega, by go_num, Lib.hid (by rw [clrS_zero (by omega) HUG.out (by rw [HUL.out]; exact hrn) (by rw [← HC.out]; exact HZ0.out)]; exact HC.out), HCo.out, HCe.out⟩
                      case measure => simp [intOf]; omega
                    · have hzb : (nth (nthR C r) k != 0) = true := by simp [hz]
                      have HRd0 := Lib.hid hrd
                      obtain ⟨ad2, cd2, hcd2, hod2⟩ := HCo.out.at hdn
                      rw [ownR_put_len HCg.out HCl.out hdn] at hcd2 hod2
                      have HRr := Lib.hid (hor.rd.ext (ext_drew wr))
                      have HRd := Lib.hid (hod2.rd.ext (ext_drew wr))
                      have HCr := Lib.hid ((ext_drew wr).cell hcr)
                      have HCd := Lib.hid ((ext_drew wr).cell hcd2)
                      have HCk := Lib.hid ((ext_drew wr).cell hcrk)
                      have HGr := Lib.hid (HCg.out r (by rw [HCl.out]; exact hrn))
                      have HGd := Lib.hid (HCg.out d (by rw [HCl.out]; exact hdn))
                      have HZr := Lib.hid (HGr.out.2 k hkm)
                      have HNeg : Hid (IntKind.i64.wrap (-(nth (nthR C r) k)) = -(nth (nthR C r) k)) := Lib.hid (IntWalk.i64_in _ (by have := HZr.out; omega))
                      clear hz hor hod2 hcd2
                      go_wp2_with (fail)
                      clear hcr hcrk
                      refine wp_region_lex_tail 21 [(19, .ownS wr.drew.heap.size m (plusL p (nthR C r) (nthR C d) (-(nth (nthR C r) k)) m))] (by kernel_rfl) (by kernel_rfl) ?_
                      simp only [List.take, List.drop]
                      (refine LexW.pure (v := ?_) rfl rfl (fun w1 he => ?_) ?_; rotate_left; ( have e1 := he.cell HCr.out; have e2 := he.cell HCd.out; have e3 := he.cell HCk.out; have e4 := HNeg.out; go_simp; rfl); simp only [Act.put, List.setIfInBounds_toArray, List.set_cons_zero, List.set_cons_succ])
                      (refine LexW.pure (v := ?_) rfl rfl (fun w1 he => ?_) ?_; rotate_left; ( have e1 := he.cell HCr.out; have e2 := he.cell HCd.out; have e3 := he.cell HCk.out; have e4 := HNeg.out; go_simp; rfl); simp only [Act.put, List.setIfInBounds_toArray, List.set_cons_zero, List.set_cons_succ])
                      (refine LexW.pure (v := ?_) rfl rfl (fun w1 he => ?_) ?_; rotate_left; ( have e1 := he.cell HCr.out; have e2 := he.cell HCd.out; have e3 := he.cell HCk.out; have e4 := HNeg.out; go_simp; rfl); simp only [Act.put, List.setIfInBounds_toArray, List.set_cons_zero, List.set_cons_succ])
                      (refine LexW.pure (v := ?_) rfl rfl (fun w1 he => ?_) ?_; rotate_left; ( have e1 := he.cell HCr.out; have e2 := he.cell HCd.out; have e3 := he.cell HCk.out; have e4 := HNeg.out; go_simp; rfl); simp only [Act.put, List.setIfInBounds_toArray, List.set_cons_zero, List.set_cons_succ])
                      (refine LexW.pure (v := ?_) rfl rfl (fun w1 he => ?_) ?_; rotate_left; ( have e1 := he.cell HCr.out; have e2 := he.cell HCd.out; have e3 := he.cell HCk.out; have e4 := HNeg.out; go_simp; rfl); simp only [Act.put, List.setIfInBounds_toArray, List.set_cons_zero, List.set_cons_succ])
                      (refine LexW.pure (v := ?_) rfl rfl (fun w1 he => ?_) ?_; rotate_left; ( have e1 := he.cell HCr.out; have e2 := he.cell HCd.out; have e3 := he.cell HCk.out; have e4 := HNeg.out; go_simp; rfl); simp only [Act.put, List.setIfInBounds_toArray, List.set_cons_zero, List.set_cons_succ])
                      (refine LexW.pure (v := ?_) rfl rfl (fun w1 he => ?_) ?_; rotate_left; ( have e1 := he.cell HCr.out; have e2 := he.cell HCd.out; have e3 := he.cell HCk.out; have e4 := HNeg.out; go_simp; rfl); simp only [Act.put, List.setIfInBounds_toArray, List.set_cons_zero, List.set_cons_succ])
                      (refine LexW.pure (v := ?_) rfl rfl (fun w1 he => ?_) ?_; rotate_left; ( have e1 := he.cell HCr.out; have e2 := he.cell HCd.out; have e3 := he.cell HCk.out; have e4 := HNeg.out; go_simp; rfl); simp only [Act.put, List.setIfInBounds_toArray, List.set_cons_zero, List.set_cons_succ])
                      (refine LexW.pure (v := ?_) rfl rfl (fun w1 he => ?_) ?_; rotate_left; ( have e1 := he.cell HCr.out; have e2 := he.cell HCd.out; have e3 := he.cell HCk.out; have e4 := HNeg.out; go_simp; rfl); simp only [Act.put, List.setIfInBounds_toArray, List.set_cons_zero, List.set_cons_succ])
                      (refine LexW.pure (v := ?_) rfl rfl (fun w1 he => ?_) ?_; rotate_left; ( have e1 := he.cell HCr.out; have e2 := he.cell HCd.out; have e3 := he.cell HCk.out; have e4 := HNeg.out; go_simp; rfl); simp only [Act.put, List.setIfInBounds_toArray, List.set_cons_zero, List.set_cons_succ])
                      (refine LexW.pure (v := ?_) rfl rfl (fun w1 he => ?_) ?_; rotate_left; ( have e1 := he.cell HCr.out; have e2 := he.cell HCd.out; have e3 := he.cell HCk.out; have e4 := HNeg.out; go_simp; rfl); simp only [Act.put, List.setIfInBounds_toArray, List.set_cons_zero, List.set_cons_succ])
                      (refine LexW.pure (v := ?_) rfl rfl (fun w1 he => ?_) ?_; rotate_left; ( have e1 := he.cell HCr.out; have e2 := he.cell HCd.out; have e3 := he.cell HCk.out; have e4 := HNeg.out; go_simp; rfl); simp only [Act.put, List.setIfInBounds_toArray, List.set_cons_zero, List.set_cons_succ])
                      (refine LexW.pure (v := ?_) rfl rfl (fun w1 he => ?_) ?_; rotate_left; ( have e1 := he.cell HCr.out; have e2 := he.cell HCd.out; have e3 := he.cell HCk.out; have e4 := HNeg.out; go_simp; rfl); simp only [Act.put, List.setIfInBounds_toArray, List.set_cons_zero, List.set_cons_succ])
                      (refine LexW.pure (v := ?_) rfl rfl (fun w1 he => ?_) ?_; rotate_left; ( have e1 := he.cell HCr.out; have e2 := he.cell HCd.out; have e3 := he.cell HCk.out; have e4 := HNeg.out; go_simp; rfl); simp only [Act.put, List.setIfInBounds_toArray, List.set_cons_zero, List.set_cons_succ])
                      (refine LexW.pure (v := ?_) rfl rfl (fun w1 he => ?_) ?_; rotate_left; ( have e1 := he.cell HCr.out; have e2 := he.cell HCd.out; have e3 := he.cell HCk.out; have e4 := HNeg.out; go_simp; rfl); simp only [Act.put, List.setIfInBounds_toArray, List.set_cons_zero, List.set_cons_succ])
                      (refine LexW.pure (v := ?_) rfl rfl (fun w1 he => ?_) ?_; rotate_left; ( have e1 := he.cell HCr.out; have e2 := he.cell HCd.out; have e3 := he.cell HCk.out; have e4 := HNeg.out; go_simp; rfl); simp only [Act.put, List.setIfInBounds_toArray, List.set_cons_zero, List.set_cons_succ])
                      (refine LexW.pure (v := ?_) rfl rfl (fun w1 he => ?_) ?_; rotate_left; ( have e1 := he.cell HCr.out; have e2 := he.cell HCd.out; have e3 := he.cell HCk.out; have e4 := HNeg.out; go_simp; rfl); simp only [Act.put, List.setIfInBounds_toArray, List.set_cons_zero, List.set_cons_succ])
                      (refine LexW.pure (v := ?_) rfl rfl (fun w1 he => ?_) ?_; rotate_left; ( have e1 := he.cell HCr.out; have e2 := he.cell HCd.out; have e3 := he.cell HCk.out; have e4 := HNeg.out; go_simp; rfl); simp only [Act.put, List.setIfInBounds_toArray, List.set_cons_zero, List.set_cons_succ])
                      (refine LexW.pure (v := ?_) rfl rfl (fun w1 he => ?_) ?_; rotate_left; ( have e1 := he.cell HCr.out; have e2 := he.cell HCd.out; have e3 := he.cell HCk.out; have e4 := HNeg.out; go_simp; rfl); simp only [Act.put, List.setIfInBounds_toArray, List.set_cons_zero, List.set_cons_succ])
                      (refine LexW.callR (f := ?_) (args := ?_) rfl rfl (fun w1 => ?_) (fun w1 he hdep => ?_) (fun v hv => ?_); rotate_left 2; (go_simp; refine ⟨?_, ?_⟩ <;> rfl); ( refine (c_plus p _ _ m _ _ (nthR C r) (nthR C d) (-(nth (nthR C r) k)) w1 (by omega) (by omega) (by have := HZr.out; omega) (by omega) (HRr.out.ext he) (HRd.out.ext he) HGr.out HGd.out).mono ?_; rintro e w2 ⟨g, rc, rfl, ho, g2⟩; exact ⟨_, rfl, g2, g, rc, rfl, ho.mono he.size⟩); simp only [Act.put, List.setIfInBounds_toArray, List.set_cons_zero, List.set_cons_succ])
                      obtain ⟨_, g121, c121, rfl, _⟩ := hv
                      (refine LexW.pure (v := ?_) rfl rfl (fun w1 he => ?_) ?_; rotate_left; ( have e1 := he.cell HCr.out; have e2 := he.cell HCd.out; have e3 := he.cell HCk.out; have e4 := HNeg.out; go_simp; rfl); simp only [Act.put, List.setIfInBounds_toArray, List.set_cons_zero, List.set_cons_succ])
                      refine LexW.nil (fun w3 he hkn => ?_)
                      obtain ⟨_, _, q121, r121⟩ : (SPred.ownS wr.drew.heap.size m (plusL p (nthR C r) (nthR C d) (-(nth (nthR C r) k)) m)).holds (.slice (some ⟨g121, 0, none⟩) m c121) w3 := hkn (19, _) (by simp)
                      cases q121
                      have R121 := Lib.hid r121
                      have HE := Lib.hid he
                      clear he hkn r121
                      have ow4 := (HCo.out.ext (ext_drew wr)).ext HE.out
                      obtain ⟨ay, cy, hcy, _⟩ := ow4.at hrn
                      have hfy := ow4.frozen r
                      clear ow4
                      go_wp2_with (fail)
                      go_roundw
                      case rel => exact ⟨r + 1, C.set r (plusL p (nthR C r) (nthR C d) (-(nth (nthR C r) k)) m), by omega, by go_num, Lib.hid (by rw [clrS_ne HRd0.out, ← HC.out]), (HCo.out.ext (ext_drew wr)).put HE.out (HCe.out.trans (ext_drew wr)).size R121.out hrn, (HCe.out.trans ((ext_drew wr).trans HE.out)).setCell HNM.out.1 _⟩
                      case measure => simp [intOf]; omega
                · obtain rfl : r = n := by omega
                  go_wp2_with (fail)
                  go_roundw
                  case rel => exact ⟨k + 1, d + 1, C, by omega, by omega, by go_num, by go_num, Lib.hid (by
                    show stepG p m (gaussS p m rows k) k = _
                    rw [HS.out, stepG_yes (s := (R, d)) HPiv.out (by rw [HRL.out]; exact hjn), HC.out, HU.out, HRL.out]), HCo.out, HCe.out⟩
                  case measure => simp [intOf]; omega
            · have hne : ¬ j = d := fun e => hdj2 e.symm
              go_region
              obtain ⟨W2, hW2⟩ : ∃ W2, W2 = ((wr.setCell ⟨g, d, none⟩ (.slice aj2 m cj2)).setCell ⟨g, j, none⟩ (.slice ad m cd)).drew := ⟨_, rfl⟩
              have HOw2 : Hid (OwnR w.heap.size W2 (some ⟨g, 0, none⟩) n rc (swapL R d j)) := by rw [hW2]; exact HSw.out.ext (ext_drew _)
              have HE2 : Hid (Ext w W2) := by rw [hW2]; exact (((HExt.out.setCell HNM.out.1 _).setCell HNM.out.1 _).trans (ext_drew _))
              rw [← hW2]
              clear hW2 hcd hcj2 hfd hfj HSw HOd HOj
              have HR1 := Lib.hid (swapL_at (show d < R.length by rw [HRL.out]; exact hdn) (show j < R.length by rw [HRL.out]; exact hjn))
              have HXg := Lib.hid (HRG.out j (by rw [HRL.out]; exact hjn))
              obtain ⟨ax, cx, hcx, hox⟩ := HOw2.out.at hdn
              rw [HR1.out, HXg.out.1] at hcx hox
              obtain ⟨bx, ox, rfl, hck⟩ := hox.rd.2 k hkm
              have HXc := Lib.hid ((ext_drew W2).cell hcx)
              have HXk := Lib.hid ((ext_drew W2).cell hck)
              have HXr := Lib.hid (hox.rd.ext (ext_drew W2))
              have HZb := Lib.hid (HXg.out.2 k hkm)
              have HIb : Hid (-1000 ≤ invN p (nth (nthR R j) k) ∧ invN p (nth (nthR R j) k) ≤ 1000) := Lib.hid (by have := invN_bd (p := p) (a := nth (nthR R j) k) (by omega); omega)
              clear hcx hck hox
              go_wp2_with (fail)
              refine wp_region_lex_tail 18 [(15, .val (.int .i64 (invN p (nth (nthR R j) k)))), (16, .ownS W2.drew.heap.size m (scaleL p (nthR R j) (invN p (nth (nthR R j) k)) m))] (by kernel_rfl) (by kernel_rfl) ?_
              simp only [List.take, List.drop]
              (refine LexW.pure (v := ?_) rfl rfl (fun w1 he => ?_) ?_; rotate_left; ( have e1 := he.cell HXc.out; have e2 := he.cell HXk.out; go_simp; rfl); simp only [Act.put, List.setIfInBounds_toArray, List.set_cons_zero, List.set_cons_succ])
              (refine LexW.pure (v := ?_) rfl rfl (fun w1 he => ?_) ?_; rotate_left; ( have e1 := he.cell HXc.out; have e2 := he.cell HXk.out; go_simp; rfl); simp only [Act.put, List.setIfInBounds_toArray, List.set_cons_zero, List.set_cons_succ])
              (refine LexW.pure (v := ?_) rfl rfl (fun w1 he => ?_) ?_; rotate_left; ( have e1 := he.cell HXc.out; have e2 := he.cell HXk.out; go_simp; rfl); simp only [Act.put, List.setIfInBounds_toArray, List.set_cons_zero, List.set_cons_succ])
              (refine LexW.pure (v := ?_) rfl rfl (fun w1 he => ?_) ?_; rotate_left; ( have e1 := he.cell HXc.out; have e2 := he.cell HXk.out; go_simp; rfl); simp only [Act.put, List.setIfInBounds_toArray, List.set_cons_zero, List.set_cons_succ])
              (refine LexW.pure (v := ?_) rfl rfl (fun w1 he => ?_) ?_; rotate_left; ( have e1 := he.cell HXc.out; have e2 := he.cell HXk.out; go_simp; rfl); simp only [Act.put, List.setIfInBounds_toArray, List.set_cons_zero, List.set_cons_succ])
              (refine LexW.pure (v := ?_) rfl rfl (fun w1 he => ?_) ?_; rotate_left; ( have e1 := he.cell HXc.out; have e2 := he.cell HXk.out; go_simp; rfl); simp only [Act.put, List.setIfInBounds_toArray, List.set_cons_zero, List.set_cons_succ])
              (refine LexW.pure (v := ?_) rfl rfl (fun w1 he => ?_) ?_; rotate_left; ( have e1 := he.cell HXc.out; have e2 := he.cell HXk.out; go_simp; rfl); simp only [Act.put, List.setIfInBounds_toArray, List.set_cons_zero, List.set_cons_succ])
              (refine LexW.pure (v := ?_) rfl rfl (fun w1 he => ?_) ?_; rotate_left; ( have e1 := he.cell HXc.out; have e2 := he.cell HXk.out; go_simp; rfl); simp only [Act.put, List.setIfInBounds_toArray, List.set_cons_zero, List.set_cons_succ])
              (refine LexW.pure (v := ?_) rfl rfl (fun w1 he => ?_) ?_; rotate_left; ( have e1 := he.cell HXc.out; have e2 := he.cell HXk.out; go_simp; rfl); simp only [Act.put, List.setIfInBounds_toArray, List.set_cons_zero, List.set_cons_succ])
              (refine LexW.pure (v := ?_) rfl rfl (fun w1 he => ?_) ?_; rotate_left; ( have e1 := he.cell HXc.out; have e2 := he.cell HXk.out; go_simp; rfl); simp only [Act.put, List.setIfInBounds_toArray, List.set_cons_zero, List.set_cons_succ])
              (refine LexW.pure (v := ?_) rfl rfl (fun w1 he => ?_) ?_; rotate_left; ( have e1 := he.cell HXc.out; have e2 := he.cell HXk.out; go_simp; rfl); simp only [Act.put, List.setIfInBounds_toArray, List.set_cons_zero, List.set_cons_succ])
              (refine LexW.pure (v := ?_) rfl rfl (fun w1 he => ?_) ?_; rotate_left; ( have e1 := he.cell HXc.out; have e2 := he.cell HXk.out; go_simp; rfl); simp only [Act.put, List.setIfInBounds_toArray, List.set_cons_zero, List.set_cons_succ])
              (refine LexW.pure (v := ?_) rfl rfl (fun w1 he => ?_) ?_; rotate_left; ( have e1 := he.cell HXc.out; have e2 := he.cell HXk.out; go_simp; rfl); simp only [Act.put, List.setIfInBounds_toArray, List.set_cons_zero, List.set_cons_succ])
              (refine LexW.pure (v := ?_) rfl rfl (fun w1 he => ?_) ?_; rotate_left; ( have e1 := he.cell HXc.out; have e2 := he.cell HXk.out; go_simp; rfl); simp only [Act.put, List.setIfInBounds_toArray, List.set_cons_zero, List.set_cons_succ])
              (refine LexW.pure (v := ?_) rfl rfl (fun w1 he => ?_) ?_; rotate_left; ( have e1 := he.cell HXc.out; have e2 := he.cell HXk.out; go_simp; rfl); simp only [Act.put, List.setIfInBounds_toArray, List.set_cons_zero, List.set_cons_succ])
              (refine LexW.call (f := ?_) (args := ?_) rfl rfl (fun w1 => ?_) (fun w1 he hdep => ?_) ?_; rotate_left 2; (go_simp; refine ⟨?_, ?_⟩ <;> rfl); ( exact c_inv p _ w1 (by omega) (by omega) HZb.out.1 HZb.out.2); simp only [Act.put, List.setIfInBounds_toArray, List.set_cons_zero, List.set_cons_succ])
              (refine LexW.callR (f := ?_) (args := ?_) rfl rfl (fun w1 => ?_) (fun w1 he hdep => ?_) (fun v hv => ?_); rotate_left 2; (go_simp; refine ⟨?_, ?_⟩ <;> rfl); ( refine (c_scaled p _ m _ (nthR R j) (invN p (nth (nthR R j) k)) w1 (by omega) (by omega) HIb.out (by omega) (HXr.out.ext he) HXg.out).mono ?_; rintro e w2 ⟨g, rc, rfl, ho, g2⟩; exact ⟨_, rfl, g2, g, rc, rfl, ho.mono he.size⟩); simp only [Act.put, List.setIfInBounds_toArray, List.set_cons_zero, List.set_cons_succ])
              obtain ⟨_, g82, c82, rfl, _⟩ := hv
              (refine LexW.pure (v := ?_) rfl rfl (fun w1 he => ?_) ?_; rotate_left; ( have e1 := he.cell HXc.out; have e2 := he.cell HXk.out; go_simp; rfl); simp only [Act.put, List.setIfInBounds_toArray, List.set_cons_zero, List.set_cons_succ])
              refine LexW.nil (fun w3 he hkn => ?_)
              obtain ⟨_, _, q82, r82⟩ : (SPred.ownS W2.drew.heap.size m (scaleL p (nthR R j) (invN p (nth (nthR R j) k)) m)).holds (.slice (some ⟨g82, 0, none⟩) m c82) w3 := hkn (16, _) (by simp)
              cases q82
              have R82 := Lib.hid r82
              have HE := Lib.hid he
              clear he hkn r82
              have ow3 := (HOw2.out.ext (ext_drew W2)).ext HE.out
              obtain ⟨ay, cy, hcy, _⟩ := ow3.at hdn
              have hfy := ow3.frozen d
              clear ow3
              go_wp2_with (fail)
              obtain ⟨W3, hW3⟩ : ∃ W3, W3 = w3.setCell ⟨g, d, none⟩ (.slice (some ⟨g82, 0, none⟩) m c82) := ⟨_, rfl⟩
              have HOw3 : Hid (OwnR w.heap.size W3 (some ⟨g, 0, none⟩) n rc (upG p m R d k j)) := by rw [hW3]; exact (HOw2.out.ext (ext_drew W2)).put HE.out (HE2.out.trans (ext_drew W2)).size R82.out hdn
              have HE3 : Hid (Ext w W3) := by rw [hW3]; exact (HE2.out.trans ((ext_drew W2).trans HE.out)).setCell HNM.out.1 _
              rw [← hW3]
              clear hW3 hcy hfy R82 HE HXc HXk HXr HOw2 HE2
              have HUG := Lib.hid (upG_good (k := k) (show 1 ≤ p by omega) HRG.out (show d < R.length by rw [HRL.out]; exact hdn) (show j < R.length by rw [HRL.out]; exact hjn))
              have HUL := Lib.hid (show (upG p m R d k j).length = n by rw [upG_len, HRL.out])
              obtain ⟨U, hU⟩ : ∃ U, U = upG p m R d k j := ⟨_, rfl⟩
              have HU := Lib.hid hU
              rw [← hU] at HOw3 HUG HUL
              clear hU
              go_loopw [86] (fun i wr => ∃ (r : Nat) (C : List (List Int)), r ≤ n ∧ i = .int .i64 r ∧ Hid (C = clrS p k m d U r) ∧ OwnR w.heap.size wr (some ⟨g, 0, none⟩) n rc C ∧ Ext w wr) (fun i _ => n - (intOf i).toNat)
              case atStart => exact ⟨0, U, Nat.zero_le _, rfl, Lib.hid rfl, HOw3.out, HE3.out⟩
              case round =>
                obtain ⟨r, C, hr, rfl, HC, hown, hext⟩ := hrel
                have HCo := Lib.hid hown
                have HCe := Lib.hid hext
                have HCg : Hid (RowsG p m C) := Lib.hid (by rw [HC.out]; exact clrS_good (by omega) HUG.out r)
                have HCl : Hid (C.length = n) := Lib.hid hown.1
                clear hown hext
                by_cases hrn : r < n
                · by_cases hrd : r = d
                  · have hrb : ((r : Int) != (d : Int)) = false := by simp [hrd]
                    have HRD := Lib.hid hrd
                    clear hrd
                    go_wp2_with (fail)
                    go_roundw
                    case rel => exact ⟨r + 1, C, by omega, by go_num, Lib.hid (by rw [HC.out, clrS_self HRD.out]), HCo.out, HCe.out⟩
                    case measure => simp [intOf]; omega
                  · have hrb : ((r : Int) != (d : Int)) = true := by simp; omega
                    obtain ⟨ar, cr, hcr, hor⟩ := HCo.out.at hrn
                    rw [ownR_put_len HCg.out HCl.out hrn] at hcr hor
                    obtain ⟨br, or, rfl, hcrk⟩ := hor.rd.2 k hkm
                    by_cases hz : nth (nthR C r) k = 0
                    · have hzb : (nth (nthR C r) k != 0) = false := by simp [hz]
                      have HZ0 := Lib.hid hz
                      clear hz hor
                      go_wp2_with (fail)
                      go_roundw
                      case rel => exact ⟨r + 1, C, by omega, by go_num, Lib.hid (by rw [clrS_zero (by omega) HUG.out (by rw [HUL.out]; exact hrn) (by rw [← HC.out]; exact HZ0.out)]; exact HC.out), HCo.out, HCe.out⟩
                      case measure => simp [intOf]; omega
                    · have hzb : (nth (nthR C r) k != 0) = true := by simp [hz]
                      have HRd0 := Lib.hid hrd
                      obtain ⟨ad2, cd2, hcd2, hod2⟩ := HCo.out.at hdn
                      rw [ownR_put_len HCg.out HCl.out hdn] at hcd2 hod2
                      have HRr := Lib.hid (hor.rd.ext (ext_drew wr))
                      have HRd := Lib.hid (hod2.rd.ext (ext_drew wr))
                      have HCr := Lib.hid ((ext_drew wr).cell hcr)
                      have HCd := Lib.hid ((ext_drew wr).cell hcd2)
                      have HCk := Lib.hid ((ext_drew wr).cell hcrk)
                      have HGr := Lib.hid (HCg.out r (by rw [HCl.out]; exact hrn))
                      have HGd := Lib.hid (HCg.out d (by rw [HCl.out]; exact hdn))
                      have HZr := Lib.hid (HGr.out.2 k hkm)
                      have HNeg : Hid (IntKind.i64.wrap (-(nth (nthR C r) k)) = -(nth (nthR C r) k)) := Lib.hid (IntWalk.i64_in _ (by have := HZr.out; omega))
                      clear hz hor hod2 hcd2
                      go_wp2_with (fail)
                      clear hcr hcrk
                      refine wp_region_lex_tail 21 [(19, .ownS wr.drew.heap.size m (plusL p (nthR C r) (nthR C d) (-(nth (nthR C r) k)) m))] (by kernel_rfl) (by kernel_rfl) ?_
                      simp only [List.take, List.drop]
                      (refine LexW.pure (v := ?_) rfl rfl (fun w1 he => ?_) ?_; rotate_left; ( have e1 := he.cell HCr.out; have e2 := he.cell HCd.out; have e3 := he.cell HCk.out; have e4 := HNeg.out; go_simp; rfl); simp only [Act.put, List.setIfInBounds_toArray, List.set_cons_zero, List.set_cons_succ])
                      (refine LexW.pure (v := ?_) rfl rfl (fun w1 he => ?_) ?_; rotate_left; ( have e1 := he.cell HCr.out; have e2 := he.cell HCd.out; have e3 := he.cell HCk.out; have e4 := HNeg.out; go_simp; rfl); simp only [Act.put, List.setIfInBounds_toArray, List.set_cons_zero, List.set_cons_succ])
                      (refine LexW.pure (v := ?_) rfl rfl (fun w1 he => ?_) ?_; rotate_left; ( have e1 := he.cell HCr.out; have e2 := he.cell HCd.out; have e3 := he.cell HCk.out; have e4 := HNeg.out; go_simp; rfl); simp only [Act.put, List.setIfInBounds_toArray, List.set_cons_zero, List.set_cons_succ])
                      (refine LexW.pure (v := ?_) rfl rfl (fun w1 he => ?_) ?_; rotate_left; ( have e1 := he.cell HCr.out; have e2 := he.cell HCd.out; have e3 := he.cell HCk.out; have e4 := HNeg.out; go_simp; rfl); simp only [Act.put, List.setIfInBounds_toArray, List.set_cons_zero, List.set_cons_succ])
                      (refine LexW.pure (v := ?_) rfl rfl (fun w1 he => ?_) ?_; rotate_left; ( have e1 := he.cell HCr.out; have e2 := he.cell HCd.out; have e3 := he.cell HCk.out; have e4 := HNeg.out; go_simp; rfl); simp only [Act.put, List.setIfInBounds_toArray, List.set_cons_zero, List.set_cons_succ])
                      (refine LexW.pure (v := ?_) rfl rfl (fun w1 he => ?_) ?_; rotate_left; ( have e1 := he.cell HCr.out; have e2 := he.cell HCd.out; have e3 := he.cell HCk.out; have e4 := HNeg.out; go_simp; rfl); simp only [Act.put, List.setIfInBounds_toArray, List.set_cons_zero, List.set_cons_succ])
                      (refine LexW.pure (v := ?_) rfl rfl (fun w1 he => ?_) ?_; rotate_left; ( have e1 := he.cell HCr.out; have e2 := he.cell HCd.out; have e3 := he.cell HCk.out; have e4 := HNeg.out; go_simp; rfl); simp only [Act.put, List.setIfInBounds_toArray, List.set_cons_zero, List.set_cons_succ])
                      (refine LexW.pure (v := ?_) rfl rfl (fun w1 he => ?_) ?_; rotate_left; ( have e1 := he.cell HCr.out; have e2 := he.cell HCd.out; have e3 := he.cell HCk.out; have e4 := HNeg.out; go_simp; rfl); simp only [Act.put, List.setIfInBounds_toArray, List.set_cons_zero, List.set_cons_succ])
                      (refine LexW.pure (v := ?_) rfl rfl (fun w1 he => ?_) ?_; rotate_left; ( have e1 := he.cell HCr.out; have e2 := he.cell HCd.out; have e3 := he.cell HCk.out; have e4 := HNeg.out; go_simp; rfl); simp only [Act.put, List.setIfInBounds_toArray, List.set_cons_zero, List.set_cons_succ])
                      (refine LexW.pure (v := ?_) rfl rfl (fun w1 he => ?_) ?_; rotate_left; ( have e1 := he.cell HCr.out; have e2 := he.cell HCd.out; have e3 := he.cell HCk.out; have e4 := HNeg.out; go_simp; rfl); simp only [Act.put, List.setIfInBounds_toArray, List.set_cons_zero, List.set_cons_succ])
                      (refine LexW.pure (v := ?_) rfl rfl (fun w1 he => ?_) ?_; rotate_left; ( have e1 := he.cell HCr.out; have e2 := he.cell HCd.out; have e3 := he.cell HCk.out; have e4 := HNeg.out; go_simp; rfl); simp only [Act.put, List.setIfInBounds_toArray, List.set_cons_zero, List.set_cons_succ])
                      (refine LexW.pure (v := ?_) rfl rfl (fun w1 he => ?_) ?_; rotate_left; ( have e1 := he.cell HCr.out; have e2 := he.cell HCd.out; have e3 := he.cell HCk.out; have e4 := HNeg.out; go_simp; rfl); simp only [Act.put, List.setIfInBounds_toArray, List.set_cons_zero, List.set_cons_succ])
                      (refine LexW.pure (v := ?_) rfl rfl (fun w1 he => ?_) ?_; rotate_left; ( have e1 := he.cell HCr.out; have e2 := he.cell HCd.out; have e3 := he.cell HCk.out; have e4 := HNeg.out; go_simp; rfl); simp only [Act.put, List.setIfInBounds_toArray, List.set_cons_zero, List.set_cons_succ])
                      (refine LexW.pure (v := ?_) rfl rfl (fun w1 he => ?_) ?_; rotate_left; ( have e1 := he.cell HCr.out; have e2 := he.cell HCd.out; have e3 := he.cell HCk.out; have e4 := HNeg.out; go_simp; rfl); simp only [Act.put, List.setIfInBounds_toArray, List.set_cons_zero, List.set_cons_succ])
                      (refine LexW.pure (v := ?_) rfl rfl (fun w1 he => ?_) ?_; rotate_left; ( have e1 := he.cell HCr.out; have e2 := he.cell HCd.out; have e3 := he.cell HCk.out; have e4 := HNeg.out; go_simp; rfl); simp only [Act.put, List.setIfInBounds_toArray, List.set_cons_zero, List.set_cons_succ])
                      (refine LexW.pure (v := ?_) rfl rfl (fun w1 he => ?_) ?_; rotate_left; ( have e1 := he.cell HCr.out; have e2 := he.cell HCd.out; have e3 := he.cell HCk.out; have e4 := HNeg.out; go_simp; rfl); simp only [Act.put, List.setIfInBounds_toArray, List.set_cons_zero, List.set_cons_succ])
                      (refine LexW.pure (v := ?_) rfl rfl (fun w1 he => ?_) ?_; rotate_left; ( have e1 := he.cell HCr.out; have e2 := he.cell HCd.out; have e3 := he.cell HCk.out; have e4 := HNeg.out; go_simp; rfl); simp only [Act.put, List.setIfInBounds_toArray, List.set_cons_zero, List.set_cons_succ])
                      (refine LexW.pure (v := ?_) rfl rfl (fun w1 he => ?_) ?_; rotate_left; ( have e1 := he.cell HCr.out; have e2 := he.cell HCd.out; have e3 := he.cell HCk.out; have e4 := HNeg.out; go_simp; rfl); simp only [Act.put, List.setIfInBounds_toArray, List.set_cons_zero, List.set_cons_succ])
                      (refine LexW.pure (v := ?_) rfl rfl (fun w1 he => ?_) ?_; rotate_left; ( have e1 := he.cell HCr.out; have e2 := he.cell HCd.out; have e3 := he.cell HCk.out; have e4 := HNeg.out; go_simp; rfl); simp only [Act.put, List.setIfInBounds_toArray, List.set_cons_zero, List.set_cons_succ])
                      (refine LexW.callR (f := ?_) (args := ?_) rfl rfl (fun w1 => ?_) (fun w1 he hdep => ?_) (fun v hv => ?_); rotate_left 2; (go_simp; refine ⟨?_, ?_⟩ <;> rfl); ( refine (c_plus p _ _ m _ _ (nthR C r) (nthR C d) (-(nth (nthR C r) k)) w1 (by omega) (by omega) (by have := HZr.out; omega) (by omega) (HRr.out.ext he) (HRd.out.ext he) HGr.out HGd.out).mono ?_; rintro e w2 ⟨g, rc, rfl, ho, g2⟩; exact ⟨_, rfl, g2, g, rc, rfl, ho.mono he.size⟩); simp only [Act.put, List.setIfInBounds_toArray, List.set_cons_zero, List.set_cons_succ])
                      obtain ⟨_, g121, c121, rfl, _⟩ := hv
                      (refine LexW.pure (v := ?_) rfl rfl (fun w1 he => ?_) ?_; rotate_left; ( have e1 := he.cell HCr.out; have e2 := he.cell HCd.out; have e3 := he.cell HCk.out; have e4 := HNeg.out; go_simp; rfl); simp only [Act.put, List.setIfInBounds_toArray, List.set_cons_zero, List.set_cons_succ])
                      refine LexW.nil (fun w3 he hkn => ?_)
                      obtain ⟨_, _, q121, r121⟩ : (SPred.ownS wr.drew.heap.size m (plusL p (nthR C r) (nthR C d) (-(nth (nthR C r) k)) m)).holds (.slice (some ⟨g121, 0, none⟩) m c121) w3 := hkn (19, _) (by simp)
                      cases q121
                      have R121 := Lib.hid r121
                      have HE := Lib.hid he
                      clear he hkn r121
                      have ow4 := (HCo.out.ext (ext_drew wr)).ext HE.out
                      obtain ⟨ay, cy, hcy, _⟩ := ow4.at hrn
                      have hfy := ow4.frozen r
                      clear ow4
                      go_wp2_with (fail)
                      go_roundw
                      case rel => exact ⟨r + 1, C.set r (plusL p (nthR C r) (nthR C d) (-(nth (nthR C r) k)) m), by omega, by go_num, Lib.hid (by rw [clrS_ne HRd0.out, ← HC.out]), (HCo.out.ext (ext_drew wr)).put HE.out (HCe.out.trans (ext_drew wr)).size R121.out hrn, (HCe.out.trans ((ext_drew wr).trans HE.out)).setCell HNM.out.1 _⟩
                      case measure => simp [intOf]; omega
                · obtain rfl : r = n := by omega
                  go_wp2_with (fail)
                  go_roundw
                  case rel => exact ⟨k + 1, d + 1, C, by omega, by omega, by go_num, by go_num, Lib.hid (by
                    show stepG p m (gaussS p m rows k) k = _
                    rw [HS.out, stepG_yes (s := (R, d)) HPiv.out (by rw [HRL.out]; exact hjn), HC.out, HU.out, HRL.out]), HCo.out, HCe.out⟩
                  case measure => simp [intOf]; omega
        · have hjb : ((j : Int) == (n : Int)) = true := by simp; omega
          have HPiv := Lib.hid (pivG_eq (rows := R) (k := k) (d := d) hdj (by rw [HRL.out]; exact hj) HZ.out (.inl (by rw [HRL.out]; omega)))
          go_wp2_with (fail)
          go_roundw
          case rel => exact ⟨k + 1, d, R, by omega, hd, by go_num, rfl, Lib.hid (by
            show stepG p m (gaussS p m rows k) k = _
            rw [HS.out]
            exact stepG_no (s := (R, d)) (by rw [HPiv.out, HRL.out]; omega)), HOwn.out, HExt.out⟩
          case measure => simp [intOf]; omega
end Go.Proofs.Ytnbhlabcecdbgaa

/-
  Codes of small algebras; lists of zeros; equal lists; idempotents: walks.
  No condition.
-/
namespace Go.Proofs.Ytnbhlabcecdbgaa
set_option maxRecDepth 100000
open Go.RowKit

def codeA (p : Int) (qs : List Int) (rows : List (List Int)) : Int := if codeM p qs rows = 0 then (if qs.length ≤ 4 then 0 else 3) else codeM p qs rows
theorem codeA_zero {p : Int} {qs : List Int} {rows : List (List Int)} (h : codeA p qs rows = 0) : codeM p qs rows = 0 ∧ qs.length ≤ 4 := by
  unfold codeA at h
  split at h
  · rename_i hm
    split at h
    · rename_i hr; exact ⟨hm, hr⟩
    · omega
  · rename_i hm; exact absurd h hm



/-! ### The first number other than 0 -/
def leadN (xs : List Int) : Nat := match (List.range xs.length).find? (fun i => nth xs i != 0) with | some i => i | none => xs.length
theorem leadN_eq {xs : List Int} {k : Nat} (hk : k ≤ xs.length) (hz : ∀ j, j < k → nth xs j = 0) (he : k = xs.length ∨ nth xs k ≠ 0) : leadN xs = k := by
  unfold leadN
  rcases Nat.lt_or_ge k xs.length with h | h
  · have hne : nth xs k ≠ 0 := by rcases he with he | he; omega; exact he
    have : (List.range xs.length).find? (fun i => nth xs i != 0) = some k := by
      rw [List.find?_range_eq_some]
      exact ⟨by simpa using hne, by simpa using h, fun j hj => by simp [hz j hj]⟩
    rw [this]
  · have : (List.range xs.length).find? (fun i => nth xs i != 0) = none := by
      rw [List.find?_range_eq_none]
      exact fun j hj => by simp [hz j (by omega)]
    rw [this]; simp only; omega
theorem leadN_le (xs : List Int) : leadN xs ≤ xs.length := by
  unfold leadN
  split
  · rename_i i h
    have := List.mem_of_find?_eq_some h
    simp at this; omega
  · exact Nat.le_refl _
theorem leadN_zero {xs : List Int} {j : Nat} (h : j < leadN xs) : nth xs j = 0 := by
  unfold leadN at h
  split at h
  · rename_i i hf
    rw [List.find?_range_eq_some] at hf
    simpa using hf.2.2 j h
  · rename_i hf
    rw [List.find?_range_eq_none] at hf
    simpa using hf j h
theorem leadN_ne {xs : List Int} (h : leadN xs < xs.length) : nth xs (leadN xs) ≠ 0 := by
  have h0 := h
  unfold leadN at h0 ⊢
  split at h0
  · rename_i i hf
    have := List.find?_some hf
    simpa using this
  · omega
def zeroB (xs : List Int) : Bool := decide (leadN xs = xs.length)
theorem zeroB_iff {xs : List Int} : zeroB xs = true ↔ ∀ j, j < xs.length → nth xs j = 0 := by
  simp only [zeroB, decide_eq_true_eq]
  constructor
  · intro h j hj; exact leadN_zero (by omega)
  · intro h; exact leadN_eq (Nat.le_refl _) (fun j hj => h j hj) (.inl rfl)
theorem zero_minus {p : Int} {x y : List Int} {n : Nat} (hp : 1 ≤ p) (hx : Good p n x) (hy : Good p n y) : zeroB (plusL p x y (-1) n) = eqB x y := by
  rw [Bool.eq_iff_iff, zeroB_iff, plusL_len]
  simp only [eqB, decide_eq_true_eq]
  constructor
  · intro h
    refine ext_nth (by rw [hx.1, hy.1]) (fun i hi => ?_)
    rw [hx.1] at hi
    have hi' := h i hi
    rw [plusL_nth hi] at hi'
    unfold plusN at hi'
    have h1 := hx.2 i hi
    have h2 := hy.2 i hi
    obtain ⟨c, hc⟩ := Int.dvd_of_emod_eq_zero hi'
    have hc0 : c = 0 := by
      rcases Int.lt_trichotomy c 0 with h | h | h
      · have : p * c ≤ p * -1 := Int.mul_le_mul_of_nonneg_left (by omega) (by omega)
        omega
      · exact h
      · have : p * 1 ≤ p * c := Int.mul_le_mul_of_nonneg_left (by omega) (by omega)
        omega
    rw [hc0] at hc; omega
  · rintro rfl i hi
    rw [plusL_nth hi]; unfold plusN
    rw [show nth x i + -1 * nth x i = 0 by omega]; simp


end Go.Proofs.Ytnbhlabcecdbgaa

/-
  Kernels, solutions and inverses from reduced bases, in plain words.
  No condition.
-/
namespace Go.Proofs.Ytnbhlabcecdbgaa
set_option maxRecDepth 100000
open Go.RowKit

/-- The row whose first number other than 0 is at place t. -/
def pivIx (red : List (List Int)) (t : Nat) : Option Nat := (List.range red.length).find? (fun i => leadN (nthR red i) == t)
theorem pivIx_some {red : List (List Int)} {t i : Nat} (h : pivIx red t = some i) : i < red.length ∧ leadN (nthR red i) = t := by
  unfold pivIx at h
  rw [List.find?_range_eq_some] at h
  exact ⟨by simpa using h.2.1, by simpa using h.1⟩
theorem pivIx_none {red : List (List Int)} {t : Nat} (h : pivIx red t = none) : ∀ i, i < red.length → leadN (nthR red i) ≠ t := by
  unfold pivIx at h
  rw [List.find?_range_eq_none] at h
  intro i hi
  simpa using h i hi

theorem Basis.leadN {p : Int} {m : Nat} {red : List (List Int)} {c : Nat → Nat} (h : Basis p m red c) {i : Nat} (hi : i < red.length) : leadN (nthR red i) = c i := by
  have hl := (h.good i hi).1
  have hc := h.clt i hi
  refine leadN_eq (by omega) (h.lead i hi) (.inr ?_)
  rw [h.one i hi i hi, if_pos rfl]
  omega
theorem Basis.inj {p : Int} {m : Nat} {red : List (List Int)} {c : Nat → Nat} (h : Basis p m red c) {i j : Nat} (hi : i < red.length) (hj : j < red.length) (he : c i = c j) : i = j := by
  rcases Nat.lt_trichotomy i j with hij | hij | hij
  · have := h.mono i j hij hj; omega
  · exact hij
  · have := h.mono j i hij hi; omega
theorem Basis.piv {p : Int} {m : Nat} {red : List (List Int)} {c : Nat → Nat} (h : Basis p m red c) {i : Nat} (hi : i < red.length) : pivIx red (c i) = some i := by
  cases hp : pivIx red (c i) with
  | none => exact absurd (h.leadN hi) (pivIx_none hp i hi)
  | some j =>
    obtain ⟨hj, hl⟩ := pivIx_some hp
    rw [h.leadN hj] at hl
    rw [h.inj hj hi hl]

/-- The vector of the kernel with 1 at a free place f. -/
def kerN (p : Int) (red : List (List Int)) (f t : Nat) : Int := if t = f then 1 else match pivIx red t with | some i => (-(nth (nthR red i) f)) % p | none => 0
def kerV (p : Int) (n : Nat) (red : List (List Int)) (f : Nat) : List Int := (List.range n).map (kerN p red f)
theorem kerV_len {p : Int} {n : Nat} {red : List (List Int)} {f : Nat} : (kerV p n red f).length = n := by simp [kerV]
theorem kerV_nth {p : Int} {n : Nat} {red : List (List Int)} {f t : Nat} (ht : t < n) : nth (kerV p n red f) t = kerN p red f t := by
  unfold kerV; rw [nth_map (by simpa using ht)]; simp
theorem kerV_good {p : Int} {n : Nat} {red : List (List Int)} {f : Nat} (hp : 3 ≤ p) : Good p n (kerV p n red f) := ⟨kerV_len, fun t ht => by
  rw [kerV_nth ht]
  unfold kerN
  split
  · omega
  · split
    · exact ⟨Int.emod_nonneg _ (by omega), Int.emod_lt_of_pos _ (by omega)⟩
    · omega⟩
/-- The free places ahead of k. -/
def freeL (red : List (List Int)) (k : Nat) : List Nat := (List.range k).filter fun t => (pivIx red t).isNone
theorem freeL_no {red : List (List Int)} {k i : Nat} (h : pivIx red k = some i) : freeL red (k + 1) = freeL red k := by simp [freeL, List.range_succ, List.filter_append, h]
theorem freeL_yes {red : List (List Int)} {k : Nat} (h : pivIx red k = none) : freeL red (k + 1) = freeL red k ++ [k] := by simp [freeL, List.range_succ, List.filter_append, h]
theorem freeL_len (red : List (List Int)) (k : Nat) : (freeL red k).length ≤ k := by
  unfold freeL
  have := List.length_filter_le (fun t => (pivIx red t).isNone) (List.range k)
  simpa using this
def kerR (p : Int) (n : Nat) (red : List (List Int)) (k : Nat) : List (List Int) := (freeL red k).map (kerV p n red)
theorem kerR_good {p : Int} {n : Nat} {red : List (List Int)} {k : Nat} (hp : 3 ≤ p) : RowsG p n (kerR p n red k) := fun i hi => by
  unfold kerR at hi ⊢
  rw [nthR_map (by simpa using hi)]
  exact kerV_good hp
/-- The reduced basis of the vectors with n numbers whose products with all rows are 0. -/
def kernL (p : Int) (n : Nat) (rows : List (List Int)) : List (List Int) := basisL p n (kerR p n (basisL p n rows) n)

/-- The solution that is 0 at all free places. -/
def wideL (rows : List (List Int)) (v : List Int) (k : Nat) : List (List Int) := (List.range k).map fun i => nthR rows i ++ [nth v i]
theorem wideL_succ (rows : List (List Int)) (v : List Int) (k : Nat) : wideL rows v (k + 1) = wideL rows v k ++ [nthR rows k ++ [nth v k]] := by simp [wideL, List.range_succ]
theorem wideL_len (rows : List (List Int)) (v : List Int) (k : Nat) : (wideL rows v k).length = k := by simp [wideL]
theorem good_snoc {p : Int} {n : Nat} {x : List Int} {v : Int} (hx : Good p n x) (h0 : 0 ≤ v) (h1 : v < p) : Good p (n + 1) (x ++ [v]) := by
  refine ⟨by simp [hx.1], fun i hi => ?_⟩
  by_cases h : i < n
  · rw [nth_append_left (by rw [hx.1]; exact h)]; exact hx.2 i h
  · have : i = x.length := by rw [hx.1]; omega
    rw [this, nth_append_len]; exact ⟨h0, h1⟩
theorem wideL_good {p : Int} {n : Nat} {rows : List (List Int)} {v : List Int} {k : Nat} (hg : RowsG p n rows) (hv : Good p k v) (hk : k ≤ rows.length) : RowsG p (n + 1) (wideL rows v k) := fun i hi => by
  rw [wideL_len] at hi
  unfold wideL
  rw [nthR_map (by simpa using hi)]
  simp only [List.getElem_range]
  exact good_snoc (hg i (by omega)) (hv.2 i hi).1 (hv.2 i hi).2
def solN (n : Nat) (red : List (List Int)) (t : Nat) : Int := match pivIx red t with | some i => nth (nthR red i) n | none => 0
def solL (n : Nat) (red : List (List Int)) : List Int := (List.range n).map (solN n red)
def okS (n : Nat) (red : List (List Int)) : Bool := (pivIx red n).isNone
/-- The solution as it stands when the first k rows have been gone through. -/
def solS (n : Nat) (red : List (List Int)) : Nat → List Int
  | 0 => List.replicate n 0
  | k + 1 => (solS n red k).set (leadN (nthR red k)) (nth (nthR red k) n)
theorem solS_len {n : Nat} {red : List (List Int)} : ∀ k, (solS n red k).length = n
  | 0 => by simp [solS]
  | k + 1 => by simp [solS, solS_len k]
theorem solS_nth {p : Int} {m n : Nat} {red : List (List Int)} {c : Nat → Nat} (h : Basis p m red c) : ∀ k, k ≤ red.length → ∀ t, t < n → nth (solS n red k) t = match pivIx red t with | some i => if i < k then nth (nthR red i) n else 0 | none => 0
  | 0, _, t, ht => by
    unfold solS
    rw [nth_replicate ht]
    split
    · rw [if_neg (by omega)]
    · rfl
  | k + 1, hk, t, ht => by
    have ih := solS_nth h k (by omega) t ht (n := n)
    show nth ((solS n red k).set (leadN (nthR red k)) (nth (nthR red k) n)) t = _
    by_cases hl : leadN (nthR red k) = t
    · have hkl : k < red.length := by omega
      rw [hl, nth_set (by rw [solS_len]; exact ht), if_pos rfl]
      have hp : pivIx red t = some k := by rw [← hl, h.leadN hkl]; exact h.piv hkl
      rw [hp]
      show _ = if k < k + 1 then _ else _
      rw [if_pos (by omega)]
    · have e : nth ((solS n red k).set (leadN (nthR red k)) (nth (nthR red k) n)) t = nth (solS n red k) t := by
        simp only [nth]
        rw [List.getD_eq_getElem?_getD, List.getElem?_set_ne hl, ← List.getD_eq_getElem?_getD]
      rw [e, ih]
      cases hp : pivIx red t with
      | none => rfl
      | some i =>
        show (if i < k then _ else _) = if i < k + 1 then _ else _
        have : i ≠ k := fun hik => by subst hik; exact hl (pivIx_some hp).2
        by_cases hi : i < k
        · rw [if_pos hi, if_pos (by omega)]
        · rw [if_neg hi, if_neg (by omega)]
theorem solS_all {p : Int} {m n : Nat} {red : List (List Int)} {c : Nat → Nat} (h : Basis p m red c) : solS n red red.length = solL n red := by
  refine ext_nth (by rw [solS_len]; simp [solL]) fun t ht => ?_
  rw [solS_len] at ht
  rw [solS_nth h _ (Nat.le_refl _) t ht]
  unfold solL
  rw [nth_map (by simpa using ht)]
  simp only [List.getElem_range]
  unfold solN
  cases hp : pivIx red t with
  | none => rfl
  | some i => show (if i < red.length then _ else _) = _; rw [if_pos (pivIx_some hp).1]
theorem nth_bd0 {p : Int} {m : Nat} {x : List Int} (hp : 1 ≤ p) (hx : Good p m x) (i : Nat) : 0 ≤ nth x i ∧ nth x i < p := by
  by_cases h : i < m
  · exact hx.2 i h
  · have : nth x i = 0 := by
      simp only [nth, List.getD_eq_getElem?_getD]
      rw [List.getElem?_eq_none (by rw [hx.1]; omega)]; rfl
    omega
theorem sol_good {p : Int} {m n : Nat} {red : List (List Int)} (hp : 1 ≤ p) (hg : RowsG p m red) : Good p n (solL n red) := ⟨by simp [solL], fun t ht => by
  unfold solL
  rw [nth_map (by simpa using ht)]
  simp only [List.getElem_range]
  unfold solN
  split
  · rename_i i h; exact nth_bd0 hp (hg i (pivIx_some h).1) n
  · omega⟩

end Go.Proofs.Ytnbhlabcecdbgaa

/-
  Reduced bases have the same solutions; solutions of linear systems; in plain numbers.
  No condition. No program in sight.
-/
namespace Go.Proofs.Ytnbhlabcecdbgaa
set_option maxRecDepth 100000
open Go.RowKit

def dotN (m : Nat) (x z : List Int) : Int := sumN m fun t => nth x t * nth z t
theorem dot_plus {p k : Int} {m : Nat} {x y z : List Int} : dotN m (plusL p x y k m) z % p = (dotN m x z + k * dotN m y z) % p := by
  unfold dotN
  rw [← sumN_mul, ← sumN_add]
  refine sumN_emod fun t ht => ?_
  rw [plusL_nth ht, plusN]
  have : (nth x t + k * nth y t) * nth z t = nth x t * nth z t + k * (nth y t * nth z t) := by rw [Int.add_mul, Int.mul_assoc]
  rw [← this]
  exact mul_emod_congr (Int.emod_emod _ _) rfl
theorem dot_scale {p k : Int} {m : Nat} {x z : List Int} : dotN m (scaleL p x k m) z % p = (k * dotN m x z) % p := by
  unfold dotN
  rw [← sumN_mul]
  refine sumN_emod fun t ht => ?_
  rw [scaleL_nth ht, scaleN]
  have : nth x t * k * nth z t = k * (nth x t * nth z t) := by ac_rfl
  rw [← this]
  exact mul_emod_congr (Int.emod_emod _ _) rfl

/-- The product with each row is 0. -/
def Kill (p : Int) (m : Nat) (rows : List (List Int)) (z : List Int) : Prop := ∀ i, i < rows.length → dotN m (nthR rows i) z % p = 0

theorem kill_up {p : Int} {m d k i : Nat} {rows : List (List Int)} {z : List Int} (hp : primeB p = true) (hk : k < m) (hg : RowsG p m rows) (hd : d < rows.length) (hi : i < rows.length) (hne : nth (nthR rows i) k ≠ 0) :
    Kill p m (upG p m rows d k i) z ↔ Kill p m rows z := by
  have hpb := prime_bd hp
  have hb := (hg i hi).2 k hk
  have hinv := (inv_spec hp (show 0 < nth (nthR rows i) k by omega) hb.2).2.1
  unfold Kill
  rw [upG_len]
  constructor
  · intro h j hj
    by_cases hji : j = i
    · subst hji
      have := h d hd
      rw [upG_nth hd hi, if_pos rfl, dot_scale] at this
      have e : (nth (nthR rows j) k * (invN p (nth (nthR rows j) k) * dotN m (nthR rows j) z)) % p = 0 := by
        rw [Int.mul_emod, this]; simp
      rw [← Int.mul_assoc, Int.mul_emod, hinv] at e
      rwa [Int.one_mul, Int.emod_emod] at e
    · by_cases hjd : j = d
      · subst hjd
        have := h i hi
        rwa [upG_nth hd hi, if_neg (Ne.symm hji), if_pos rfl] at this
      · have := h j hj
        rwa [upG_nth hd hi, if_neg hjd, if_neg hji] at this
  · intro h j hj
    rw [upG_nth hd hi]
    split
    · rw [dot_scale, Int.mul_emod, h i hi]; simp
    · split
      · exact h d hd
      · exact h j hj
theorem kill_clr {p : Int} {m d k : Nat} {rows : List (List Int)} {z : List Int} (hd : d < rows.length) :
    Kill p m (clrS p k m d rows rows.length) z ↔ Kill p m rows z := by
  unfold Kill
  rw [clrS_len]
  have hD : nthR (clrS p k m d rows rows.length) d = nthR rows d := by rw [clrS_nth _ (Nat.le_refl _), if_neg (by omega)]
  constructor
  · intro h j hj
    have h1 := h j hj
    have h2 := h d hd
    rw [hD] at h2
    rw [clrS_nth _ (Nat.le_refl _)] at h1
    split at h1
    · rw [dot_plus, Int.add_emod, Int.mul_emod, h2] at h1
      simpa using h1
    · exact h1
  · intro h j hj
    rw [clrS_nth _ (Nat.le_refl _)]
    split
    · rw [dot_plus, Int.add_emod, h j hj, Int.mul_emod, h d hd]; simp
    · exact h j hj
theorem kill_gauss {p : Int} {m : Nat} {rows : List (List Int)} {z : List Int} (hp : primeB p = true) (hg : RowsG p m rows) : ∀ k, k ≤ m → (Kill p m (gaussS p m rows k).1 z ↔ Kill p m rows z)
  | 0, _ => Iff.rfl
  | k + 1, hk => by
    obtain ⟨h1, c, h2⟩ := gaussS_red hp hg k (by omega)
    obtain ⟨p1, p2, p3, p4⟩ := pivG_spec (gaussS p m rows k).1 k (gaussS p m rows k).2 h2.dle
    rw [← kill_gauss hp hg k (by omega)]
    show Kill p m (stepG p m (gaussS p m rows k) k).1 z ↔ _
    by_cases hn : pivG (gaussS p m rows k).1 k (gaussS p m rows k).2 = (gaussS p m rows k).1.length
    · rw [stepG_no hn]
    · have hi : pivG (gaussS p m rows k).1 k (gaussS p m rows k).2 < (gaussS p m rows k).1.length := by omega
      have hd : (gaussS p m rows k).2 < (gaussS p m rows k).1.length := by omega
      rw [stepG_yes rfl hi, ← kill_up hp (show k < m by omega) h1 hd hi (by rcases p4 with h | h; omega; exact h)]
      have := kill_clr (p := p) (m := m) (k := k) (rows := upG p m (gaussS p m rows k).1 (gaussS p m rows k).2 k (pivG (gaussS p m rows k).1 k (gaussS p m rows k).2)) (z := z) (d := (gaussS p m rows k).2) (by rw [upG_len]; exact hd)
      rw [upG_len] at this
      exact this
/-- The reduced basis has the same solutions. -/
theorem kill_basis {p : Int} {m : Nat} {rows : List (List Int)} {z : List Int} (hp : primeB p = true) (hg : RowsG p m rows) : Kill p m (basisL p m rows) z ↔ Kill p m rows z := by
  rw [← kill_gauss hp hg m (Nat.le_refl _)]
  obtain ⟨h1, c, h2⟩ := gaussS_red hp hg m (Nat.le_refl _)
  have hl : (basisL p m rows).length = (gaussS p m rows m).2 := by unfold basisL; rw [List.length_take, Nat.min_eq_left h2.dle]
  unfold Kill
  constructor
  · intro h i hi
    by_cases hid : i < (gaussS p m rows m).2
    · have := h i (by omega)
      unfold basisL at this
      rwa [nthR_take hid] at this
    · unfold dotN
      rw [sumN_zero fun t ht => by rw [h2.rest i (by omega) hi t ht, Int.zero_mul]]; simp
  · intro h i hi
    have := h i (by have := h2.dle; omega)
    unfold basisL
    rwa [nthR_take (by omega)]

/-! ### Linear systems -/
theorem nth_len {x : List Int} {n : Nat} {v : Int} (h : x.length = n) : nth (x ++ [v]) n = v := by subst h; exact nth_append_len
theorem dot_snoc {n : Nat} {x y : List Int} {v : Int} (hx : x.length = n) (hy : y.length = n) : dotN (n + 1) (x ++ [v]) (y ++ [-1]) = dotN n x y - v := by
  unfold dotN
  simp only [sumN]
  rw [nth_len hx, nth_len hy, sumN_congr (g := fun t => nth x t * nth y t) fun t ht => by rw [nth_append_left (by omega), nth_append_left (by omega)]]
  omega
/-- y solves the system: the product with row i is number i of v. -/
def Solves (p : Int) (n : Nat) (rows : List (List Int)) (v y : List Int) : Prop := ∀ i, i < rows.length → dotN n (nthR rows i) y % p = nth v i % p
theorem sub_zero_iff {p a b : Int} : (a - b) % p = 0 ↔ a % p = b % p := Int.emod_eq_emod_iff_emod_sub_eq_zero.symm
theorem solves_kill {p : Int} {n : Nat} {rows : List (List Int)} {v y : List Int} (hg : RowsG p n rows) (hy : y.length = n) : Solves p n rows v y ↔ Kill p (n + 1) (wideL rows v rows.length) (y ++ [-1]) := by
  unfold Solves Kill
  rw [wideL_len]
  have e : ∀ i, i < rows.length → nthR (wideL rows v rows.length) i = nthR rows i ++ [nth v i] := fun i hi => by
    unfold wideL; rw [nthR_map (by simpa using hi)]; simp
  constructor
  · intro h i hi
    rw [e i hi, dot_snoc (hg i hi).1 hy]
    exact sub_zero_iff.2 (h i hi)
  · intro h i hi
    have := h i hi
    rw [e i hi, dot_snoc (hg i hi).1 hy] at this
    exact sub_zero_iff.1 this
theorem okS_iff {p : Int} {m n : Nat} {red : List (List Int)} {c : Nat → Nat} (h : Basis p m red c) : okS n red = true ↔ ∀ i, i < red.length → c i ≠ n := by
  unfold okS
  rw [Option.isNone_iff_eq_none]
  constructor
  · intro hn i hi hc
    exact pivIx_none hn i hi (by rw [h.leadN hi, hc])
  · intro hc
    cases hp : pivIx red n with
    | none => rfl
    | some i =>
      obtain ⟨hi, hl⟩ := pivIx_some hp
      rw [h.leadN hi] at hl
      exact absurd hl (hc i hi)
theorem solL_len {n : Nat} {red : List (List Int)} : (solL n red).length = n := by simp [solL]
theorem sol_kill {p : Int} {n : Nat} {red : List (List Int)} {c : Nat → Nat} (h : Basis p (n + 1) red c) (hok : okS n red = true) : Kill p (n + 1) red (solL n red ++ [-1]) := by
  intro i hi
  have hc := (okS_iff h).1 hok
  have e : dotN (n + 1) (nthR red i) (solL n red ++ [-1]) = dotN n (nthR red i) (solL n red) - nth (nthR red i) n := by
    unfold dotN
    simp only [sumN]
    rw [nth_len solL_len, sumN_congr (g := fun t => nth (nthR red i) t * nth (solL n red) t) fun t ht => by rw [nth_append_left (by rw [solL_len]; exact ht)]]
    omega
  rw [e]
  have hci : c i < n := by have := h.clt i hi; have := hc i hi; omega
  have : dotN n (nthR red i) (solL n red) = nth (nthR red i) n := by
    unfold dotN
    have sn : ∀ t, t < n → nth (solL n red) t = solN n red t := fun t ht => by unfold solL; rw [nth_map (by simpa using ht)]; simp
    rw [sumN_single hci fun t ht hne => by
      rw [sn t ht]
      unfold solN
      cases hp : pivIx red t with
      | none => simp
      | some j =>
        obtain ⟨hj, hl⟩ := pivIx_some hp
        rw [h.leadN hj] at hl
        subst hl
        rw [h.one j hj i hi, if_neg (fun e => hne (by rw [e]))]; simp]
    rw [h.one i hi i hi, if_pos rfl, sn _ hci, Int.one_mul]
    unfold solN
    rw [h.piv hi]
  rw [this]; simp
theorem sol_spec {p : Int} {n : Nat} {rows : List (List Int)} {v : List Int} (hp : primeB p = true) (hg : RowsG p n rows) (hv : Good p rows.length v) (hok : okS n (basisL p (n + 1) (wideL rows v rows.length)) = true) :
    Solves p n rows v (solL n (basisL p (n + 1) (wideL rows v rows.length))) := by
  have hw := wideL_good hg hv (Nat.le_refl _)
  obtain ⟨c, hb⟩ := basis_red hp hw
  rw [solves_kill hg solL_len, ← kill_basis hp hw]
  exact sol_kill hb hok
theorem sol_exists {p : Int} {n : Nat} {rows : List (List Int)} {v y : List Int} (hp : primeB p = true) (hg : RowsG p n rows) (hv : Good p rows.length v) (hy : y.length = n) (h : Solves p n rows v y) :
    okS n (basisL p (n + 1) (wideL rows v rows.length)) = true := by
  have hpb := prime_bd hp
  have hw := wideL_good hg hv (Nat.le_refl _)
  obtain ⟨c, hb⟩ := basis_red hp hw
  rw [solves_kill hg hy, ← kill_basis hp hw] at h
  rw [okS_iff hb]
  intro i hi hc
  have hk := h i hi
  unfold dotN at hk
  rw [sumN_single (k := n) (by omega) fun t ht hne => by rw [hb.lead i hi t (by omega), Int.zero_mul]] at hk
  have h1 := hb.one i hi i hi
  rw [hc, if_pos rfl] at h1
  rw [h1, nth_len hy] at hk
  have hq : p = 3 ∨ p = 5 ∨ p = 7 ∨ p = 11 ∨ p = 13 := by simp [primeB] at hp; omega
  rcases hq with rfl | rfl | rfl | rfl | rfl <;> simp at hk

/-! ### The dove-cote -/
theorem dove : ∀ (M : Nat) (f : Nat → Nat), (∀ k, k ≤ M → f k < M) → ∃ i j, i < j ∧ j ≤ M ∧ f i = f j
  | 0, f, h => absurd (h 0 (Nat.le_refl _)) (Nat.not_lt_zero _)
  | M + 1, f, h => by
    by_cases hx : ∃ j, j < M + 1 ∧ f j = f (M + 1)
    · obtain ⟨j, hj, he⟩ := hx
      exact ⟨j, M + 1, hj, Nat.le_refl _, he⟩
    · have hx' : ∀ j, j < M + 1 → f j ≠ f (M + 1) := fun j hj he => hx ⟨j, hj, he⟩
      obtain ⟨i, j, hij, hj, he⟩ := dove M (fun k => if f k = M then f (M + 1) else f k) fun k hk => by
        have h1 := h k (by omega)
        have h2 := h (M + 1) (Nat.le_refl _)
        have h3 := hx' k (by omega)
        show (if f k = M then f (M + 1) else f k) < M
        split <;> omega
      refine ⟨i, j, hij, by omega, ?_⟩
      have he : (if f i = M then f (M + 1) else f i) = (if f j = M then f (M + 1) else f j) := he
      have h3 := hx' i (by omega)
      have h4 := hx' j (by omega)
      split at he <;> split at he
      · omega
      · exact absurd he.symm h4
      · exact absurd he h3
      · exact he
def encL (q : Nat) : List Int → Nat
  | [] => 0
  | x :: xs => x.toNat + q * encL q xs
theorem encL_lt {p : Int} {q : Nat} (hq : p = q) : ∀ (n : Nat) (x : List Int), Good p n x → encL q x < q ^ n
  | 0, x, h => by
    have : x = [] := List.length_eq_zero_iff.1 h.1
    subst this; exact Nat.one_pos
  | n + 1, [], h => by have := h.1; simp at this
  | n + 1, x :: xs, h => by
    have hx := h.2 0 (by omega)
    have hxs : Good p n xs := ⟨by have := h.1; simpa using this, fun i hi => by have := h.2 (i + 1) (by omega); simpa [nth] using this⟩
    have ih := encL_lt hq n xs hxs
    have h0 : nth (x :: xs) 0 = x := by simp [nth]
    rw [h0] at hx
    show x.toNat + q * encL q xs < q ^ (n + 1)
    rw [Nat.pow_succ, Nat.mul_comm (q ^ n)]
    have : q * (encL q xs + 1) ≤ q * q ^ n := Nat.mul_le_mul_left _ ih
    rw [Nat.mul_add, Nat.mul_one] at this
    omega
theorem encL_inj {p : Int} {q : Nat} (hq : p = q) : ∀ (n : Nat) (x y : List Int), Good p n x → Good p n y → encL q x = encL q y → x = y
  | 0, x, y, h, h', _ => by rw [List.length_eq_zero_iff.1 h.1, List.length_eq_zero_iff.1 h'.1]
  | n + 1, [], _, h, _, _ => by have := h.1; simp at this
  | n + 1, _ :: _, [], _, h, _ => by have := h.1; simp at this
  | n + 1, x :: xs, y :: ys, h, h', he => by
    have hx := h.2 0 (by omega)
    have hy := h'.2 0 (by omega)
    have g : ∀ z zs, Good p (n + 1) (z :: zs) → Good p n zs := fun z zs h => ⟨by have := h.1; simpa using this, fun i hi => by have := h.2 (i + 1) (by omega); simpa [nth] using this⟩
    have h0 : ∀ z zs, nth (z :: zs) 0 = z := fun z zs => by simp [nth]
    rw [h0] at hx hy
    have he' : x.toNat + q * encL q xs = y.toNat + q * encL q ys := he
    have hxl : x.toNat < q := by omega
    have hyl : y.toNat < q := by omega
    have e1 : x.toNat = y.toNat := by
      have := congrArg (· % q) he'
      simp only [Nat.add_mul_mod_self_left] at this
      rwa [Nat.mod_eq_of_lt hxl, Nat.mod_eq_of_lt hyl] at this
    have e2 : encL q xs = encL q ys := by
      have : q * encL q xs = q * encL q ys := by omega
      exact Nat.eq_of_mul_eq_mul_left (by omega) this
    rw [encL_inj hq n xs ys (g _ _ h) (g _ _ h') e2, show x = y by omega]

/-- A right inverse is a left inverse. -/
theorem inv_both {p : Int} {qs x y : List Int} (hp : 3 ≤ p) (hd : qs.length ≤ 6) (_hx : Good p (2 ^ qs.length) x) (hy : Good p (2 ^ qs.length) y) (h : prodL p qs tkA x y = bladeL (2 ^ qs.length) 0) : prodL p qs tkA y x = bladeL (2 ^ qs.length) 0 := by
  have hq : p = (p.toNat : Int) := by omega
  obtain ⟨i, j, hij, _, he⟩ := dove (p.toNat ^ 2 ^ qs.length) (fun k => encL p.toNat (powL p qs x k)) fun k _ => encL_lt hq _ _ (pow_good hp k)
  have he' : powL p qs x i = powL p qs x j := encL_inj hq _ _ _ (pow_good hp i) (pow_good hp j) he
  -- x^i y^i = 1
  have cancel : ∀ i, prodL p qs tkA (powL p qs x i) (powL p qs y i) = bladeL (2 ^ qs.length) 0 := fun i => by
    induction i with
    | zero => exact times_one (by omega) (blade_good hp)
    | succ i ih =>
      have e : powL p qs y (i + 1) = prodL p qs tkA y (powL p qs y i) := by
        rw [Nat.add_comm, ← pow_add hp hd 1 i, pow_one hp hy]
      show prodL p qs tkA (prodL p qs tkA (powL p qs x i) x) (powL p qs y (i + 1)) = _
      rw [e, prod_assoc (by omega) hd, ← prod_assoc (x := x) (by omega) hd, h, one_times hp (pow_good hp i), ih]
  have hn : powL p qs x (j - i) = bladeL (2 ^ qs.length) 0 := by
    have h1 := cancel i
    rw [he', show j = (j - i) + i by omega, ← pow_add hp hd, prod_assoc (by omega) hd, cancel i, times_one (by omega) (pow_good hp _)] at h1
    exact h1
  obtain ⟨k, hk⟩ : ∃ k, j - i = k + 1 := ⟨j - i - 1, by omega⟩
  rw [hk] at hn
  -- y = x^k
  have hyk : y = powL p qs x k := by
    have : prodL p qs tkA (powL p qs x (k + 1)) y = y := by rw [hn]; exact one_times hp hy
    rw [← this]
    show prodL p qs tkA (prodL p qs tkA (powL p qs x k) x) y = _
    rw [prod_assoc (by omega) hd, h, times_one (by omega) (pow_good hp k)]
  rw [hyk]; exact hn

end Go.Proofs.Ytnbhlabcecdbgaa

/-
  The rank of the first columns; a column that no combination of the earlier ones makes raises it.
  No condition. No program in sight.
-/
namespace Go.Proofs.Ytnbhlabcecdbgaa
set_option maxRecDepth 100000
open Go.RowKit

def truncL (m : Nat) (rows : List (List Int)) : List (List Int) := rows.map fun r => r.take m
theorem truncL_len {m : Nat} {rows : List (List Int)} : (truncL m rows).length = rows.length := by simp [truncL]
theorem truncL_nth {m i : Nat} {rows : List (List Int)} : nthR (truncL m rows) i = (nthR rows i).take m := by
  by_cases hi : i < rows.length
  · unfold truncL; rw [nthR_map hi, nthR_eq hi]
  · have h1 : nthR (truncL m rows) i = [] := by simp [nthR, truncL, List.getElem?_eq_none (Nat.le_of_not_lt hi)]
    have h2 : nthR rows i = [] := by simp [nthR, List.getElem?_eq_none (Nat.le_of_not_lt hi)]
    rw [h1, h2, List.take_nil]
theorem nth_take {m t : Nat} {x : List Int} (ht : t < m) : nth (x.take m) t = nth x t := by
  simp [nth, List.getElem?_take_of_lt ht]
theorem plus_take {p k : Int} {m m' : Nat} {x y : List Int} (h : m' ≤ m) : (plusL p x y k m).take m' = plusL p (x.take m') (y.take m') k m' := by
  refine ext_nth (by rw [List.length_take, plusL_len, plusL_len, Nat.min_eq_left h]) fun i hi => ?_
  rw [List.length_take, plusL_len, Nat.min_eq_left h] at hi
  rw [nth_take hi, plusL_nth (by omega), plusL_nth hi, plusN, plusN, nth_take hi, nth_take hi]
theorem scale_take {p k : Int} {m m' : Nat} {x : List Int} (h : m' ≤ m) : (scaleL p x k m).take m' = scaleL p (x.take m') k m' := by
  refine ext_nth (by rw [List.length_take, scaleL_len, scaleL_len, Nat.min_eq_left h]) fun i hi => ?_
  rw [List.length_take, scaleL_len, Nat.min_eq_left h] at hi
  rw [nth_take hi, scaleL_nth (by omega), scaleL_nth hi, scaleN, scaleN, nth_take hi]
theorem piv_trunc {m k d : Nat} {rows : List (List Int)} (hk : k < m) (hd : d ≤ rows.length) : pivG (truncL m rows) k d = pivG rows k d := by
  obtain ⟨h1, h2, h3, h4⟩ := pivG_spec rows k d hd
  refine pivG_eq h1 (by rw [truncL_len]; exact h2) (fun j hj hj2 => by rw [truncL_nth, nth_take hk]; exact h3 j hj hj2) ?_
  rcases h4 with h4 | h4
  · left; rw [truncL_len]; exact h4
  · right; rw [truncL_nth, nth_take hk]; exact h4
theorem step_trunc {p : Int} {m m' d k : Nat} {rows : List (List Int)} (h : m' ≤ m) (hk : k < m') (hd : d ≤ rows.length) :
    stepG p m' (truncL m' rows, d) k = (truncL m' (stepG p m (rows, d) k).1, (stepG p m (rows, d) k).2) := by
  have hp := piv_trunc (m := m') (k := k) (d := d) (rows := rows) hk hd
  obtain ⟨p1, p2, _, _⟩ := pivG_spec rows k d hd
  by_cases hn : pivG rows k d = rows.length
  · rw [stepG_no (s := (rows, d)) hn, stepG_no (s := (truncL m' rows, d)) (by rw [hp, truncL_len]; exact hn)]
  · obtain ⟨i, hi⟩ : ∃ i, i = pivG rows k d := ⟨_, rfl⟩
    rw [← hi] at hp p1 p2 hn
    have hil : i < rows.length := by omega
    have hdl : d < rows.length := by omega
    rw [stepG_yes (s := (rows, d)) hi.symm hil, stepG_yes (s := (truncL m' rows, d)) hp (by rw [truncL_len]; exact hil)]
    refine Prod.ext ?_ rfl
    show clrS p k m' d (upG p m' (truncL m' rows) d k i) (truncL m' rows).length = truncL m' (clrS p k m d (upG p m rows d k i) rows.length)
    have hu : ∀ j, nthR (upG p m' (truncL m' rows) d k i) j = (nthR (upG p m rows d k i) j).take m' := fun j => by
      rw [upG_nth (by rw [truncL_len]; exact hdl) (by rw [truncL_len]; exact hil), upG_nth hdl hil, truncL_nth, truncL_nth, truncL_nth, nth_take hk]
      split
      · rw [scale_take h]
      · split <;> rfl
    refine ext_rows (by rw [clrS_len, upG_len, truncL_len, truncL_len, clrS_len, upG_len]) fun j hj => ?_
    rw [clrS_len, upG_len, truncL_len] at hj
    rw [truncL_nth, truncL_len, clrS_nth _ (by rw [upG_len, truncL_len]; exact Nat.le_refl _), clrS_nth _ (by rw [upG_len]; exact Nat.le_refl _), hu, hu, nth_take hk]
    split
    · rw [plus_take h]
    · rfl
theorem gauss_trunc {p : Int} {m m' : Nat} {rows : List (List Int)} (hp : primeB p = true) (hg : RowsG p m rows) (h : m' ≤ m) : ∀ j, j ≤ m' → gaussS p m' (truncL m' rows) j = (truncL m' (gaussS p m rows j).1, (gaussS p m rows j).2)
  | 0, _ => rfl
  | j + 1, hj => by
    show stepG p m' (gaussS p m' (truncL m' rows) j) j = (truncL m' (stepG p m (gaussS p m rows j) j).1, (stepG p m (gaussS p m rows j) j).2)
    rw [gauss_trunc hp hg h j (by omega)]
    obtain ⟨_, c, hr⟩ := gaussS_red hp hg j (by omega)
    exact step_trunc h (by omega) hr.dle
def rankL (p : Int) (m : Nat) (rows : List (List Int)) : Nat := (gaussS p m rows m).2
theorem rank_le {p : Int} {m : Nat} {rows : List (List Int)} (hp : primeB p = true) (hg : RowsG p m rows) : rankL p m rows ≤ rows.length := (gauss_rank hp hg).1
/-- A further column that has no combination raises the rank. -/
theorem rank_up {p : Int} {m : Nat} {rows : List (List Int)} (hp : primeB p = true) (hg : RowsG p (m + 1) rows) (h : okS m (basisL p (m + 1) rows) = false) : rankL p (m + 1) rows = rankL p m (truncL m rows) + 1 := by
  have ht := gauss_trunc hp hg (Nat.le_succ m) m (Nat.le_refl _)
  have hr : rankL p m (truncL m rows) = (gaussS p (m + 1) rows m).2 := by unfold rankL; rw [ht]
  rw [hr]
  obtain ⟨h1, c, h2⟩ := gaussS_red hp hg m (by omega)
  obtain ⟨p1, p2, _, _⟩ := pivG_spec (gaussS p (m + 1) rows m).1 m (gaussS p (m + 1) rows m).2 h2.dle
  by_cases hn : pivG (gaussS p (m + 1) rows m).1 m (gaussS p (m + 1) rows m).2 = (gaussS p (m + 1) rows m).1.length
  · exfalso
    have e : gaussS p (m + 1) rows (m + 1) = gaussS p (m + 1) rows m := stepG_no hn
    -- no pivot in the last column: all first numbers stand ahead of it
    have hl : (basisL p (m + 1) rows).length = (gaussS p (m + 1) rows m).2 := by unfold basisL; rw [e, List.length_take, Nat.min_eq_left h2.dle]
    have hnn : ∀ i, i < (gaussS p (m + 1) rows m).2 → nthR (basisL p (m + 1) rows) i = nthR (gaussS p (m + 1) rows m).1 i := fun i hi => by unfold basisL; rw [e]; exact nthR_take hi
    have hd := h2.dle
    have ok : okS m (basisL p (m + 1) rows) = true := by
      unfold okS
      rw [Option.isNone_iff_eq_none]
      cases hp' : pivIx (basisL p (m + 1) rows) m with
      | none => rfl
      | some i =>
        obtain ⟨hi, hle⟩ := pivIx_some hp'
        have hi2 : i < (gaussS p (m + 1) rows m).2 := by omega
        have hc := h2.clt i hi2
        have hgl := (h1 i (by omega)).1
        have : leadN (nthR (basisL p (m + 1) rows) i) = c i := by
          rw [hnn i hi2]
          refine leadN_eq (by omega) (h2.lead i hi2) (.inr ?_)
          rw [h2.one i hi2 i (by omega), if_pos rfl]; omega
        omega
    rw [h] at ok; cases ok
  · unfold rankL
    show (stepG p (m + 1) (gaussS p (m + 1) rows m) m).2 = _
    rw [stepG_yes rfl (by omega)]
theorem trunc_wide {p : Int} {m n : Nat} {rows : List (List Int)} {u : List Int} (hg : RowsG p m rows) (hn : rows.length = n) : truncL m (wideL rows u n) = rows := by
  refine ext_rows (by rw [truncL_len, wideL_len, hn]) fun i hi => ?_
  rw [truncL_len, wideL_len] at hi
  rw [truncL_nth]
  have e : nthR (wideL rows u n) i = nthR rows i ++ [nth u i] := by unfold wideL; rw [nthR_map (by simpa using hi)]; simp
  rw [e, List.take_append_of_le_length (by rw [(hg i (by omega)).1]; exact Nat.le_refl _), List.take_of_length_le (by rw [(hg i (by omega)).1]; exact Nat.le_refl _)]

end Go.Proofs.Ytnbhlabcecdbgaa

/-
  The determinant by elimination, plain: it is not 0 exactly if the rows have full rank; rows of lesser rank lead a vector to 0.
  No condition.
-/
namespace Go.Proofs.Ytnbhlabcecdbgaa
set_option maxRecDepth 100000
open Go.RowKit

/-- Row k is taken, so often as needed, from all rows behind it. -/
def elimN (p : Int) (m k : Nat) (rows : List (List Int)) (r : Nat) : List Int := if k < r then plusL p (nthR rows r) (nthR rows k) (-(nth (nthR rows r) k) * invN p (nth (nthR rows k) k)) m else nthR rows r
def elimS (p : Int) (m k : Nat) (rows : List (List Int)) : Nat → List (List Int)
  | 0 => rows
  | r + 1 => if k < r then (elimS p m k rows r).set r (elimN p m k rows r) else elimS p m k rows r
theorem elimS_len {p : Int} {m k : Nat} {rows : List (List Int)} : ∀ r, (elimS p m k rows r).length = rows.length
  | 0 => rfl
  | r + 1 => by rw [elimS]; split <;> simp [elimS_len r]
theorem elimS_nth {p : Int} {m k : Nat} {rows : List (List Int)} : ∀ r, r ≤ rows.length → ∀ j, nthR (elimS p m k rows r) j = if j < r then elimN p m k rows j else nthR rows j
  | 0, _, j => by simp [elimS]
  | r + 1, h, j => by
    have ih := elimS_nth (p := p) (m := m) (k := k) (rows := rows) r (by omega) j
    rw [elimS]
    by_cases hk : k < r
    · rw [if_pos hk, nthR_set (by rw [elimS_len]; omega)]
      by_cases hj : r = j
      · subst hj; rw [if_pos rfl, if_pos (by omega)]
      · rw [if_neg hj, ih]
        by_cases hjr : j < r
        · rw [if_pos hjr, if_pos (by omega)]
        · rw [if_neg hjr, if_neg (by omega)]
    · rw [if_neg hk, ih]
      by_cases hjr : j < r
      · rw [if_pos hjr, if_pos (by omega)]
      · rw [if_neg hjr]
        by_cases hj : j < r + 1
        · rw [if_pos hj]; unfold elimN; rw [if_neg (by omega)]
        · rw [if_neg hj]
def elimL (p : Int) (m k : Nat) (rows : List (List Int)) : List (List Int) := elimS p m k rows rows.length
theorem elimL_len {p : Int} {m k : Nat} {rows : List (List Int)} : (elimL p m k rows).length = rows.length := elimS_len _
theorem elimL_nth {p : Int} {m k : Nat} {rows : List (List Int)} {j : Nat} (hj : j < rows.length) : nthR (elimL p m k rows) j = elimN p m k rows j := by
  unfold elimL; rw [elimS_nth _ (Nat.le_refl _), if_pos hj]
theorem elimL_good {p : Int} {m k : Nat} {rows : List (List Int)} (hp : 1 ≤ p) (h : RowsG p m rows) : RowsG p m (elimL p m k rows) := fun i hi => by
  rw [elimL_len] at hi
  rw [elimL_nth hi]
  unfold elimN
  split
  · exact plus_good hp
  · exact h i hi

/-- The rows and the factor when k columns are done; nothing, when a column had no number other than 0. -/
def detS (p : Int) (m : Nat) (rows : List (List Int)) : Nat → Option (List (List Int) × Int)
  | 0 => some (rows, 1)
  | k + 1 => match detS p m rows k with
    | none => none
    | some (r, o) => if pivG r k k = r.length then none
      else some (elimL p m k (swapL r k (pivG r k k)), ((if pivG r k k = k then o else (-o) % p) * nth (nthR r (pivG r k k)) k) % p)
def detL (p : Int) (m : Nat) (rows : List (List Int)) : Int := match detS p m rows rows.length with | none => 0 | some (_, o) => o

theorem detS_good {p : Int} {m : Nat} {rows : List (List Int)} (hp : 1 ≤ p) (hg : RowsG p m rows) : ∀ k, k ≤ rows.length → ∀ r o, detS p m rows k = some (r, o) → RowsG p m r ∧ r.length = rows.length
  | 0, _, r, o, h => by
    simp only [detS, Option.some.injEq, Prod.mk.injEq] at h
    obtain ⟨rfl, _⟩ := h
    exact ⟨hg, rfl⟩
  | k + 1, hk, r, o, h => by
    rw [detS] at h
    cases hd : detS p m rows k with
    | none => rw [hd] at h; cases h
    | some ro =>
      obtain ⟨r1, o1⟩ := ro
      rw [hd] at h
      simp only at h
      obtain ⟨h1, h2⟩ := detS_good hp hg k (by omega) r1 o1 hd
      split at h
      · cases h
      · rename_i hne
        simp only [Option.some.injEq, Prod.mk.injEq] at h
        obtain ⟨rfl, _⟩ := h
        have hpv := pivG_spec r1 k k (by omega)
        exact ⟨elimL_good hp (swapL_good h1 (by omega) (by omega)), by rw [elimL_len, swapL_len, h2]⟩

theorem pivG_congr {r s : List (List Int)} {k : Nat} (hl : r.length = s.length) (h : ∀ j, k ≤ j → nthR r j = nthR s j) (hk : k ≤ r.length) : pivG r k k = pivG s k k := by
  obtain ⟨h1, h2, h3, h4⟩ := pivG_spec s k k (by omega)
  refine pivG_eq h1 (by omega) (fun j hj hj2 => by rw [h j hj]; exact h3 j hj hj2) ?_
  rcases h4 with h4 | h4
  · exact .inl (by omega)
  · exact .inr (by rw [h _ h1]; exact h4)
theorem plus_scale {p c k : Int} {m : Nat} {x y : List Int} (_hp : 1 ≤ p) : plusL p x (scaleL p y c m) k m = plusL p x y (k * c) m := by
  refine ext_nth (by rw [plusL_len, plusL_len]) fun t ht => ?_
  rw [plusL_len] at ht
  rw [plusL_nth ht, plusL_nth ht, plusN, plusN, scaleL_nth ht, scaleN]
  rw [Int.add_emod, Int.mul_emod, Int.emod_emod, ← Int.mul_emod, ← Int.add_emod]
  congr 2
  rw [Int.mul_comm (nth y t), Int.mul_assoc]

/-- The elimination of the determinant and that of the reduced basis find the same numbers. -/
theorem det_gauss {p : Int} {m : Nat} {rows : List (List Int)} (hp : primeB p = true) (hg : RowsG p m rows) (hm : rows.length ≤ m) : ∀ k, k ≤ rows.length →
    (∀ r o, detS p m rows k = some (r, o) → (gaussS p m rows k).2 = k ∧ (∀ j, k ≤ j → nthR (gaussS p m rows k).1 j = nthR r j) ∧ 0 < o ∧ o < p) ∧ (detS p m rows k = none → (gaussS p m rows k).2 < k)
  | 0, _ => by
    have hpb := prime_bd hp
    refine ⟨fun r o h => ?_, fun h => by simp [detS] at h⟩
    simp only [detS, Option.some.injEq, Prod.mk.injEq] at h
    obtain ⟨rfl, rfl⟩ := h
    exact ⟨rfl, fun j _ => rfl, by omega, by omega⟩
  | k + 1, hk => by
    have hpb := prime_bd hp
    obtain ⟨ih1, ih2⟩ := det_gauss hp hg hm k (by omega)
    have hle : (gaussS p m rows (k + 1)).2 ≤ (gaussS p m rows k).2 + 1 := by
      rw [gaussS, stepG]; split <;> simp
    have hgl := gaussS_len (p := p) (m := m) (rows := rows) k
    obtain ⟨hgg, c, hred⟩ := gaussS_red hp hg k (by omega)
    cases hd : detS p m rows k with
    | none =>
      have := ih2 hd
      refine ⟨fun r o h => ?_, fun _ => by omega⟩
      rw [detS, hd] at h; cases h
    | some ro =>
      obtain ⟨r1, o1⟩ := ro
      obtain ⟨e1, e2, e3, e4⟩ := ih1 r1 o1 hd
      obtain ⟨g1, g2⟩ := detS_good (by omega) hg k (by omega) r1 o1 hd
      have hpiv : pivG (gaussS p m rows k).1 k k = pivG r1 k k := pivG_congr (by omega) e2 (by omega)
      obtain ⟨h1, h2, h3, h4⟩ := pivG_spec r1 k k (by omega)
      by_cases hno : pivG r1 k k = r1.length
      · have hst : gaussS p m rows (k + 1) = gaussS p m rows k := by
          rw [gaussS]
          exact stepG_no (by rw [e1, hpiv, hno]; omega)
        refine ⟨fun r o h => ?_, fun _ => by rw [hst]; omega⟩
        rw [detS, hd] at h
        simp only [hno, if_true] at h
        cases h
      · have hne : nth (nthR r1 (pivG r1 k k)) k ≠ 0 := by
          rcases h4 with h4 | h4
          · exact absurd h4 hno
          · exact h4
        have hil : pivG r1 k k < r1.length := by omega
        have hst := stepG_yes (p := p) (m := m) (s := gaussS p m rows k) (k := k) (i := pivG r1 k k) (by rw [e1]; exact hpiv) (by omega)
        rw [e1] at hst
        refine ⟨fun r o h => ?_, fun h => ?_⟩
        · rw [detS, hd] at h
          simp only [hno, if_false, Option.some.injEq, Prod.mk.injEq] at h
          obtain ⟨rfl, rfl⟩ := h
          have hpb1 := (g1 _ hil).2 k (by omega)
          refine ⟨by rw [gaussS, hst], fun j hj => ?_, ?_⟩
          · rw [gaussS, hst]
            simp only
            by_cases hjl : j < r1.length
            · rw [clrS_nth _ (by rw [upG_len]; omega), if_pos ⟨by omega, by omega⟩, elimL_nth (by rw [swapL_len]; exact hjl)]
              unfold elimN
              rw [if_pos (by omega), upG_nth (by omega) (by omega), upG_nth (by omega) (by omega), if_neg (by omega), if_pos rfl, plus_scale (by omega)]
              rw [swapL_nth (by omega) hil, swapL_nth (by omega) hil]
              have ek : nthR (gaussS p m rows k).1 k = nthR r1 k := e2 k (Nat.le_refl _)
              have ei : nthR (gaussS p m rows k).1 (pivG r1 k k) = nthR r1 (pivG r1 k k) := e2 _ h1
              have ej : nthR (gaussS p m rows k).1 j = nthR r1 j := e2 j (by omega)
              rw [ek, ei, ej]
              have hkk : (if k = pivG r1 k k then nthR r1 k else if k = k then nthR r1 (pivG r1 k k) else nthR r1 k) = nthR r1 (pivG r1 k k) := by
                by_cases hki : k = pivG r1 k k
                · rw [if_pos hki, ← hki]
                · rw [if_neg hki, if_pos rfl]
              rw [hkk]
              have hjj : (if j = pivG r1 k k then nthR r1 k else if j = k then nthR r1 (pivG r1 k k) else nthR r1 j) = (if j = pivG r1 k k then nthR r1 k else nthR r1 j) := by
                by_cases hji : j = pivG r1 k k
                · rw [if_pos hji, if_pos hji]
                · rw [if_neg hji, if_neg hji, if_neg (by omega)]
              rw [hjj]
            · rw [show nthR (elimL p m k (swapL r1 k (pivG r1 k k))) j = [] by unfold nthR; rw [List.getD_eq_getElem?_getD, List.getElem?_eq_none (by rw [elimL_len, swapL_len]; omega)]; rfl]
              unfold nthR
              rw [List.getD_eq_getElem?_getD, List.getElem?_eq_none (by rw [clrS_len, upG_len]; omega)]; rfl
          · have ho : 0 ≤ (if pivG r1 k k = k then o1 else (-o1) % p) ∧ (if pivG r1 k k = k then o1 else (-o1) % p) < p ∧ (if pivG r1 k k = k then o1 else (-o1) % p) ≠ 0 := by
              split
              · omega
              · refine ⟨Int.emod_nonneg _ (by omega), Int.emod_lt_of_pos _ (by omega), fun hz => ?_⟩
                rw [show -o1 = (p - o1) + p * (-1) by omega, Int.add_mul_emod_self_left, Int.emod_eq_of_lt (by omega) (by omega)] at hz
                omega
            have hz := mul_zero_of hp ho.1 ho.2.1 hpb1.1 hpb1.2
            have hn0 : (if pivG r1 k k = k then o1 else (-o1) % p) * nth (nthR r1 (pivG r1 k k)) k % p ≠ 0 := fun h => by
              rcases hz.1 h with h | h
              · exact ho.2.2 h
              · exact hne h
            have := Int.emod_nonneg ((if pivG r1 k k = k then o1 else (-o1) % p) * nth (nthR r1 (pivG r1 k k)) k) (show p ≠ 0 by omega)
            exact ⟨by omega, Int.emod_lt_of_pos _ (by omega)⟩
        · rw [detS, hd] at h
          simp only [hno, if_false] at h
          cases h
/-- The determinant is not 0 exactly if the rank is full. -/
theorem det_rank {p : Int} {m : Nat} {rows : List (List Int)} (hp : primeB p = true) (hg : RowsG p m rows) (hm : rows.length = m) : detL p m rows ≠ 0 ↔ rankL p m rows = m := by
  obtain ⟨h1, h2⟩ := det_gauss hp hg (by omega) rows.length (Nat.le_refl _)
  unfold detL rankL
  cases hd : detS p m rows rows.length with
  | none =>
    have := h2 hd
    rw [hm] at this
    simp only [ne_eq, not_true, false_iff]
    omega
  | some ro =>
    obtain ⟨r, o⟩ := ro
    obtain ⟨e1, _, e3, _⟩ := h1 r o hd
    rw [hm] at e1
    simp only [e1, iff_true]
    omega
theorem det_bd {p : Int} {m : Nat} {rows : List (List Int)} (hp : primeB p = true) (hg : RowsG p m rows) (hm : rows.length ≤ m) : 0 ≤ detL p m rows ∧ detL p m rows < p := by
  have hpb := prime_bd hp
  obtain ⟨h1, _⟩ := det_gauss hp hg hm rows.length (Nat.le_refl _)
  unfold detL
  cases hd : detS p m rows rows.length with
  | none => exact ⟨Int.le_refl _, by show (0 : Int) < p; omega⟩
  | some ro =>
    obtain ⟨r, o⟩ := ro
    have := h1 r o hd
    exact ⟨by show 0 ≤ o; omega, this.2.2.2⟩

/-! ### Kernels -/
theorem kerV_kill {p : Int} {n : Nat} {red : List (List Int)} {c : Nat → Nat} (_hp : 3 ≤ p) (h : Basis p n red c) {f : Nat} (hf : f < n) (hno : pivIx red f = none) : Kill p n red (kerV p n red f) := fun i hi => by
  have hfc : f ≠ c i := fun e => by rw [e, h.piv hi] at hno; cases hno
  have e : ∀ t, t < n → (nth (nthR red i) t * nth (kerV p n red f) t) % p = ((if t = f then nth (nthR red i) f else 0) + (if t = c i then -(nth (nthR red i) f) else 0)) % p := fun t ht => by
    rw [kerV_nth ht]
    unfold kerN
    by_cases htf : t = f
    · subst htf
      rw [if_pos rfl, if_pos rfl, if_neg hfc, Int.mul_one, Int.add_zero]
    · rw [if_neg htf, if_neg htf]
      cases hpv : pivIx red t with
      | none =>
        have htc : t ≠ c i := fun e => by rw [e, h.piv hi] at hpv; cases hpv
        rw [if_neg htc]; simp
      | some j =>
        obtain ⟨hj, hlj⟩ := pivIx_some hpv
        rw [h.leadN hj] at hlj
        subst hlj
        simp only
        rw [h.one j hj i hi]
        by_cases hij : i = j
        · subst hij
          rw [if_pos rfl, if_pos rfl, Int.one_mul, Int.emod_emod, Int.zero_add]
        · rw [if_neg hij, if_neg (fun e => hij (h.inj hi hj e.symm)), Int.zero_mul, Int.zero_add]
  unfold dotN
  rw [sumN_emod e, sumN_add, sumN_single (k := f) hf (fun t _ hne => if_neg hne), sumN_single (k := c i) (h.clt i hi) (fun t _ hne => if_neg hne), if_pos rfl, if_pos rfl]
  simp [Int.add_right_neg]
theorem ker_exists {p : Int} {n : Nat} {rows : List (List Int)} (hp : primeB p = true) (hg : RowsG p n rows) (hr : rankL p n rows < n) : ∃ z f, Good p n z ∧ Kill p n rows z ∧ f < n ∧ nth z f = 1 := by
  have hpb := prime_bd hp
  obtain ⟨c, hb⟩ := basis_red (m := n) hp hg
  have hl : (basisL p n rows).length = rankL p n rows := by
    unfold basisL rankL
    rw [List.length_take, Nat.min_eq_left]
    rw [gaussS_len]
    exact (gauss_rank hp hg).1
  have : ∃ f, f < n ∧ pivIx (basisL p n rows) f = none := Decidable.byContradiction fun hno => by
    have hall : ∀ t, t < n → ∃ j, pivIx (basisL p n rows) t = some j := fun t ht => by
      cases hpv : pivIx (basisL p n rows) t with
      | none => exact absurd ⟨t, ht, hpv⟩ hno
      | some j => exact ⟨j, rfl⟩
    obtain ⟨i, j, hij, hj, he⟩ := dove (rankL p n rows) (fun t => (pivIx (basisL p n rows) t).getD 0) (fun t ht => by
      obtain ⟨j, hj⟩ := hall t (by omega)
      rw [hj]
      have := (pivIx_some hj).1
      simp only [Option.getD_some]; omega)
    obtain ⟨a, ha⟩ := hall i (by omega)
    obtain ⟨b, hb'⟩ := hall j (by omega)
    rw [ha, hb'] at he
    simp only [Option.getD_some] at he
    have h1 := (pivIx_some ha).2
    have h2 := (pivIx_some hb').2
    rw [he] at h1
    omega
  obtain ⟨f, hf, hno⟩ := this
  refine ⟨_, f, kerV_good (f := f) (red := basisL p n rows) (by omega), (kill_basis hp hg).1 (kerV_kill (by omega) hb hf hno), hf, ?_⟩
  rw [kerV_nth hf, kerN, if_pos rfl]
/-- Rows of full rank have solutions for every right side. -/
theorem rank_ok {p : Int} {n : Nat} {rows : List (List Int)} {v : List Int} (hp : primeB p = true) (hg : RowsG p n rows) (hn : rows.length = n) (hv : Good p n v) (hr : rankL p n rows = n) : okS n (basisL p (n + 1) (wideL rows v n)) = true := by
  cases h : okS n (basisL p (n + 1) (wideL rows v n)) with
  | true => rfl
  | false =>
    have hw : RowsG p (n + 1) (wideL rows v n) := wideL_good hg hv (by omega)
    have h1 := rank_up (m := n) hp hw h
    rw [trunc_wide hg hn, hr] at h1
    have h2 := rank_le (m := n + 1) hp hw
    rw [wideL_len] at h2
    omega
end Go.Proofs.Ytnbhlabcecdbgaa

/-
  Matrices of the multiplications by a multivector; the listed functions LeftMatrix and RightMatrix.
  No condition.
-/
namespace Go.Proofs.Ytnbhlabcecdbgaa
set_option maxRecDepth 100000
open Go.RowKit

/-- The product of a multivector, on one side, and a blade. -/
def mulC (p : Int) (qs x : List Int) (left : Bool) (m : Nat) : List Int := if left = true then prodL p qs tkA x (bladeL (2 ^ qs.length) m) else prodL p qs tkA (bladeL (2 ^ qs.length) m) x
def colsM (p : Int) (qs x : List Int) (left : Bool) (k : Nat) : List (List Int) := (List.range k).map (mulC p qs x left)
theorem colsM_succ (p : Int) (qs x : List Int) (left : Bool) (k : Nat) : colsM p qs x left (k + 1) = colsM p qs x left k ++ [mulC p qs x left k] := by simp [colsM, List.range_succ]
theorem colsM_len (p : Int) (qs x : List Int) (left : Bool) (k : Nat) : (colsM p qs x left k).length = k := by simp [colsM]
theorem mulC_good {p : Int} {qs x : List Int} {left : Bool} {m : Nat} (hp : 1 ≤ p) : Good p (2 ^ qs.length) (mulC p qs x left m) := by unfold mulC; split <;> exact prod_good hp
theorem colsM_nth {p : Int} {qs x : List Int} {left : Bool} {k i : Nat} (h : i < k) : nthR (colsM p qs x left k) i = mulC p qs x left i := by
  unfold colsM; rw [nthR_map (by simpa using h)]; simp
/-- The matrix of a multiplication. -/
def matM (p : Int) (qs x : List Int) (left : Bool) : List (List Int) := turnL (colsM p qs x left (2 ^ qs.length)) (2 ^ qs.length) (2 ^ qs.length)
theorem matM_len (p : Int) (qs x : List Int) (left : Bool) : (matM p qs x left).length = 2 ^ qs.length := turnL_len _ _ _
theorem matM_good {p : Int} {qs x : List Int} {left : Bool} (hp : 1 ≤ p) : RowsG p (2 ^ qs.length) (matM p qs x left) := fun i hi => by
  rw [matM_len] at hi
  unfold matM
  rw [turnL_nth hi]
  refine ⟨colL_len _ _ _, fun j hj => ?_⟩
  rw [colL_nth hj, colsM_nth hj]
  exact (mulC_good hp).2 i hi






theorem cnt_good {p : Int} {m : Nat} {rows : List (List Int)} (h : RowsG p m rows) : ∀ k, k ≤ rows.length → cntR rows k = k * m
  | 0, _ => by simp [cntR]
  | k + 1, hk => by
    show cntR rows k + _ = _
    rw [cnt_good h k (by omega), (h k (by omega)).1, Nat.succ_mul]
theorem matM_cnt {p : Int} {a : Option Addr} {d : Nat} {qs : List Int} {ax1 : Option Addr} {n1 : Nat} {xs1 : List Int} {w : World} {b : Bool} (_hq : RdC w a d qs) (hx1 : RdC w ax1 n1 xs1) (hc : codeA p qs [xs1] = 0) : cntR (matM p qs xs1 b) n1 ≤ 1048576 := by
  obtain ⟨hcm, hq4⟩ := codeA_zero hc
  obtain ⟨hs, hm⟩ := codeM_one hcm
  obtain ⟨hpr, hd1, hd6, hqb⟩ := space_of hs
  have hpb := prime_bd hpr
  obtain ⟨hxl, hxb⟩ := multi_of hm
  have hN : n1 = 2 ^ qs.length := by rw [← hxl]; exact hx1.1.symm
  have h64 := pow_le64 hd6
  rw [cnt_good (matM_good (by omega)) n1 (by rw [matM_len]; omega), hN]
  exact Nat.le_trans (Nat.mul_le_mul h64 h64) (by omega)





end Go.Proofs.Ytnbhlabcecdbgaa

/-
  Contract: multiples of lists, in the reference; a row brought up by two stores with calls between.
  No condition.
-/
namespace Go.Proofs.Ytnbhlabcecdbgaa
set_option maxRecDepth 100000
open Go.RowKit


/-- Row d is stored at place i; later a new row at place d. -/
theorem OwnR.up {B : Nat} {w0 w2 : World} {g n cap : Nat} {rows : List (List Int)} {b : Option Addr} {m c : Nat} {xs : List Int} {i d : Nat} {ad : Option Addr} {cd : Nat}
    (h : OwnR B w0 (some ⟨g, 0, none⟩) n cap rows) (hi : i < n) (hd : d < n) (hc : w0.cell? ⟨g, d, none⟩ = some (.slice ad (nthR rows d).length cd))
    (he : Ext (w0.setCell ⟨g, i, none⟩ (.slice ad (nthR rows d).length cd)) w2) (hB : B ≤ w0.heap.size) (hx : OwnC w0.heap.size w2 b m c xs) :
    OwnR B (w2.setCell ⟨g, d, none⟩ (.slice b m c)) (some ⟨g, 0, none⟩) n cap ((rows.set i (nthR rows d)).set d xs) ∧ (∃ v, w2.cell? ⟨g, d, none⟩ = some v) ∧ w2.frozen? ⟨g, d, none⟩ = false := by
  obtain ⟨h1, vs, h2, hap, h4⟩ := h
  have hvl : vs.length = n := by have := h2.1; omega
  have vd : vs[d]? = some (.slice ad (nthR rows d).length cd) := by rw [← h2.cellAt d (by omega)]; exact hc
  have h3 := (h2.stored i (.slice ad (nthR rows d).length cd)).1
  have h3' := ownsRow_ext h3 he
  refine ⟨?_, ⟨_, (h3'.cellAt d (by omega)).trans (List.getElem?_eq_getElem (by simp; omega))⟩, h3'.frozenAt d⟩
  have h5 := (h3'.stored d (.slice b m c)).1
  have get : ∀ k, k < n → ((vs.set i (.slice ad (nthR rows d).length cd)).set d (.slice b m c))[k]? = if k = d then some (.slice b m c) else vs[if k = i then d else k]? := fun k hk => by
    by_cases hkd : k = d
    · subst hkd; rw [List.getElem?_set_self (by simp; omega), if_pos rfl]
    · rw [List.getElem?_set_ne (Ne.symm hkd), if_neg hkd]
      by_cases hki : k = i
      · subst hki; rw [List.getElem?_set_self (by omega), if_pos rfl, vd]
      · rw [List.getElem?_set_ne (Ne.symm hki), if_neg hki]
  have old : ∀ l n3 c3 g', l < n → vs[l]? = some (.slice (some ⟨g', 0, none⟩) n3 c3) → g' < w0.heap.size := fun l n3 c3 g' hl e => by
    obtain ⟨ai, ci, h5, h6⟩ := h4 l hl
    rw [h5] at e
    simp only [Option.some.injEq, Value.slice.injEq] at e
    exact (h6.base_of g' e.1).2
  refine ⟨by simpa using h1, _, h5, ?_, fun k hk => ?_⟩
  · intro k l g' n1 c1 n2 c2 hkl hk hl
    have lt : ∀ l n3 c3, ((vs.set i (.slice ad (nthR rows d).length cd)).set d (.slice b m c))[l]? = some (.slice (some ⟨g', 0, none⟩) n3 c3) → l < n := fun l n3 c3 e => by
      rcases Nat.lt_or_ge l n with h | h
      · exact h
      · rw [List.getElem?_eq_none (by simp; omega)] at e; cases e
    have hk' := lt _ _ _ hk
    have hl' := lt _ _ _ hl
    rw [get k hk'] at hk
    rw [get l hl'] at hl
    by_cases hkd : k = d
    · rw [if_pos hkd] at hk
      simp only [Option.some.injEq, Value.slice.injEq] at hk
      have h7 := (hx.base_of g' hk.1).1
      rw [if_neg (by omega)] at hl
      have h8 := old _ _ _ _ (by split <;> omega) hl
      omega
    · rw [if_neg hkd] at hk
      by_cases hld : l = d
      · rw [if_pos hld] at hl
        simp only [Option.some.injEq, Value.slice.injEq] at hl
        have h7 := (hx.base_of g' hl.1).1
        have h8 := old _ _ _ _ (by split <;> omega) hk
        omega
      · rw [if_neg hld] at hl
        refine hap _ _ g' _ _ _ _ ?_ hk hl
        split <;> split <;> omega
  · rw [get k hk, nthR_set (by simp; omega)]
    by_cases hkd : k = d
    · subst hkd
      rw [if_pos rfl, if_pos rfl, hx.1]
      exact ⟨b, c, rfl, (hx.mono hB).setOuter h3' _⟩
    · rw [if_neg hkd, if_neg (Ne.symm hkd), nthR_set (by omega)]
      have e : (if i = k then nthR rows d else nthR rows k) = nthR rows (if k = i then d else k) := by
        by_cases hki : k = i
        · subst hki; simp
        · rw [if_neg hki, if_neg (Ne.symm hki)]
      rw [e]
      obtain ⟨al, cl, h6, h7⟩ := h4 (if k = i then d else k) (by split <;> omega)
      exact ⟨al, cl, h6, ((h7.setOuter h2 _).ext he).setOuter h3' _⟩
theorem upG_eq {p : Int} {m : Nat} {rows : List (List Int)} {d k i : Nat} : upG p m rows d k i = (rows.set i (nthR rows d)).set d (scaleL p (nthR rows i) (invN p (nth (nthR rows i) k)) m) := by
  unfold upG swapL
  by_cases h : d = i
  · subst h; simp
  · rw [List.set_comm _ _ (by omega : i ≠ d), List.set_set, List.set_comm _ _ (by omega : d ≠ i)]

end Go.Proofs.Ytnbhlabcecdbgaa

/-
  Contract: the reduced basis of rows, in the reference.
  No condition.
-/
namespace Go.Proofs.Ytnbhlabcecdbgaa
set_option maxRecDepth 100000
open Go.RowKit

end Go.Proofs.Ytnbhlabcecdbgaa

/-
  The listed function LeftIdealOf.
  No condition.
-/
namespace Go.Proofs.Ytnbhlabcecdbgaa
set_option maxRecDepth 100000
open Go.RowKit

def idealL (p : Int) (qs x : List Int) : List (List Int) := basisL p (2 ^ qs.length) (turnL (matM p qs x false) (2 ^ qs.length) (2 ^ qs.length))
theorem turn_good {p : Int} {n m : Nat} {rows : List (List Int)} (h : RowsG p m rows) (hn : n = rows.length) : RowsG p n (turnL rows n m) := fun i hi => by
  rw [turnL_len] at hi
  rw [turnL_nth hi]
  exact ⟨colL_len _ _ _, fun j hj => by rw [colL_nth hj]; exact (h j (by omega)).2 i hi⟩
theorem ideal_cnt {p : Int} {qs x : List Int} (hp : primeB p = true) (hd : qs.length ≤ 6) : (idealL p qs x).length ≤ 1048576 ∧ cntR (idealL p qs x) (idealL p qs x).length ≤ 1048576 := by
  have hpb := prime_bd hp
  have h64 := pow_le64 hd
  obtain ⟨c, hb⟩ := basis_red hp (turn_good (matM_good (qs := qs) (x := x) (left := false) (show 1 ≤ p by omega)) (matM_len p qs x false).symm)
  have hl : (idealL p qs x).length ≤ 2 ^ qs.length := hb.len
  refine ⟨by omega, ?_⟩
  rw [cnt_good (show RowsG p (2 ^ qs.length) (idealL p qs x) from hb.good) _ (Nat.le_refl _)]
  exact Nat.le_trans (Nat.mul_le_mul hl (Nat.le_refl _)) (Nat.le_trans (Nat.mul_le_mul h64 h64) (by omega))




end Go.Proofs.Ytnbhlabcecdbgaa
