/-
  Contract: the reduced basis of rows, in the reference.
  No condition.
-/
import Derived.Test.YthimjfnmpicbiaaRowsC
import Derived.Test.YthimjfnmpicbiaaScale
namespace Go.Proofs.Ythimjfnmpicbiaa
set_option maxRecDepth 100000
open Go.RowKit

set_option maxHeartbeats 8000000 in
set_option maxRecDepth 100000 in
theorem s_basis (p : Int) (a : Option Addr) (n cap m : Nat) (rows : List (List Int)) (w : World) (hpr : primeB p = true) (hm : 0 < m) (hm2 : m ≤ 4096) (hl : n ≤ 4096) (hx : RdR w a n rows) (hg : RowsG p m rows) :
    Calls Try.prog 171 #[.int .i64 p, .slice a n cap] w fun e w' => ∃ g rc r, e = .returned (.slice (some ⟨g, 0, none⟩) r rc) ∧ OwnR w.heap.size w' (some ⟨g, 0, none⟩) r rc (basisL p m rows) ∧ Ext w w' := by
  have hpb := prime_bd hpr
  have hpz : ¬ p = 0 := by omega
  have HX := Lib.hid hx
  have HG := Lib.hid hg
  have HPR := Lib.hid hpr
  have HLN := Lib.hid hx.1
  have HRed := Lib.hid (fun k (hk : k ≤ m) => gaussS_red hpr hg k hk)
  clear hx hg hpr
  go_enter Try.func171, Try.ntmps171
  go_wp2_with (fail)
  refine (s_own2 a n cap m rows w hm (by omega) (by omega) (fun i hi => (HG.out i (by rw [HLN.out]; exact hi)).1) HX.out).mono ?_
  rintro e w1 ⟨g, rc, rfl, ho, h1⟩
  have HO := Lib.hid ho
  have H1 := Lib.hid h1
  have hgw := Lib.hid (ho.base_of g rfl).1
  clear ho h1
  go_wp2_with (fail)
  go_loopw [6, 7] (fun dd kk wr => ∃ (k d : Nat) (R : List (List Int)), k ≤ m ∧ d ≤ n ∧ kk = .int .i64 k ∧ dd = .int .i64 d ∧ Hid (gaussS p m rows k = (R, d)) ∧ OwnR w.heap.size wr (some ⟨g, 0, none⟩) n rc R ∧ Ext w wr) (fun _ kk _ => m - (intOf kk).toNat)
  case atStart => exact ⟨0, 0, rows, Nat.zero_le _, Nat.zero_le _, rfl, rfl, Lib.hid rfl, HO.out, H1.out⟩
  case round =>
    obtain ⟨k, d, R, hk, hd, rfl, rfl, HS, hown, hext⟩ := hrel
    have HOwn := Lib.hid hown
    have HExt := Lib.hid hext
    have HRL := Lib.hid hown.1
    have HRG : Hid (RowsG p m R) := Lib.hid (by have := (HRed.out k hk).1; rw [HS.out] at this; exact this)
    have HLen : Hid (∀ i, i < n → (nthR R i).length = m) := Lib.hid (fun i hi => (HRG.out i (by rw [HRL.out]; exact hi)).1)
    clear hown hext
    by_cases hfin : n = 0 ∨ k = m
    · have HRes : Hid (R.take d = basisL p m rows) := Lib.hid (by
        unfold basisL
        rcases hfin with h | h
        · have hr : rows = [] := List.length_eq_zero_iff.1 (by rw [HLN.out]; exact h)
          have hR : R = [] := List.length_eq_zero_iff.1 (by rw [HRL.out]; exact h)
          have h2 : (gaussS p m rows m).1 = [] := List.length_eq_zero_iff.1 (by rw [gaussS_len, hr]; rfl)
          rw [hR, h2]; simp
        · have hS := HS.out
          rw [h] at hS
          rw [hS])
      by_cases hn0 : n = 0
      · have hd0 : d = 0 := by omega
        subst hd0
        subst hn0
        go_wp2_with (fail)
        go_ret
        exact ⟨g, rc, 0, rfl, by rw [← HRes.out]; exact HOwn.out.take (Nat.le_refl _), HExt.out⟩
      · obtain ⟨a0, c0, hc0, _⟩ := HOwn.out.at (show 0 < n by omega)
        rw [HLen.out 0 (by omega)] at hc0
        have hcap : n ≤ rc := by obtain ⟨_, vs, h2, _⟩ := HOwn.out; rcases h2.2 with ⟨h3, _⟩ | ⟨_, _, _, h3, _, _, h4, _⟩; cases h3; cases h3; exact h4
        have hdc : (d : Int) ≤ (rc : Int) := by omega
        have hkm : k = m := by omega
        subst hkm
        go_wp2_with (fail)
        go_ret
        exact ⟨g, rc, d, rfl, by rw [← HRes.out]; exact HOwn.out.take hd, HExt.out⟩
    · have hkm : k < m := by omega
      have hn0 : 0 < n := by omega
      clear hfin
      obtain ⟨a0, c0, hc0, _⟩ := HOwn.out.at hn0
      rw [HLen.out 0 hn0] at hc0
      go_wp2_with (fail)
      clear hc0
      go_loop [8] (fun i => ∃ j : Nat, d ≤ j ∧ j ≤ n ∧ i = .int .i64 j ∧ Hid (∀ t, d ≤ t → t < j → nth (nthR R t) k = 0)) (fun i => n - (intOf i).toNat)
      case atStart => exact ⟨d, Nat.le_refl _, hd, rfl, Lib.hid (fun t h1 h2 => by omega)⟩
      case round =>
        obtain ⟨j, hdj, hj, rfl, HZ⟩ := hrel
        by_cases hjn : j < n
        · obtain ⟨aj, cj, hcj, hoj⟩ := HOwn.out.at hjn
          rw [HLen.out j hjn] at hcj hoj
          obtain ⟨bj, oj, rfl, hcjk⟩ := hoj.rd.2 k hkm
          by_cases hz : nth (nthR R j) k = 0
          · have hzb : (nth (nthR R j) k == 0) = true := by simp [hz]
            have HZ' := Lib.hid hz
            clear hz hoj
            go_wp2_with (fail)
            go_round
            case rel => exact ⟨j + 1, by omega, by omega, by go_num, Lib.hid (fun t h1 h2 => by
              by_cases htj : t = j
              · subst htj; exact HZ'.out
              · exact HZ.out t h1 (by omega))⟩
            case measure => simp [intOf]; omega
          · have hzb : (nth (nthR R j) k == 0) = false := by simp [hz]
            have hjb : ((j : Int) == (n : Int)) = false := by simp; omega
            have HPiv := Lib.hid (pivG_eq (rows := R) (k := k) (d := d) hdj (by rw [HRL.out]; exact hj) HZ.out (.inr hz))
            have hdn : d < n := by omega
            have HOj := Lib.hid hoj
            have HXg := Lib.hid (HRG.out j (by rw [HRL.out]; exact hjn))
            have HZb := Lib.hid (show 0 < nth (nthR R j) k ∧ nth (nthR R j) k < p by have := HXg.out.2 k hkm; omega)
            obtain ⟨ad, cd, hcd, _⟩ := HOwn.out.at hdn
            have HCd := Lib.hid hcd
            rw [HLen.out d hdn] at hcd
            have hfj := HOwn.out.frozen j
            have HNM := Lib.hid (HOwn.out.base_of g rfl)
            have HSt := Lib.hid (show OwnC w.heap.size (wr.setCell ⟨g, j, none⟩ (.slice ad m cd)) (some ⟨bj, oj, none⟩) m cj (nthR R j) by
              obtain ⟨_, vs, h2, _⟩ := HOwn.out
              exact HOj.out.setOuter h2 _)
            have hck2 : (wr.setCell ⟨g, j, none⟩ (.slice ad m cd)).cell? ⟨bj, oj + k, none⟩ = some (.int .i64 (nth (nthR R j) k)) := by
              obtain ⟨b', o', hb', hc'⟩ := HSt.out.rd.2 k hkm
              cases hb'; exact hc'
            have HE2 : Hid (Ext w (wr.setCell ⟨g, j, none⟩ (.slice ad m cd))) := Lib.hid (HExt.out.setCell HNM.out.1 _)
            clear hz hoj
            go_wp2_with (fail)
            obtain ⟨W2, hW2⟩ : ∃ W2, W2 = wr.setCell ⟨g, j, none⟩ (.slice ad m cd) := ⟨_, rfl⟩
            have HW2 := Lib.hid hW2
            rw [← hW2] at HSt hck2 HE2
            rw [← hW2]
            clear hW2
            have hsz : W2.heap.size = wr.heap.size := by rw [HW2.out]; simp [World.setCell]
            clear hcj hcjk hcd hfj
            refine (s_inv p (nth (nthR R j) k) W2 HPR.out HZb.out.1 HZb.out.2).mono ?_
            rintro e w3 ⟨rfl, x3⟩
            have X3 := Lib.hid x3
            have HIb := invN_bd (p := p) (a := nth (nthR R j) k) (by omega)
            clear x3 hck2
            go_wp2_with (fail)
            refine (s_scale p (some ⟨bj, oj, none⟩) m cj (nthR R j) (invN p (nth (nthR R j) k)) w3 (by omega) (by omega) (by omega) (by omega) (HSt.out.rd.ext X3.out) HXg.out).mono ?_
            rintro e w4 ⟨gn, cn, rfl, ho4, x4⟩
            have HN4 := Lib.hid (ho4.mono (B' := wr.heap.size) (by rw [← hsz]; exact X3.out.size))
            have X4 := Lib.hid (X3.out.trans x4)
            have hup := HOwn.out.up (i := j) hjn hdn HCd.out (by rw [HLen.out d hdn, ← HW2.out]; exact X4.out) HExt.out.size HN4.out
            obtain ⟨hup1, ⟨vd, hcd4⟩, hfd4⟩ := hup
            have HUp := Lib.hid hup1
            clear ho4 x4 hup1 HIb
            go_wp2_with (fail)
            obtain ⟨W3, hW3⟩ : ∃ W3, W3 = w4.setCell ⟨g, d, none⟩ (.slice (some ⟨gn, 0, none⟩) m cn) := ⟨_, rfl⟩
            have HOw3 : Hid (OwnR w.heap.size W3 (some ⟨g, 0, none⟩) n rc (upG p m R d k j)) := by rw [hW3, upG_eq]; exact HUp.out
            have HE3 : Hid (Ext w W3) := by rw [hW3]; exact (HE2.out.trans X4.out).setCell HNM.out.1 _
            have HNr : Hid (OwnC w.heap.size W3 (some ⟨gn, 0, none⟩) m cn (nthR (upG p m R d k j) d)) := Lib.hid (by
              rw [upG_nth (by rw [HRL.out]; exact hdn) (by rw [HRL.out]; exact hjn), if_pos rfl, hW3]
              obtain ⟨_, vs, h2, _⟩ := HOwn.out
              have h3 := ownsRow_ext ((HW2.out ▸ (h2.stored j (.slice ad m cd)).1 : W2.ownsRow _ _ _ _ _ _)) X4.out
              exact (HN4.out.mono HExt.out.size).setOuter h3 _)
            rw [← hW3]
            clear hW3 hcd4 hfd4 HUp HE2 HSt HOj HN4 X3 X4 hsz
            have HUG := Lib.hid (upG_good (k := k) (show 1 ≤ p by omega) HRG.out (show d < R.length by rw [HRL.out]; exact hdn) (show j < R.length by rw [HRL.out]; exact hjn))
            have HUL := Lib.hid (show (upG p m R d k j).length = n by rw [upG_len, HRL.out])
            obtain ⟨U, hU⟩ : ∃ U, U = upG p m R d k j := ⟨_, rfl⟩
            have HU := Lib.hid hU
            rw [← hU] at HOw3 HUG HUL HNr
            clear hU
            go_wp2_with (fail)
            go_loopw [10] (fun i wr => ∃ (r : Nat) (C : List (List Int)), r ≤ n ∧ i = .int .i64 r ∧ Hid (C = clrS p k m d U r) ∧ OwnR w.heap.size wr (some ⟨g, 0, none⟩) n rc C ∧ OwnC w.heap.size wr (some ⟨gn, 0, none⟩) m cn (nthR U d) ∧ Ext w wr) (fun i _ => n - (intOf i).toNat)
            case atStart => exact ⟨0, U, Nat.zero_le _, rfl, Lib.hid rfl, HOw3.out, HNr.out, HE3.out⟩
            case round =>
              obtain ⟨r, C, hr, rfl, HC, hown, hrow, hext⟩ := hrel
              have HCo := Lib.hid hown
              have HRw := Lib.hid hrow
              have HCe := Lib.hid hext
              have HCg : Hid (RowsG p m C) := Lib.hid (by rw [HC.out]; exact clrS_good (by omega) HUG.out r)
              have HCl : Hid (C.length = n) := Lib.hid hown.1
              clear hown hrow hext
              by_cases hrn : r < n
              · by_cases hrd : r = d
                · have hrb : ((r : Int) != (d : Int)) = false := by simp [hrd]
                  have HRD := Lib.hid hrd
                  clear hrd
                  go_wp2_with (fail)
                  go_roundw
                  case rel => exact ⟨r + 1, C, by omega, by go_num, Lib.hid (by rw [HC.out, clrS_self HRD.out]), HCo.out, HRw.out, HCe.out⟩
                  case measure => simp [intOf]; omega
                · have hrb : ((r : Int) != (d : Int)) = true := by simp; omega
                  have HRd0 := Lib.hid hrd
                  obtain ⟨ar, cr, hcr, hor⟩ := HCo.out.at hrn
                  rw [(HCg.out r (by rw [HCl.out]; exact hrn)).1] at hcr hor
                  obtain ⟨br, or, rfl, hcrk⟩ := hor.rd.2 k hkm
                  have HRr := Lib.hid (hor.rd.ext (ext_drew wr))
                  have HCr := Lib.hid ((ext_drew wr).cell hcr)
                  have HCk := Lib.hid ((ext_drew wr).cell hcrk)
                  have HGr := Lib.hid (HCg.out r (by rw [HCl.out]; exact hrn))
                  have HGd := Lib.hid (HUG.out d (by rw [HUL.out]; exact hdn))
                  have HZr := Lib.hid (HGr.out.2 k hkm)
                  have HSub : Hid (IntKind.i64.wrap (p - nth (nthR C r) k) = p - nth (nthR C r) k) := Lib.hid (IntWalk.i64_in _ (by have := HZr.out; omega))
                  obtain ⟨kk, hkk⟩ : ∃ kk, kk = (p - nth (nthR C r) k) % p := ⟨_, rfl⟩
                  have HRem : Hid ((p - nth (nthR C r) k).tmod p = kk) := Lib.hid (by rw [hkk]; exact Int.tmod_eq_emod_of_nonneg (by have := HZr.out; omega))
                  have HKb : Hid (0 ≤ kk ∧ kk ≤ 1000) := Lib.hid (by have h1 := Int.emod_nonneg (p - nth (nthR C r) k) (show p ≠ 0 by omega); have h2 := Int.emod_lt_of_pos (p - nth (nthR C r) k) (show 0 < p by omega); rw [hkk]; constructor; exact h1; exact Int.le_of_lt (Int.lt_of_lt_of_le h2 (by omega)))
                  have HMod : Hid (kk % p = (-(nth (nthR C r) k)) % p) := Lib.hid (by rw [hkk, Int.emod_emod, show p - nth (nthR C r) k = -(nth (nthR C r) k) + p by omega, Int.add_emod_right])
                  clear hkk
                  clear hor hrd
                  go_wp2_with (fail)
                  clear hcr hcrk
                  refine wp_region_lex_tail 21 [(19, .ownS wr.drew.heap.size m (plusL p (nthR C r) (nthR U d) kk m))] (by kernel_rfl) (by kernel_rfl) ?_
                  simp only [List.take, List.drop]
                  (refine LexW.pure (v := ?_) rfl rfl (fun w1 he => ?_) ?_; rotate_left; ( have e1 := he.cell HCr.out; have e3 := he.cell HCk.out; have e4 := HSub.out; have e5 := HRem.out; go_simp; rfl); simp only [Act.put, List.setIfInBounds_toArray, List.set_cons_zero, List.set_cons_succ])
                  (refine LexW.pure (v := ?_) rfl rfl (fun w1 he => ?_) ?_; rotate_left; ( have e1 := he.cell HCr.out; have e3 := he.cell HCk.out; have e4 := HSub.out; have e5 := HRem.out; go_simp; rfl); simp only [Act.put, List.setIfInBounds_toArray, List.set_cons_zero, List.set_cons_succ])
                  (refine LexW.pure (v := ?_) rfl rfl (fun w1 he => ?_) ?_; rotate_left; ( have e1 := he.cell HCr.out; have e3 := he.cell HCk.out; have e4 := HSub.out; have e5 := HRem.out; go_simp; rfl); simp only [Act.put, List.setIfInBounds_toArray, List.set_cons_zero, List.set_cons_succ])
                  (refine LexW.pure (v := ?_) rfl rfl (fun w1 he => ?_) ?_; rotate_left; ( have e1 := he.cell HCr.out; have e3 := he.cell HCk.out; have e4 := HSub.out; have e5 := HRem.out; go_simp; rfl); simp only [Act.put, List.setIfInBounds_toArray, List.set_cons_zero, List.set_cons_succ])
                  (refine LexW.pure (v := ?_) rfl rfl (fun w1 he => ?_) ?_; rotate_left; ( have e1 := he.cell HCr.out; have e3 := he.cell HCk.out; have e4 := HSub.out; have e5 := HRem.out; go_simp; rfl); simp only [Act.put, List.setIfInBounds_toArray, List.set_cons_zero, List.set_cons_succ])
                  (refine LexW.pure (v := ?_) rfl rfl (fun w1 he => ?_) ?_; rotate_left; ( have e1 := he.cell HCr.out; have e3 := he.cell HCk.out; have e4 := HSub.out; have e5 := HRem.out; go_simp; rfl); simp only [Act.put, List.setIfInBounds_toArray, List.set_cons_zero, List.set_cons_succ])
                  (refine LexW.pure (v := ?_) rfl rfl (fun w1 he => ?_) ?_; rotate_left; ( have e1 := he.cell HCr.out; have e3 := he.cell HCk.out; have e4 := HSub.out; have e5 := HRem.out; go_simp; rfl); simp only [Act.put, List.setIfInBounds_toArray, List.set_cons_zero, List.set_cons_succ])
                  (refine LexW.pure (v := ?_) rfl rfl (fun w1 he => ?_) ?_; rotate_left; ( have e1 := he.cell HCr.out; have e3 := he.cell HCk.out; have e4 := HSub.out; have e5 := HRem.out; go_simp; rfl); simp only [Act.put, List.setIfInBounds_toArray, List.set_cons_zero, List.set_cons_succ])
                  (refine LexW.pure (v := ?_) rfl rfl (fun w1 he => ?_) ?_; rotate_left; ( have e1 := he.cell HCr.out; have e3 := he.cell HCk.out; have e4 := HSub.out; have e5 := HRem.out; go_simp; rfl); simp only [Act.put, List.setIfInBounds_toArray, List.set_cons_zero, List.set_cons_succ])
                  (refine LexW.pure (v := ?_) rfl rfl (fun w1 he => ?_) ?_; rotate_left; ( have e1 := he.cell HCr.out; have e3 := he.cell HCk.out; have e4 := HSub.out; have e5 := HRem.out; go_simp; rfl); simp only [Act.put, List.setIfInBounds_toArray, List.set_cons_zero, List.set_cons_succ])
                  (refine LexW.pure (v := ?_) rfl rfl (fun w1 he => ?_) ?_; rotate_left; ( have e1 := he.cell HCr.out; have e3 := he.cell HCk.out; have e4 := HSub.out; have e5 := HRem.out; go_simp; rfl); simp only [Act.put, List.setIfInBounds_toArray, List.set_cons_zero, List.set_cons_succ])
                  (refine LexW.pure (v := ?_) rfl rfl (fun w1 he => ?_) ?_; rotate_left; ( have e1 := he.cell HCr.out; have e3 := he.cell HCk.out; have e4 := HSub.out; have e5 := HRem.out; go_simp; rfl); simp only [Act.put, List.setIfInBounds_toArray, List.set_cons_zero, List.set_cons_succ])
                  (refine LexW.pure (v := ?_) rfl rfl (fun w1 he => ?_) ?_; rotate_left; ( have e1 := he.cell HCr.out; have e3 := he.cell HCk.out; have e4 := HSub.out; have e5 := HRem.out; go_simp; rfl); simp only [Act.put, List.setIfInBounds_toArray, List.set_cons_zero, List.set_cons_succ])
                  (refine LexW.pure (v := ?_) rfl rfl (fun w1 he => ?_) ?_; rotate_left; ( have e1 := he.cell HCr.out; have e3 := he.cell HCk.out; have e4 := HSub.out; have e5 := HRem.out; go_simp; rfl); simp only [Act.put, List.setIfInBounds_toArray, List.set_cons_zero, List.set_cons_succ])
                  (refine LexW.pure (v := ?_) rfl rfl (fun w1 he => ?_) ?_; rotate_left; ( have e1 := he.cell HCr.out; have e3 := he.cell HCk.out; have e4 := HSub.out; have e5 := HRem.out; go_simp; rfl); simp only [Act.put, List.setIfInBounds_toArray, List.set_cons_zero, List.set_cons_succ])
                  (refine LexW.pure (v := ?_) rfl rfl (fun w1 he => ?_) ?_; rotate_left; ( have e1 := he.cell HCr.out; have e3 := he.cell HCk.out; have e4 := HSub.out; have e5 := HRem.out; go_simp; rfl); simp only [Act.put, List.setIfInBounds_toArray, List.set_cons_zero, List.set_cons_succ])
                  (refine LexW.pure (v := ?_) rfl rfl (fun w1 he => ?_) ?_; rotate_left; ( have e1 := he.cell HCr.out; have e3 := he.cell HCk.out; have e4 := HSub.out; have e5 := HRem.out; go_simp; rfl); simp only [Act.put, List.setIfInBounds_toArray, List.set_cons_zero, List.set_cons_succ])
                  (refine LexW.pure (v := ?_) rfl rfl (fun w1 he => ?_) ?_; rotate_left; ( have e1 := he.cell HCr.out; have e3 := he.cell HCk.out; have e4 := HSub.out; have e5 := HRem.out; go_simp; rfl); simp only [Act.put, List.setIfInBounds_toArray, List.set_cons_zero, List.set_cons_succ])
                  (refine LexW.pure (v := ?_) rfl rfl (fun w1 he => ?_) ?_; rotate_left; ( have e1 := he.cell HCr.out; have e3 := he.cell HCk.out; have e4 := HSub.out; have e5 := HRem.out; go_simp; rfl); simp only [Act.put, List.setIfInBounds_toArray, List.set_cons_zero, List.set_cons_succ])
                  (refine LexW.callR (f := ?_) (args := ?_) rfl rfl (fun w1 => ?_) (fun w1 he hdep => ?_) (fun v hv => ?_); rotate_left 2; (go_simp; refine ⟨?_, ?_⟩ <;> rfl); ( refine (s_plus p _ _ m _ _ (nthR C r) (nthR U d) kk w1 (by omega) (by omega) HKb.out (by omega) (HRr.out.ext he) (HRw.out.rd.ext ((ext_drew wr).trans he)) HGr.out HGd.out).mono ?_; rintro e w2 ⟨g, rc, rfl, ho, g2⟩; exact ⟨_, rfl, g2, g, rc, rfl, ho.mono he.size⟩); simp only [Act.put, List.setIfInBounds_toArray, List.set_cons_zero, List.set_cons_succ])
                  obtain ⟨_, g99, c99, rfl, _⟩ := hv
                  (refine LexW.pure (v := ?_) rfl rfl (fun w1 he => ?_) ?_; rotate_left; ( have e1 := he.cell HCr.out; have e3 := he.cell HCk.out; have e4 := HSub.out; have e5 := HRem.out; go_simp; rfl); simp only [Act.put, List.setIfInBounds_toArray, List.set_cons_zero, List.set_cons_succ])
                  refine LexW.nil (fun w3 he hkn => ?_)
                  obtain ⟨_, _, q99, r99⟩ : (SPred.ownS wr.drew.heap.size m (plusL p (nthR C r) (nthR U d) kk m)).holds (.slice (some ⟨g99, 0, none⟩) m c99) w3 := hkn (19, _) (by simp)
                  cases q99
                  have R99 := Lib.hid r99
                  have HE := Lib.hid he
                  clear he hkn r99
                  have ow4 := (HCo.out.ext (ext_drew wr)).ext HE.out
                  obtain ⟨ay, cy, hcy, _⟩ := ow4.at hrn
                  have hfy := ow4.frozen r
                  have HOw4 := Lib.hid ow4
                  clear ow4
                  go_wp2_with (fail)
                  go_roundw
                  case rel => exact ⟨r + 1, C.set r (plusL p (nthR C r) (nthR U d) kk m), by omega, by go_num, Lib.hid (by
                    rw [clrS_ne HRd0.out, ← HC.out, plus_mod HMod.out]
                    have : nthR C d = nthR U d := by rw [HC.out, clrS_nth _ (by rw [HUL.out]; exact hr), if_neg (by omega)]
                    rw [this]), (HCo.out.ext (ext_drew wr)).put HE.out (HCe.out.trans (ext_drew wr)).size R99.out hrn, (by
                    obtain ⟨_, vs, h2, _⟩ := HOw4.out
                    exact (HRw.out.ext ((ext_drew wr).trans HE.out)).setOuter h2 _), (HCe.out.trans ((ext_drew wr).trans HE.out)).setCell HNM.out.1 _⟩
                  case measure => simp [intOf]; omega
              · obtain rfl : r = n := by omega
                go_wp2_with (fail)
                go_roundw
                case rel => exact ⟨k + 1, d + 1, C, by omega, by omega, by go_num, by go_num, Lib.hid (by
                  show stepG p m (gaussS p m rows k) k = _
                  rw [HS.out, stepG_yes (s := (R, d)) HPiv.out (by rw [HRL.out]; exact hjn), HC.out, HU.out, HRL.out]), HCo.out, HCe.out⟩
                case measure => simp [intOf]; omega
        · have hjb : ((j : Int) == (n : Int)) = true := by simp; omega
          have HPiv := Lib.hid (pivG_eq (rows := R) (k := k) (d := d) hdj (by rw [HRL.out]; exact hj) HZ.out (.inl (by rw [HRL.out]; omega)))
          go_wp2_with (fail)
          go_roundw
          case rel => exact ⟨k + 1, d, R, by omega, hd, by go_num, rfl, Lib.hid (by
            show stepG p m (gaussS p m rows k) k = _
            rw [HS.out]
            exact stepG_no (s := (R, d)) (by rw [HPiv.out, HRL.out]; omega)), HOwn.out, HExt.out⟩
          case measure => simp [intOf]; omega
end Go.Proofs.Ythimjfnmpicbiaa
