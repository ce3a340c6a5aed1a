/-
  Products of lists of vectors.
  No condition.
-/
import Derived.Test.YtbgnfjckbjmgbaaVec
import Derived.Test.YtbgnfjckbjmgbaaRowsC
import Derived.Test.YtbgnfjckbjmgbaaGauss
import Derived.Test.YtbgnfjckbjmgbaaUndual
namespace Go.Proofs.Ytbgnfjckbjmgbaa
set_option maxRecDepth 100000
open Go.RowKit

/-- The product of the first k of some vectors. -/
def prodS (p : Int) (qs : List Int) (tk : Nat → Nat → Bool) (rows : List (List Int)) : Nat → List Int
  | 0 => bladeL (2 ^ qs.length) 0
  | k + 1 => prodL p qs tk (prodS p qs tk rows k) (vecL (2 ^ qs.length) (nthR rows k))
theorem prodS_good {p : Int} {qs : List Int} {tk : Nat → Nat → Bool} {rows : List (List Int)} (hp : 3 ≤ p) : ∀ k, Good p (2 ^ qs.length) (prodS p qs tk rows k)
  | 0 => blade_good hp
  | k + 1 => prod_good (by omega)
/-- The code of a space and a list of at most 16 vectors. -/
def codeVR (p : Int) (qs : List Int) (rows : List (List Int)) : Int := if codeV p qs rows = 0 then (if rows.length ≤ 16 then 0 else 2) else codeV p qs rows
theorem codeVR_zero {p : Int} {qs : List Int} {rows : List (List Int)} (h : codeVR p qs rows = 0) : spaceB p qs = true ∧ rows.all (vecB p qs.length) = true ∧ rows.length ≤ 16 := by
  unfold codeVR codeV at h
  cases hs : spaceB p qs
  · simp [hs] at h
  · cases ha : rows.all (vecB p qs.length)
    · simp [hs, ha] at h
    · simp [hs, ha] at h
      exact ⟨rfl, rfl, h⟩
theorem rows_good {p : Int} {d : Nat} {rows : List (List Int)} (h : rows.all (vecB p d) = true) : RowsG p d rows := fun i hi => by
  have := List.all_eq_true.1 h (nthR rows i) (by rw [nthR_eq hi]; exact List.getElem_mem hi)
  obtain ⟨h1, h2⟩ := vec_of this
  exact good_isB h1 h2

set_option maxHeartbeats 2000000 in
theorem c_wedgeAll {N d : Nat} (hN : N = 2 ^ d) (p : Int) (a : Option Addr) (cap : Nat) (qs : List Int) (al : Option Addr) (n cl : Nat) (rows : List (List Int)) (w : World) (hd : d ≤ 6) (hp1 : 3 ≤ p) (hp2 : p ≤ 1000) (hl : n ≤ 4194304) (hq : RdC w a d qs) (hqb : isB p qs = true) (hx : RdR w al n rows) (hg : RowsG p d rows) :
    Calls Try.prog 133 #[.agg #[.int .i64 p, .slice a d cap], .slice al n cl] w fun e w' => ∃ g, e = .returned (.slice (some ⟨g, 0, none⟩) N N) ∧ OwnC w.heap.size w' (some ⟨g, 0, none⟩) N N (prodS p qs tkW rows n) ∧ Ext w w' := by
  have HN := Lib.hid hN
  have HX := Lib.hid hx
  have HQ := Lib.hid hq
  have HQB := Lib.hid hqb
  have HG := Lib.hid hg
  have HD := Lib.hid (show N = 2 ^ qs.length by rw [hq.1]; exact hN)
  have HPA : Hid (∀ k, Good p N (prodS p qs tkW rows k)) := Lib.hid (fun k => by rw [HD.out]; exact prodS_good hp1 k)
  clear hN hx hq hqb hg
  obtain ⟨W, hW⟩ : ∃ W, W = w.alloc (.cells #[.int .i64 p, .slice a d cap] 26) := ⟨_, rfl⟩
  have gW : Ext w W := by rw [hW]; exact ext_alloc _ _
  have hs0 : W.cell? ⟨w.heap.size, 0, none⟩ = some (.int .i64 p) := by rw [hW]; simp
  have hs1 : W.cell? ⟨w.heap.size, 1, none⟩ = some (.slice a d cap) := by rw [hW]; simp
  have HS0 := Lib.hid (hs0)
  have HS1 := Lib.hid (hs1)
  have GW := Lib.hid (gW)
  have HW := Lib.hid hW
  clear hs0 hs1 gW hW
  go_enter Try.func133, Try.ntmps133
  go_wp2_with (fail)
  rw [← HW.out]
  refine (c_oneN HN.out p a cap W hd).mono ?_
  rintro e w1 ⟨g, rfl, ho, g1⟩
  have HO := Lib.hid (ho.mono GW.out.size)
  have G1 := Lib.hid g1
  clear ho g1
  go_wp2_with (fail)
  go_loopw [5, 12] (fun v i wr => ∃ (k g : Nat), k ≤ n ∧ i = .int .i64 k ∧ v = .slice (some ⟨g, 0, none⟩) N N ∧ OwnC w.heap.size wr (some ⟨g, 0, none⟩) N N (prodS p qs tkW rows k) ∧ Ext W wr) (fun _ i _ => n - (intOf i).toNat)
  case atStart => exact ⟨0, g, Nat.zero_le _, rfl, rfl, by show OwnC _ _ _ _ _ (bladeL (2 ^ qs.length) 0); rw [← HD.out]; exact HO.out, G1.out⟩
  case round =>
    obtain ⟨k, g', hk, rfl, rfl, hown, hext⟩ := hrel
    have HOwn := Lib.hid hown
    have HExt := Lib.hid hext
    clear hown hext
    by_cases hlt : k < n
    · obtain ⟨b, off, ai, ci, rfl, hc, hri⟩ := HX.out.2 k hlt
      rw [(HG.out k (by rw [HX.out.1]; exact hlt)).1] at hc hri
      have hc' := (GW.out.trans HExt.out).cell hc
      have HRi := Lib.hid hri
      have HV := Lib.hid (show Good p N (vecL N (nthR rows k)) from vec_good (by omega) (HG.out k (by rw [HX.out.1]; exact hlt)))
      have HPS := Lib.hid (HPA.out k)
      have HCd := Lib.hid ((ext_drew _).cell hc')
      clear hri hc
      go_wp2_with (fail)
      clear hc'
      have GX := Lib.hid (GW.out.trans (HExt.out.trans (ext_drew wr)))
      have HT0 := Lib.hid ((HExt.out.trans (ext_drew wr)).cell HS0.out)
      have HT1 := Lib.hid ((HExt.out.trans (ext_drew wr)).cell HS1.out)
      refine wp_region_lex [(4, .ownG w.heap.size N (vecL N (nthR rows k))), (5, .ownG w.heap.size N (prodL p qs tkW (prodS p qs tkW rows k) (vecL N (nthR rows k))))] (by kernel_rfl) (by kernel_rfl) ?_
      (refine LexW.pure (v := ?_) rfl rfl (fun w1 he => ?_) ?_; rotate_left; ( have e1 := he.cell HT0.out; have e2 := he.cell HT1.out; have e3 := he.cell HCd.out; go_simp; rfl); simp only [Act.put, List.setIfInBounds_toArray, List.set_cons_zero, List.set_cons_succ])
      (refine LexW.pure (v := ?_) rfl rfl (fun w1 he => ?_) ?_; rotate_left; ( have e1 := he.cell HT0.out; have e2 := he.cell HT1.out; have e3 := he.cell HCd.out; go_simp; rfl); simp only [Act.put, List.setIfInBounds_toArray, List.set_cons_zero, List.set_cons_succ])
      (refine LexW.pure (v := ?_) rfl rfl (fun w1 he => ?_) ?_; rotate_left; ( have e1 := he.cell HT0.out; have e2 := he.cell HT1.out; have e3 := he.cell HCd.out; go_simp; rfl); simp only [Act.put, List.setIfInBounds_toArray, List.set_cons_zero, List.set_cons_succ])
      (refine LexW.pure (v := ?_) rfl rfl (fun w1 he => ?_) ?_; rotate_left; ( have e1 := he.cell HT0.out; have e2 := he.cell HT1.out; have e3 := he.cell HCd.out; go_simp; rfl); simp only [Act.put, List.setIfInBounds_toArray, List.set_cons_zero, List.set_cons_succ])
      (refine LexW.callR (f := ?_) (args := ?_) rfl rfl (fun w1 => ?_) (fun w1 he hdep => ?_) (fun v hv => ?_); rotate_left 2; (go_simp; refine ⟨?_, ?_⟩ <;> rfl); ( refine (c_vector HN.out p a cap ai ci (nthR rows k) w1 hd (HRi.out.ext (GX.out.trans he))).mono ?_; rintro e w2 ⟨g, rfl, ho, g2⟩; exact ⟨_, rfl, g2, g, rfl, ho.mono (Nat.le_trans GX.out.size he.size)⟩); simp only [Act.put, List.setIfInBounds_toArray, List.set_cons_zero, List.set_cons_succ])
      obtain ⟨_, g20, rfl, _⟩ := hv
      (refine LexW.callR (f := ?_) (args := ?_) rfl rfl (fun w1 => ?_) (fun w1 he hdep => ?_) (fun v hv => ?_); rotate_left 2; (go_simp; refine ⟨?_, ?_⟩ <;> rfl); ( obtain ⟨_, q20, r20⟩ : (SPred.ownG w.heap.size N (vecL N (nthR rows k))).holds (.slice (some ⟨g20, 0, none⟩) N N) w1 := hdep (4, 20) (by decide +kernel); cases q20; refine (c_wedgeN HN.out p a cap qs _ _ N N (prodS p qs tkW rows k) (vecL N (nthR rows k)) w1 hd hp1 hp2 (HQ.out.ext (GX.out.trans he)) HQB.out (HOwn.out.rd.ext ((ext_drew _).trans he)) r20.rd HPS.out.isB HV.out.isB).mono ?_; rintro e w2 ⟨g, rfl, ho, g2⟩; exact ⟨_, rfl, g2, g, rfl, ho.mono (Nat.le_trans GX.out.size he.size)⟩); simp only [Act.put, List.setIfInBounds_toArray, List.set_cons_zero, List.set_cons_succ])
      obtain ⟨_, g21, rfl, _⟩ := hv
      (refine LexW.pure (v := ?_) rfl rfl (fun w1 he => ?_) ?_; rotate_left; ( have e1 := he.cell HT0.out; have e2 := he.cell HT1.out; have e3 := he.cell HCd.out; go_simp; rfl); simp only [Act.put, List.setIfInBounds_toArray, List.set_cons_zero, List.set_cons_succ])
      refine LexW.nil (fun w3 he hkn => ?_)
      obtain ⟨_, q21, r21⟩ : (SPred.ownG w.heap.size N (prodL p qs tkW (prodS p qs tkW rows k) (vecL N (nthR rows k)))).holds (.slice (some ⟨g21, 0, none⟩) N N) w3 := hkn (5, _) (by simp)
      cases q21
      have R21 := Lib.hid r21
      have HE := Lib.hid (GX.out.trans he)
      have X4 := Lib.hid (HExt.out.trans ((ext_drew _).trans he))
      clear he hkn r21
      go_wp2_with (fail)
      go_roundw
      case rel => exact ⟨k + 1, g21, by omega, by go_num, rfl, (by show OwnC _ _ _ _ _ (prodL p qs tkW _ _); rw [← HD.out]; exact R21.out), X4.out⟩
      case measure => simp [intOf]; omega
    · go_wp2_with (fail)
      go_ret
      obtain rfl : k = n := by omega
      exact ⟨_, rfl, HOwn.out, GW.out.trans HExt.out⟩

set_option maxHeartbeats 2000000 in
theorem s_wedgeAll {N d : Nat} (hN : N = 2 ^ d) (p : Int) (a : Option Addr) (cap : Nat) (qs : List Int) (al : Option Addr) (n cl : Nat) (rows : List (List Int)) (w : World) (hd : d ≤ 6) (hp1 : 3 ≤ p) (hp2 : p ≤ 1000) (hl : n ≤ 4194304) (hq : RdC w a d qs) (hqb : isB p qs = true) (hx : RdR w al n rows) (hg : RowsG p d rows) :
    Calls Try.prog 135 #[.agg #[.int .i64 p, .slice a d cap], .slice al n cl] w fun e w' => ∃ g, e = .returned (.slice (some ⟨g, 0, none⟩) N N) ∧ OwnC w.heap.size w' (some ⟨g, 0, none⟩) N N (prodS p qs tkW rows n) ∧ Ext w w' := by
  have HN := Lib.hid hN
  have HX := Lib.hid hx
  have HQ := Lib.hid hq
  have HQB := Lib.hid hqb
  have HG := Lib.hid hg
  have HD := Lib.hid (show N = 2 ^ qs.length by rw [hq.1]; exact hN)
  have HPA : Hid (∀ k, Good p N (prodS p qs tkW rows k)) := Lib.hid (fun k => by rw [HD.out]; exact prodS_good hp1 k)
  clear hN hx hq hqb hg
  obtain ⟨W, hW⟩ : ∃ W, W = w.alloc (.cells #[.int .i64 p, .slice a d cap] 26) := ⟨_, rfl⟩
  have gW : Ext w W := by rw [hW]; exact ext_alloc _ _
  have hs0 : W.cell? ⟨w.heap.size, 0, none⟩ = some (.int .i64 p) := by rw [hW]; simp
  have hs1 : W.cell? ⟨w.heap.size, 1, none⟩ = some (.slice a d cap) := by rw [hW]; simp
  have HS0 := Lib.hid (hs0)
  have HS1 := Lib.hid (hs1)
  have GW := Lib.hid (gW)
  have HW := Lib.hid hW
  clear hs0 hs1 gW hW
  go_enter Try.func135, Try.ntmps135
  go_wp2_with (fail)
  rw [← HW.out]
  refine (s_oneN HN.out p a cap W hd).mono ?_
  rintro e w1 ⟨g, rfl, ho, g1⟩
  have HO := Lib.hid (ho.mono GW.out.size)
  have G1 := Lib.hid g1
  clear ho g1
  go_wp2_with (fail)
  go_loopw [5, 6] (fun v i wr => ∃ (k g : Nat), k ≤ n ∧ i = .int .i64 k ∧ v = .slice (some ⟨g, 0, none⟩) N N ∧ OwnC w.heap.size wr (some ⟨g, 0, none⟩) N N (prodS p qs tkW rows k) ∧ Ext W wr) (fun _ i _ => n - (intOf i).toNat)
  case atStart => exact ⟨0, g, Nat.zero_le _, rfl, rfl, by show OwnC _ _ _ _ _ (bladeL (2 ^ qs.length) 0); rw [← HD.out]; exact HO.out, G1.out⟩
  case round =>
    obtain ⟨k, g', hk, rfl, rfl, hown, hext⟩ := hrel
    have HOwn := Lib.hid hown
    have HExt := Lib.hid hext
    clear hown hext
    by_cases hlt : k < n
    · obtain ⟨b, off, ai, ci, rfl, hc, hri⟩ := HX.out.2 k hlt
      rw [(HG.out k (by rw [HX.out.1]; exact hlt)).1] at hc hri
      have hc' := (GW.out.trans HExt.out).cell hc
      have HRi := Lib.hid hri
      have HV := Lib.hid (show Good p N (vecL N (nthR rows k)) from vec_good (by omega) (HG.out k (by rw [HX.out.1]; exact hlt)))
      have HPS := Lib.hid (HPA.out k)
      have HCd := Lib.hid ((ext_drew _).cell hc')
      clear hri hc
      go_wp2_with (fail)
      clear hc'
      have GX := Lib.hid (GW.out.trans (HExt.out.trans (ext_drew wr)))
      have HT0 := Lib.hid ((HExt.out.trans (ext_drew wr)).cell HS0.out)
      have HT1 := Lib.hid ((HExt.out.trans (ext_drew wr)).cell HS1.out)
      refine wp_region_lex [(7, .ownG w.heap.size N (vecL N (nthR rows k))), (8, .ownG w.heap.size N (prodL p qs tkW (prodS p qs tkW rows k) (vecL N (nthR rows k))))] (by kernel_rfl) (by kernel_rfl) ?_
      (refine LexW.pure (v := ?_) rfl rfl (fun w1 he => ?_) ?_; rotate_left; ( have e1 := he.cell HT0.out; have e2 := he.cell HT1.out; have e3 := he.cell HCd.out; go_simp; rfl); simp only [Act.put, List.setIfInBounds_toArray, List.set_cons_zero, List.set_cons_succ])
      (refine LexW.pure (v := ?_) rfl rfl (fun w1 he => ?_) ?_; rotate_left; ( have e1 := he.cell HT0.out; have e2 := he.cell HT1.out; have e3 := he.cell HCd.out; go_simp; rfl); simp only [Act.put, List.setIfInBounds_toArray, List.set_cons_zero, List.set_cons_succ])
      (refine LexW.pure (v := ?_) rfl rfl (fun w1 he => ?_) ?_; rotate_left; ( have e1 := he.cell HT0.out; have e2 := he.cell HT1.out; have e3 := he.cell HCd.out; go_simp; rfl); simp only [Act.put, List.setIfInBounds_toArray, List.set_cons_zero, List.set_cons_succ])
      (refine LexW.pure (v := ?_) rfl rfl (fun w1 he => ?_) ?_; rotate_left; ( have e1 := he.cell HT0.out; have e2 := he.cell HT1.out; have e3 := he.cell HCd.out; go_simp; rfl); simp only [Act.put, List.setIfInBounds_toArray, List.set_cons_zero, List.set_cons_succ])
      (refine LexW.pure (v := ?_) rfl rfl (fun w1 he => ?_) ?_; rotate_left; ( have e1 := he.cell HT0.out; have e2 := he.cell HT1.out; have e3 := he.cell HCd.out; go_simp; rfl); simp only [Act.put, List.setIfInBounds_toArray, List.set_cons_zero, List.set_cons_succ])
      (refine LexW.pure (v := ?_) rfl rfl (fun w1 he => ?_) ?_; rotate_left; ( have e1 := he.cell HT0.out; have e2 := he.cell HT1.out; have e3 := he.cell HCd.out; go_simp; rfl); simp only [Act.put, List.setIfInBounds_toArray, List.set_cons_zero, List.set_cons_succ])
      (refine LexW.pure (v := ?_) rfl rfl (fun w1 he => ?_) ?_; rotate_left; ( have e1 := he.cell HT0.out; have e2 := he.cell HT1.out; have e3 := he.cell HCd.out; go_simp; rfl); simp only [Act.put, List.setIfInBounds_toArray, List.set_cons_zero, List.set_cons_succ])
      (refine LexW.callR (f := ?_) (args := ?_) rfl rfl (fun w1 => ?_) (fun w1 he hdep => ?_) (fun v hv => ?_); rotate_left 2; (go_simp; refine ⟨?_, ?_⟩ <;> rfl); ( refine (s_vector HN.out p a cap ai ci (nthR rows k) w1 hd (HRi.out.ext (GX.out.trans he))).mono ?_; rintro e w2 ⟨g, rfl, ho, g2⟩; exact ⟨_, rfl, g2, g, rfl, ho.mono (Nat.le_trans GX.out.size he.size)⟩); simp only [Act.put, List.setIfInBounds_toArray, List.set_cons_zero, List.set_cons_succ])
      obtain ⟨_, g22, rfl, _⟩ := hv
      (refine LexW.callR (f := ?_) (args := ?_) rfl rfl (fun w1 => ?_) (fun w1 he hdep => ?_) (fun v hv => ?_); rotate_left 2; (go_simp; refine ⟨?_, ?_⟩ <;> rfl); ( obtain ⟨_, q22, r22⟩ : (SPred.ownG w.heap.size N (vecL N (nthR rows k))).holds (.slice (some ⟨g22, 0, none⟩) N N) w1 := hdep (7, 22) (by decide +kernel); cases q22; refine (s_wedgeN HN.out p a cap qs _ _ N N (prodS p qs tkW rows k) (vecL N (nthR rows k)) w1 hd hp1 hp2 (HQ.out.ext (GX.out.trans he)) HQB.out (HOwn.out.rd.ext ((ext_drew _).trans he)) r22.rd HPS.out.isB HV.out.isB).mono ?_; rintro e w2 ⟨g, rfl, ho, g2⟩; exact ⟨_, rfl, g2, g, rfl, ho.mono (Nat.le_trans GX.out.size he.size)⟩); simp only [Act.put, List.setIfInBounds_toArray, List.set_cons_zero, List.set_cons_succ])
      obtain ⟨_, g23, rfl, _⟩ := hv
      (refine LexW.pure (v := ?_) rfl rfl (fun w1 he => ?_) ?_; rotate_left; ( have e1 := he.cell HT0.out; have e2 := he.cell HT1.out; have e3 := he.cell HCd.out; go_simp; rfl); simp only [Act.put, List.setIfInBounds_toArray, List.set_cons_zero, List.set_cons_succ])
      refine LexW.nil (fun w3 he hkn => ?_)
      obtain ⟨_, q23, r23⟩ : (SPred.ownG w.heap.size N (prodL p qs tkW (prodS p qs tkW rows k) (vecL N (nthR rows k)))).holds (.slice (some ⟨g23, 0, none⟩) N N) w3 := hkn (8, _) (by simp)
      cases q23
      have R23 := Lib.hid r23
      have HE := Lib.hid (GX.out.trans he)
      have X4 := Lib.hid (HExt.out.trans ((ext_drew _).trans he))
      clear he hkn r23
      go_wp2_with (fail)
      go_roundw
      case rel => exact ⟨k + 1, g23, by omega, by go_num, rfl, (by show OwnC _ _ _ _ _ (prodL p qs tkW _ _); rw [← HD.out]; exact R23.out), X4.out⟩
      case measure => simp [intOf]; omega
    · go_wp2_with (fail)
      go_ret
      obtain rfl : k = n := by omega
      exact ⟨_, rfl, HOwn.out, GW.out.trans HExt.out⟩



end Go.Proofs.Ytbgnfjckbjmgbaa
