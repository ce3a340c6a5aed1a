/-
  The listed function IsCentral.
  No condition.
-/
import Derived.Test.YtlchmkaaogokiaaIdem
import Derived.Test.YtlchmkaaogokiaaUndual
import Derived.Test.YtlchmkaaogokiaaVec
import Derived.Test.YtlchmkaaogokiaaAlgD
import Derived.Test.YtlchmkaaogokiaaRowsC
import Derived.Test.YtlchmkaaogokiaaRows3
import Derived.Test.YtlchmkaaogokiaaSolve
namespace Go.Proofs.Ytlchmkaaogokiaa
set_option maxRecDepth 100000
open Go.RowKit

def cenE (p : Int) (qs x : List Int) (k : Nat) : Bool := eqB (prodL p qs tkA x (bladeL (2 ^ qs.length) (2 ^ k))) (prodL p qs tkA (bladeL (2 ^ qs.length) (2 ^ k)) x)
def centB (p : Int) (qs x : List Int) : Bool := (List.range qs.length).all (cenE p qs x)
theorem centB_false {p : Int} {qs x : List Int} {k d : Nat} (hd : qs.length = d) (hk : k < d) (h : cenE p qs x k = false) : centB p qs x = false := by
  unfold centB
  rw [List.all_eq_false]
  exact ⟨k, List.mem_range.2 (by omega), by simp [h]⟩
theorem centB_true {p : Int} {qs x : List Int} {d : Nat} (hd : qs.length = d) (h : ∀ k, k < d → cenE p qs x k = true) : centB p qs x = true := by
  unfold centB
  rw [List.all_eq_true]
  intro k hk
  exact h k (by have := List.mem_range.1 hk; omega)
theorem eqB_comm (x y : List Int) : eqB x y = eqB y x := by
  unfold eqB
  rw [Bool.eq_iff_iff]
  simp only [decide_eq_true_eq]
  exact eq_comm
theorem vec_unit {d i : Nat} (hi : i < d) : vecL (2 ^ d) (bladeL d i) = bladeL (2 ^ d) (2 ^ i) := by
  have hl : (vecL (2 ^ d) (bladeL d i)).length = 2 ^ d := (vec_good (p := 3) (by omega) (blade_good (by omega))).1
  have hlt : 2 ^ i < 2 ^ d := Nat.pow_lt_pow_right (by omega) hi
  refine ext_nth (by rw [hl, bladeL_len]) (fun m hm => ?_)
  rw [hl] at hm
  rw [bladeL_nth hlt hm]
  by_cases h : ∃ j, j < d ∧ m = 2 ^ j
  · obtain ⟨j, hj, rfl⟩ := h
    rw [vec_bit (bladeL_len _ _) hj, bladeL_nth hi hj]
    by_cases hij : i = j
    · subst hij; simp
    · rw [if_neg hij, if_neg (fun h => hij ((Nat.pow_right_inj (by omega)).1 h))]
  · rw [vec_no (bladeL_len _ _) hm (fun j hj hmj => h ⟨j, hj, hmj⟩), if_neg (fun hmm => h ⟨i, hi, hmm.symm⟩)]

set_option maxHeartbeats 400000 in
theorem c_IsCentral_bad (p : Int) (a : Option Addr) (d cap : Nat) (qs : List Int) (ax1 : Option Addr) (n1 cx1 : Nat) (xs1 : List Int) (w : World) (hd : d ≤ 4194304) (hn1 : n1 ≤ 4194304) (hq : RdC w a d qs) (hx1 : RdC w ax1 n1 xs1) (hc : codeA p qs [xs1] ≠ 0) :
    Calls Try.prog 23 #[.agg #[.int .i64 p, .slice a d cap], .slice ax1 n1 cx1] w fun e w' => e = .returned (.tuple #[.bool false, .int .i64 (codeA p qs [xs1])]) ∧ Ext w w' := by
  have hcb : (codeA p qs [xs1] != 0) = true := by simp [hc]
  have HX0 := Lib.hid hx1
  have HQ := Lib.hid hq
  clear hc hx1 hq
  go_enter Try.func23, Try.ntmps23
  go_wp2_with (go_at_call 58; refine (c_checkAlgebra p a d cap qs _ 1 _ [xs1] _ hd (by omega) (len_one (by rw [HX0.out.1]; exact hn1)) (HQ.out.ext ((ext_alloc _ _).alloc _)) (rdR_one (a := ax1) (n := _) (cap := cx1) (by simp) (HX0.out.ext ((ext_alloc _ _).alloc _)))).mono ?_; rintro e w1 ⟨rfl, g1⟩)
  go_ret2
  exact ⟨rfl, ((ext_alloc _ _).alloc _).trans g1⟩

set_option maxHeartbeats 4000000 in
set_option maxRecDepth 100000 in
theorem c_IsCentral_ok (p : Int) (a : Option Addr) (d cap : Nat) (qs : List Int) (ax1 : Option Addr) (n1 cx1 : Nat) (xs1 : List Int) (w : World) (hd : d ≤ 4194304) (hn1 : n1 ≤ 4194304) (hq : RdC w a d qs) (hx1 : RdC w ax1 n1 xs1) (hc : codeA p qs [xs1] = 0) :
    Calls Try.prog 23 #[.agg #[.int .i64 p, .slice a d cap], .slice ax1 n1 cx1] w fun e w' => e = .returned (.tuple #[.bool (centB p qs xs1), .int .i64 0]) ∧ Ext w w' := by
  obtain ⟨hcm, h4⟩ := codeA_zero hc
  obtain ⟨hs, hxm1⟩ := codeM_one hcm
  rw [hq.1] at h4
  clear hcm
  obtain ⟨hpr, hd1, hd6, hqb⟩ := space_of hs
  have hpb := prime_bd hpr
  obtain ⟨hxl1, hxb1⟩ := multi_of hxm1
  rw [hq.1] at hxl1 hd6
  have hN : n1 = 2 ^ d := hx1.1.symm.trans hxl1
  have HN := Lib.hid hN
  have HPR := Lib.hid hpr
  have HQB := Lib.hid hqb
  have HXB1 := Lib.hid hxb1
  have HX0 := Lib.hid hx1
  have HX := Lib.hid hx1
  have HQ := Lib.hid hq
  have HGX := Lib.hid (good_isB hx1.1 hxb1)
  have hN6 : n1 ≤ 64 := by rw [HN.out]; exact pow_le64 (by omega)
  have hN1 : 1 ≤ n1 := by rw [HN.out]; exact pow_pos' d
  have HD := Lib.hid (show n1 = 2 ^ qs.length by rw [hq.1]; exact hN)
  have HQL := Lib.hid hq.1
  clear hs hxm1 hqb hxb1 hxl1 hpr hd1 hN
  have HC := Lib.hid hc
  have hcb : ((0 : Int) != 0) = false := by simp
  clear hc hq hx1
  go_enter Try.func23, Try.ntmps23
  go_wp2_with (first | (go_at_call 58; refine (c_checkAlgebra p a d cap qs _ 1 _ [xs1] _ hd (by omega) (len_one (by rw [HX0.out.1]; exact hn1)) (HQ.out.ext ((ext_alloc _ _).alloc _)) (rdR_one (a := ax1) (n := _) (cap := cx1) (by simp) (HX0.out.ext ((ext_alloc _ _).alloc _)))).mono ?_; rintro e w1 ⟨rfl, g1⟩; rw [HC.out]; have hq0 : w1.cell? ⟨w.heap.size, 0, none⟩ = some (.int .i64 p) := g1.cell (by simp); have hq1 : w1.cell? ⟨w.heap.size, 1, none⟩ = some (.slice a d cap) := g1.cell (by simp); have G1 := Lib.hid (((ext_alloc w (.cells #[.int .i64 p, .slice a d cap] 28)).alloc (.cells #[.slice ax1 n1 cx1] 22)).trans g1); have Q0 := Lib.hid hq0; have Q1 := Lib.hid hq1) | (go_at_call 60; refine (c_dim _ _ _ _ _).mono ?_; rintro e w2 ⟨rfl, g2⟩; have G2 := Lib.hid (G1.out.trans g2); have P0 := Lib.hid (g2.cell Q0.out); have P1 := Lib.hid (g2.cell Q1.out)) | (go_at_call 59; refine (c_unit d _ (by omega)).mono ?_; rintro e w3 ⟨gu, ru, rfl, hu, g3⟩; have HU := Lib.hid hu; have G3 := Lib.hid (G2.out.trans g3); have S0 := Lib.hid (g3.cell P0.out); have S1 := Lib.hid (g3.cell P1.out); clear hu g3))
  clear g1 g2 hq0 hq1
  go_loopw [20] (fun i wr => ∃ k : Nat, k ≤ d ∧ i = .int .i64 k ∧ Hid (∀ j, j < k → cenE p qs xs1 j = true) ∧ Ext w3 wr) (fun i _ => d - (intOf i).toNat)
  case atStart => exact ⟨0, Nat.zero_le _, rfl, Lib.hid (fun j hj => by omega), Ext.refl _⟩
  case round =>
    obtain ⟨k, hk, rfl, HT, hext⟩ := hrel
    have HExt := Lib.hid hext
    clear hext
    by_cases hlt : k < d
    · obtain ⟨ak, ck, hck, hok⟩ := HU.out.at hlt
      rw [unitL_nth hlt, bladeL_len] at hck hok
      have hck' := HExt.out.cell hck
      have HRk := Lib.hid hok.rd
      have HVU := Lib.hid (show vecL n1 (bladeL d k) = bladeL n1 (2 ^ k) by rw [HN.out]; exact vec_unit hlt)
      have HGB := Lib.hid (show Good p n1 (bladeL n1 (2 ^ k)) from blade_good (by omega))
      obtain ⟨Z, hZ⟩ : ∃ Z, Z = zeroB (plusL p (prodL p qs tkA xs1 (bladeL n1 (2 ^ k))) (prodL p qs tkA (bladeL n1 (2 ^ k)) xs1) (-1) n1) := ⟨_, rfl⟩
      have HZ := Lib.hid hZ
      have HZE : Hid (Z = cenE p qs xs1 k) := Lib.hid (by rw [hZ, zero_minus (by omega) (by rw [HD.out]; exact prod_good (by omega)) (by rw [HD.out]; exact prod_good (by omega))]; unfold cenE; rw [← HD.out])
      clear hck hok hZ
      go_wp2_with (fail)
      have HT0 := Lib.hid ((HExt.out.trans (ext_drew _)).cell S0.out)
      have HT1 := Lib.hid ((HExt.out.trans (ext_drew _)).cell S1.out)
      have GW := Lib.hid (G3.out.trans (HExt.out.trans (ext_drew wr)))
      have HW3 := Lib.hid (HExt.out.trans (ext_drew wr))
      clear hck'
      refine wp_region_lex [(4, .ownG w.heap.size n1 (bladeL n1 (2 ^ k))), (5, .ownS w.heap.size n1 (plusL p (prodL p qs tkA xs1 (bladeL n1 (2 ^ k))) (prodL p qs tkA (bladeL n1 (2 ^ k)) xs1) (-1) n1)), (6, .val (.bool Z))] (by kernel_rfl) (by kernel_rfl) ?_
      (refine LexW.pure (v := ?_) rfl rfl (fun w1 he => ?_) ?_; rotate_left; ( have e1 := he.cell HT0.out; have e2 := he.cell HT1.out; go_simp; rfl); simp only [Act.put, List.setIfInBounds_toArray, List.set_cons_zero, List.set_cons_succ])
      (refine LexW.pure (v := ?_) rfl rfl (fun w1 he => ?_) ?_; rotate_left; ( have e1 := he.cell HT0.out; have e2 := he.cell HT1.out; go_simp; rfl); simp only [Act.put, List.setIfInBounds_toArray, List.set_cons_zero, List.set_cons_succ])
      (refine LexW.pure (v := ?_) rfl rfl (fun w1 he => ?_) ?_; rotate_left; ( have e1 := he.cell HT0.out; have e2 := he.cell HT1.out; go_simp; rfl); simp only [Act.put, List.setIfInBounds_toArray, List.set_cons_zero, List.set_cons_succ])
      (refine LexW.pure (v := ?_) rfl rfl (fun w1 he => ?_) ?_; rotate_left; ( have e1 := he.cell HT0.out; have e2 := he.cell HT1.out; go_simp; rfl); simp only [Act.put, List.setIfInBounds_toArray, List.set_cons_zero, List.set_cons_succ])
      (refine LexW.callR (f := ?_) (args := ?_) rfl rfl (fun w1 => ?_) (fun w1 he hdep => ?_) (fun v hv => ?_); rotate_left 2; (go_simp; refine ⟨?_, ?_⟩ <;> rfl); ( refine (HVU.out ▸ c_vector HN.out p a cap ak ck (bladeL d k) w1 hd6 (HRk.out.ext (HW3.out.trans he))).mono ?_; rintro e w2 ⟨g, rfl, ho, g2⟩; exact ⟨_, rfl, g2, g, rfl, ho.mono (Nat.le_trans GW.out.size he.size)⟩); simp only [Act.put, List.setIfInBounds_toArray, List.set_cons_zero, List.set_cons_succ])
      obtain ⟨_, g28, rfl, _⟩ := hv
      (refine LexW.callR (f := ?_) (args := ?_) rfl rfl (fun w1 => ?_) (fun w1 he hdep => ?_) (fun v hv => ?_); rotate_left 2; (go_simp; refine ⟨?_, ?_⟩ <;> rfl); ( obtain ⟨_, q28, r28⟩ : (SPred.ownG w.heap.size n1 (bladeL n1 (2 ^ k))).holds (.slice (some ⟨g28, 0, none⟩) n1 n1) w1 := hdep (4, 28) (by decide +kernel); cases q28; refine (c_bracket HN.out p a cap qs ax1 cx1 xs1 _ n1 (bladeL n1 (2 ^ k)) w1 hd6 (by omega) (by omega) (HQ.out.ext (GW.out.trans he)) HQB.out (HX.out.ext (GW.out.trans he)) HXB1.out r28.rd HGB.out.isB).mono ?_; rintro e w2 ⟨g, rc, rfl, ho, g2⟩; exact ⟨_, rfl, g2, g, rc, rfl, ho.mono (Nat.le_trans GW.out.size he.size)⟩); simp only [Act.put, List.setIfInBounds_toArray, List.set_cons_zero, List.set_cons_succ])
      obtain ⟨_, g29, c29, rfl, _⟩ := hv
      (refine LexW.call (f := ?_) (args := ?_) rfl rfl (fun w1 => ?_) (fun w1 he hdep => ?_) ?_; rotate_left 2; (go_simp; refine ⟨?_, ?_⟩ <;> rfl); ( obtain ⟨_, _, q29, r29⟩ : (SPred.ownS w.heap.size n1 (plusL p (prodL p qs tkA xs1 (bladeL n1 (2 ^ k))) (prodL p qs tkA (bladeL n1 (2 ^ k)) xs1) (-1) n1)).holds (.slice (some ⟨g29, 0, none⟩) n1 c29) w1 := hdep (5, 29) (by decide +kernel); cases q29; rw [HZ.out]; exact c_isZero _ _ _ _ _ (by omega) r29.rd); simp only [Act.put, List.setIfInBounds_toArray, List.set_cons_zero, List.set_cons_succ])
      (refine LexW.pure (v := ?_) rfl rfl (fun w1 he => ?_) ?_; rotate_left; ( have e1 := he.cell HT0.out; have e2 := he.cell HT1.out; go_simp; rfl); simp only [Act.put, List.setIfInBounds_toArray, List.set_cons_zero, List.set_cons_succ])
      refine LexW.nil (fun w3 he hkn => ?_)
      have HE := Lib.hid (GW.out.trans he)
      have X4 := Lib.hid (HW3.out.trans he)
      clear he hkn 
      cases hzz : Z
      · have HZZ := Lib.hid hzz
        clear hzz
        go_wp2_with (fail)
        go_ret2
        exact ⟨by rw [centB_false HQL.out hlt (by rw [← HZE.out]; exact HZZ.out)]; rfl, HE.out⟩
      · have HZZ := Lib.hid hzz
        clear hzz
        go_wp2_with (fail)
        go_roundw
        case rel => exact ⟨k + 1, by omega, by go_num, Lib.hid (fun j hj => by
          by_cases hjk : j = k
          · subst hjk; rw [← HZE.out]; exact HZZ.out
          · exact HT.out j (by omega)), X4.out⟩
        case measure => simp [intOf]; omega
    · go_wp2_with (fail)
      go_ret2
      obtain rfl : k = d := by omega
      exact ⟨by rw [centB_true HQL.out HT.out]; rfl, G3.out.trans HExt.out⟩

set_option maxHeartbeats 400000 in
theorem s_IsCentral_bad (p : Int) (a : Option Addr) (d cap : Nat) (qs : List Int) (ax1 : Option Addr) (n1 cx1 : Nat) (xs1 : List Int) (w : World) (hd : d ≤ 4194304) (hn1 : n1 ≤ 4194304) (hq : RdC w a d qs) (hx1 : RdC w ax1 n1 xs1) (hc : codeA p qs [xs1] ≠ 0) :
    Calls Try.prog 22 #[.agg #[.int .i64 p, .slice a d cap], .slice ax1 n1 cx1] w fun e w' => e = .returned (.tuple #[.bool false, .int .i64 (codeA p qs [xs1])]) ∧ Ext w w' := by
  have hcb : (codeA p qs [xs1] != 0) = true := by simp [hc]
  have HX0 := Lib.hid hx1
  have HQ := Lib.hid hq
  clear hc hx1 hq
  go_enter Try.func22, Try.ntmps22
  go_wp2_with (go_at_call 54; refine (s_code9 p a d cap qs _ 1 _ [xs1] _ hd (by omega) (len_one (by rw [HX0.out.1]; exact hn1)) (HQ.out.ext ((ext_alloc _ _).alloc _)) (rdR_one (a := ax1) (n := _) (cap := cx1) (by simp) (HX0.out.ext ((ext_alloc _ _).alloc _)))).mono ?_; rintro e w1 ⟨rfl, g1⟩)
  go_ret2
  exact ⟨rfl, ((ext_alloc _ _).alloc _).trans g1⟩

set_option maxHeartbeats 4000000 in
set_option maxRecDepth 100000 in
theorem s_IsCentral_ok (p : Int) (a : Option Addr) (d cap : Nat) (qs : List Int) (ax1 : Option Addr) (n1 cx1 : Nat) (xs1 : List Int) (w : World) (hd : d ≤ 4194304) (hn1 : n1 ≤ 4194304) (hq : RdC w a d qs) (hx1 : RdC w ax1 n1 xs1) (hc : codeA p qs [xs1] = 0) :
    Calls Try.prog 22 #[.agg #[.int .i64 p, .slice a d cap], .slice ax1 n1 cx1] w fun e w' => e = .returned (.tuple #[.bool (centB p qs xs1), .int .i64 0]) ∧ Ext w w' := by
  obtain ⟨hcm, h4⟩ := codeA_zero hc
  obtain ⟨hs, hxm1⟩ := codeM_one hcm
  rw [hq.1] at h4
  clear hcm
  obtain ⟨hpr, hd1, hd6, hqb⟩ := space_of hs
  have hpb := prime_bd hpr
  obtain ⟨hxl1, hxb1⟩ := multi_of hxm1
  rw [hq.1] at hxl1 hd6
  have hN : n1 = 2 ^ d := hx1.1.symm.trans hxl1
  have HN := Lib.hid hN
  have HPR := Lib.hid hpr
  have HQB := Lib.hid hqb
  have HXB1 := Lib.hid hxb1
  have HX0 := Lib.hid hx1
  have HX := Lib.hid hx1
  have HQ := Lib.hid hq
  have HGX := Lib.hid (good_isB hx1.1 hxb1)
  have hN6 : n1 ≤ 64 := by rw [HN.out]; exact pow_le64 (by omega)
  have hN1 : 1 ≤ n1 := by rw [HN.out]; exact pow_pos' d
  have HD := Lib.hid (show n1 = 2 ^ qs.length by rw [hq.1]; exact hN)
  have HQL := Lib.hid hq.1
  clear hs hxm1 hqb hxb1 hxl1 hpr hd1 hN
  have HC := Lib.hid hc
  have hcb : ((0 : Int) != 0) = false := by simp
  clear hc hq hx1
  go_enter Try.func22, Try.ntmps22
  go_wp2_with ((go_at_call 54; refine (s_code9 p a d cap qs _ 1 _ [xs1] _ hd (by omega) (len_one (by rw [HX0.out.1]; exact hn1)) (HQ.out.ext ((ext_alloc _ _).alloc _)) (rdR_one (a := ax1) (n := _) (cap := cx1) (by simp) (HX0.out.ext ((ext_alloc _ _).alloc _)))).mono ?_; rintro e w1 ⟨rfl, g1⟩; rw [HC.out]; have hq0 : w1.cell? ⟨w.heap.size, 0, none⟩ = some (.int .i64 p) := g1.cell (by simp); have hq1 : w1.cell? ⟨w.heap.size, 1, none⟩ = some (.slice a d cap) := g1.cell (by simp); have G1 := Lib.hid (((ext_alloc w (.cells #[.int .i64 p, .slice a d cap] 28)).alloc (.cells #[.slice ax1 n1 cx1] 22)).trans g1); have Q0 := Lib.hid hq0; have Q1 := Lib.hid hq1))
  clear g1 hq0 hq1
  go_loopw [7] (fun i wr => ∃ k : Nat, k ≤ d ∧ i = .int .i64 k ∧ Hid (∀ j, j < k → cenE p qs xs1 j = true) ∧ Ext w1 wr) (fun i _ => d - (intOf i).toNat)
  case atStart => exact ⟨0, Nat.zero_le _, rfl, Lib.hid (fun j hj => by omega), Ext.refl _⟩
  case round =>
    obtain ⟨k, hk, rfl, HT, hext⟩ := hrel
    have HExt := Lib.hid hext
    have hs0 := hext.cell Q0.out
    have hs1 := hext.cell Q1.out
    clear hext
    by_cases hlt : k < d
    · have HGB := Lib.hid (show Good p n1 (bladeL n1 (2 ^ k)) from blade_good (by omega))
      obtain ⟨Z, hZ⟩ : ∃ Z, Z = firstL (plusL p (prodL p qs tkA (bladeL n1 (2 ^ k)) xs1) (prodL p qs tkA xs1 (bladeL n1 (2 ^ k))) (-1) n1) := ⟨_, rfl⟩
      have HZ := Lib.hid hZ
      have HZE : Hid (cenE p qs xs1 k = true ↔ ¬ 0 ≤ Z) := Lib.hid (by
        have h1 := zero_minus (p := p) (x := prodL p qs tkA (bladeL n1 (2 ^ k)) xs1) (y := prodL p qs tkA xs1 (bladeL n1 (2 ^ k))) (n := n1) (by omega) (by rw [HD.out]; exact prod_good (by omega)) (by rw [HD.out]; exact prod_good (by omega))
        rw [eqB_comm] at h1
        have h2 : cenE p qs xs1 k = eqB (prodL p qs tkA xs1 (bladeL n1 (2 ^ k))) (prodL p qs tkA (bladeL n1 (2 ^ k)) xs1) := by unfold cenE; rw [← HD.out]
        rw [h2, ← h1, hZ]
        unfold zeroB firstL
        split
        · rename_i h; simp [h]
        · rename_i h; simp [h])
      have hpi : IntKind.i64.wrap (2 ^ k) = ((2 ^ k : Nat) : Int) := pow_wrapI (by omega)
      have hpw : wrap64 (2 ^ k) = ((2 ^ k : Nat) : Int) := pow_wrap (by omega)
      have hcv := conv_u k (by omega)
      have hMN : 2 ^ k < n1 := by rw [HN.out]; exact Nat.pow_lt_pow_right (by omega) hlt
      obtain ⟨M, hM⟩ : ∃ M, M = 2 ^ k := ⟨_, rfl⟩
      rw [← hM] at hpi hpw hMN HZ HGB
      have HM := Lib.hid hM
      clear hZ hM
      go_wp2_with (fail)
      refine (s_zeroN HN.out p a cap _ hd6).mono ?_
      rintro e w3 ⟨g0, rfl, ho0, h0⟩
      have HO0 := Lib.hid ho0
      have HE0 := Lib.hid h0
      have hge : wr.heap.size ≤ g0 := ho0.base_le.1
      have hcg := ho0.cell hMN
      have hfz := ho0.frozen M
      have hs0c := h0.cell hs0
      have hs1c := h0.cell hs1
      have hl0 : w.heap.size < g0 := by have hb0 : w.heap.size < w1.heap.size := lt_of_cell Q0.out; have := HExt.out.size'; omega
      clear ho0 h0 hs0 hs1
      go_wp2_with (fail)
      clear hs0c hs1c hcg hfz
      refine (s_bracket HN.out p a cap qs _ n1 (bladeL n1 M) ax1 cx1 xs1 _ hd6 (by omega) (by omega) (HQ.out.ext ((G1.out.trans HExt.out).trans (HE0.out.setCell hge _))) HQB.out (HO0.out.store hMN 1).rd HGB.out.isB (HX.out.ext ((G1.out.trans HExt.out).trans (HE0.out.setCell hge _))) HXB1.out).mono ?_
      rintro e w4 ⟨g4, r4, rfl, ho4, x4⟩
      have HO4 := Lib.hid ho4
      have X4 := Lib.hid ((HE0.out.setCell hge (.int .i64 1)).trans x4)
      clear ho4 x4
      by_cases hz0 : 0 ≤ Z
      · go_wp2_with (go_at_call 56; refine (s_first _ _ _ _ _ (by omega) HO4.out.rd).mono ?_; rintro e w5 ⟨rfl, g5⟩; rw [← HZ.out]; have X5 := Lib.hid (HExt.out.trans (X4.out.trans g5)))
        go_ret2
        exact ⟨by rw [centB_false HQL.out hlt (by rw [Bool.eq_false_iff]; exact fun h => by have h1 := HZE.out.1 h; omega)]; rfl, G1.out.trans X5.out⟩
      · go_wp2_with (go_at_call 56; refine (s_first _ _ _ _ _ (by omega) HO4.out.rd).mono ?_; rintro e w5 ⟨rfl, g5⟩; rw [← HZ.out]; have X5 := Lib.hid (HExt.out.trans (X4.out.trans g5)))
        go_roundw
        case rel => exact ⟨k + 1, by omega, by go_num, Lib.hid (fun j hj => by
          by_cases hjk : j = k
          · subst hjk; exact HZE.out.2 (by omega)
          · exact HT.out j (by omega)), X5.out⟩
        case measure => simp [intOf]; omega
    · go_wp2_with (fail)
      go_ret2
      obtain rfl : k = d := by omega
      exact ⟨by rw [centB_true HQL.out HT.out]; rfl, G1.out.trans HExt.out⟩

end Go.Proofs.Ytlchmkaaogokiaa
