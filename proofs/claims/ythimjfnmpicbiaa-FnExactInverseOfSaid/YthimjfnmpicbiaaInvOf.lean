/-
  The listed function InverseOf.
  No condition.
-/
import Derived.Test.YthimjfnmpicbiaaInverse
namespace Go.Proofs.Ythimjfnmpicbiaa
set_option maxRecDepth 100000
open Go.RowKit

def codeI (p : Int) (qs x : List Int) : Int := if codeA p qs [x] = 0 then (if invOk p qs x = true then 0 else 5) else codeA p qs [x]
theorem codeI_zero {p : Int} {qs x : List Int} (h : codeI p qs x = 0) : codeA p qs [x] = 0 ∧ invOk p qs x = true := by
  unfold codeI at h
  split at h
  · rename_i h0
    split at h
    · rename_i h1; exact ⟨h0, h1⟩
    · cases h
  · rename_i h0; exact absurd h h0
theorem inv_len {p : Int} {qs x : List Int} (h : invOk p qs x = true) : (invL p qs x).length = 2 ^ qs.length := by
  have h' : okS (2 ^ qs.length) (invRed p qs x) = true := h
  unfold invL solR
  rw [if_pos h']
  simp [solL]
theorem codeA_not {p : Int} {qs x : List Int} (hc : codeA p qs [x] ≠ 0) : (codeM p qs [x] ≠ 0 ∧ codeA p qs [x] = codeM p qs [x]) ∨ (codeM p qs [x] = 0 ∧ ¬ qs.length ≤ 4 ∧ codeA p qs [x] = 3) := by
  unfold codeA at hc ⊢
  by_cases hm : codeM p qs [x] = 0
  · rw [if_pos hm] at hc ⊢
    by_cases h4 : qs.length ≤ 4
    · rw [if_pos h4] at hc; exact absurd rfl hc
    · exact .inr ⟨hm, h4, if_neg h4⟩
  · rw [if_neg hm]; exact .inl ⟨hm, rfl⟩

set_option maxHeartbeats 2000000 in
theorem c_InverseOf_bad (p : Int) (a : Option Addr) (d cap : Nat) (qs : List Int) (ax1 : Option Addr) (n1 cx1 : Nat) (xs1 : List Int) (w : World) (hd : d ≤ 4194304) (hn1 : n1 ≤ 4194304) (hq : RdC w a d qs) (hx1 : RdC w ax1 n1 xs1) (hc : codeI p qs xs1 ≠ 0) :
    Calls Try.prog 32 #[.agg #[.int .i64 p, .slice a d cap], .slice ax1 n1 cx1] w fun e w' => ∃ ra rc, e = .returned (.tuple #[.slice ra 0 rc, .int .i64 (codeI p qs xs1)]) ∧ OwnC w.heap.size w' ra 0 rc [] ∧ Ext w w' := by
  have HX := Lib.hid hx1
  have HQ := Lib.hid hq
  by_cases hca : codeA p qs [xs1] = 0
  · have hi : invOk p qs xs1 = false := by
      cases h : invOk p qs xs1
      · rfl
      · exact absurd (by unfold codeI; rw [if_pos hca, if_pos h]) hc
    have HC := Lib.hid (show codeI p qs xs1 = 5 by unfold codeI; rw [if_pos hca, hi]; rfl)
    have HIV := Lib.hid hi
    obtain ⟨hcm, hq4⟩ := codeA_zero hca
    obtain ⟨hs, hm⟩ := codeM_one hcm
    obtain ⟨hpr, hd1, hd6, hqb⟩ := space_of hs
    have hpb := prime_bd hpr
    obtain ⟨hxl, hxb⟩ := multi_of hm
    rw [hq.1] at hd6 hxl hq4
    have HN := Lib.hid (show n1 = 2 ^ d from hx1.1.symm.trans hxl)
    have HQB := Lib.hid hqb
    have HPR := Lib.hid hpr
    have HGX := Lib.hid (good_isB hx1.1 hxb)
    have HM := Lib.hid hcm
    have hcb : ((0 : Int) != 0) = false := by simp
    have hcb2 : ((0 : Int) == 0) = true := by simp
    clear hc hca hcm hs hm hpr hd1 hqb hxl hxb hi hq hx1
    go_enter Try.func32, Try.ntmps32
    go_wp2_with (first | (go_at_call 92; refine (c_checkMultis p a d cap qs _ 1 _ [xs1] _ hd (by omega) (len_one (by rw [HX.out.1]; exact hn1)) (HQ.out.ext ((ext_alloc _ _).alloc _)) (rdR_one (a := ax1) (n := _) (cap := cx1) (by simp) (HX.out.ext ((ext_alloc _ _).alloc _)))).mono ?_; rintro e w1 ⟨rfl, g1⟩; rw [HM.out]; have hcc := Ext.cells g1; try simp only [World.size_alloc] at hcc) | (go_at_call 93; refine (c_dim _ _ _ _ _).mono ?_; rintro e w2 ⟨rfl, g2⟩; have hcc2 := Ext.cells (g1.trans g2); try simp only [World.size_alloc] at hcc2) | (go_at_call 94; refine (c_inverse HN.out p a cap qs ax1 cx1 xs1 _ hd6 HPR.out (HQ.out.ext (((ext_alloc _ _).alloc _).trans (g1.trans g2))) HQB.out (HX.out.ext (((ext_alloc _ _).alloc _).trans (g1.trans g2))) HGX.out).mono ?_; rintro e w3 ⟨ra, rc, rfl, ho, g3⟩; rw [HIV.out]; have HO := Lib.hid ho; have G3 := Lib.hid ((((ext_alloc _ _).alloc _).trans (g1.trans g2)).trans g3); have HB := Lib.hid ((((ext_alloc _ _).alloc _).trans (g1.trans g2)).size); clear ho g3))
    go_ret2
    exact ⟨none, 0, by rw [HC.out]; rfl, own_nil _ _, G3.out⟩
  · have HC0 := Lib.hid (show codeI p qs xs1 = codeA p qs [xs1] by unfold codeI; rw [if_neg hca])
    rcases codeA_not hca with ⟨hm, he⟩ | ⟨hm, h4, he⟩
    · have HC := Lib.hid (HC0.out.trans he)
      obtain ⟨C, hC⟩ : ∃ C, C = codeM p qs [xs1] := ⟨_, rfl⟩
      have HM := Lib.hid hC.symm
      rw [← hC] at hm HC
      have hcb : (C != 0) = true := by simp [hm]
      have hcb2 : (C == 0) = false := by simp [hm]
      clear hc hca hm he hC hq hx1
      go_enter Try.func32, Try.ntmps32
      go_wp2_with (go_at_call 92; refine (c_checkMultis p a d cap qs _ 1 _ [xs1] _ hd (by omega) (len_one (by rw [HX.out.1]; exact hn1)) (HQ.out.ext ((ext_alloc _ _).alloc _)) (rdR_one (a := ax1) (n := _) (cap := cx1) (by simp) (HX.out.ext ((ext_alloc _ _).alloc _)))).mono ?_; rintro e w1 ⟨rfl, g1⟩; rw [HM.out]; have hcc := Ext.cells g1; try simp only [World.size_alloc] at hcc)
      go_ret2
      exact ⟨none, 0, by rw [HC.out]; rfl, own_nil _ _, ((ext_alloc _ _).alloc _).trans g1⟩
    · have HC := Lib.hid (HC0.out.trans he)
      have HM := Lib.hid hm
      have hcb : ((0 : Int) != 0) = false := by simp
      have hcb2 : ((0 : Int) == 0) = true := by simp
      rw [hq.1] at h4
      have h5 : ¬ (d : Int) ≤ 4 := by omega
      clear hc hca hm he hq hx1
      go_enter Try.func32, Try.ntmps32
      go_wp2_with (first | (go_at_call 92; refine (c_checkMultis p a d cap qs _ 1 _ [xs1] _ hd (by omega) (len_one (by rw [HX.out.1]; exact hn1)) (HQ.out.ext ((ext_alloc _ _).alloc _)) (rdR_one (a := ax1) (n := _) (cap := cx1) (by simp) (HX.out.ext ((ext_alloc _ _).alloc _)))).mono ?_; rintro e w1 ⟨rfl, g1⟩; rw [HM.out]; have hcc := Ext.cells g1; try simp only [World.size_alloc] at hcc) | (go_at_call 93; refine (c_dim _ _ _ _ _).mono ?_; rintro e w2 ⟨rfl, g2⟩; have hcc2 := Ext.cells (g1.trans g2); try simp only [World.size_alloc] at hcc2))
      go_ret2
      exact ⟨none, 0, by rw [HC.out]; rfl, own_nil _ _, ((ext_alloc _ _).alloc _).trans (g1.trans g2)⟩
set_option maxHeartbeats 2000000 in
theorem c_InverseOf_ok (p : Int) (a : Option Addr) (d cap : Nat) (qs : List Int) (ax1 : Option Addr) (n1 cx1 : Nat) (xs1 : List Int) (w : World) (hd : d ≤ 4194304) (hn1 : n1 ≤ 4194304) (hq : RdC w a d qs) (hx1 : RdC w ax1 n1 xs1) (hc : codeI p qs xs1 = 0) :
    Calls Try.prog 32 #[.agg #[.int .i64 p, .slice a d cap], .slice ax1 n1 cx1] w fun e w' => ∃ ra rc, e = .returned (.tuple #[.slice ra (2 ^ d) rc, .int .i64 0]) ∧ OwnC w.heap.size w' ra (2 ^ d) rc (invL p qs xs1) ∧ Ext w w' := by
  obtain ⟨hca, hi⟩ := codeI_zero hc
  have HX := Lib.hid hx1
  have HQ := Lib.hid hq
  have HIV := Lib.hid hi
  obtain ⟨N, hNN⟩ : ∃ N, N = 2 ^ d := ⟨_, rfl⟩
  rw [← hNN]
  have HLen := Lib.hid (show (invL p qs xs1).length = N by rw [inv_len hi, hq.1, hNN])
  obtain ⟨hcm, hq4⟩ := codeA_zero hca
  obtain ⟨hs, hm⟩ := codeM_one hcm
  obtain ⟨hpr, hd1, hd6, hqb⟩ := space_of hs
  have hpb := prime_bd hpr
  obtain ⟨hxl, hxb⟩ := multi_of hm
  rw [hq.1] at hd6 hxl hq4
  have HN := Lib.hid (show n1 = 2 ^ d from hx1.1.symm.trans hxl)
  have HQB := Lib.hid hqb
  have HPR := Lib.hid hpr
  have HGX := Lib.hid (good_isB hx1.1 hxb)
  have HM := Lib.hid hcm
  have hcb : ((0 : Int) != 0) = false := by simp
  have hcb2 : ((0 : Int) == 0) = true := by simp
  clear hc hca hcm hs hm hpr hd1 hqb hxl hxb hi hq hx1 hNN
  go_enter Try.func32, Try.ntmps32
  go_wp2_with (first | (go_at_call 92; refine (c_checkMultis p a d cap qs _ 1 _ [xs1] _ hd (by omega) (len_one (by rw [HX.out.1]; exact hn1)) (HQ.out.ext ((ext_alloc _ _).alloc _)) (rdR_one (a := ax1) (n := _) (cap := cx1) (by simp) (HX.out.ext ((ext_alloc _ _).alloc _)))).mono ?_; rintro e w1 ⟨rfl, g1⟩; rw [HM.out]; have hcc := Ext.cells g1; try simp only [World.size_alloc] at hcc) | (go_at_call 93; refine (c_dim _ _ _ _ _).mono ?_; rintro e w2 ⟨rfl, g2⟩; have hcc2 := Ext.cells (g1.trans g2); try simp only [World.size_alloc] at hcc2) | (go_at_call 94; refine (c_inverse HN.out p a cap qs ax1 cx1 xs1 _ hd6 HPR.out (HQ.out.ext (((ext_alloc _ _).alloc _).trans (g1.trans g2))) HQB.out (HX.out.ext (((ext_alloc _ _).alloc _).trans (g1.trans g2))) HGX.out).mono ?_; rintro e w3 ⟨ra, rc, rfl, ho, g3⟩; rw [HIV.out]; have HO := Lib.hid ho; have G3 := Lib.hid ((((ext_alloc _ _).alloc _).trans (g1.trans g2)).trans g3); have HB := Lib.hid ((((ext_alloc _ _).alloc _).trans (g1.trans g2)).size); clear ho g3))
  go_ret2
  exact ⟨ra, rc, by rw [← HLen.out]; rfl, by have h := HO.out.mono HB.out; rw [HLen.out] at h; exact h, G3.out⟩

set_option maxHeartbeats 2000000 in
theorem s_InverseOf_bad (p : Int) (a : Option Addr) (d cap : Nat) (qs : List Int) (ax1 : Option Addr) (n1 cx1 : Nat) (xs1 : List Int) (w : World) (hd : d ≤ 4194304) (hn1 : n1 ≤ 4194304) (hq : RdC w a d qs) (hx1 : RdC w ax1 n1 xs1) (hc : codeI p qs xs1 ≠ 0) :
    Calls Try.prog 30 #[.agg #[.int .i64 p, .slice a d cap], .slice ax1 n1 cx1] w fun e w' => ∃ ra rc, e = .returned (.tuple #[.slice ra 0 rc, .int .i64 (codeI p qs xs1)]) ∧ OwnC w.heap.size w' ra 0 rc [] ∧ Ext w w' := by
  have HX := Lib.hid hx1
  have HQ := Lib.hid hq
  by_cases hca : codeA p qs [xs1] = 0
  · have hi : invOk p qs xs1 = false := by
      cases h : invOk p qs xs1
      · rfl
      · exact absurd (by unfold codeI; rw [if_pos hca, if_pos h]) hc
    have HC := Lib.hid (show codeI p qs xs1 = 5 by unfold codeI; rw [if_pos hca, hi]; rfl)
    have HIV := Lib.hid hi
    obtain ⟨hcm, hq4⟩ := codeA_zero hca
    obtain ⟨hs, hm⟩ := codeM_one hcm
    obtain ⟨hpr, hd1, hd6, hqb⟩ := space_of hs
    have hpb := prime_bd hpr
    obtain ⟨hxl, hxb⟩ := multi_of hm
    rw [hq.1] at hd6 hxl hq4
    have HN := Lib.hid (show n1 = 2 ^ d from hx1.1.symm.trans hxl)
    have HQB := Lib.hid hqb
    have HPR := Lib.hid hpr
    have HGX := Lib.hid (good_isB hx1.1 hxb)
    have HM := Lib.hid hcm
    have hcb : ((0 : Int) != 0) = false := by simp
    have hcb2 : ((0 : Int) == 0) = true := by simp
    clear hc hca hcm hs hm hpr hd1 hqb hxl hxb hi hq hx1
    go_enter Try.func30, Try.ntmps30
    go_wp2_with (first | (go_at_call 90; refine (s_code p a d cap qs _ 1 _ [xs1] _ hd (by omega) (len_one (by rw [HX.out.1]; exact hn1)) (HQ.out.ext ((ext_alloc _ _).alloc _)) (rdR_one (a := ax1) (n := _) (cap := cx1) (by simp) (HX.out.ext ((ext_alloc _ _).alloc _)))).mono ?_; rintro e w1 ⟨rfl, g1⟩; rw [HM.out]; have hcc := Ext.cells g1; try simp only [World.size_alloc] at hcc) | (go_at_call 91; refine (s_inverse HN.out p a cap qs ax1 cx1 xs1 _ hd6 HPR.out (HQ.out.ext (((ext_alloc _ _).alloc _).trans g1)) HQB.out (HX.out.ext (((ext_alloc _ _).alloc _).trans g1)) HGX.out).mono ?_; rintro e w3 ⟨ra, rc, rfl, ho, g3⟩; rw [HIV.out]; have HO := Lib.hid ho; have G3 := Lib.hid ((((ext_alloc _ _).alloc _).trans g1).trans g3); have HB := Lib.hid ((((ext_alloc _ _).alloc _).trans g1).size); clear ho g3))
    go_ret2
    exact ⟨none, 0, by rw [HC.out]; rfl, own_nil _ _, G3.out⟩
  · have HC0 := Lib.hid (show codeI p qs xs1 = codeA p qs [xs1] by unfold codeI; rw [if_neg hca])
    rcases codeA_not hca with ⟨hm, he⟩ | ⟨hm, h4, he⟩
    · have HC := Lib.hid (HC0.out.trans he)
      obtain ⟨C, hC⟩ : ∃ C, C = codeM p qs [xs1] := ⟨_, rfl⟩
      have HM := Lib.hid hC.symm
      rw [← hC] at hm HC
      have hcb : (C != 0) = true := by simp [hm]
      have hcb2 : (C == 0) = false := by simp [hm]
      clear hc hca hm he hC hq hx1
      go_enter Try.func30, Try.ntmps30
      go_wp2_with (go_at_call 90; refine (s_code p a d cap qs _ 1 _ [xs1] _ hd (by omega) (len_one (by rw [HX.out.1]; exact hn1)) (HQ.out.ext ((ext_alloc _ _).alloc _)) (rdR_one (a := ax1) (n := _) (cap := cx1) (by simp) (HX.out.ext ((ext_alloc _ _).alloc _)))).mono ?_; rintro e w1 ⟨rfl, g1⟩; rw [HM.out]; have hcc := Ext.cells g1; try simp only [World.size_alloc] at hcc)
      go_ret2
      exact ⟨none, 0, by rw [HC.out]; rfl, own_nil _ _, ((ext_alloc _ _).alloc _).trans g1⟩
    · have HC := Lib.hid (HC0.out.trans he)
      have HM := Lib.hid hm
      have hcb : ((0 : Int) != 0) = false := by simp
      have hcb2 : ((0 : Int) == 0) = true := by simp
      rw [hq.1] at h4
      have h5 : ¬ (d : Int) ≤ 4 := by omega
      clear hc hca hm he hq hx1
      go_enter Try.func30, Try.ntmps30
      go_wp2_with (first | (go_at_call 90; refine (s_code p a d cap qs _ 1 _ [xs1] _ hd (by omega) (len_one (by rw [HX.out.1]; exact hn1)) (HQ.out.ext ((ext_alloc _ _).alloc _)) (rdR_one (a := ax1) (n := _) (cap := cx1) (by simp) (HX.out.ext ((ext_alloc _ _).alloc _)))).mono ?_; rintro e w1 ⟨rfl, g1⟩; rw [HM.out]; have hcc := Ext.cells g1; try simp only [World.size_alloc] at hcc))
      go_ret2
      exact ⟨none, 0, by rw [HC.out]; rfl, own_nil _ _, ((ext_alloc _ _).alloc _).trans g1⟩
set_option maxHeartbeats 2000000 in
theorem s_InverseOf_ok (p : Int) (a : Option Addr) (d cap : Nat) (qs : List Int) (ax1 : Option Addr) (n1 cx1 : Nat) (xs1 : List Int) (w : World) (hd : d ≤ 4194304) (hn1 : n1 ≤ 4194304) (hq : RdC w a d qs) (hx1 : RdC w ax1 n1 xs1) (hc : codeI p qs xs1 = 0) :
    Calls Try.prog 30 #[.agg #[.int .i64 p, .slice a d cap], .slice ax1 n1 cx1] w fun e w' => ∃ ra rc, e = .returned (.tuple #[.slice ra (2 ^ d) rc, .int .i64 0]) ∧ OwnC w.heap.size w' ra (2 ^ d) rc (invL p qs xs1) ∧ Ext w w' := by
  obtain ⟨hca, hi⟩ := codeI_zero hc
  have HX := Lib.hid hx1
  have HQ := Lib.hid hq
  have HIV := Lib.hid hi
  obtain ⟨N, hNN⟩ : ∃ N, N = 2 ^ d := ⟨_, rfl⟩
  rw [← hNN]
  have HLen := Lib.hid (show (invL p qs xs1).length = N by rw [inv_len hi, hq.1, hNN])
  obtain ⟨hcm, hq4⟩ := codeA_zero hca
  obtain ⟨hs, hm⟩ := codeM_one hcm
  obtain ⟨hpr, hd1, hd6, hqb⟩ := space_of hs
  have hpb := prime_bd hpr
  obtain ⟨hxl, hxb⟩ := multi_of hm
  rw [hq.1] at hd6 hxl hq4
  have HN := Lib.hid (show n1 = 2 ^ d from hx1.1.symm.trans hxl)
  have HQB := Lib.hid hqb
  have HPR := Lib.hid hpr
  have HGX := Lib.hid (good_isB hx1.1 hxb)
  have HM := Lib.hid hcm
  have hcb : ((0 : Int) != 0) = false := by simp
  have hcb2 : ((0 : Int) == 0) = true := by simp
  clear hc hca hcm hs hm hpr hd1 hqb hxl hxb hi hq hx1 hNN
  go_enter Try.func30, Try.ntmps30
  go_wp2_with (first | (go_at_call 90; refine (s_code p a d cap qs _ 1 _ [xs1] _ hd (by omega) (len_one (by rw [HX.out.1]; exact hn1)) (HQ.out.ext ((ext_alloc _ _).alloc _)) (rdR_one (a := ax1) (n := _) (cap := cx1) (by simp) (HX.out.ext ((ext_alloc _ _).alloc _)))).mono ?_; rintro e w1 ⟨rfl, g1⟩; rw [HM.out]; have hcc := Ext.cells g1; try simp only [World.size_alloc] at hcc) | (go_at_call 91; refine (s_inverse HN.out p a cap qs ax1 cx1 xs1 _ hd6 HPR.out (HQ.out.ext (((ext_alloc _ _).alloc _).trans g1)) HQB.out (HX.out.ext (((ext_alloc _ _).alloc _).trans g1)) HGX.out).mono ?_; rintro e w3 ⟨ra, rc, rfl, ho, g3⟩; rw [HIV.out]; have HO := Lib.hid ho; have G3 := Lib.hid ((((ext_alloc _ _).alloc _).trans g1).trans g3); have HB := Lib.hid ((((ext_alloc _ _).alloc _).trans g1).size); clear ho g3))
  go_ret2
  exact ⟨ra, rc, by rw [← HLen.out]; rfl, by have h := HO.out.mono HB.out; rw [HLen.out] at h; exact h, G3.out⟩

end Go.Proofs.Ythimjfnmpicbiaa
