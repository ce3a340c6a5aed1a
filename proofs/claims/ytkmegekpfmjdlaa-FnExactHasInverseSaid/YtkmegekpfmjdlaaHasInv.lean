/-
  The listed function HasInverse.
  No condition.
-/
import Derived.Test.YtkmegekpfmjdlaaInverse
namespace Go.Proofs.Ytkmegekpfmjdlaa
set_option maxRecDepth 100000
open Go.RowKit

set_option maxHeartbeats 400000 in
theorem c_HasInverse_bad (p : Int) (a : Option Addr) (d cap : Nat) (qs : List Int) (ax1 : Option Addr) (n1 cx1 : Nat) (xs1 : List Int) (w : World) (hd : d ≤ 4194304) (hn1 : n1 ≤ 4194304) (hq : RdC w a d qs) (hx1 : RdC w ax1 n1 xs1) (hc : codeA p qs [xs1] ≠ 0) :
    Calls Try.prog 60 #[.agg #[.int .i64 p, .slice a d cap], .slice ax1 n1 cx1] w fun e w' => e = .returned (.tuple #[.bool false, .int .i64 (codeA p qs [xs1])]) ∧ Ext w w' := by
  have hcb : (codeA p qs [xs1] != 0) = true := by simp [hc]
  clear hc
  go_enter Try.func60, Try.ntmps60
  go_wp2_with (go_at_call 68; refine (c_checkAlgebra p a d cap qs _ 1 _ [xs1] _ hd (by omega) (len_one (by rw [hx1.1]; exact hn1)) (hq.ext ((ext_alloc _ _).alloc _)) (rdR_one (a := ax1) (n := _) (cap := cx1) (by simp) (hx1.ext ((ext_alloc _ _).alloc _)))).mono ?_; rintro e w1 ⟨rfl, g1⟩)
  go_ret2
  exact ⟨rfl, ((ext_alloc _ _).alloc _).trans g1⟩
set_option maxHeartbeats 1000000 in
theorem c_HasInverse_ok (p : Int) (a : Option Addr) (d cap : Nat) (qs : List Int) (ax1 : Option Addr) (n1 cx1 : Nat) (xs1 : List Int) (w : World) (hd : d ≤ 4194304) (hn1 : n1 ≤ 4194304) (hq : RdC w a d qs) (hx1 : RdC w ax1 n1 xs1) (hc : codeA p qs [xs1] = 0) :
    Calls Try.prog 60 #[.agg #[.int .i64 p, .slice a d cap], .slice ax1 n1 cx1] w fun e w' => e = .returned (.tuple #[.bool (invOk p qs xs1), .int .i64 0]) ∧ Ext w w' := by
  obtain ⟨hcm, hq4⟩ := codeA_zero hc
  obtain ⟨hs, hm⟩ := codeM_one hcm
  obtain ⟨hpr, hd1, hd6, hqb⟩ := space_of hs
  have hpb := prime_bd hpr
  obtain ⟨hxl, hxb⟩ := multi_of hm
  rw [hq.1] at hd6 hxl
  have HN := Lib.hid (show n1 = 2 ^ d from hx1.1.symm.trans hxl)
  have HQB := Lib.hid hqb
  have HPR := Lib.hid hpr
  have HGX := Lib.hid (good_isB hx1.1 hxb)
  have HC := Lib.hid hc
  have hcb : ((0 : Int) != 0) = false := by simp
  clear hc hcm hq4 hs hm hpr hd1 hqb hxl hxb
  go_enter Try.func60, Try.ntmps60
  go_wp2_with (first | (go_at_call 68; refine (c_checkAlgebra p a d cap qs _ 1 _ [xs1] _ hd (by omega) (len_one (by rw [hx1.1]; exact hn1)) (hq.ext ((ext_alloc _ _).alloc _)) (rdR_one (a := ax1) (n := _) (cap := cx1) (by simp) (hx1.ext ((ext_alloc _ _).alloc _)))).mono ?_; rintro e w1 ⟨rfl, g1⟩; rw [HC.out]; have hcc := Ext.cells g1; try simp only [World.size_alloc] at hcc) | (go_at_call 115; refine (c_inverse HN.out p a cap qs ax1 cx1 xs1 _ hd6 HPR.out (hq.ext (((ext_alloc _ _).alloc _).trans g1)) HQB.out (hx1.ext (((ext_alloc _ _).alloc _).trans g1)) HGX.out).mono ?_; rintro e w2 ⟨ra, rc, rfl, ho, g2⟩; have G2 := Lib.hid ((((ext_alloc _ _).alloc _).trans g1).trans g2); clear ho g2))
  go_ret2
  exact ⟨rfl, G2.out⟩

set_option maxHeartbeats 400000 in
theorem s_HasInverse_bad (p : Int) (a : Option Addr) (d cap : Nat) (qs : List Int) (ax1 : Option Addr) (n1 cx1 : Nat) (xs1 : List Int) (w : World) (hd : d ≤ 4194304) (hn1 : n1 ≤ 4194304) (hq : RdC w a d qs) (hx1 : RdC w ax1 n1 xs1) (hc : codeA p qs [xs1] ≠ 0) :
    Calls Try.prog 59 #[.agg #[.int .i64 p, .slice a d cap], .slice ax1 n1 cx1] w fun e w' => e = .returned (.tuple #[.bool false, .int .i64 (codeA p qs [xs1])]) ∧ Ext w w' := by
  have hcb : (codeA p qs [xs1] != 0) = true := by simp [hc]
  clear hc
  go_enter Try.func59, Try.ntmps59
  go_wp2_with (go_at_call 66; refine (s_code9 p a d cap qs _ 1 _ [xs1] _ hd (by omega) (len_one (by rw [hx1.1]; exact hn1)) (hq.ext ((ext_alloc _ _).alloc _)) (rdR_one (a := ax1) (n := _) (cap := cx1) (by simp) (hx1.ext ((ext_alloc _ _).alloc _)))).mono ?_; rintro e w1 ⟨rfl, g1⟩)
  go_ret2
  exact ⟨rfl, ((ext_alloc _ _).alloc _).trans g1⟩
set_option maxHeartbeats 1000000 in
theorem s_HasInverse_ok (p : Int) (a : Option Addr) (d cap : Nat) (qs : List Int) (ax1 : Option Addr) (n1 cx1 : Nat) (xs1 : List Int) (w : World) (hd : d ≤ 4194304) (hn1 : n1 ≤ 4194304) (hq : RdC w a d qs) (hx1 : RdC w ax1 n1 xs1) (hc : codeA p qs [xs1] = 0) :
    Calls Try.prog 59 #[.agg #[.int .i64 p, .slice a d cap], .slice ax1 n1 cx1] w fun e w' => e = .returned (.tuple #[.bool (invOk p qs xs1), .int .i64 0]) ∧ Ext w w' := by
  obtain ⟨hcm, hq4⟩ := codeA_zero hc
  obtain ⟨hs, hm⟩ := codeM_one hcm
  obtain ⟨hpr, hd1, hd6, hqb⟩ := space_of hs
  have hpb := prime_bd hpr
  obtain ⟨hxl, hxb⟩ := multi_of hm
  rw [hq.1] at hd6 hxl
  have HN := Lib.hid (show n1 = 2 ^ d from hx1.1.symm.trans hxl)
  have HQB := Lib.hid hqb
  have HPR := Lib.hid hpr
  have HGX := Lib.hid (good_isB hx1.1 hxb)
  have HC := Lib.hid hc
  have hcb : ((0 : Int) != 0) = false := by simp
  clear hc hcm hq4 hs hm hpr hd1 hqb hxl hxb
  go_enter Try.func59, Try.ntmps59
  go_wp2_with (first | (go_at_call 66; refine (s_code9 p a d cap qs _ 1 _ [xs1] _ hd (by omega) (len_one (by rw [hx1.1]; exact hn1)) (hq.ext ((ext_alloc _ _).alloc _)) (rdR_one (a := ax1) (n := _) (cap := cx1) (by simp) (hx1.ext ((ext_alloc _ _).alloc _)))).mono ?_; rintro e w1 ⟨rfl, g1⟩; rw [HC.out]; have hcc := Ext.cells g1; try simp only [World.size_alloc] at hcc) | (go_at_call 114; refine (s_inverse HN.out p a cap qs ax1 cx1 xs1 _ hd6 HPR.out (hq.ext (((ext_alloc _ _).alloc _).trans g1)) HQB.out (hx1.ext (((ext_alloc _ _).alloc _).trans g1)) HGX.out).mono ?_; rintro e w2 ⟨ra, rc, rfl, ho, g2⟩; have G2 := Lib.hid ((((ext_alloc _ _).alloc _).trans g1).trans g2); clear ho g2))
  go_ret2
  exact ⟨rfl, G2.out⟩

end Go.Proofs.Ytkmegekpfmjdlaa
