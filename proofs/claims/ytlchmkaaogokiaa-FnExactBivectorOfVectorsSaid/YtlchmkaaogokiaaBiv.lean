/-
  The listed function BivectorOfVectors.
  No condition.
-/
import Derived.Test.YtlchmkaaogokiaaVersC
import Derived.Test.YtlchmkaaogokiaaVecs
namespace Go.Proofs.Ytlchmkaaogokiaa
set_option maxRecDepth 100000
open Go.RowKit

def bivL (p : Int) (qs v u : List Int) : List Int := prodL p qs tkW (vecL (2 ^ qs.length) v) (vecL (2 ^ qs.length) u)

set_option maxHeartbeats 400000 in
theorem s_BivectorOfVectors_bad (p : Int) (a : Option Addr) (d cap : Nat) (qs : List Int) (ax1 : Option Addr) (n1 cx1 : Nat) (xs1 : List Int) (ax2 : Option Addr) (n2 cx2 : Nat) (xs2 : List Int) (w : World) (hd : d ≤ 4194304) (hn1 : n1 ≤ 4194304) (hn2 : n2 ≤ 4194304) (hq : RdC w a d qs) (hx1 : RdC w ax1 n1 xs1) (hx2 : RdC w ax2 n2 xs2) (hc : codeW p qs [xs1, xs2] ≠ 0) :
    Calls Try.prog 30 #[.agg #[.int .i64 p, .slice a d cap], .slice ax1 n1 cx1, .slice ax2 n2 cx2] w fun e w' => ∃ ra rc, e = .returned (.tuple #[.slice ra 0 rc, .int .i64 (codeW p qs [xs1, xs2])]) ∧ OwnC w.heap.size w' ra 0 rc [] ∧ Ext w w' := by
  have hcb : (codeW p qs [xs1, xs2] != 0) = true := by simp [hc]
  clear hc
  go_enter Try.func30, Try.ntmps30
  go_wp2_with (go_at_call 73; refine (s_vectors p a d cap qs _ 2 _ [xs1, xs2] _ hd (by omega) (len_two (by rw [hx1.1]; exact hn1) (by rw [hx2.1]; exact hn2)) (hq.ext ((ext_alloc _ _).alloc _)) (rdR_two (a := ax1) (b := ax2) (n := _) (m := _) (ca := cx1) (cb := cx2) (by simp) (by simp) (hx1.ext ((ext_alloc _ _).alloc _)) (hx2.ext ((ext_alloc _ _).alloc _)))).mono ?_; rintro e w1 ⟨rfl, g1⟩)
  go_ret2
  exact ⟨none, 0, rfl, own_nil _ _, ((ext_alloc _ _).alloc _).trans g1⟩

set_option maxHeartbeats 4000000 in
set_option maxRecDepth 100000 in
theorem s_BivectorOfVectors_ok (p : Int) (a : Option Addr) (d cap : Nat) (qs : List Int) (ax1 : Option Addr) (n1 cx1 : Nat) (xs1 : List Int) (ax2 : Option Addr) (n2 cx2 : Nat) (xs2 : List Int) (w : World) (hd : d ≤ 4194304) (hn1 : n1 ≤ 4194304) (hn2 : n2 ≤ 4194304) (hq : RdC w a d qs) (hx1 : RdC w ax1 n1 xs1) (hx2 : RdC w ax2 n2 xs2) (hc : codeW p qs [xs1, xs2] = 0) :
    Calls Try.prog 30 #[.agg #[.int .i64 p, .slice a d cap], .slice ax1 n1 cx1, .slice ax2 n2 cx2] w fun e w' => ∃ ra rc, e = .returned (.tuple #[.slice ra (2 ^ d) rc, .int .i64 0]) ∧ OwnC w.heap.size w' ra (2 ^ d) rc (bivL p qs xs1 xs2) ∧ Ext w w' := by
  obtain ⟨hvr, hrg⟩ := codeW_zero hc
  have HRG := Lib.hid hrg
  obtain ⟨hs, hva, hvb⟩ := codeVR_two hvr
  obtain ⟨hpr, hd1, hd6, hqb⟩ := space_of hs
  have hpb := prime_bd hpr
  obtain ⟨hxl1, hxb1⟩ := vec_of hva
  obtain ⟨hxl2, hxb2⟩ := vec_of hvb
  rw [hq.1] at hxl1 hxl2 hd6 hd1
  obtain rfl : d = n1 := hxl1.symm.trans hx1.1
  obtain rfl : d = n2 := hxl2.symm.trans hx2.1
  obtain ⟨N, hN⟩ : ∃ N, N = 2 ^ d := ⟨_, rfl⟩
  rw [← hN]
  have HN := Lib.hid hN
  have HPR := Lib.hid hpr
  have HQB := Lib.hid hqb
  have HGV := Lib.hid (good_isB hx1.1 hxb1)
  have HGU := Lib.hid (good_isB hx2.1 hxb2)
  have hN6 : N ≤ 64 := by rw [HN.out]; exact pow_le64 (by omega)
  have hN1 : 1 ≤ N := by rw [HN.out]; exact pow_pos' d
  clear hs hva hvb hvr hrg hqb hxb1 hxb2 hxl1 hxl2 hpr hN
  have HC := Lib.hid hc
  have hcb : ((0 : Int) != 0) = false := by simp
  clear hc
  go_enter Try.func30, Try.ntmps30
  go_wp2_with (go_at_call 73; refine (s_vectors p a d cap qs _ 2 _ [xs1, xs2] _ hd (by omega) (len_two (by rw [hx1.1]; exact hn1) (by rw [hx2.1]; exact hn2)) (hq.ext ((ext_alloc _ _).alloc _)) (rdR_two (a := ax1) (b := ax2) (n := _) (m := _) (ca := cx1) (cb := cx2) (by simp) (by simp) (hx1.ext ((ext_alloc _ _).alloc _)) (hx2.ext ((ext_alloc _ _).alloc _)))).mono ?_; rintro e w1 ⟨rfl, g1⟩; rw [HC.out]; have hq0 : w1.cell? ⟨w.heap.size, 0, none⟩ = some (.int .i64 p) := g1.cell (by simp); have hq1 : w1.cell? ⟨w.heap.size, 1, none⟩ = some (.slice a d cap) := g1.cell (by simp))
  have G1 := Lib.hid (((ext_alloc w (.cells #[.int .i64 p, .slice a d cap] 28)).alloc (.cells #[.slice ax1 d cx1, .slice ax2 d cx2] 22)).trans g1)
  have HS0 := Lib.hid ((ext_drew _).cell hq0)
  have HS1 := Lib.hid ((ext_drew _).cell hq1)
  have GW := Lib.hid (G1.out.trans (ext_drew _))
  have HQ := Lib.hid hq
  have HX := Lib.hid hx1
  have HY := Lib.hid hx2
  have HM := Lib.hid (show bivL p qs xs1 xs2 = prodL p qs tkW (vecL N xs1) (vecL N xs2) by unfold bivL; rw [HQ.out.1, HN.out])
  have HV1 : Hid (Good p N (vecL N xs1)) := Lib.hid (vec_good (by omega) HGV.out)
  have HV2 : Hid (Good p N (vecL N xs2)) := Lib.hid (vec_good (by omega) HGU.out)
  clear g1 hq0 hq1 hx1 hx2 hq
  refine wp_region_lex [(3, .ownG w.heap.size N (vecL N xs1)), (6, .ownG w.heap.size N (vecL N xs2)), (7, .ownG w.heap.size N (prodL p qs tkW (vecL N xs1) (vecL N xs2)))] (by kernel_rfl) (by kernel_rfl) ?_
  (refine LexW.pure (v := ?_) rfl rfl (fun w1 he => ?_) ?_; rotate_left; ( have e1 := he.cell HS0.out; have e2 := he.cell HS1.out; go_simp; rfl); simp only [Act.put, List.setIfInBounds_toArray, List.set_cons_zero, List.set_cons_succ])
  (refine LexW.pure (v := ?_) rfl rfl (fun w1 he => ?_) ?_; rotate_left; ( have e1 := he.cell HS0.out; have e2 := he.cell HS1.out; go_simp; rfl); simp only [Act.put, List.setIfInBounds_toArray, List.set_cons_zero, List.set_cons_succ])
  (refine LexW.pure (v := ?_) rfl rfl (fun w1 he => ?_) ?_; rotate_left; ( have e1 := he.cell HS0.out; have e2 := he.cell HS1.out; go_simp; rfl); simp only [Act.put, List.setIfInBounds_toArray, List.set_cons_zero, List.set_cons_succ])
  (refine LexW.callR (f := ?_) (args := ?_) rfl rfl (fun w1 => ?_) (fun w1 he hdep => ?_) (fun v hv => ?_); rotate_left 2; (go_simp; refine ⟨?_, ?_⟩ <;> rfl); ( refine (s_vector HN.out p a cap ax1 cx1 xs1 w1 (by omega) (HX.out.ext (GW.out.trans he))).mono ?_; rintro e w2 ⟨g, rfl, ho, g2⟩; exact ⟨_, rfl, g2, g, rfl, ho.mono (Nat.le_trans GW.out.size he.size)⟩); simp only [Act.put, List.setIfInBounds_toArray, List.set_cons_zero, List.set_cons_succ])
  obtain ⟨_, g20, rfl, _⟩ := hv
  (refine LexW.pure (v := ?_) rfl rfl (fun w1 he => ?_) ?_; rotate_left; ( have e1 := he.cell HS0.out; have e2 := he.cell HS1.out; go_simp; rfl); simp only [Act.put, List.setIfInBounds_toArray, List.set_cons_zero, List.set_cons_succ])
  (refine LexW.pure (v := ?_) rfl rfl (fun w1 he => ?_) ?_; rotate_left; ( have e1 := he.cell HS0.out; have e2 := he.cell HS1.out; go_simp; rfl); simp only [Act.put, List.setIfInBounds_toArray, List.set_cons_zero, List.set_cons_succ])
  (refine LexW.callR (f := ?_) (args := ?_) rfl rfl (fun w1 => ?_) (fun w1 he hdep => ?_) (fun v hv => ?_); rotate_left 2; (go_simp; refine ⟨?_, ?_⟩ <;> rfl); ( refine (s_vector HN.out p a cap ax2 cx2 xs2 w1 (by omega) (HY.out.ext (GW.out.trans he))).mono ?_; rintro e w2 ⟨g, rfl, ho, g2⟩; exact ⟨_, rfl, g2, g, rfl, ho.mono (Nat.le_trans GW.out.size he.size)⟩); simp only [Act.put, List.setIfInBounds_toArray, List.set_cons_zero, List.set_cons_succ])
  obtain ⟨_, g23, rfl, _⟩ := hv
  (refine LexW.callR (f := ?_) (args := ?_) rfl rfl (fun w1 => ?_) (fun w1 he hdep => ?_) (fun v hv => ?_); rotate_left 2; (go_simp; refine ⟨?_, ?_⟩ <;> rfl); ( obtain ⟨_, q20, r20⟩ : (SPred.ownG w.heap.size N (vecL N xs1)).holds (.slice (some ⟨g20, 0, none⟩) N N) w1 := hdep (3, 20) (by decide +kernel); cases q20; obtain ⟨_, q23, r23⟩ : (SPred.ownG w.heap.size N (vecL N xs2)).holds (.slice (some ⟨g23, 0, none⟩) N N) w1 := hdep (6, 23) (by decide +kernel); cases q23; refine (s_wedgeN HN.out p a cap qs _ _ N N (vecL N xs1) (vecL N xs2) w1 (by omega) (by omega) (by omega) (HQ.out.ext (GW.out.trans he)) HQB.out r20.rd r23.rd HV1.out.isB HV2.out.isB).mono ?_; rintro e w2 ⟨g, rfl, ho, g2⟩; exact ⟨_, rfl, g2, g, rfl, ho.mono (Nat.le_trans GW.out.size he.size)⟩); simp only [Act.put, List.setIfInBounds_toArray, List.set_cons_zero, List.set_cons_succ])
  obtain ⟨_, g24, rfl, _⟩ := hv
  (refine LexW.pure (v := ?_) rfl rfl (fun w1 he => ?_) ?_; rotate_left; ( have e1 := he.cell HS0.out; have e2 := he.cell HS1.out; go_simp; rfl); simp only [Act.put, List.setIfInBounds_toArray, List.set_cons_zero, List.set_cons_succ])
  (refine LexW.pure (v := ?_) rfl rfl (fun w1 he => ?_) ?_; rotate_left; ( have e1 := he.cell HS0.out; have e2 := he.cell HS1.out; go_simp; rfl); simp only [Act.put, List.setIfInBounds_toArray, List.set_cons_zero, List.set_cons_succ])
  refine LexW.nil (fun w3 he hkn => ?_)
  obtain ⟨_, q24, r24⟩ : (SPred.ownG w.heap.size N (prodL p qs tkW (vecL N xs1) (vecL N xs2))).holds (.slice (some ⟨g24, 0, none⟩) N N) w3 := hkn (7, _) (by simp)
  cases q24
  have R24 := Lib.hid r24
  have HE := Lib.hid (GW.out.trans he)
  clear he hkn r24
  go_wp2_with (fail)
  go_ret2
  exact ⟨_, _, rfl, by rw [HM.out]; exact R24.out, HE.out⟩

set_option maxHeartbeats 400000 in
theorem c_BivectorOfVectors_bad (p : Int) (a : Option Addr) (d cap : Nat) (qs : List Int) (ax1 : Option Addr) (n1 cx1 : Nat) (xs1 : List Int) (ax2 : Option Addr) (n2 cx2 : Nat) (xs2 : List Int) (w : World) (hd : d ≤ 4194304) (hn1 : n1 ≤ 4194304) (hn2 : n2 ≤ 4194304) (hq : RdC w a d qs) (hx1 : RdC w ax1 n1 xs1) (hx2 : RdC w ax2 n2 xs2) (hc : codeW p qs [xs1, xs2] ≠ 0) :
    Calls Try.prog 31 #[.agg #[.int .i64 p, .slice a d cap], .slice ax1 n1 cx1, .slice ax2 n2 cx2] w fun e w' => ∃ ra rc, e = .returned (.tuple #[.slice ra 0 rc, .int .i64 (codeW p qs [xs1, xs2])]) ∧ OwnC w.heap.size w' ra 0 rc [] ∧ Ext w w' := by
  have hcb : (codeW p qs [xs1, xs2] != 0) = true := by simp [hc]
  clear hc
  go_enter Try.func31, Try.ntmps31
  go_wp2_with (go_at_call 71; refine (c_checkVersV p a d cap qs _ 2 _ [xs1, xs2] _ hd (by omega) (len_two (by rw [hx1.1]; exact hn1) (by rw [hx2.1]; exact hn2)) (hq.ext ((ext_alloc _ _).alloc _)) (rdR_two (a := ax1) (b := ax2) (n := _) (m := _) (ca := cx1) (cb := cx2) (by simp) (by simp) (hx1.ext ((ext_alloc _ _).alloc _)) (hx2.ext ((ext_alloc _ _).alloc _)))).mono ?_; rintro e w1 ⟨rfl, g1⟩)
  go_ret2
  exact ⟨none, 0, rfl, own_nil _ _, ((ext_alloc _ _).alloc _).trans g1⟩

set_option maxHeartbeats 4000000 in
set_option maxRecDepth 100000 in
theorem c_BivectorOfVectors_ok (p : Int) (a : Option Addr) (d cap : Nat) (qs : List Int) (ax1 : Option Addr) (n1 cx1 : Nat) (xs1 : List Int) (ax2 : Option Addr) (n2 cx2 : Nat) (xs2 : List Int) (w : World) (hd : d ≤ 4194304) (hn1 : n1 ≤ 4194304) (hn2 : n2 ≤ 4194304) (hq : RdC w a d qs) (hx1 : RdC w ax1 n1 xs1) (hx2 : RdC w ax2 n2 xs2) (hc : codeW p qs [xs1, xs2] = 0) :
    Calls Try.prog 31 #[.agg #[.int .i64 p, .slice a d cap], .slice ax1 n1 cx1, .slice ax2 n2 cx2] w fun e w' => ∃ ra rc, e = .returned (.tuple #[.slice ra (2 ^ d) rc, .int .i64 0]) ∧ OwnC w.heap.size w' ra (2 ^ d) rc (bivL p qs xs1 xs2) ∧ Ext w w' := by
  obtain ⟨hvr, hrg⟩ := codeW_zero hc
  have HRG := Lib.hid hrg
  obtain ⟨hs, hva, hvb⟩ := codeVR_two hvr
  obtain ⟨hpr, hd1, hd6, hqb⟩ := space_of hs
  have hpb := prime_bd hpr
  obtain ⟨hxl1, hxb1⟩ := vec_of hva
  obtain ⟨hxl2, hxb2⟩ := vec_of hvb
  rw [hq.1] at hxl1 hxl2 hd6 hd1
  obtain rfl : d = n1 := hxl1.symm.trans hx1.1
  obtain rfl : d = n2 := hxl2.symm.trans hx2.1
  obtain ⟨N, hN⟩ : ∃ N, N = 2 ^ d := ⟨_, rfl⟩
  rw [← hN]
  have HN := Lib.hid hN
  have HPR := Lib.hid hpr
  have HQB := Lib.hid hqb
  have HGV := Lib.hid (good_isB hx1.1 hxb1)
  have HGU := Lib.hid (good_isB hx2.1 hxb2)
  have hN6 : N ≤ 64 := by rw [HN.out]; exact pow_le64 (by omega)
  have hN1 : 1 ≤ N := by rw [HN.out]; exact pow_pos' d
  clear hs hva hvb hvr hrg hqb hxb1 hxb2 hxl1 hxl2 hpr hN
  have HC := Lib.hid hc
  have hcb : ((0 : Int) != 0) = false := by simp
  clear hc
  go_enter Try.func31, Try.ntmps31
  go_wp2_with (go_at_call 71; refine (c_checkVersV p a d cap qs _ 2 _ [xs1, xs2] _ hd (by omega) (len_two (by rw [hx1.1]; exact hn1) (by rw [hx2.1]; exact hn2)) (hq.ext ((ext_alloc _ _).alloc _)) (rdR_two (a := ax1) (b := ax2) (n := _) (m := _) (ca := cx1) (cb := cx2) (by simp) (by simp) (hx1.ext ((ext_alloc _ _).alloc _)) (hx2.ext ((ext_alloc _ _).alloc _)))).mono ?_; rintro e w1 ⟨rfl, g1⟩; rw [HC.out]; have hq0 : w1.cell? ⟨w.heap.size, 0, none⟩ = some (.int .i64 p) := g1.cell (by simp); have hq1 : w1.cell? ⟨w.heap.size, 1, none⟩ = some (.slice a d cap) := g1.cell (by simp))
  have G1 := Lib.hid (((ext_alloc w (.cells #[.int .i64 p, .slice a d cap] 28)).alloc (.cells #[.slice ax1 d cx1, .slice ax2 d cx2] 22)).trans g1)
  have HS0 := Lib.hid ((ext_drew _).cell hq0)
  have HS1 := Lib.hid ((ext_drew _).cell hq1)
  have GW := Lib.hid (G1.out.trans (ext_drew _))
  have HQ := Lib.hid hq
  have HX := Lib.hid hx1
  have HY := Lib.hid hx2
  have HM := Lib.hid (show bivL p qs xs1 xs2 = prodL p qs tkW (vecL N xs1) (vecL N xs2) by unfold bivL; rw [HQ.out.1, HN.out])
  have HV1 : Hid (Good p N (vecL N xs1)) := Lib.hid (vec_good (by omega) HGV.out)
  have HV2 : Hid (Good p N (vecL N xs2)) := Lib.hid (vec_good (by omega) HGU.out)
  clear g1 hq0 hq1 hx1 hx2 hq
  refine wp_region_lex [(3, .ownG w.heap.size N (vecL N xs1)), (6, .ownG w.heap.size N (vecL N xs2)), (7, .ownG w.heap.size N (prodL p qs tkW (vecL N xs1) (vecL N xs2)))] (by kernel_rfl) (by kernel_rfl) ?_
  (refine LexW.pure (v := ?_) rfl rfl (fun w1 he => ?_) ?_; rotate_left; ( have e1 := he.cell HS0.out; have e2 := he.cell HS1.out; go_simp; rfl); simp only [Act.put, List.setIfInBounds_toArray, List.set_cons_zero, List.set_cons_succ])
  (refine LexW.pure (v := ?_) rfl rfl (fun w1 he => ?_) ?_; rotate_left; ( have e1 := he.cell HS0.out; have e2 := he.cell HS1.out; go_simp; rfl); simp only [Act.put, List.setIfInBounds_toArray, List.set_cons_zero, List.set_cons_succ])
  (refine LexW.pure (v := ?_) rfl rfl (fun w1 he => ?_) ?_; rotate_left; ( have e1 := he.cell HS0.out; have e2 := he.cell HS1.out; go_simp; rfl); simp only [Act.put, List.setIfInBounds_toArray, List.set_cons_zero, List.set_cons_succ])
  (refine LexW.callR (f := ?_) (args := ?_) rfl rfl (fun w1 => ?_) (fun w1 he hdep => ?_) (fun v hv => ?_); rotate_left 2; (go_simp; refine ⟨?_, ?_⟩ <;> rfl); ( refine (c_vector HN.out p a cap ax1 cx1 xs1 w1 (by omega) (HX.out.ext (GW.out.trans he))).mono ?_; rintro e w2 ⟨g, rfl, ho, g2⟩; exact ⟨_, rfl, g2, g, rfl, ho.mono (Nat.le_trans GW.out.size he.size)⟩); simp only [Act.put, List.setIfInBounds_toArray, List.set_cons_zero, List.set_cons_succ])
  obtain ⟨_, g20, rfl, _⟩ := hv
  (refine LexW.pure (v := ?_) rfl rfl (fun w1 he => ?_) ?_; rotate_left; ( have e1 := he.cell HS0.out; have e2 := he.cell HS1.out; go_simp; rfl); simp only [Act.put, List.setIfInBounds_toArray, List.set_cons_zero, List.set_cons_succ])
  (refine LexW.pure (v := ?_) rfl rfl (fun w1 he => ?_) ?_; rotate_left; ( have e1 := he.cell HS0.out; have e2 := he.cell HS1.out; go_simp; rfl); simp only [Act.put, List.setIfInBounds_toArray, List.set_cons_zero, List.set_cons_succ])
  (refine LexW.callR (f := ?_) (args := ?_) rfl rfl (fun w1 => ?_) (fun w1 he hdep => ?_) (fun v hv => ?_); rotate_left 2; (go_simp; refine ⟨?_, ?_⟩ <;> rfl); ( refine (c_vector HN.out p a cap ax2 cx2 xs2 w1 (by omega) (HY.out.ext (GW.out.trans he))).mono ?_; rintro e w2 ⟨g, rfl, ho, g2⟩; exact ⟨_, rfl, g2, g, rfl, ho.mono (Nat.le_trans GW.out.size he.size)⟩); simp only [Act.put, List.setIfInBounds_toArray, List.set_cons_zero, List.set_cons_succ])
  obtain ⟨_, g23, rfl, _⟩ := hv
  (refine LexW.callR (f := ?_) (args := ?_) rfl rfl (fun w1 => ?_) (fun w1 he hdep => ?_) (fun v hv => ?_); rotate_left 2; (go_simp; refine ⟨?_, ?_⟩ <;> rfl); ( obtain ⟨_, q20, r20⟩ : (SPred.ownG w.heap.size N (vecL N xs1)).holds (.slice (some ⟨g20, 0, none⟩) N N) w1 := hdep (3, 20) (by decide +kernel); cases q20; obtain ⟨_, q23, r23⟩ : (SPred.ownG w.heap.size N (vecL N xs2)).holds (.slice (some ⟨g23, 0, none⟩) N N) w1 := hdep (6, 23) (by decide +kernel); cases q23; refine (c_wedgeN HN.out p a cap qs _ _ N N (vecL N xs1) (vecL N xs2) w1 (by omega) (by omega) (by omega) (HQ.out.ext (GW.out.trans he)) HQB.out r20.rd r23.rd HV1.out.isB HV2.out.isB).mono ?_; rintro e w2 ⟨g, rfl, ho, g2⟩; exact ⟨_, rfl, g2, g, rfl, ho.mono (Nat.le_trans GW.out.size he.size)⟩); simp only [Act.put, List.setIfInBounds_toArray, List.set_cons_zero, List.set_cons_succ])
  obtain ⟨_, g24, rfl, _⟩ := hv
  (refine LexW.pure (v := ?_) rfl rfl (fun w1 he => ?_) ?_; rotate_left; ( have e1 := he.cell HS0.out; have e2 := he.cell HS1.out; go_simp; rfl); simp only [Act.put, List.setIfInBounds_toArray, List.set_cons_zero, List.set_cons_succ])
  (refine LexW.pure (v := ?_) rfl rfl (fun w1 he => ?_) ?_; rotate_left; ( have e1 := he.cell HS0.out; have e2 := he.cell HS1.out; go_simp; rfl); simp only [Act.put, List.setIfInBounds_toArray, List.set_cons_zero, List.set_cons_succ])
  refine LexW.nil (fun w3 he hkn => ?_)
  obtain ⟨_, q24, r24⟩ : (SPred.ownG w.heap.size N (prodL p qs tkW (vecL N xs1) (vecL N xs2))).holds (.slice (some ⟨g24, 0, none⟩) N N) w3 := hkn (7, _) (by simp)
  cases q24
  have R24 := Lib.hid r24
  have HE := Lib.hid (GW.out.trans he)
  clear he hkn r24
  go_wp2_with (fail)
  go_ret2
  exact ⟨_, _, rfl, by rw [HM.out]; exact R24.out, HE.out⟩

end Go.Proofs.Ytlchmkaaogokiaa
