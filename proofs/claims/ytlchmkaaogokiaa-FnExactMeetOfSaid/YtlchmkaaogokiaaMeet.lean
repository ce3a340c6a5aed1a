/-
  The listed function MeetOf.
  No condition.
-/
import Derived.Test.YtlchmkaaogokiaaDual
namespace Go.Proofs.Ytlchmkaaogokiaa
set_option maxRecDepth 100000
open Go.RowKit

def meetL (p : Int) (qs x y : List Int) : List Int := prodL p qs tkL (prodL p qs tkW (dualL p qs x) (dualL p qs y)) (fullL qs.length)

set_option maxHeartbeats 400000 in
theorem s_MeetOf_bad (p : Int) (a : Option Addr) (d cap : Nat) (qs : List Int) (ax1 : Option Addr) (n1 cx1 : Nat) (xs1 : List Int) (ax2 : Option Addr) (n2 cx2 : Nat) (xs2 : List Int) (w : World) (hd : d ≤ 4194304) (hn1 : n1 ≤ 4194304) (hn2 : n2 ≤ 4194304) (hq : RdC w a d qs) (hx1 : RdC w ax1 n1 xs1) (hx2 : RdC w ax2 n2 xs2) (hc : codeR p qs [xs1, xs2] ≠ 0) :
    Calls Try.prog 13 #[.agg #[.int .i64 p, .slice a d cap], .slice ax1 n1 cx1, .slice ax2 n2 cx2] w fun e w' => ∃ ra rc, e = .returned (.tuple #[.slice ra 0 rc, .int .i64 (codeR p qs [xs1, xs2])]) ∧ OwnC w.heap.size w' ra 0 rc [] ∧ Ext w w' := by
  have hcb : (codeR p qs [xs1, xs2] != 0) = true := by simp [hc]
  clear hc
  go_enter Try.func13, Try.ntmps13
  go_wp2_with (go_at_call 46; refine (s_regular p a d cap qs _ 2 _ [xs1, xs2] _ hd (by omega) (len_two (by rw [hx1.1]; exact hn1) (by rw [hx2.1]; exact hn2)) (hq.ext ((ext_alloc _ _).alloc _)) (rdR_two (a := ax1) (b := ax2) (n := _) (m := _) (ca := cx1) (cb := cx2) (by simp) (by simp) (hx1.ext ((ext_alloc _ _).alloc _)) (hx2.ext ((ext_alloc _ _).alloc _)))).mono ?_; rintro e w1 ⟨rfl, g1⟩)
  go_ret2
  exact ⟨none, 0, rfl, own_nil _ _, ((ext_alloc _ _).alloc _).trans g1⟩

set_option maxHeartbeats 4000000 in
set_option maxRecDepth 100000 in
theorem s_MeetOf_ok (p : Int) (a : Option Addr) (d cap : Nat) (qs : List Int) (ax1 : Option Addr) (n1 cx1 : Nat) (xs1 : List Int) (ax2 : Option Addr) (n2 cx2 : Nat) (xs2 : List Int) (w : World) (hd : d ≤ 4194304) (hn1 : n1 ≤ 4194304) (hn2 : n2 ≤ 4194304) (hq : RdC w a d qs) (hx1 : RdC w ax1 n1 xs1) (hx2 : RdC w ax2 n2 xs2) (hc : codeR p qs [xs1, xs2] = 0) :
    Calls Try.prog 13 #[.agg #[.int .i64 p, .slice a d cap], .slice ax1 n1 cx1, .slice ax2 n2 cx2] w fun e w' => ∃ ra rc, e = .returned (.tuple #[.slice ra n1 rc, .int .i64 0]) ∧ OwnC w.heap.size w' ra n1 rc (meetL p qs xs1 xs2) ∧ Ext w w' := by
  obtain ⟨hcm, hrg⟩ := codeR_zero hc
  have HRG := Lib.hid hrg
  obtain ⟨hs, hxm1, hxm2⟩ := codeM_two hcm
  clear hcm hrg
  obtain ⟨hpr, hd1, hd6, hqb⟩ := space_of hs
  have hpb := prime_bd hpr
  obtain ⟨hxl1, hxb1⟩ := multi_of hxm1
  obtain ⟨hxl2, hxb2⟩ := multi_of hxm2
  rw [hq.1] at hxl1 hxl2 hd6
  have hN : n1 = 2 ^ d := hx1.1.symm.trans hxl1
  obtain rfl : n1 = n2 := hN.trans (hx2.1.symm.trans hxl2).symm
  have HN := Lib.hid hN
  have HPR := Lib.hid hpr
  have HQB := Lib.hid hqb
  have HXB1 := Lib.hid hxb1
  have HXB2 := Lib.hid hxb2
  clear hs hxm1 hxm2 hqb hxb1 hxb2 hxl1 hxl2 hpr hd1 hN
  have HC := Lib.hid hc
  have hcb : ((0 : Int) != 0) = false := by simp
  clear hc
  go_enter Try.func13, Try.ntmps13
  go_wp2_with (go_at_call 46; refine (s_regular p a d cap qs _ 2 _ [xs1, xs2] _ hd (by omega) (len_two (by rw [hx1.1]; exact hn1) (by rw [hx2.1]; exact hn2)) (hq.ext ((ext_alloc _ _).alloc _)) (rdR_two (a := ax1) (b := ax2) (n := _) (m := _) (ca := cx1) (cb := cx2) (by simp) (by simp) (hx1.ext ((ext_alloc _ _).alloc _)) (hx2.ext ((ext_alloc _ _).alloc _)))).mono ?_; rintro e w1 ⟨rfl, g1⟩; rw [HC.out]; have hq0 : w1.cell? ⟨w.heap.size, 0, none⟩ = some (.int .i64 p) := g1.cell (by simp); have hq1 : w1.cell? ⟨w.heap.size, 1, none⟩ = some (.slice a d cap) := g1.cell (by simp))
  have G1 := Lib.hid (((ext_alloc w (.cells #[.int .i64 p, .slice a d cap] 28)).alloc (.cells #[.slice ax1 n1 cx1, .slice ax2 n1 cx2] 22)).trans g1)
  have HS0 := Lib.hid ((ext_drew _).cell hq0)
  have HS1 := Lib.hid ((ext_drew _).cell hq1)
  have GW := Lib.hid (G1.out.trans (ext_drew _))
  have HQ := Lib.hid hq
  have HX := Lib.hid hx1
  have HGX := Lib.hid (good_isB hx1.1 HXB1.out)
  have hN6 : n1 ≤ 64 := by rw [HN.out]; exact pow_le64 (by omega)
  have hN1 : 1 ≤ n1 := by rw [HN.out]; exact pow_pos' d
  have hN0 : ¬ n1 = 0 := by omega
  have HY := Lib.hid hx2
  have HGY := Lib.hid (good_isB hx2.1 HXB2.out)
  have HGD : ∀ z, Hid (Good p n1 (dualL p qs z)) := fun z => Lib.hid (by rw [HN.out, ← HQ.out.1]; exact prod_good (by omega))
  have HGW : Hid (Good p n1 (prodL p qs tkW (dualL p qs xs1) (dualL p qs xs2))) := Lib.hid (by rw [HN.out, ← HQ.out.1]; exact prod_good (by omega))
  have HM := Lib.hid (show meetL p qs xs1 xs2 = prodL p qs tkL (prodL p qs tkW (dualL p qs xs1) (dualL p qs xs2)) (fullL d) by unfold meetL; rw [HQ.out.1])
  clear g1 hq0 hq1 hx1 hx2 hq
  refine wp_region_lex [(4, .ownG w.heap.size n1 (dualL p qs xs1)), (7, .ownG w.heap.size n1 (dualL p qs xs2)), (8, .ownG w.heap.size n1 (prodL p qs tkW (dualL p qs xs1) (dualL p qs xs2))), (9, .ownG w.heap.size n1 (prodL p qs tkL (prodL p qs tkW (dualL p qs xs1) (dualL p qs xs2)) (fullL d)))] (by kernel_rfl) (by kernel_rfl) ?_
  (refine LexW.pure (v := ?_) rfl rfl (fun w1 he => ?_) ?_; rotate_left; ( have e1 := he.cell HS0.out; have e2 := he.cell HS1.out; go_simp; rfl); simp only [Act.put, List.setIfInBounds_toArray, List.set_cons_zero, List.set_cons_succ])
  (refine LexW.pure (v := ?_) rfl rfl (fun w1 he => ?_) ?_; rotate_left; ( have e1 := he.cell HS0.out; have e2 := he.cell HS1.out; go_simp; rfl); simp only [Act.put, List.setIfInBounds_toArray, List.set_cons_zero, List.set_cons_succ])
  (refine LexW.pure (v := ?_) rfl rfl (fun w1 he => ?_) ?_; rotate_left; ( have e1 := he.cell HS0.out; have e2 := he.cell HS1.out; go_simp; rfl); simp only [Act.put, List.setIfInBounds_toArray, List.set_cons_zero, List.set_cons_succ])
  (refine LexW.pure (v := ?_) rfl rfl (fun w1 he => ?_) ?_; rotate_left; ( have e1 := he.cell HS0.out; have e2 := he.cell HS1.out; go_simp; rfl); simp only [Act.put, List.setIfInBounds_toArray, List.set_cons_zero, List.set_cons_succ])
  (refine LexW.callR (f := ?_) (args := ?_) rfl rfl (fun w1 => ?_) (fun w1 he hdep => ?_) (fun v hv => ?_); rotate_left 2; (go_simp; refine ⟨?_, ?_⟩ <;> rfl); ( refine (s_dual HN.out p a cap qs ax1 cx1 xs1 w1 (by omega) (by omega) (by omega) (HQ.out.ext (GW.out.trans he)) HQB.out (HX.out.ext (GW.out.trans he)) HXB1.out HPR.out HRG.out).mono ?_; rintro e w2 ⟨g, rfl, ho, g2⟩; exact ⟨_, rfl, g2, g, rfl, ho.mono (Nat.le_trans GW.out.size he.size)⟩); simp only [Act.put, List.setIfInBounds_toArray, List.set_cons_zero, List.set_cons_succ])
  obtain ⟨_, g21, rfl, _⟩ := hv
  (refine LexW.pure (v := ?_) rfl rfl (fun w1 he => ?_) ?_; rotate_left; ( have e1 := he.cell HS0.out; have e2 := he.cell HS1.out; go_simp; rfl); simp only [Act.put, List.setIfInBounds_toArray, List.set_cons_zero, List.set_cons_succ])
  (refine LexW.pure (v := ?_) rfl rfl (fun w1 he => ?_) ?_; rotate_left; ( have e1 := he.cell HS0.out; have e2 := he.cell HS1.out; go_simp; rfl); simp only [Act.put, List.setIfInBounds_toArray, List.set_cons_zero, List.set_cons_succ])
  (refine LexW.callR (f := ?_) (args := ?_) rfl rfl (fun w1 => ?_) (fun w1 he hdep => ?_) (fun v hv => ?_); rotate_left 2; (go_simp; refine ⟨?_, ?_⟩ <;> rfl); ( refine (s_dual HN.out p a cap qs ax2 cx2 xs2 w1 (by omega) (by omega) (by omega) (HQ.out.ext (GW.out.trans he)) HQB.out (HY.out.ext (GW.out.trans he)) HXB2.out HPR.out HRG.out).mono ?_; rintro e w2 ⟨g, rfl, ho, g2⟩; exact ⟨_, rfl, g2, g, rfl, ho.mono (Nat.le_trans GW.out.size he.size)⟩); simp only [Act.put, List.setIfInBounds_toArray, List.set_cons_zero, List.set_cons_succ])
  obtain ⟨_, g24, rfl, _⟩ := hv
  (refine LexW.callR (f := ?_) (args := ?_) rfl rfl (fun w1 => ?_) (fun w1 he hdep => ?_) (fun v hv => ?_); rotate_left 2; (go_simp; refine ⟨?_, ?_⟩ <;> rfl); ( obtain ⟨_, q21, r21⟩ : (SPred.ownG w.heap.size n1 (dualL p qs xs1)).holds (.slice (some ⟨g21, 0, none⟩) n1 n1) w1 := hdep (4, 21) (by decide +kernel); cases q21; obtain ⟨_, q24, r24⟩ : (SPred.ownG w.heap.size n1 (dualL p qs xs2)).holds (.slice (some ⟨g24, 0, none⟩) n1 n1) w1 := hdep (7, 24) (by decide +kernel); cases q24; refine (s_wedgeN HN.out p a cap qs _ _ n1 n1 (dualL p qs xs1) (dualL p qs xs2) w1 (by omega) (by omega) (by omega) (HQ.out.ext (GW.out.trans he)) HQB.out r21.rd r24.rd (HGD _).out.isB (HGD _).out.isB).mono ?_; rintro e w2 ⟨g, rfl, ho, g2⟩; exact ⟨_, rfl, g2, g, rfl, ho.mono (Nat.le_trans GW.out.size he.size)⟩); simp only [Act.put, List.setIfInBounds_toArray, List.set_cons_zero, List.set_cons_succ])
  obtain ⟨_, g25, rfl, _⟩ := hv
  (refine LexW.callR (f := ?_) (args := ?_) rfl rfl (fun w1 => ?_) (fun w1 he hdep => ?_) (fun v hv => ?_); rotate_left 2; (go_simp; refine ⟨?_, ?_⟩ <;> rfl); ( obtain ⟨_, q25, r25⟩ : (SPred.ownG w.heap.size n1 (prodL p qs tkW (dualL p qs xs1) (dualL p qs xs2))).holds (.slice (some ⟨g25, 0, none⟩) n1 n1) w1 := hdep (8, 25) (by decide +kernel); cases q25; refine (s_undual HN.out p a cap qs _ n1 (prodL p qs tkW (dualL p qs xs1) (dualL p qs xs2)) w1 (by omega) (by omega) (by omega) (HQ.out.ext (GW.out.trans he)) HQB.out r25.rd HGW.out.isB).mono ?_; rintro e w2 ⟨g, rfl, ho, g2⟩; exact ⟨_, rfl, g2, g, rfl, ho.mono (Nat.le_trans GW.out.size he.size)⟩); simp only [Act.put, List.setIfInBounds_toArray, List.set_cons_zero, List.set_cons_succ])
  obtain ⟨_, g26, rfl, _⟩ := hv
  (refine LexW.pure (v := ?_) rfl rfl (fun w1 he => ?_) ?_; rotate_left; ( have e1 := he.cell HS0.out; have e2 := he.cell HS1.out; go_simp; rfl); simp only [Act.put, List.setIfInBounds_toArray, List.set_cons_zero, List.set_cons_succ])
  (refine LexW.pure (v := ?_) rfl rfl (fun w1 he => ?_) ?_; rotate_left; ( have e1 := he.cell HS0.out; have e2 := he.cell HS1.out; go_simp; rfl); simp only [Act.put, List.setIfInBounds_toArray, List.set_cons_zero, List.set_cons_succ])
  refine LexW.nil (fun w3 he hkn => ?_)
  obtain ⟨_, q26, r26⟩ : (SPred.ownG w.heap.size n1 (prodL p qs tkL (prodL p qs tkW (dualL p qs xs1) (dualL p qs xs2)) (fullL d))).holds (.slice (some ⟨g26, 0, none⟩) n1 n1) w3 := hkn (9, _) (by simp)
  cases q26
  have R26 := Lib.hid r26
  have HE := Lib.hid (GW.out.trans he)
  clear he hkn r26
  go_wp2_with (fail)
  go_ret2
  exact ⟨_, _, rfl, by rw [HM.out]; exact R26.out, HE.out⟩

set_option maxHeartbeats 400000 in
theorem c_MeetOf_bad (p : Int) (a : Option Addr) (d cap : Nat) (qs : List Int) (ax1 : Option Addr) (n1 cx1 : Nat) (xs1 : List Int) (ax2 : Option Addr) (n2 cx2 : Nat) (xs2 : List Int) (w : World) (hd : d ≤ 4194304) (hn1 : n1 ≤ 4194304) (hn2 : n2 ≤ 4194304) (hq : RdC w a d qs) (hx1 : RdC w ax1 n1 xs1) (hx2 : RdC w ax2 n2 xs2) (hc : codeR p qs [xs1, xs2] ≠ 0) :
    Calls Try.prog 16 #[.agg #[.int .i64 p, .slice a d cap], .slice ax1 n1 cx1, .slice ax2 n2 cx2] w fun e w' => ∃ ra rc, e = .returned (.tuple #[.slice ra 0 rc, .int .i64 (codeR p qs [xs1, xs2])]) ∧ OwnC w.heap.size w' ra 0 rc [] ∧ Ext w w' := by
  have hcb : (codeR p qs [xs1, xs2] != 0) = true := by simp [hc]
  clear hc
  go_enter Try.func16, Try.ntmps16
  go_wp2_with (go_at_call 50; refine (c_checkRegular p a d cap qs _ 2 _ [xs1, xs2] _ hd (by omega) (len_two (by rw [hx1.1]; exact hn1) (by rw [hx2.1]; exact hn2)) (hq.ext ((ext_alloc _ _).alloc _)) (rdR_two (a := ax1) (b := ax2) (n := _) (m := _) (ca := cx1) (cb := cx2) (by simp) (by simp) (hx1.ext ((ext_alloc _ _).alloc _)) (hx2.ext ((ext_alloc _ _).alloc _)))).mono ?_; rintro e w1 ⟨rfl, g1⟩)
  go_ret2
  exact ⟨none, 0, rfl, own_nil _ _, ((ext_alloc _ _).alloc _).trans g1⟩

set_option maxHeartbeats 4000000 in
set_option maxRecDepth 100000 in
theorem c_MeetOf_ok (p : Int) (a : Option Addr) (d cap : Nat) (qs : List Int) (ax1 : Option Addr) (n1 cx1 : Nat) (xs1 : List Int) (ax2 : Option Addr) (n2 cx2 : Nat) (xs2 : List Int) (w : World) (hd : d ≤ 4194304) (hn1 : n1 ≤ 4194304) (hn2 : n2 ≤ 4194304) (hq : RdC w a d qs) (hx1 : RdC w ax1 n1 xs1) (hx2 : RdC w ax2 n2 xs2) (hc : codeR p qs [xs1, xs2] = 0) :
    Calls Try.prog 16 #[.agg #[.int .i64 p, .slice a d cap], .slice ax1 n1 cx1, .slice ax2 n2 cx2] w fun e w' => ∃ ra rc, e = .returned (.tuple #[.slice ra n1 rc, .int .i64 0]) ∧ OwnC w.heap.size w' ra n1 rc (meetL p qs xs1 xs2) ∧ Ext w w' := by
  obtain ⟨hcm, hrg⟩ := codeR_zero hc
  have HRG := Lib.hid hrg
  obtain ⟨hs, hxm1, hxm2⟩ := codeM_two hcm
  clear hcm hrg
  obtain ⟨hpr, hd1, hd6, hqb⟩ := space_of hs
  have hpb := prime_bd hpr
  obtain ⟨hxl1, hxb1⟩ := multi_of hxm1
  obtain ⟨hxl2, hxb2⟩ := multi_of hxm2
  rw [hq.1] at hxl1 hxl2 hd6
  have hN : n1 = 2 ^ d := hx1.1.symm.trans hxl1
  obtain rfl : n1 = n2 := hN.trans (hx2.1.symm.trans hxl2).symm
  have HN := Lib.hid hN
  have HPR := Lib.hid hpr
  have HQB := Lib.hid hqb
  have HXB1 := Lib.hid hxb1
  have HXB2 := Lib.hid hxb2
  clear hs hxm1 hxm2 hqb hxb1 hxb2 hxl1 hxl2 hpr hd1 hN
  have HC := Lib.hid hc
  have hcb : ((0 : Int) != 0) = false := by simp
  clear hc
  go_enter Try.func16, Try.ntmps16
  go_wp2_with (go_at_call 50; refine (c_checkRegular p a d cap qs _ 2 _ [xs1, xs2] _ hd (by omega) (len_two (by rw [hx1.1]; exact hn1) (by rw [hx2.1]; exact hn2)) (hq.ext ((ext_alloc _ _).alloc _)) (rdR_two (a := ax1) (b := ax2) (n := _) (m := _) (ca := cx1) (cb := cx2) (by simp) (by simp) (hx1.ext ((ext_alloc _ _).alloc _)) (hx2.ext ((ext_alloc _ _).alloc _)))).mono ?_; rintro e w1 ⟨rfl, g1⟩; rw [HC.out]; have hq0 : w1.cell? ⟨w.heap.size, 0, none⟩ = some (.int .i64 p) := g1.cell (by simp); have hq1 : w1.cell? ⟨w.heap.size, 1, none⟩ = some (.slice a d cap) := g1.cell (by simp))
  have G1 := Lib.hid (((ext_alloc w (.cells #[.int .i64 p, .slice a d cap] 28)).alloc (.cells #[.slice ax1 n1 cx1, .slice ax2 n1 cx2] 22)).trans g1)
  have HS0 := Lib.hid ((ext_drew _).cell hq0)
  have HS1 := Lib.hid ((ext_drew _).cell hq1)
  have GW := Lib.hid (G1.out.trans (ext_drew _))
  have HQ := Lib.hid hq
  have HX := Lib.hid hx1
  have HGX := Lib.hid (good_isB hx1.1 HXB1.out)
  have hN6 : n1 ≤ 64 := by rw [HN.out]; exact pow_le64 (by omega)
  have hN1 : 1 ≤ n1 := by rw [HN.out]; exact pow_pos' d
  have hN0 : ¬ n1 = 0 := by omega
  have HY := Lib.hid hx2
  have HGY := Lib.hid (good_isB hx2.1 HXB2.out)
  have HGD : ∀ z, Hid (Good p n1 (dualL p qs z)) := fun z => Lib.hid (by rw [HN.out, ← HQ.out.1]; exact prod_good (by omega))
  have HGW : Hid (Good p n1 (prodL p qs tkW (dualL p qs xs1) (dualL p qs xs2))) := Lib.hid (by rw [HN.out, ← HQ.out.1]; exact prod_good (by omega))
  have HM := Lib.hid (show meetL p qs xs1 xs2 = prodL p qs tkL (prodL p qs tkW (dualL p qs xs1) (dualL p qs xs2)) (fullL d) by unfold meetL; rw [HQ.out.1])
  clear g1 hq0 hq1 hx1 hx2 hq
  refine wp_region_lex [(4, .ownG w.heap.size n1 (dualL p qs xs1)), (7, .ownG w.heap.size n1 (dualL p qs xs2)), (8, .ownG w.heap.size n1 (prodL p qs tkW (dualL p qs xs1) (dualL p qs xs2))), (9, .ownG w.heap.size n1 (prodL p qs tkL (prodL p qs tkW (dualL p qs xs1) (dualL p qs xs2)) (fullL d)))] (by kernel_rfl) (by kernel_rfl) ?_
  (refine LexW.pure (v := ?_) rfl rfl (fun w1 he => ?_) ?_; rotate_left; ( have e1 := he.cell HS0.out; have e2 := he.cell HS1.out; go_simp; rfl); simp only [Act.put, List.setIfInBounds_toArray, List.set_cons_zero, List.set_cons_succ])
  (refine LexW.pure (v := ?_) rfl rfl (fun w1 he => ?_) ?_; rotate_left; ( have e1 := he.cell HS0.out; have e2 := he.cell HS1.out; go_simp; rfl); simp only [Act.put, List.setIfInBounds_toArray, List.set_cons_zero, List.set_cons_succ])
  (refine LexW.pure (v := ?_) rfl rfl (fun w1 he => ?_) ?_; rotate_left; ( have e1 := he.cell HS0.out; have e2 := he.cell HS1.out; go_simp; rfl); simp only [Act.put, List.setIfInBounds_toArray, List.set_cons_zero, List.set_cons_succ])
  (refine LexW.pure (v := ?_) rfl rfl (fun w1 he => ?_) ?_; rotate_left; ( have e1 := he.cell HS0.out; have e2 := he.cell HS1.out; go_simp; rfl); simp only [Act.put, List.setIfInBounds_toArray, List.set_cons_zero, List.set_cons_succ])
  (refine LexW.callR (f := ?_) (args := ?_) rfl rfl (fun w1 => ?_) (fun w1 he hdep => ?_) (fun v hv => ?_); rotate_left 2; (go_simp; refine ⟨?_, ?_⟩ <;> rfl); ( refine (c_dual HN.out p a cap qs ax1 cx1 xs1 w1 (by omega) (by omega) (by omega) (HQ.out.ext (GW.out.trans he)) HQB.out (HX.out.ext (GW.out.trans he)) HXB1.out HPR.out HRG.out).mono ?_; rintro e w2 ⟨g, rfl, ho, g2⟩; exact ⟨_, rfl, g2, g, rfl, ho.mono (Nat.le_trans GW.out.size he.size)⟩); simp only [Act.put, List.setIfInBounds_toArray, List.set_cons_zero, List.set_cons_succ])
  obtain ⟨_, g21, rfl, _⟩ := hv
  (refine LexW.pure (v := ?_) rfl rfl (fun w1 he => ?_) ?_; rotate_left; ( have e1 := he.cell HS0.out; have e2 := he.cell HS1.out; go_simp; rfl); simp only [Act.put, List.setIfInBounds_toArray, List.set_cons_zero, List.set_cons_succ])
  (refine LexW.pure (v := ?_) rfl rfl (fun w1 he => ?_) ?_; rotate_left; ( have e1 := he.cell HS0.out; have e2 := he.cell HS1.out; go_simp; rfl); simp only [Act.put, List.setIfInBounds_toArray, List.set_cons_zero, List.set_cons_succ])
  (refine LexW.callR (f := ?_) (args := ?_) rfl rfl (fun w1 => ?_) (fun w1 he hdep => ?_) (fun v hv => ?_); rotate_left 2; (go_simp; refine ⟨?_, ?_⟩ <;> rfl); ( refine (c_dual HN.out p a cap qs ax2 cx2 xs2 w1 (by omega) (by omega) (by omega) (HQ.out.ext (GW.out.trans he)) HQB.out (HY.out.ext (GW.out.trans he)) HXB2.out HPR.out HRG.out).mono ?_; rintro e w2 ⟨g, rfl, ho, g2⟩; exact ⟨_, rfl, g2, g, rfl, ho.mono (Nat.le_trans GW.out.size he.size)⟩); simp only [Act.put, List.setIfInBounds_toArray, List.set_cons_zero, List.set_cons_succ])
  obtain ⟨_, g24, rfl, _⟩ := hv
  (refine LexW.callR (f := ?_) (args := ?_) rfl rfl (fun w1 => ?_) (fun w1 he hdep => ?_) (fun v hv => ?_); rotate_left 2; (go_simp; refine ⟨?_, ?_⟩ <;> rfl); ( obtain ⟨_, q21, r21⟩ : (SPred.ownG w.heap.size n1 (dualL p qs xs1)).holds (.slice (some ⟨g21, 0, none⟩) n1 n1) w1 := hdep (4, 21) (by decide +kernel); cases q21; obtain ⟨_, q24, r24⟩ : (SPred.ownG w.heap.size n1 (dualL p qs xs2)).holds (.slice (some ⟨g24, 0, none⟩) n1 n1) w1 := hdep (7, 24) (by decide +kernel); cases q24; refine (c_wedgeN HN.out p a cap qs _ _ n1 n1 (dualL p qs xs1) (dualL p qs xs2) w1 (by omega) (by omega) (by omega) (HQ.out.ext (GW.out.trans he)) HQB.out r21.rd r24.rd (HGD _).out.isB (HGD _).out.isB).mono ?_; rintro e w2 ⟨g, rfl, ho, g2⟩; exact ⟨_, rfl, g2, g, rfl, ho.mono (Nat.le_trans GW.out.size he.size)⟩); simp only [Act.put, List.setIfInBounds_toArray, List.set_cons_zero, List.set_cons_succ])
  obtain ⟨_, g25, rfl, _⟩ := hv
  (refine LexW.callR (f := ?_) (args := ?_) rfl rfl (fun w1 => ?_) (fun w1 he hdep => ?_) (fun v hv => ?_); rotate_left 2; (go_simp; refine ⟨?_, ?_⟩ <;> rfl); ( obtain ⟨_, q25, r25⟩ : (SPred.ownG w.heap.size n1 (prodL p qs tkW (dualL p qs xs1) (dualL p qs xs2))).holds (.slice (some ⟨g25, 0, none⟩) n1 n1) w1 := hdep (8, 25) (by decide +kernel); cases q25; refine (c_undual HN.out p a cap qs _ n1 (prodL p qs tkW (dualL p qs xs1) (dualL p qs xs2)) w1 (by omega) (by omega) (by omega) (HQ.out.ext (GW.out.trans he)) HQB.out r25.rd HGW.out.isB).mono ?_; rintro e w2 ⟨g, rfl, ho, g2⟩; exact ⟨_, rfl, g2, g, rfl, ho.mono (Nat.le_trans GW.out.size he.size)⟩); simp only [Act.put, List.setIfInBounds_toArray, List.set_cons_zero, List.set_cons_succ])
  obtain ⟨_, g26, rfl, _⟩ := hv
  (refine LexW.pure (v := ?_) rfl rfl (fun w1 he => ?_) ?_; rotate_left; ( have e1 := he.cell HS0.out; have e2 := he.cell HS1.out; go_simp; rfl); simp only [Act.put, List.setIfInBounds_toArray, List.set_cons_zero, List.set_cons_succ])
  (refine LexW.pure (v := ?_) rfl rfl (fun w1 he => ?_) ?_; rotate_left; ( have e1 := he.cell HS0.out; have e2 := he.cell HS1.out; go_simp; rfl); simp only [Act.put, List.setIfInBounds_toArray, List.set_cons_zero, List.set_cons_succ])
  refine LexW.nil (fun w3 he hkn => ?_)
  obtain ⟨_, q26, r26⟩ : (SPred.ownG w.heap.size n1 (prodL p qs tkL (prodL p qs tkW (dualL p qs xs1) (dualL p qs xs2)) (fullL d))).holds (.slice (some ⟨g26, 0, none⟩) n1 n1) w3 := hkn (9, _) (by simp)
  cases q26
  have R26 := Lib.hid r26
  have HE := Lib.hid (GW.out.trans he)
  clear he hkn r26
  go_wp2_with (fail)
  go_ret2
  exact ⟨_, _, rfl, by rw [HM.out]; exact R26.out, HE.out⟩

end Go.Proofs.Ytlchmkaaogokiaa
