/-
  The listed functions of unduals, brackets, scalar products.
  No condition.
-/
import Derived.Test.YtbgnfjckbjmgbaaUndual
namespace Go.Proofs.Ytbgnfjckbjmgbaa
set_option maxRecDepth 100000
open Go.RowKit


set_option maxHeartbeats 400000 in
theorem c_UndualOf_bad (p : Int) (a : Option Addr) (d cap : Nat) (qs : List Int) (ax1 : Option Addr) (n1 cx1 : Nat) (xs1 : List Int) (w : World) (hd : d ≤ 4194304) (hn1 : n1 ≤ 4194304) (hq : RdC w a d qs) (hx1 : RdC w ax1 n1 xs1) (hc : codeR p qs [xs1] ≠ 0) :
    Calls Try.prog 50 #[.agg #[.int .i64 p, .slice a d cap], .slice ax1 n1 cx1] w fun e w' => ∃ ra rc, e = .returned (.tuple #[.slice ra 0 rc, .int .i64 (codeR p qs [xs1])]) ∧ OwnC w.heap.size w' ra 0 rc [] ∧ Ext w w' := by
  have hcb : (codeR p qs [xs1] != 0) = true := by simp [hc]
  clear hc
  go_enter Try.func50, Try.ntmps50
  go_wp2_with (go_at_call 111; refine (c_checkRegular p a d cap qs _ 1 _ [xs1] _ hd (by omega) (len_one (by rw [hx1.1]; exact hn1)) (hq.ext ((ext_alloc _ _).alloc _)) (rdR_one (a := ax1) (n := _) (cap := cx1) (by simp) (hx1.ext ((ext_alloc _ _).alloc _)))).mono ?_; rintro e w1 ⟨rfl, g1⟩)
  go_ret2
  exact ⟨none, 0, rfl, own_nil _ _, ((ext_alloc _ _).alloc _).trans g1⟩

set_option maxHeartbeats 4000000 in
set_option maxRecDepth 100000 in
theorem c_UndualOf_ok (p : Int) (a : Option Addr) (d cap : Nat) (qs : List Int) (ax1 : Option Addr) (n1 cx1 : Nat) (xs1 : List Int) (w : World) (hd : d ≤ 4194304) (hn1 : n1 ≤ 4194304) (hq : RdC w a d qs) (hx1 : RdC w ax1 n1 xs1) (hc : codeR p qs [xs1] = 0) :
    Calls Try.prog 50 #[.agg #[.int .i64 p, .slice a d cap], .slice ax1 n1 cx1] w fun e w' => ∃ ra rc, e = .returned (.tuple #[.slice ra n1 rc, .int .i64 0]) ∧ OwnC w.heap.size w' ra n1 rc (prodL p qs tkL xs1 (fullL d)) ∧ Ext w w' := by
  obtain ⟨hcm, hrg⟩ := codeR_zero hc
  obtain ⟨hs, hxm1⟩ := codeM_one hcm
  clear hcm hrg
  obtain ⟨hpr, hd1, hd6, hqb⟩ := space_of hs
  have hpb := prime_bd hpr
  obtain ⟨hxl1, hxb1⟩ := multi_of hxm1
  rw [hq.1] at hxl1 hd6
  have hN : n1 = 2 ^ d := hx1.1.symm.trans hxl1
  have HN := Lib.hid hN
  have HPR := Lib.hid hpr
  have HQB := Lib.hid hqb
  have HXB1 := Lib.hid hxb1
  clear hs hxm1 hqb hxb1 hxl1 hpr hd1 hN
  have HC := Lib.hid hc
  have hcb : ((0 : Int) != 0) = false := by simp
  clear hc
  go_enter Try.func50, Try.ntmps50
  go_wp2_with (go_at_call 111; refine (c_checkRegular p a d cap qs _ 1 _ [xs1] _ hd (by omega) (len_one (by rw [hx1.1]; exact hn1)) (hq.ext ((ext_alloc _ _).alloc _)) (rdR_one (a := ax1) (n := _) (cap := cx1) (by simp) (hx1.ext ((ext_alloc _ _).alloc _)))).mono ?_; rintro e w1 ⟨rfl, g1⟩; rw [HC.out]; have hq0 : w1.cell? ⟨w.heap.size, 0, none⟩ = some (.int .i64 p) := g1.cell (by simp); have hq1 : w1.cell? ⟨w.heap.size, 1, none⟩ = some (.slice a d cap) := g1.cell (by simp))
  have G1 := Lib.hid (((ext_alloc w (.cells #[.int .i64 p, .slice a d cap] 26)).alloc (.cells #[.slice ax1 n1 cx1] 24)).trans g1)
  clear g1 hq0 hq1
  refine (c_undual HN.out p a cap qs ax1 cx1 xs1 w1 (by omega) (by omega) (by omega) (hq.ext G1.out) HQB.out (hx1.ext G1.out) HXB1.out).mono ?_
  rintro e w2 ⟨g, rfl, ho, g2⟩
  have G2 := Lib.hid g2
  clear g2
  go_wp2_with (fail)
  go_ret2
  exact ⟨some ⟨g, 0, none⟩, _, rfl, ho.mono G1.out.size, G1.out.trans G2.out⟩


set_option maxHeartbeats 400000 in
theorem c_BracketOf_bad (p : Int) (a : Option Addr) (d cap : Nat) (qs : List Int) (ax1 : Option Addr) (n1 cx1 : Nat) (xs1 : List Int) (ax2 : Option Addr) (n2 cx2 : Nat) (xs2 : List Int) (w : World) (hd : d ≤ 4194304) (hn1 : n1 ≤ 4194304) (hn2 : n2 ≤ 4194304) (hq : RdC w a d qs) (hx1 : RdC w ax1 n1 xs1) (hx2 : RdC w ax2 n2 xs2) (hc : codeM p qs [xs1, xs2] ≠ 0) :
    Calls Try.prog 19 #[.agg #[.int .i64 p, .slice a d cap], .slice ax1 n1 cx1, .slice ax2 n2 cx2] w fun e w' => ∃ ra rc, e = .returned (.tuple #[.slice ra 0 rc, .int .i64 (codeM p qs [xs1, xs2])]) ∧ OwnC w.heap.size w' ra 0 rc [] ∧ Ext w w' := by
  have hcb : (codeM p qs [xs1, xs2] != 0) = true := by simp [hc]
  clear hc
  go_enter Try.func19, Try.ntmps19
  go_wp2_with (go_at_call 79; refine (c_checkMultis p a d cap qs _ 2 _ [xs1, xs2] _ hd (by omega) (len_two (by rw [hx1.1]; exact hn1) (by rw [hx2.1]; exact hn2)) (hq.ext ((ext_alloc _ _).alloc _)) (rdR_two (a := ax1) (b := ax2) (n := _) (m := _) (ca := cx1) (cb := cx2) (by simp) (by simp) (hx1.ext ((ext_alloc _ _).alloc _)) (hx2.ext ((ext_alloc _ _).alloc _)))).mono ?_; rintro e w1 ⟨rfl, g1⟩)
  go_ret2
  exact ⟨none, 0, rfl, own_nil _ _, ((ext_alloc _ _).alloc _).trans g1⟩

set_option maxHeartbeats 4000000 in
set_option maxRecDepth 100000 in
theorem c_BracketOf_ok (p : Int) (a : Option Addr) (d cap : Nat) (qs : List Int) (ax1 : Option Addr) (n1 cx1 : Nat) (xs1 : List Int) (ax2 : Option Addr) (n2 cx2 : Nat) (xs2 : List Int) (w : World) (hd : d ≤ 4194304) (hn1 : n1 ≤ 4194304) (hn2 : n2 ≤ 4194304) (hq : RdC w a d qs) (hx1 : RdC w ax1 n1 xs1) (hx2 : RdC w ax2 n2 xs2) (hc : codeM p qs [xs1, xs2] = 0) :
    Calls Try.prog 19 #[.agg #[.int .i64 p, .slice a d cap], .slice ax1 n1 cx1, .slice ax2 n2 cx2] w fun e w' => ∃ ra rc, e = .returned (.tuple #[.slice ra n1 rc, .int .i64 0]) ∧ OwnC w.heap.size w' ra n1 rc (plusL p (prodL p qs tkA xs1 xs2) (prodL p qs tkA xs2 xs1) (-1) n1) ∧ Ext w w' := by
  obtain ⟨hs, hxm1, hxm2⟩ := codeM_two hc
  obtain ⟨hpr, hd1, hd6, hqb⟩ := space_of hs
  have hpb := prime_bd hpr
  obtain ⟨hxl1, hxb1⟩ := multi_of hxm1
  obtain ⟨hxl2, hxb2⟩ := multi_of hxm2
  rw [hq.1] at hxl1 hxl2 hd6
  have hN : n1 = 2 ^ d := hx1.1.symm.trans hxl1
  obtain rfl : n1 = n2 := hN.trans (hx2.1.symm.trans hxl2).symm
  have HN := Lib.hid hN
  have HQB := Lib.hid hqb
  have HXB1 := Lib.hid hxb1
  have HXB2 := Lib.hid hxb2
  clear hs hxm1 hxm2 hqb hxb1 hxb2 hxl1 hxl2 hpr hd1 hN
  have HC := Lib.hid hc
  have hcb : ((0 : Int) != 0) = false := by simp
  clear hc
  go_enter Try.func19, Try.ntmps19
  go_wp2_with (go_at_call 79; refine (c_checkMultis p a d cap qs _ 2 _ [xs1, xs2] _ hd (by omega) (len_two (by rw [hx1.1]; exact hn1) (by rw [hx2.1]; exact hn2)) (hq.ext ((ext_alloc _ _).alloc _)) (rdR_two (a := ax1) (b := ax2) (n := _) (m := _) (ca := cx1) (cb := cx2) (by simp) (by simp) (hx1.ext ((ext_alloc _ _).alloc _)) (hx2.ext ((ext_alloc _ _).alloc _)))).mono ?_; rintro e w1 ⟨rfl, g1⟩; rw [HC.out]; have hq0 : w1.cell? ⟨w.heap.size, 0, none⟩ = some (.int .i64 p) := g1.cell (by simp); have hq1 : w1.cell? ⟨w.heap.size, 1, none⟩ = some (.slice a d cap) := g1.cell (by simp))
  have G1 := Lib.hid (((ext_alloc w (.cells #[.int .i64 p, .slice a d cap] 26)).alloc (.cells #[.slice ax1 n1 cx1, .slice ax2 n1 cx2] 24)).trans g1)
  clear g1 hq0 hq1
  refine (c_bracket HN.out p a cap qs ax1 cx1 xs1 ax2 cx2 xs2 w1 (by omega) (by omega) (by omega) (hq.ext G1.out) HQB.out (hx1.ext G1.out) HXB1.out (hx2.ext G1.out) HXB2.out).mono ?_
  rintro e w2 ⟨g, rc, rfl, ho, g2⟩
  have G2 := Lib.hid g2
  clear g2
  go_wp2_with (fail)
  go_ret2
  exact ⟨some ⟨g, 0, none⟩, _, rfl, ho.mono G1.out.size, G1.out.trans G2.out⟩


set_option maxHeartbeats 400000 in
theorem c_ScalarProduct_bad (p : Int) (a : Option Addr) (d cap : Nat) (qs : List Int) (ax1 : Option Addr) (n1 cx1 : Nat) (xs1 : List Int) (ax2 : Option Addr) (n2 cx2 : Nat) (xs2 : List Int) (w : World) (hd : d ≤ 4194304) (hn1 : n1 ≤ 4194304) (hn2 : n2 ≤ 4194304) (hq : RdC w a d qs) (hx1 : RdC w ax1 n1 xs1) (hx2 : RdC w ax2 n2 xs2) (hc : codeM p qs [xs1, xs2] ≠ 0) :
    Calls Try.prog 39 #[.agg #[.int .i64 p, .slice a d cap], .slice ax1 n1 cx1, .slice ax2 n2 cx2] w fun e w' => e = .returned (.tuple #[.int .i64 0, .int .i64 (codeM p qs [xs1, xs2])]) ∧ Ext w w' := by
  have hcb : (codeM p qs [xs1, xs2] != 0) = true := by simp [hc]
  clear hc
  go_enter Try.func39, Try.ntmps39
  go_wp2_with (go_at_call 79; refine (c_checkMultis p a d cap qs _ 2 _ [xs1, xs2] _ hd (by omega) (len_two (by rw [hx1.1]; exact hn1) (by rw [hx2.1]; exact hn2)) (hq.ext ((ext_alloc _ _).alloc _)) (rdR_two (a := ax1) (b := ax2) (n := _) (m := _) (ca := cx1) (cb := cx2) (by simp) (by simp) (hx1.ext ((ext_alloc _ _).alloc _)) (hx2.ext ((ext_alloc _ _).alloc _)))).mono ?_; rintro e w1 ⟨rfl, g1⟩)
  go_ret2
  exact ⟨rfl, ((ext_alloc _ _).alloc _).trans g1⟩

set_option maxHeartbeats 4000000 in
set_option maxRecDepth 100000 in
theorem c_ScalarProduct_ok (p : Int) (a : Option Addr) (d cap : Nat) (qs : List Int) (ax1 : Option Addr) (n1 cx1 : Nat) (xs1 : List Int) (ax2 : Option Addr) (n2 cx2 : Nat) (xs2 : List Int) (w : World) (hd : d ≤ 4194304) (hn1 : n1 ≤ 4194304) (hn2 : n2 ≤ 4194304) (hq : RdC w a d qs) (hx1 : RdC w ax1 n1 xs1) (hx2 : RdC w ax2 n2 xs2) (hc : codeM p qs [xs1, xs2] = 0) :
    Calls Try.prog 39 #[.agg #[.int .i64 p, .slice a d cap], .slice ax1 n1 cx1, .slice ax2 n2 cx2] w fun e w' => e = .returned (.tuple #[.int .i64 (scalL p qs xs1 xs2), .int .i64 0]) ∧ Ext w w' := by
  obtain ⟨hs, hxm1, hxm2⟩ := codeM_two hc
  obtain ⟨hpr, hd1, hd6, hqb⟩ := space_of hs
  have hpb := prime_bd hpr
  obtain ⟨hxl1, hxb1⟩ := multi_of hxm1
  obtain ⟨hxl2, hxb2⟩ := multi_of hxm2
  rw [hq.1] at hxl1 hxl2 hd6
  have hN : n1 = 2 ^ d := hx1.1.symm.trans hxl1
  obtain rfl : n1 = n2 := hN.trans (hx2.1.symm.trans hxl2).symm
  have HN := Lib.hid hN
  have HQB := Lib.hid hqb
  have HXB1 := Lib.hid hxb1
  have HXB2 := Lib.hid hxb2
  clear hs hxm1 hxm2 hqb hxb1 hxb2 hxl1 hxl2 hpr hd1 hN
  have HC := Lib.hid hc
  have hcb : ((0 : Int) != 0) = false := by simp
  clear hc
  go_enter Try.func39, Try.ntmps39
  go_wp2_with (go_at_call 79; refine (c_checkMultis p a d cap qs _ 2 _ [xs1, xs2] _ hd (by omega) (len_two (by rw [hx1.1]; exact hn1) (by rw [hx2.1]; exact hn2)) (hq.ext ((ext_alloc _ _).alloc _)) (rdR_two (a := ax1) (b := ax2) (n := _) (m := _) (ca := cx1) (cb := cx2) (by simp) (by simp) (hx1.ext ((ext_alloc _ _).alloc _)) (hx2.ext ((ext_alloc _ _).alloc _)))).mono ?_; rintro e w1 ⟨rfl, g1⟩; rw [HC.out]; have hq0 : w1.cell? ⟨w.heap.size, 0, none⟩ = some (.int .i64 p) := g1.cell (by simp); have hq1 : w1.cell? ⟨w.heap.size, 1, none⟩ = some (.slice a d cap) := g1.cell (by simp))
  have G1 := Lib.hid (((ext_alloc w (.cells #[.int .i64 p, .slice a d cap] 26)).alloc (.cells #[.slice ax1 n1 cx1, .slice ax2 n1 cx2] 24)).trans g1)
  have HS0 := Lib.hid ((ext_drew _).cell hq0)
  have HS1 := Lib.hid ((ext_drew _).cell hq1)
  have GW := Lib.hid (G1.out.trans (ext_drew _))
  have HQ := Lib.hid hq
  have HX := Lib.hid hx1
  have HY := Lib.hid hx2
  have HGX := Lib.hid (good_isB hx1.1 HXB1.out)
  have HGY := Lib.hid (good_isB hx2.1 HXB2.out)
  have hN6 : n1 ≤ 64 := by rw [HN.out]; exact pow_le64 hd6
  have hN1 : 1 ≤ n1 := by rw [HN.out]; exact pow_pos' d
  have hN0 : ¬ n1 = 0 := by omega
  obtain ⟨b1, o1, hax, _⟩ := hx1.2 0 (by omega)
  subst hax
  obtain ⟨V, hV⟩ : ∃ V, V = scalL p qs xs1 xs2 := ⟨_, rfl⟩
  have HVV := Lib.hid hV
  have HV := Lib.hid (show nth (timesL p qs [signL p revB xs1 n1, xs2]) 0 = V by rw [prod_two (by rw [hq.1, HN.out]) (by omega) (sign_good (by omega) HGX.out), hV, scalL, hq.1, HN.out])
  clear g1 hq0 hq1 hx1 hx2 hq hV
  refine wp_region_lex [(3, .ownS w.heap.size n1 (signL p revB xs1 n1)), (5, .rows 2 [signL p revB xs1 n1, xs2]), (6, .ownG w.heap.size n1 (timesL p qs [signL p revB xs1 n1, xs2])), (7, .cell (V)), (8, .val (.int .i64 (V)))] (by kernel_rfl) (by kernel_rfl) ?_
  (refine LexW.pure (v := ?_) rfl rfl (fun w1 he => ?_) ?_; rotate_left; ( have e1 := he.cell HS0.out; have e2 := he.cell HS1.out; go_simp; rfl); simp only [Act.put, List.setIfInBounds_toArray, List.set_cons_zero, List.set_cons_succ])
  (refine LexW.pure (v := ?_) rfl rfl (fun w1 he => ?_) ?_; rotate_left; ( have e1 := he.cell HS0.out; have e2 := he.cell HS1.out; go_simp; rfl); simp only [Act.put, List.setIfInBounds_toArray, List.set_cons_zero, List.set_cons_succ])
  (refine LexW.pure (v := ?_) rfl rfl (fun w1 he => ?_) ?_; rotate_left; ( have e1 := he.cell HS0.out; have e2 := he.cell HS1.out; go_simp; rfl); simp only [Act.put, List.setIfInBounds_toArray, List.set_cons_zero, List.set_cons_succ])
  (refine LexW.callR (f := ?_) (args := ?_) rfl rfl (fun w1 => ?_) (fun w1 he hdep => ?_) (fun v hv => ?_); rotate_left 2; (go_simp; refine ⟨?_, ?_⟩ <;> rfl); ( refine (c_reverse p a d cap b1 o1 n1 cx1 xs1 w1 (by omega) (by omega) (by omega) hN6 (HX.out.ext (GW.out.trans he)) HGX.out).mono ?_; rintro e w2 ⟨g, rc, rfl, ho, g2⟩; exact ⟨_, rfl, g2, g, rc, rfl, ho.mono (Nat.le_trans GW.out.size he.size)⟩); simp only [Act.put, List.setIfInBounds_toArray, List.set_cons_zero, List.set_cons_succ])
  obtain ⟨_, g20, c20, rfl, _⟩ := hv
  (refine LexW.pure (v := ?_) rfl rfl (fun w1 he => ?_) ?_; rotate_left; ( have e1 := he.cell HS0.out; have e2 := he.cell HS1.out; go_simp; rfl); simp only [Act.put, List.setIfInBounds_toArray, List.set_cons_zero, List.set_cons_succ])
  (refine LexW.rel rfl rfl (fun w1 he hdep => ?_) (fun v hv => ?_); ( obtain ⟨_, _, q20, r20⟩ : (SPred.ownS w.heap.size n1 (signL p revB xs1 n1)).holds (.slice (some ⟨g20, 0, none⟩) n1 c20) w1 := hdep (3, 20) (by decide +kernel); cases q20; exact ⟨.slice (some ⟨w1.heap.size, 0, none⟩) 2 2, w1.alloc (.cells #[.slice (some ⟨g20, 0, none⟩) n1 c20, .slice ax2 n1 cx2] 24), (by go_simp), ext_alloc _ _, _, rfl, rdR_two (a := (some ⟨g20, 0, none⟩)) (b := ax2) (n := n1) (m := n1) (ca := c20) (cb := cx2) (by simp) (by simp) ((r20.rd).ext (ext_alloc _ _)) ((HY.out.ext (GW.out.trans he)).ext (ext_alloc _ _))⟩); simp only [Act.put, List.setIfInBounds_toArray, List.set_cons_zero, List.set_cons_succ])
  obtain ⟨_, g22, rfl, _⟩ := hv
  (refine LexW.callR (f := ?_) (args := ?_) rfl rfl (fun w1 => ?_) (fun w1 he hdep => ?_) (fun v hv => ?_); rotate_left 2; (go_simp; refine ⟨?_, ?_⟩ <;> rfl); ( obtain ⟨_, q22, r22⟩ : (SPred.rows 2 [signL p revB xs1 n1, xs2]).holds (.slice (some ⟨g22, 0, none⟩) 2 2) w1 := hdep (5, 22) (by decide +kernel); cases q22; refine (c_timesN HN.out p a cap qs _ 2 2 [signL p revB xs1 n1, xs2] w1 (by omega) (by omega) (by omega) (by omega) (HQ.out.ext (GW.out.trans he)) HQB.out r22 (good_pair (sign_good (by omega) HGX.out) HGY.out)).mono ?_; rintro e w2 ⟨g, rfl, ho, g2⟩; exact ⟨_, rfl, g2, g, rfl, ho.mono (Nat.le_trans GW.out.size he.size)⟩); simp only [Act.put, List.setIfInBounds_toArray, List.set_cons_zero, List.set_cons_succ])
  obtain ⟨_, g23, rfl, _⟩ := hv
  (refine LexW.rel rfl rfl (fun w1 he hdep => ?_) (fun v hv => ?_); ( obtain ⟨_, q23, r23⟩ : (SPred.ownG w.heap.size n1 (timesL p qs [signL p revB xs1 n1, xs2])).holds (.slice (some ⟨g23, 0, none⟩) n1 n1) w1 := hdep (6, 23) (by decide +kernel); cases q23; exact ⟨.pointer (some ⟨g23, 0, none⟩), w1, (by go_simp), Ext.refl _, g23, 0, rfl, ((r23.cell hN1).trans (by rw [HV.out]))⟩); simp only [Act.put, List.setIfInBounds_toArray, List.set_cons_zero, List.set_cons_succ])
  obtain ⟨_, b24, o24, rfl, _⟩ := hv
  (refine LexW.relV rfl rfl (fun w1 he hdep => ?_) ?_; ( obtain ⟨_, _, q24, r24⟩ : (SPred.cell (V)).holds (.pointer (some ⟨b24, o24, none⟩)) w1 := hdep (7, 24) (by decide +kernel); cases q24; exact ⟨w1, (by go_simp), Ext.refl _⟩); simp only [Act.put, List.setIfInBounds_toArray, List.set_cons_zero, List.set_cons_succ])
  (refine LexW.pure (v := ?_) rfl rfl (fun w1 he => ?_) ?_; rotate_left; ( have e1 := he.cell HS0.out; have e2 := he.cell HS1.out; go_simp; rfl); simp only [Act.put, List.setIfInBounds_toArray, List.set_cons_zero, List.set_cons_succ])
  (refine LexW.pure (v := ?_) rfl rfl (fun w1 he => ?_) ?_; rotate_left; ( have e1 := he.cell HS0.out; have e2 := he.cell HS1.out; go_simp; rfl); simp only [Act.put, List.setIfInBounds_toArray, List.set_cons_zero, List.set_cons_succ])
  refine LexW.nil (fun w3 he hkn => ?_)
  have HE := Lib.hid (GW.out.trans he)
  clear he hkn 
  go_wp2_with (fail)
  go_ret2
  exact ⟨by rw [← HVV.out]; rfl, HE.out⟩

end Go.Proofs.Ytbgnfjckbjmgbaa
