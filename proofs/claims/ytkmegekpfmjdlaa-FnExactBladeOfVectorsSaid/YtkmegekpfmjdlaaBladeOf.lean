/-
  The listed function BladeOfVectors.
  No condition.
-/
import Derived.Test.YtkmegekpfmjdlaaCodesV
import Derived.Test.YtkmegekpfmjdlaaBasis
import Derived.Test.YtkmegekpfmjdlaaBasisS
import Derived.Test.YtkmegekpfmjdlaaRows3
namespace Go.Proofs.Ytkmegekpfmjdlaa
set_option maxRecDepth 100000
open Go.RowKit

def bladeV (p : Int) (qs : List Int) (rows : List (List Int)) : List Int := prodS p qs tkW (basisL p qs.length rows) (basisL p qs.length rows).length

set_option maxHeartbeats 1000000 in
theorem c_bladeOf {N d : Nat} (hN : N = 2 ^ d) (p : Int) (a : Option Addr) (cap : Nat) (qs : List Int) (al : Option Addr) (n cl : Nat) (rows : List (List Int)) (w : World) (hd : d ≤ 6) (hd1 : 1 ≤ d) (hpr : primeB p = true) (hl : n ≤ 4096) (hq : RdC w a d qs) (hqb : isB p qs = true) (hx : RdR w al n rows) (hg : RowsG p d rows) :
    Calls Try.prog 97 #[.agg #[.int .i64 p, .slice a d cap], .slice al n cl] w fun e w' => ∃ g rc, e = .returned (.slice (some ⟨g, 0, none⟩) N rc) ∧ OwnC w.heap.size w' (some ⟨g, 0, none⟩) N rc (bladeV p qs rows) ∧ Ext w w' := by
  have hpb := prime_bd hpr
  obtain ⟨cb, hbas⟩ := basis_red hpr hg
  have hdq := hq.1
  have hdl : 0 < qs.length := by omega
  have hbl : (basisL p qs.length rows).length ≤ 4194304 := by have := hbas.len; rw [hdq]; omega
  have HBG := Lib.hid (show RowsG p d (basisL p qs.length rows) by rw [hdq]; exact hbas.good)
  have HG := Lib.hid (show RowsG p qs.length rows by rw [hdq]; exact hg)
  have HN := Lib.hid hN
  have HPR := Lib.hid hpr
  have HQ := Lib.hid hq
  have HQB := Lib.hid hqb
  have HX := Lib.hid hx
  have hql6 : qs.length ≤ 6 := by omega
  clear hN hq hqb hx hg hpr hbas hdq
  obtain ⟨W, hW⟩ : ∃ W, W = w.alloc (.cells #[.int .i64 p, .slice a d cap] 30) := ⟨_, rfl⟩
  have gW : Ext w W := by rw [hW]; exact ext_alloc _ _
  have hs0 : W.cell? ⟨w.heap.size, 0, none⟩ = some (.int .i64 p) := by rw [hW]; simp
  have hs1 : W.cell? ⟨w.heap.size, 1, none⟩ = some (.slice a d cap) := by rw [hW]; simp
  have HS0 := Lib.hid ((ext_drew _).cell hs0)
  have HS1 := Lib.hid ((ext_drew _).cell hs1)
  have GW := Lib.hid (gW.trans (ext_drew _))
  have HW := Lib.hid hW
  clear hs0 hs1 gW hW
  go_enter Try.func97, Try.ntmps97
  go_wp2_with (fail)
  rw [← HW.out]
  refine wp_region_lex [(2, .val (.int .i64 p)), (4, .ownR w.heap.size (basisL p qs.length rows).length (basisL p qs.length rows)), (5, .ownG w.heap.size N (prodS p qs tkW (basisL p qs.length rows) (basisL p qs.length rows).length))] (by kernel_rfl) (by kernel_rfl) ?_
  (refine LexW.pure (v := ?_) rfl rfl (fun w1 he => ?_) ?_; rotate_left; ( have e1 := he.cell HS0.out; have e2 := he.cell HS1.out; go_simp; rfl); simp only [Act.put, List.setIfInBounds_toArray, List.set_cons_zero, List.set_cons_succ])
  (refine LexW.pure (v := ?_) rfl rfl (fun w1 he => ?_) ?_; rotate_left; ( have e1 := he.cell HS0.out; have e2 := he.cell HS1.out; go_simp; rfl); simp only [Act.put, List.setIfInBounds_toArray, List.set_cons_zero, List.set_cons_succ])
  (refine LexW.call (f := ?_) (args := ?_) rfl rfl (fun w1 => ?_) (fun w1 he hdep => ?_) ?_; rotate_left 2; (go_simp; refine ⟨?_, ?_⟩ <;> rfl); ( exact c_field p _ w1); simp only [Act.put, List.setIfInBounds_toArray, List.set_cons_zero, List.set_cons_succ])
  (refine LexW.pure (v := ?_) rfl rfl (fun w1 he => ?_) ?_; rotate_left; ( have e1 := he.cell HS0.out; have e2 := he.cell HS1.out; go_simp; rfl); simp only [Act.put, List.setIfInBounds_toArray, List.set_cons_zero, List.set_cons_succ])
  (refine LexW.callR (f := ?_) (args := ?_) rfl rfl (fun w1 => ?_) (fun w1 he hdep => ?_) (fun v hv => ?_); rotate_left 2; (go_simp; refine ⟨?_, ?_⟩ <;> rfl); ( refine (c_basis p al n cl qs.length rows w1 HPR.out hdl (by omega) hl (HX.out.ext (GW.out.trans he)) HG.out).mono ?_; rintro e w2 ⟨g, rc, r, rfl, ho, g2⟩; obtain rfl := ho.len; exact ⟨_, rfl, g2, g, rc, rfl, ho.mono (Nat.le_trans GW.out.size he.size)⟩); simp only [Act.put, List.setIfInBounds_toArray, List.set_cons_zero, List.set_cons_succ])
  obtain ⟨_, g9, c9, rfl, _⟩ := hv
  (refine LexW.callR (f := ?_) (args := ?_) rfl rfl (fun w1 => ?_) (fun w1 he hdep => ?_) (fun v hv => ?_); rotate_left 2; (go_simp; refine ⟨?_, ?_⟩ <;> rfl); ( obtain ⟨_, _, q9, r9⟩ : (SPred.ownR w.heap.size (basisL p qs.length rows).length (basisL p qs.length rows)).holds (.slice (some ⟨g9, 0, none⟩) (basisL p qs.length rows).length c9) w1 := hdep (4, 9) (by decide +kernel); cases q9; refine (c_wedgeAll HN.out p a cap qs _ _ _ (basisL p qs.length rows) w1 hd (by omega) (by omega) hbl (HQ.out.ext (GW.out.trans he)) HQB.out r9.rd HBG.out).mono ?_; rintro e w2 ⟨g, rfl, ho, g2⟩; exact ⟨_, rfl, g2, g, rfl, ho.mono (Nat.le_trans GW.out.size he.size)⟩); simp only [Act.put, List.setIfInBounds_toArray, List.set_cons_zero, List.set_cons_succ])
  obtain ⟨_, g10, rfl, _⟩ := hv
  (refine LexW.pure (v := ?_) rfl rfl (fun w1 he => ?_) ?_; rotate_left; ( have e1 := he.cell HS0.out; have e2 := he.cell HS1.out; go_simp; rfl); simp only [Act.put, List.setIfInBounds_toArray, List.set_cons_zero, List.set_cons_succ])
  refine LexW.nil (fun w3 he hkn => ?_)
  obtain ⟨_, q10, r10⟩ : (SPred.ownG w.heap.size N (prodS p qs tkW (basisL p qs.length rows) (basisL p qs.length rows).length)).holds (.slice (some ⟨g10, 0, none⟩) N N) w3 := hkn (5, _) (by simp)
  cases q10
  have R10 := Lib.hid r10
  have HE := Lib.hid (GW.out.trans he)
  clear he hkn r10
  go_wp2_with (fail)
  go_ret
  exact ⟨_, _, rfl, R10.out, HE.out⟩

set_option maxHeartbeats 1000000 in
theorem s_bladeOf {N d : Nat} (hN : N = 2 ^ d) (p : Int) (a : Option Addr) (cap : Nat) (qs : List Int) (al : Option Addr) (n cl : Nat) (rows : List (List Int)) (w : World) (hd : d ≤ 6) (hd1 : 1 ≤ d) (hpr : primeB p = true) (hl : n ≤ 4096) (hq : RdC w a d qs) (hqb : isB p qs = true) (hx : RdR w al n rows) (hg : RowsG p d rows) :
    Calls Try.prog 96 #[.agg #[.int .i64 p, .slice a d cap], .slice al n cl] w fun e w' => ∃ g rc, e = .returned (.slice (some ⟨g, 0, none⟩) N rc) ∧ OwnC w.heap.size w' (some ⟨g, 0, none⟩) N rc (bladeV p qs rows) ∧ Ext w w' := by
  have hpb := prime_bd hpr
  obtain ⟨cb, hbas⟩ := basis_red hpr hg
  have hdq := hq.1
  have hdl : 0 < qs.length := by omega
  have hbl : (basisL p qs.length rows).length ≤ 4194304 := by have := hbas.len; rw [hdq]; omega
  have HBG := Lib.hid (show RowsG p d (basisL p qs.length rows) by rw [hdq]; exact hbas.good)
  have HG := Lib.hid (show RowsG p qs.length rows by rw [hdq]; exact hg)
  have HN := Lib.hid hN
  have HPR := Lib.hid hpr
  have HQ := Lib.hid hq
  have HQB := Lib.hid hqb
  have HX := Lib.hid hx
  have hql6 : qs.length ≤ 6 := by omega
  clear hN hq hqb hx hg hpr hbas hdq
  obtain ⟨W, hW⟩ : ∃ W, W = w.alloc (.cells #[.int .i64 p, .slice a d cap] 30) := ⟨_, rfl⟩
  have gW : Ext w W := by rw [hW]; exact ext_alloc _ _
  have hs0 : W.cell? ⟨w.heap.size, 0, none⟩ = some (.int .i64 p) := by rw [hW]; simp
  have hs1 : W.cell? ⟨w.heap.size, 1, none⟩ = some (.slice a d cap) := by rw [hW]; simp
  have HS0 := Lib.hid ((ext_drew _).cell hs0)
  have HS1 := Lib.hid ((ext_drew _).cell hs1)
  have GW := Lib.hid (gW.trans (ext_drew _))
  have HW := Lib.hid hW
  clear hs0 hs1 gW hW
  go_enter Try.func96, Try.ntmps96
  go_wp2_with (fail)
  rw [← HW.out]
  refine wp_region_lex [(4, .ownR w.heap.size (basisL p qs.length rows).length (basisL p qs.length rows)), (5, .ownG w.heap.size N (prodS p qs tkW (basisL p qs.length rows) (basisL p qs.length rows).length))] (by kernel_rfl) (by kernel_rfl) ?_
  (refine LexW.pure (v := ?_) rfl rfl (fun w1 he => ?_) ?_; rotate_left; ( have e1 := he.cell HS0.out; have e2 := he.cell HS1.out; go_simp; rfl); simp only [Act.put, List.setIfInBounds_toArray, List.set_cons_zero, List.set_cons_succ])
  (refine LexW.pure (v := ?_) rfl rfl (fun w1 he => ?_) ?_; rotate_left; ( have e1 := he.cell HS0.out; have e2 := he.cell HS1.out; go_simp; rfl); simp only [Act.put, List.setIfInBounds_toArray, List.set_cons_zero, List.set_cons_succ])
  (refine LexW.pure (v := ?_) rfl rfl (fun w1 he => ?_) ?_; rotate_left; ( have e1 := he.cell HS0.out; have e2 := he.cell HS1.out; go_simp; rfl); simp only [Act.put, List.setIfInBounds_toArray, List.set_cons_zero, List.set_cons_succ])
  (refine LexW.pure (v := ?_) rfl rfl (fun w1 he => ?_) ?_; rotate_left; ( have e1 := he.cell HS0.out; have e2 := he.cell HS1.out; go_simp; rfl); simp only [Act.put, List.setIfInBounds_toArray, List.set_cons_zero, List.set_cons_succ])
  (refine LexW.callR (f := ?_) (args := ?_) rfl rfl (fun w1 => ?_) (fun w1 he hdep => ?_) (fun v hv => ?_); rotate_left 2; (go_simp; refine ⟨?_, ?_⟩ <;> rfl); ( refine (s_basis p al n cl qs.length rows w1 HPR.out hdl (by omega) hl (HX.out.ext (GW.out.trans he)) HG.out).mono ?_; rintro e w2 ⟨g, rc, r, rfl, ho, g2⟩; obtain rfl := ho.len; exact ⟨_, rfl, g2, g, rc, rfl, ho.mono (Nat.le_trans GW.out.size he.size)⟩); simp only [Act.put, List.setIfInBounds_toArray, List.set_cons_zero, List.set_cons_succ])
  obtain ⟨_, g9, c9, rfl, _⟩ := hv
  (refine LexW.callR (f := ?_) (args := ?_) rfl rfl (fun w1 => ?_) (fun w1 he hdep => ?_) (fun v hv => ?_); rotate_left 2; (go_simp; refine ⟨?_, ?_⟩ <;> rfl); ( obtain ⟨_, _, q9, r9⟩ : (SPred.ownR w.heap.size (basisL p qs.length rows).length (basisL p qs.length rows)).holds (.slice (some ⟨g9, 0, none⟩) (basisL p qs.length rows).length c9) w1 := hdep (4, 9) (by decide +kernel); cases q9; refine (s_wedgeAll HN.out p a cap qs _ _ _ (basisL p qs.length rows) w1 hd (by omega) (by omega) hbl (HQ.out.ext (GW.out.trans he)) HQB.out r9.rd HBG.out).mono ?_; rintro e w2 ⟨g, rfl, ho, g2⟩; exact ⟨_, rfl, g2, g, rfl, ho.mono (Nat.le_trans GW.out.size he.size)⟩); simp only [Act.put, List.setIfInBounds_toArray, List.set_cons_zero, List.set_cons_succ])
  obtain ⟨_, g10, rfl, _⟩ := hv
  (refine LexW.pure (v := ?_) rfl rfl (fun w1 he => ?_) ?_; rotate_left; ( have e1 := he.cell HS0.out; have e2 := he.cell HS1.out; go_simp; rfl); simp only [Act.put, List.setIfInBounds_toArray, List.set_cons_zero, List.set_cons_succ])
  refine LexW.nil (fun w3 he hkn => ?_)
  obtain ⟨_, q10, r10⟩ : (SPred.ownG w.heap.size N (prodS p qs tkW (basisL p qs.length rows) (basisL p qs.length rows).length)).holds (.slice (some ⟨g10, 0, none⟩) N N) w3 := hkn (5, _) (by simp)
  cases q10
  have R10 := Lib.hid r10
  have HE := Lib.hid (GW.out.trans he)
  clear he hkn r10
  go_wp2_with (fail)
  go_ret
  exact ⟨_, _, rfl, R10.out, HE.out⟩

set_option maxHeartbeats 400000 in
theorem c_BladeOfVectors_bad (p : Int) (a : Option Addr) (d cap : Nat) (qs : List Int) (ax1 : Option Addr) (n1 cx1 : Nat) (xs1 : List (List Int)) (w : World) (hd : d ≤ 4194304) (hn1 : n1 ≤ 4194304) (hr1 : ∀ i, i < n1 → (nthR xs1 i).length ≤ 4194304) (hq : RdC w a d qs) (hx1 : RdR w ax1 n1 xs1) (hc : codeVR p qs xs1 ≠ 0) :
    Calls Try.prog 52 #[.agg #[.int .i64 p, .slice a d cap], .slice ax1 n1 cx1] w fun e w' => ∃ ra rc, e = .returned (.tuple #[.slice ra 0 rc, .int .i64 (codeVR p qs xs1)]) ∧ OwnC w.heap.size w' ra 0 rc [] ∧ Ext w w' := by
  have Hr := Lib.hid hr1
  have hcb : (codeVR p qs xs1 != 0) = true := by simp [hc]
  clear hc hr1
  go_enter Try.func52, Try.ntmps52
  go_wp2_with (go_at_call 64; refine (c_checkList p a d cap qs ax1 n1 cx1 xs1 _ hd hn1 Hr.out (hq.ext (ext_alloc _ _)) (hx1.ext (ext_alloc _ _))).mono ?_; rintro e w1 ⟨rfl, g1⟩)
  go_ret2
  exact ⟨none, 0, rfl, own_nil _ _, (ext_alloc _ _).trans g1⟩
set_option maxHeartbeats 1000000 in
theorem c_BladeOfVectors_ok (p : Int) (a : Option Addr) (d cap : Nat) (qs : List Int) (ax1 : Option Addr) (n1 cx1 : Nat) (xs1 : List (List Int)) (w : World) (hd : d ≤ 4194304) (hn1 : n1 ≤ 4194304) (hr1 : ∀ i, i < n1 → (nthR xs1 i).length ≤ 4194304) (hq : RdC w a d qs) (hx1 : RdR w ax1 n1 xs1) (hc : codeVR p qs xs1 = 0) :
    Calls Try.prog 52 #[.agg #[.int .i64 p, .slice a d cap], .slice ax1 n1 cx1] w fun e w' => ∃ ra rc, e = .returned (.tuple #[.slice ra (2 ^ d) rc, .int .i64 0]) ∧ OwnC w.heap.size w' ra (2 ^ d) rc (bladeV p qs xs1) ∧ Ext w w' := by
  have Hr := Lib.hid hr1
  obtain ⟨N, hN⟩ : ∃ N, N = 2 ^ d := ⟨_, rfl⟩
  rw [← hN]
  obtain ⟨hs, ha, h16⟩ := codeVR_zero hc
  obtain ⟨hpr, hd1, hd6, hqb⟩ := space_of hs
  have hpb := prime_bd hpr
  rw [hq.1] at hd6 ha hd1
  rw [hx1.1] at h16
  have HG := Lib.hid (rows_good ha)
  have HQB := Lib.hid hqb
  have HPR := Lib.hid hpr
  have HN := Lib.hid hN
  have HC := Lib.hid hc
  have hcb : ((0 : Int) != 0) = false := by simp
  clear hc hr1 hs ha hpr hqb hN
  go_enter Try.func52, Try.ntmps52
  go_wp2_with (first | (go_at_call 64; refine (c_checkList p a d cap qs ax1 n1 cx1 xs1 _ hd hn1 Hr.out (hq.ext (ext_alloc _ _)) (hx1.ext (ext_alloc _ _))).mono ?_; rintro e w1 ⟨rfl, g1⟩; rw [HC.out]; have hcc := Ext.cells g1; try simp only [World.size_alloc] at hcc) | (go_at_call 97; refine (c_bladeOf HN.out p a cap qs ax1 n1 cx1 xs1 _ (by omega) (by omega) HPR.out (by omega) (hq.ext ((ext_alloc _ _).trans g1)) HQB.out (hx1.ext ((ext_alloc _ _).trans g1)) HG.out).mono ?_; rintro e w2 ⟨g, rc, rfl, ho, g2⟩; have HO := Lib.hid ho; have G2 := Lib.hid (((ext_alloc _ _).trans g1).trans g2); have HB := Lib.hid (((ext_alloc _ _).trans g1).size); clear ho g2))
  go_ret2
  exact ⟨_, _, rfl, HO.out.mono HB.out, G2.out⟩

set_option maxHeartbeats 400000 in
theorem s_BladeOfVectors_bad (p : Int) (a : Option Addr) (d cap : Nat) (qs : List Int) (ax1 : Option Addr) (n1 cx1 : Nat) (xs1 : List (List Int)) (w : World) (hd : d ≤ 4194304) (hn1 : n1 ≤ 4194304) (hr1 : ∀ i, i < n1 → (nthR xs1 i).length ≤ 4194304) (hq : RdC w a d qs) (hx1 : RdR w ax1 n1 xs1) (hc : codeVR p qs xs1 ≠ 0) :
    Calls Try.prog 51 #[.agg #[.int .i64 p, .slice a d cap], .slice ax1 n1 cx1] w fun e w' => ∃ ra rc, e = .returned (.tuple #[.slice ra 0 rc, .int .i64 (codeVR p qs xs1)]) ∧ OwnC w.heap.size w' ra 0 rc [] ∧ Ext w w' := by
  have Hr := Lib.hid hr1
  have hcb : (codeVR p qs xs1 != 0) = true := by simp [hc]
  clear hc hr1
  go_enter Try.func51, Try.ntmps51
  go_wp2_with (go_at_call 62; refine (s_list p a d cap qs ax1 n1 cx1 xs1 _ hd hn1 Hr.out (hq.ext (ext_alloc _ _)) (hx1.ext (ext_alloc _ _))).mono ?_; rintro e w1 ⟨rfl, g1⟩)
  go_ret2
  exact ⟨none, 0, rfl, own_nil _ _, (ext_alloc _ _).trans g1⟩
set_option maxHeartbeats 1000000 in
theorem s_BladeOfVectors_ok (p : Int) (a : Option Addr) (d cap : Nat) (qs : List Int) (ax1 : Option Addr) (n1 cx1 : Nat) (xs1 : List (List Int)) (w : World) (hd : d ≤ 4194304) (hn1 : n1 ≤ 4194304) (hr1 : ∀ i, i < n1 → (nthR xs1 i).length ≤ 4194304) (hq : RdC w a d qs) (hx1 : RdR w ax1 n1 xs1) (hc : codeVR p qs xs1 = 0) :
    Calls Try.prog 51 #[.agg #[.int .i64 p, .slice a d cap], .slice ax1 n1 cx1] w fun e w' => ∃ ra rc, e = .returned (.tuple #[.slice ra (2 ^ d) rc, .int .i64 0]) ∧ OwnC w.heap.size w' ra (2 ^ d) rc (bladeV p qs xs1) ∧ Ext w w' := by
  have Hr := Lib.hid hr1
  obtain ⟨N, hN⟩ : ∃ N, N = 2 ^ d := ⟨_, rfl⟩
  rw [← hN]
  obtain ⟨hs, ha, h16⟩ := codeVR_zero hc
  obtain ⟨hpr, hd1, hd6, hqb⟩ := space_of hs
  have hpb := prime_bd hpr
  rw [hq.1] at hd6 ha hd1
  rw [hx1.1] at h16
  have HG := Lib.hid (rows_good ha)
  have HQB := Lib.hid hqb
  have HPR := Lib.hid hpr
  have HN := Lib.hid hN
  have HC := Lib.hid hc
  have hcb : ((0 : Int) != 0) = false := by simp
  clear hc hr1 hs ha hpr hqb hN
  go_enter Try.func51, Try.ntmps51
  go_wp2_with (first | (go_at_call 62; refine (s_list p a d cap qs ax1 n1 cx1 xs1 _ hd hn1 Hr.out (hq.ext (ext_alloc _ _)) (hx1.ext (ext_alloc _ _))).mono ?_; rintro e w1 ⟨rfl, g1⟩; rw [HC.out]; have hcc := Ext.cells g1; try simp only [World.size_alloc] at hcc) | (go_at_call 96; refine (s_bladeOf HN.out p a cap qs ax1 n1 cx1 xs1 _ (by omega) (by omega) HPR.out (by omega) (hq.ext ((ext_alloc _ _).trans g1)) HQB.out (hx1.ext ((ext_alloc _ _).trans g1)) HG.out).mono ?_; rintro e w2 ⟨g, rc, rfl, ho, g2⟩; have HO := Lib.hid ho; have G2 := Lib.hid (((ext_alloc _ _).trans g1).trans g2); have HB := Lib.hid (((ext_alloc _ _).trans g1).size); clear ho g2))
  go_ret2
  exact ⟨_, _, rfl, HO.out.mono HB.out, G2.out⟩

end Go.Proofs.Ytkmegekpfmjdlaa
