/-
  The listed function LeftAnnihilatorOf.
  No condition.
-/
import Derived.Test.YthimjfnmpicbiaaMat
import Derived.Test.YthimjfnmpicbiaaKernelS
namespace Go.Proofs.Ythimjfnmpicbiaa
set_option maxRecDepth 100000
open Go.RowKit

def annL (p : Int) (qs x : List Int) : List (List Int) := kernL p (2 ^ qs.length) (matM p qs x false)
theorem cntR_rows {p : Int} {N : Nat} {rows : List (List Int)} (hg : RowsG p N rows) (hN : N ≤ 64) : ∀ k, k ≤ rows.length → cntR rows k ≤ 64 * k
  | 0, _ => by simp [cntR]
  | k + 1, hk => by
    have h1 := cntR_rows hg hN k (by omega)
    have h2 := (hg k (by omega)).1
    unfold cntR
    omega
theorem ann_cnt {p : Int} {qs x : List Int} (hp : primeB p = true) (hq : qs.length ≤ 6) : (annL p qs x).length ≤ 1048576 ∧ cntR (annL p qs x) (annL p qs x).length ≤ 1048576 := by
  have h := kernL_cnt (n := 2 ^ qs.length) (rows := matM p qs x false) hp
  have h64 := pow_le64 hq
  have hl : (annL p qs x).length ≤ 64 := by have := h.1; unfold annL; omega
  have := cntR_rows (rows := annL p qs x) h.2 h64 _ (Nat.le_refl _)
  omega

set_option maxHeartbeats 400000 in
theorem c_LeftAnnihilatorOf_bad (p : Int) (a : Option Addr) (d cap : Nat) (qs : List Int) (ax1 : Option Addr) (n1 cx1 : Nat) (xs1 : List Int) (w : World) (hd : d ≤ 4194304) (hn1 : n1 ≤ 4194304) (hq : RdC w a d qs) (hx1 : RdC w ax1 n1 xs1) (hc : codeA p qs [xs1] ≠ 0) :
    Calls Try.prog 34 #[.agg #[.int .i64 p, .slice a d cap], .slice ax1 n1 cx1] w fun e w' => ∃ ra rc, e = .returned (.tuple #[.slice ra 0 rc, .int .i64 (codeA p qs [xs1])]) ∧ OwnR w.heap.size w' ra 0 rc [] ∧ Ext w w' := by
  have hcb : (codeA p qs [xs1] != 0) = true := by simp [hc]
  clear hc
  go_enter Try.func34, Try.ntmps34
  go_wp2_with (go_at_call 98; refine (c_checkAlgebra p a d cap qs _ 1 _ [xs1] _ hd (by omega) (len_one (by rw [hx1.1]; exact hn1)) (hq.ext ((ext_alloc _ _).alloc _)) (rdR_one (a := ax1) (n := _) (cap := cx1) (by simp) (hx1.ext ((ext_alloc _ _).alloc _)))).mono ?_; rintro e w1 ⟨rfl, g1⟩)
  go_ret2
  exact ⟨none, 0, rfl, OwnR.nil _ _, ((ext_alloc _ _).alloc _).trans g1⟩
set_option maxHeartbeats 4000000 in
theorem c_LeftAnnihilatorOf_ok (p : Int) (a : Option Addr) (d cap : Nat) (qs : List Int) (ax1 : Option Addr) (n1 cx1 : Nat) (xs1 : List Int) (w : World) (hd : d ≤ 4194304) (hn1 : n1 ≤ 4194304) (hq : RdC w a d qs) (hx1 : RdC w ax1 n1 xs1) (hc : codeA p qs [xs1] = 0) :
    Calls Try.prog 34 #[.agg #[.int .i64 p, .slice a d cap], .slice ax1 n1 cx1] w fun e w' => ∃ ra rc, e = .returned (.tuple #[.slice ra (annL p qs xs1).length rc, .int .i64 0]) ∧ OwnR w.heap.size w' ra (annL p qs xs1).length rc (annL p qs xs1) ∧ Ext w w' := by
  obtain ⟨hcm, hq4⟩ := codeA_zero hc
  obtain ⟨hs, hm⟩ := codeM_one hcm
  obtain ⟨hpr, hd1, hd6, hqb⟩ := space_of hs
  have hpb := prime_bd hpr
  obtain ⟨hxl, hxb⟩ := multi_of hm
  have hN0 := hx1.1.symm.trans hxl
  rw [hq.1] at hd6 hxl
  have hN : n1 = 2 ^ d := hx1.1.symm.trans hxl
  have HN := Lib.hid hN
  have hn64 : n1 ≤ 64 := by rw [HN.out]; exact pow_le64 hd6
  have hnp : 0 < n1 := by rw [HN.out]; exact pow_pos' d
  have hwd : wrap64 (2 ^ d) = (n1 : Int) := by rw [hN]; exact pow_wrap hd6
  have hwd2 : IntKind.i64.wrap (2 ^ d) = (n1 : Int) := by rw [hN]; exact pow_wrapI hd6
  have HD := Lib.hid hN0
  have HQB := Lib.hid hqb
  have HPR := Lib.hid hpr
  have HGX := Lib.hid (good_isB hx1.1 hxb)
  have HMG : Hid (RowsG p n1 (matM p qs xs1 false)) := Lib.hid (by rw [HD.out]; exact matM_good (by omega))
  have HAN : Hid (annL p qs xs1 = (kernL p n1 (matM p qs xs1 false))) := Lib.hid (by unfold annL; rw [HD.out])
  have HC := Lib.hid hc
  have HQ := Lib.hid hq
  have HX := Lib.hid hx1
  have hcb : ((0 : Int) != 0) = false := by simp
  clear hc hcm hq4 hs hm hpr hd1 hqb hxl hxb hN0 hN
  go_enter Try.func34, Try.ntmps34
  go_wp2_with (go_at_call 98; refine (c_checkAlgebra p a d cap qs _ 1 _ [xs1] _ hd (by omega) (len_one (by rw [hx1.1]; exact hn1)) (hq.ext ((ext_alloc _ _).alloc _)) (rdR_one (a := ax1) (n := _) (cap := cx1) (by simp) (hx1.ext ((ext_alloc _ _).alloc _)))).mono ?_; rintro e w1 ⟨rfl, g1⟩; rw [HC.out]; have hq0 : w1.cell? ⟨w.heap.size, 0, none⟩ = some (.int .i64 p) := g1.cell (by simp); have hq1 : w1.cell? ⟨w.heap.size, 1, none⟩ = some (.slice a d cap) := g1.cell (by simp))
  have HS0 := Lib.hid ((ext_drew _).cell hq0)
  have HS1 := Lib.hid ((ext_drew _).cell hq1)
  have GW := Lib.hid ((((ext_alloc w (.cells #[.int .i64 p, .slice a d cap] 30)).alloc (.cells #[.slice ax1 n1 cx1] 22)).trans g1).trans (ext_drew _))
  clear g1 hq0 hq1 hq hx1
  refine wp_region_lex [(1, .val (.int .i64 p)), (4, .ownR w.heap.size n1 (matM p qs xs1 false)), (6, .val (.int .i64 d)), (8, .ownR w.heap.size (kernL p n1 (matM p qs xs1 false)).length ((kernL p n1 (matM p qs xs1 false))))] (by kernel_rfl) (by kernel_rfl) ?_
  (refine LexW.pure (v := ?_) rfl rfl (fun w1 he => ?_) ?_; rotate_left; ( have e1 := he.cell HS0.out; have e2 := he.cell HS1.out; go_simp; rfl); simp only [Act.put, List.setIfInBounds_toArray, List.set_cons_zero, List.set_cons_succ])
  (refine LexW.call (f := ?_) (args := ?_) rfl rfl (fun w1 => ?_) (fun w1 he hdep => ?_) ?_; rotate_left 2; (go_simp; refine ⟨?_, ?_⟩ <;> rfl); ( exact c_field p _ w1); simp only [Act.put, List.setIfInBounds_toArray, List.set_cons_zero, List.set_cons_succ])
  (refine LexW.pure (v := ?_) rfl rfl (fun w1 he => ?_) ?_; rotate_left; ( have e1 := he.cell HS0.out; have e2 := he.cell HS1.out; go_simp; rfl); simp only [Act.put, List.setIfInBounds_toArray, List.set_cons_zero, List.set_cons_succ])
  (refine LexW.pure (v := ?_) rfl rfl (fun w1 he => ?_) ?_; rotate_left; ( have e1 := he.cell HS0.out; have e2 := he.cell HS1.out; go_simp; rfl); simp only [Act.put, List.setIfInBounds_toArray, List.set_cons_zero, List.set_cons_succ])
  (refine LexW.callR (f := ?_) (args := ?_) rfl rfl (fun w1 => ?_) (fun w1 he hdep => ?_) (fun v hv => ?_); rotate_left 2; (go_simp; refine ⟨?_, ?_⟩ <;> rfl); ( refine (c_rightMatrix HN.out p a cap qs ax1 cx1 xs1 w1 (by omega) (by omega) (by omega) (HQ.out.ext (GW.out.trans he)) HQB.out (HX.out.ext (GW.out.trans he)) HGX.out).mono ?_; rintro e w2 ⟨g, rc, rfl, ho, g2⟩; exact ⟨_, rfl, g2, g, rc, rfl, ho.mono (Nat.le_trans GW.out.size he.size)⟩); simp only [Act.put, List.setIfInBounds_toArray, List.set_cons_zero, List.set_cons_succ])
  obtain ⟨_, g18, c18, rfl, _⟩ := hv
  (refine LexW.pure (v := ?_) rfl rfl (fun w1 he => ?_) ?_; rotate_left; ( have e1 := he.cell HS0.out; have e2 := he.cell HS1.out; go_simp; rfl); simp only [Act.put, List.setIfInBounds_toArray, List.set_cons_zero, List.set_cons_succ])
  (refine LexW.call (f := ?_) (args := ?_) rfl rfl (fun w1 => ?_) (fun w1 he hdep => ?_) ?_; rotate_left 2; (go_simp; refine ⟨?_, ?_⟩ <;> rfl); ( exact c_dim _ _ _ _ _); simp only [Act.put, List.setIfInBounds_toArray, List.set_cons_zero, List.set_cons_succ])
  (refine LexW.pure (v := ?_) rfl rfl (fun w1 he => ?_) ?_; rotate_left; ( have e1 := he.cell HS0.out; have e2 := he.cell HS1.out; go_simp; rfl); simp only [Act.put, List.setIfInBounds_toArray, List.set_cons_zero, List.set_cons_succ])
  (refine LexW.callR (f := ?_) (args := ?_) rfl rfl (fun w1 => ?_) (fun w1 he hdep => ?_) (fun v hv => ?_); rotate_left 2; (go_simp; refine ⟨?_, ?_⟩ <;> rfl); ( obtain ⟨_, _, q18, r18⟩ : (SPred.ownR w.heap.size n1 (matM p qs xs1 false)).holds (.slice (some ⟨g18, 0, none⟩) n1 c18) w1 := hdep (4, 18) (by decide +kernel); cases q18; refine (c_kernel p _ n1 _ n1 (matM p qs xs1 false) w1 HPR.out hnp (by omega) (by omega) r18.rd HMG.out).mono ?_; rintro e w2 ⟨g, rc, rfl, ho, g2⟩; exact ⟨_, rfl, g2, g, rc, rfl, ho.mono (Nat.le_trans GW.out.size he.size)⟩); simp only [Act.put, List.setIfInBounds_toArray, List.set_cons_zero, List.set_cons_succ])
  obtain ⟨_, g22, c22, rfl, _⟩ := hv
  (refine LexW.pure (v := ?_) rfl rfl (fun w1 he => ?_) ?_; rotate_left; ( have e1 := he.cell HS0.out; have e2 := he.cell HS1.out; go_simp; rfl); simp only [Act.put, List.setIfInBounds_toArray, List.set_cons_zero, List.set_cons_succ])
  (refine LexW.pure (v := ?_) rfl rfl (fun w1 he => ?_) ?_; rotate_left; ( have e1 := he.cell HS0.out; have e2 := he.cell HS1.out; go_simp; rfl); simp only [Act.put, List.setIfInBounds_toArray, List.set_cons_zero, List.set_cons_succ])
  refine LexW.nil (fun w3 he hkn => ?_)
  obtain ⟨_, _, q22, r22⟩ : (SPred.ownR w.heap.size (kernL p n1 (matM p qs xs1 false)).length ((kernL p n1 (matM p qs xs1 false)))).holds (.slice (some ⟨g22, 0, none⟩) (kernL p n1 (matM p qs xs1 false)).length c22) w3 := hkn (8, _) (by simp)
  cases q22
  have R22 := Lib.hid r22
  have HE := Lib.hid (GW.out.trans he)
  clear he hkn r22
  go_wp2_with (fail)
  go_ret2
  rw [HAN.out]
  exact ⟨_, _, rfl, R22.out, HE.out⟩

set_option maxHeartbeats 400000 in
theorem s_LeftAnnihilatorOf_bad (p : Int) (a : Option Addr) (d cap : Nat) (qs : List Int) (ax1 : Option Addr) (n1 cx1 : Nat) (xs1 : List Int) (w : World) (hd : d ≤ 4194304) (hn1 : n1 ≤ 4194304) (hq : RdC w a d qs) (hx1 : RdC w ax1 n1 xs1) (hc : codeA p qs [xs1] ≠ 0) :
    Calls Try.prog 33 #[.agg #[.int .i64 p, .slice a d cap], .slice ax1 n1 cx1] w fun e w' => ∃ ra rc, e = .returned (.tuple #[.slice ra 0 rc, .int .i64 (codeA p qs [xs1])]) ∧ OwnR w.heap.size w' ra 0 rc [] ∧ Ext w w' := by
  have hcb : (codeA p qs [xs1] != 0) = true := by simp [hc]
  clear hc
  go_enter Try.func33, Try.ntmps33
  go_wp2_with (go_at_call 95; refine (s_code9 p a d cap qs _ 1 _ [xs1] _ hd (by omega) (len_one (by rw [hx1.1]; exact hn1)) (hq.ext ((ext_alloc _ _).alloc _)) (rdR_one (a := ax1) (n := _) (cap := cx1) (by simp) (hx1.ext ((ext_alloc _ _).alloc _)))).mono ?_; rintro e w1 ⟨rfl, g1⟩)
  go_ret2
  exact ⟨none, 0, rfl, OwnR.nil _ _, ((ext_alloc _ _).alloc _).trans g1⟩
set_option maxHeartbeats 4000000 in
theorem s_LeftAnnihilatorOf_ok (p : Int) (a : Option Addr) (d cap : Nat) (qs : List Int) (ax1 : Option Addr) (n1 cx1 : Nat) (xs1 : List Int) (w : World) (hd : d ≤ 4194304) (hn1 : n1 ≤ 4194304) (hq : RdC w a d qs) (hx1 : RdC w ax1 n1 xs1) (hc : codeA p qs [xs1] = 0) :
    Calls Try.prog 33 #[.agg #[.int .i64 p, .slice a d cap], .slice ax1 n1 cx1] w fun e w' => ∃ ra rc, e = .returned (.tuple #[.slice ra (annL p qs xs1).length rc, .int .i64 0]) ∧ OwnR w.heap.size w' ra (annL p qs xs1).length rc (annL p qs xs1) ∧ Ext w w' := by
  obtain ⟨hcm, hq4⟩ := codeA_zero hc
  obtain ⟨hs, hm⟩ := codeM_one hcm
  obtain ⟨hpr, hd1, hd6, hqb⟩ := space_of hs
  have hpb := prime_bd hpr
  obtain ⟨hxl, hxb⟩ := multi_of hm
  have hN0 := hx1.1.symm.trans hxl
  rw [hq.1] at hd6 hxl
  have hN : n1 = 2 ^ d := hx1.1.symm.trans hxl
  have HN := Lib.hid hN
  have hn64 : n1 ≤ 64 := by rw [HN.out]; exact pow_le64 hd6
  have hnp : 0 < n1 := by rw [HN.out]; exact pow_pos' d
  have hwd : wrap64 (2 ^ d) = (n1 : Int) := by rw [hN]; exact pow_wrap hd6
  have hwd2 : IntKind.i64.wrap (2 ^ d) = (n1 : Int) := by rw [hN]; exact pow_wrapI hd6
  have HD := Lib.hid hN0
  have HQB := Lib.hid hqb
  have HPR := Lib.hid hpr
  have HGX := Lib.hid (good_isB hx1.1 hxb)
  have HMG : Hid (RowsG p n1 (matM p qs xs1 false)) := Lib.hid (by rw [HD.out]; exact matM_good (by omega))
  have HAN : Hid (annL p qs xs1 = (kernL p n1 (matM p qs xs1 false))) := Lib.hid (by unfold annL; rw [HD.out])
  have HC := Lib.hid hc
  have HQ := Lib.hid hq
  have HX := Lib.hid hx1
  have hcb : ((0 : Int) != 0) = false := by simp
  clear hc hcm hq4 hs hm hpr hd1 hqb hxl hxb hN0 hN
  go_enter Try.func33, Try.ntmps33
  go_wp2_with (go_at_call 95; refine (s_code9 p a d cap qs _ 1 _ [xs1] _ hd (by omega) (len_one (by rw [hx1.1]; exact hn1)) (hq.ext ((ext_alloc _ _).alloc _)) (rdR_one (a := ax1) (n := _) (cap := cx1) (by simp) (hx1.ext ((ext_alloc _ _).alloc _)))).mono ?_; rintro e w1 ⟨rfl, g1⟩; rw [HC.out]; have hq0 : w1.cell? ⟨w.heap.size, 0, none⟩ = some (.int .i64 p) := g1.cell (by simp); have hq1 : w1.cell? ⟨w.heap.size, 1, none⟩ = some (.slice a d cap) := g1.cell (by simp))
  have HS0 := Lib.hid ((ext_drew _).cell hq0)
  have HS1 := Lib.hid ((ext_drew _).cell hq1)
  have GW := Lib.hid ((((ext_alloc w (.cells #[.int .i64 p, .slice a d cap] 30)).alloc (.cells #[.slice ax1 n1 cx1] 22)).trans g1).trans (ext_drew _))
  clear g1 hq0 hq1 hq hx1
  refine wp_region_lex [(4, .ownR w.heap.size n1 (matM p qs xs1 false)), (5, .ownR w.heap.size (kernL p n1 (matM p qs xs1 false)).length ((kernL p n1 (matM p qs xs1 false))))] (by kernel_rfl) (by kernel_rfl) ?_
  (refine LexW.pure (v := ?_) rfl rfl (fun w1 he => ?_) ?_; rotate_left; ( have e1 := he.cell HS0.out; have e2 := he.cell HS1.out; go_simp; rfl); simp only [Act.put, List.setIfInBounds_toArray, List.set_cons_zero, List.set_cons_succ])
  (refine LexW.pure (v := ?_) rfl rfl (fun w1 he => ?_) ?_; rotate_left; ( have e1 := he.cell HS0.out; have e2 := he.cell HS1.out; go_simp; rfl); simp only [Act.put, List.setIfInBounds_toArray, List.set_cons_zero, List.set_cons_succ])
  (refine LexW.pure (v := ?_) rfl rfl (fun w1 he => ?_) ?_; rotate_left; ( have e1 := he.cell HS0.out; have e2 := he.cell HS1.out; go_simp; rfl); simp only [Act.put, List.setIfInBounds_toArray, List.set_cons_zero, List.set_cons_succ])
  (refine LexW.pure (v := ?_) rfl rfl (fun w1 he => ?_) ?_; rotate_left; ( have e1 := he.cell HS0.out; have e2 := he.cell HS1.out; go_simp; rfl); simp only [Act.put, List.setIfInBounds_toArray, List.set_cons_zero, List.set_cons_succ])
  (refine LexW.callR (f := ?_) (args := ?_) rfl rfl (fun w1 => ?_) (fun w1 he hdep => ?_) (fun v hv => ?_); rotate_left 2; (go_simp; refine ⟨?_, ?_⟩ <;> rfl); ( refine (s_rightMatrix HN.out p a cap qs ax1 cx1 xs1 w1 (by omega) (by omega) (by omega) (HQ.out.ext (GW.out.trans he)) HQB.out (HX.out.ext (GW.out.trans he)) HGX.out).mono ?_; rintro e w2 ⟨g, rc, rfl, ho, g2⟩; exact ⟨_, rfl, g2, g, rc, rfl, ho.mono (Nat.le_trans GW.out.size he.size)⟩); simp only [Act.put, List.setIfInBounds_toArray, List.set_cons_zero, List.set_cons_succ])
  obtain ⟨_, g18, c18, rfl, _⟩ := hv
  (refine LexW.callR (f := ?_) (args := ?_) rfl rfl (fun w1 => ?_) (fun w1 he hdep => ?_) (fun v hv => ?_); rotate_left 2; (go_simp; refine ⟨?_, ?_⟩ <;> rfl); ( obtain ⟨_, _, q18, r18⟩ : (SPred.ownR w.heap.size n1 (matM p qs xs1 false)).holds (.slice (some ⟨g18, 0, none⟩) n1 c18) w1 := hdep (4, 18) (by decide +kernel); cases q18; refine (s_kernel p _ n1 _ n1 (matM p qs xs1 false) w1 HPR.out hnp hnp (by omega) (by omega) r18.rd HMG.out).mono ?_; rintro e w2 ⟨g, rc, rfl, ho, g2⟩; exact ⟨_, rfl, g2, g, rc, rfl, ho.mono (Nat.le_trans GW.out.size he.size)⟩); simp only [Act.put, List.setIfInBounds_toArray, List.set_cons_zero, List.set_cons_succ])
  obtain ⟨_, g19, c19, rfl, _⟩ := hv
  (refine LexW.pure (v := ?_) rfl rfl (fun w1 he => ?_) ?_; rotate_left; ( have e1 := he.cell HS0.out; have e2 := he.cell HS1.out; go_simp; rfl); simp only [Act.put, List.setIfInBounds_toArray, List.set_cons_zero, List.set_cons_succ])
  (refine LexW.pure (v := ?_) rfl rfl (fun w1 he => ?_) ?_; rotate_left; ( have e1 := he.cell HS0.out; have e2 := he.cell HS1.out; go_simp; rfl); simp only [Act.put, List.setIfInBounds_toArray, List.set_cons_zero, List.set_cons_succ])
  refine LexW.nil (fun w3 he hkn => ?_)
  obtain ⟨_, _, q19, r19⟩ : (SPred.ownR w.heap.size (kernL p n1 (matM p qs xs1 false)).length ((kernL p n1 (matM p qs xs1 false)))).holds (.slice (some ⟨g19, 0, none⟩) (kernL p n1 (matM p qs xs1 false)).length c19) w3 := hkn (5, _) (by simp)
  cases q19
  have R19 := Lib.hid r19
  have HE := Lib.hid (GW.out.trans he)
  clear he hkn r19
  go_wp2_with (fail)
  go_ret2
  rw [HAN.out]
  exact ⟨_, _, rfl, R19.out, HE.out⟩

end Go.Proofs.Ythimjfnmpicbiaa
