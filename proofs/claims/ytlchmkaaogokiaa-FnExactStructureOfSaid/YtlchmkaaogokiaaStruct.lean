/-
  The listed functions StructureOf, MinimalIdealSize.
  No condition.
-/
import Derived.Test.YtlchmkaaogokiaaIdem
import Derived.Test.YtlchmkaaogokiaaRegular
import Derived.Test.YtlchmkaaogokiaaPsq
import Derived.Test.YtlchmkaaogokiaaRoot
import Derived.Test.YtlchmkaaogokiaaVersC
namespace Go.Proofs.Ytlchmkaaogokiaa
set_option maxRecDepth 100000
open Go.RowKit

def codeAR (p : Int) (qs : List Int) : Int := if codeA p qs [] = 0 then (if regB qs = true then 0 else 5) else codeA p qs []
theorem codeAR_zero {p : Int} {qs : List Int} (h : codeAR p qs = 0) : codeA p qs [] = 0 ∧ regB qs = true := by
  unfold codeAR at h
  split at h
  · rename_i hm
    split at h
    · rename_i hr; exact ⟨hm, hr⟩
    · omega
  · rename_i hm; exact absurd h hm
theorem codeA_nil {p : Int} {qs : List Int} (h : codeA p qs [] = 0) : spaceB p qs = true ∧ qs.length ≤ 4 := by
  obtain ⟨hm, h4⟩ := codeA_zero h
  refine ⟨?_, h4⟩
  unfold codeM at hm
  cases hs : spaceB p qs
  · simp [hs] at hm
  · rfl
def strB (p : Int) (qs : List Int) : Int := if qs.length % 2 = 0 then 1 else if rootB p (sqFull p qs) = true then 2 else 1
def strR (qs : List Int) : Int := ((2 ^ (qs.length / 2) : Nat) : Int)
def strD (p : Int) (qs : List Int) : Int := if qs.length % 2 = 0 then 1 else if rootB p (sqFull p qs) = true then 1 else 2
theorem rem_even {d : Nat} (hd : d ≤ 4) (h : d % 2 = 0) : (((d : Int)) % 2 == 0) = true := by
  have : ∀ d : Nat, d ≤ 4 → d % 2 = 0 → (((d : Int)) % 2 == 0) = true := by decide +kernel
  exact this d hd h
theorem rem_odd {d : Nat} (hd : d ≤ 4) (h : ¬ d % 2 = 0) : (((d : Int)) % 2 == 0) = false := by
  have : ∀ d : Nat, d ≤ 4 → ¬ d % 2 = 0 → (((d : Int)) % 2 == 0) = false := by decide +kernel
  exact this d hd h
theorem results_tmp4 {fn : Func} {t u v x : Tmp} (h : fn.results = #[.tmp t, .tmp u, .tmp v, .tmp x]) (tmps : Array Value) (P : Program) (w : World) :
    (results fn tmps).run P w = .ok (.tuple #[tmps.getD t undef, tmps.getD u undef, tmps.getD v undef, tmps.getD x undef]) w := by
  simp [results, h]

set_option maxHeartbeats 1000000 in
theorem c_StructureOf_bad (p : Int) (a : Option Addr) (d cap : Nat) (qs : List Int) (w : World) (hd : d ≤ 4194304) (hq : RdC w a d qs) (hc : codeAR p qs ≠ 0) :
    Calls Try.prog 27 #[.agg #[.int .i64 p, .slice a d cap]] w fun e w' => e = .returned (.tuple #[.int .i64 0, .int .i64 0, .int .i64 0, .int .i64 (codeAR p qs)]) ∧ Ext w w' := by
  by_cases hca : codeA p qs [] = 0
  · have hr : regB qs = false := by
      cases h : regB qs
      · rfl
      · exact absurd (by simp [codeAR, hca, h]) hc
    have HC := Lib.hid (show codeAR p qs = 5 by simp [codeAR, hca, hr])
    have HRG := Lib.hid hr
    have HCA := Lib.hid hca
    have HQ := Lib.hid hq
    have hcb : ((0 : Int) != 0) = false := by simp
    clear hc hca hr hq
    go_enter Try.func27, Try.ntmps27
    go_wp2_with (first | (go_at_call 58; refine (c_checkAlgebra p a d cap qs none 0 0 [] _ hd (by omega) (fun i hi => absurd hi (Nat.not_lt_zero _)) (HQ.out.ext (ext_alloc _ _)) (rdR_nil _)).mono ?_; rintro e w1 ⟨rfl, g1⟩; rw [HCA.out]; have hcc := Ext.cells g1; try simp only [World.size_alloc] at hcc) | (go_at_call 66; refine (c_regular p a d cap qs _ hd (HQ.out.ext ((ext_alloc _ _).trans g1))).mono ?_; rintro e w2 ⟨rfl, g2⟩; rw [HRG.out]))
    ((try simp only [Exit.inBlock, Exit.then]); refine bodyPost_ret (results_tmp4 rfl _ _ _) rfl ?_)
    exact ⟨by rw [HC.out]; rfl, (ext_alloc _ _).trans (g1.trans g2)⟩
  · have HC := Lib.hid (show codeAR p qs = codeA p qs [] by simp [codeAR, hca])
    have hcb : (codeA p qs [] != 0) = true := by simp [hca]
    clear hc hca
    go_enter Try.func27, Try.ntmps27
    go_wp2_with (go_at_call 58; refine (c_checkAlgebra p a d cap qs none 0 0 [] _ hd (by omega) (fun i hi => absurd hi (Nat.not_lt_zero _)) (hq.ext (ext_alloc _ _)) (rdR_nil _)).mono ?_; rintro e w1 ⟨rfl, g1⟩)
    ((try simp only [Exit.inBlock, Exit.then]); refine bodyPost_ret (results_tmp4 rfl _ _ _) rfl ?_)
    exact ⟨by rw [HC.out]; rfl, (ext_alloc _ _).trans g1⟩
set_option maxHeartbeats 4000000 in
theorem c_StructureOf_ok (p : Int) (a : Option Addr) (d cap : Nat) (qs : List Int) (w : World) (hd : d ≤ 4194304) (hq : RdC w a d qs) (hc : codeAR p qs = 0) :
    Calls Try.prog 27 #[.agg #[.int .i64 p, .slice a d cap]] w fun e w' => e = .returned (.tuple #[.int .i64 (strB p qs), .int .i64 (strR qs), .int .i64 (strD p qs), .int .i64 0]) ∧ Ext w w' := by
  obtain ⟨hca, hr⟩ := codeAR_zero hc
  obtain ⟨hs, h4⟩ := codeA_nil hca
  obtain ⟨hpr, hd1, hd6, hqb⟩ := space_of hs
  have hpb := prime_bd hpr
  rw [hq.1] at h4 hd1 hd6
  have HQB := Lib.hid hqb
  have HPR := Lib.hid hpr
  have HQ := Lib.hid hq
  have HCA := Lib.hid hca
  have HDR := Lib.hid (disc_reg hpr hqb)
  have hdl := hq.1
  have HRG := Lib.hid hr
  have hcb : ((0 : Int) != 0) = false := by simp
  have hpi : IntKind.i64.wrap (2 ^ (d / 2)) = ((2 ^ (d / 2) : Nat) : Int) := pow_wrapI (by omega)
  have hpw : wrap64 (2 ^ (d / 2)) = ((2 ^ (d / 2) : Nat) : Int) := pow_wrap (by omega)
  have HR := Lib.hid (show strR qs = ((2 ^ (d / 2) : Nat) : Int) by unfold strR; rw [hdl])
  obtain ⟨S, hS⟩ : ∃ S, S = sqFull p qs := ⟨_, rfl⟩
  have HSq := Lib.hid hS
  obtain ⟨M, hM⟩ : ∃ M, M = 2 ^ (d / 2) := ⟨_, rfl⟩
  rw [← hM] at hpi hpw HR
  clear hS
  clear hc hca hr hq hs hpr hqb
  by_cases hev : d % 2 = 0
  · have hevb := rem_even h4 hev
    have HB := Lib.hid (show strB p qs = 1 ∧ strD p qs = 1 by unfold strB strD; rw [hdl, if_pos hev, if_pos hev]; exact ⟨rfl, rfl⟩)
    clear hev hM hdl
    go_enter Try.func27, Try.ntmps27
    go_wp2_with (first | (go_at_call 58; refine (c_checkAlgebra p a d cap qs none 0 0 [] _ hd (by omega) (fun i hi => absurd hi (Nat.not_lt_zero _)) (HQ.out.ext (ext_alloc _ _)) (rdR_nil _)).mono ?_; rintro e w1 ⟨rfl, g1⟩; rw [HCA.out]; have hcc := Ext.cells g1; try simp only [World.size_alloc] at hcc) | (go_at_call 66; refine (c_regular p a d cap qs _ hd (HQ.out.ext ((ext_alloc _ _).trans g1))).mono ?_; rintro e w2 ⟨rfl, g2⟩; rw [HRG.out]; have hcc2 := Ext.cells (g1.trans g2); try simp only [World.size_alloc] at hcc2) | (go_at_call 60; refine (c_dim _ _ _ _ _).mono ?_; rintro e w3 ⟨rfl, g3⟩; first | (have G4 := Lib.hid (G3.out.trans g3); clear g3) | (have G3 := Lib.hid ((ext_alloc _ _).trans ((g1.trans g2).trans g3)); have hcc3 := Ext.cells ((g1.trans g2).trans g3); try simp only [World.size_alloc] at hcc3)))
    ((try simp only [Exit.inBlock, Exit.then]); refine bodyPost_ret (results_tmp4 rfl _ _ _) rfl ?_)
    exact ⟨by rw [HB.out.1, HB.out.2, HR.out]; rfl, G4.out⟩
  · have hevb := rem_odd h4 hev
    obtain ⟨r, hrr⟩ : ∃ r, r = rootB p S := ⟨_, rfl⟩
    have HRR := Lib.hid hrr
    have HB := Lib.hid (show strB p qs = (if r = true then 2 else 1) ∧ strD p qs = (if r = true then 1 else 2) by unfold strB strD; rw [hdl, if_neg hev, if_neg hev, hrr, HSq.out]; exact ⟨rfl, rfl⟩)
    clear hev hM hdl hrr
    go_enter Try.func27, Try.ntmps27
    go_wp2_with (first | (go_at_call 58; refine (c_checkAlgebra p a d cap qs none 0 0 [] _ hd (by omega) (fun i hi => absurd hi (Nat.not_lt_zero _)) (HQ.out.ext (ext_alloc _ _)) (rdR_nil _)).mono ?_; rintro e w1 ⟨rfl, g1⟩; rw [HCA.out]; have hcc := Ext.cells g1; try simp only [World.size_alloc] at hcc) | (go_at_call 66; refine (c_regular p a d cap qs _ hd (HQ.out.ext ((ext_alloc _ _).trans g1))).mono ?_; rintro e w2 ⟨rfl, g2⟩; rw [HRG.out]; have hcc2 := Ext.cells (g1.trans g2); try simp only [World.size_alloc] at hcc2) | (go_at_call 60; refine (c_dim _ _ _ _ _).mono ?_; rintro e w3 ⟨rfl, g3⟩; first | (have G4 := Lib.hid (G3.out.trans g3); have T0 := Lib.hid (((ext_drew _).cell (g3.cell T30.out))); have T1 := Lib.hid (((ext_drew _).cell (g3.cell T31.out))); clear g3) | (have G3 := Lib.hid ((ext_alloc _ _).trans ((g1.trans g2).trans g3)); have hcc3 := Ext.cells ((g1.trans g2).trans g3); try simp only [World.size_alloc] at hcc3; have T30 : Hid (w3.cell? ⟨w.heap.size, 0, none⟩ = some (.int .i64 p)) := Lib.hid (((g1.trans g2).trans g3).cell (by simp)); have T31 : Hid (w3.cell? ⟨w.heap.size, 1, none⟩ = some (.slice a d cap)) := Lib.hid (((g1.trans g2).trans g3).cell (by simp)))))
    have GW := Lib.hid (G4.out.trans (ext_drew _))
    refine wp_region_lex [(1, .val (.int .i64 p)), (3, .val (.int .i64 S)), (4, .val (.bool r))] (by kernel_rfl) (by kernel_rfl) ?_
    (refine LexW.pure (v := ?_) rfl rfl (fun w1 he => ?_) ?_; rotate_left; ( have e1 := he.cell T0.out; have e2 := he.cell T1.out; go_simp; rfl); simp only [Act.put, List.setIfInBounds_toArray, List.set_cons_zero, List.set_cons_succ])
    (refine LexW.call (f := ?_) (args := ?_) rfl rfl (fun w1 => ?_) (fun w1 he hdep => ?_) ?_; rotate_left 2; (go_simp; refine ⟨?_, ?_⟩ <;> rfl); ( exact c_field _ _ _); simp only [Act.put, List.setIfInBounds_toArray, List.set_cons_zero, List.set_cons_succ])
    (refine LexW.pure (v := ?_) rfl rfl (fun w1 he => ?_) ?_; rotate_left; ( have e1 := he.cell T0.out; have e2 := he.cell T1.out; go_simp; rfl); simp only [Act.put, List.setIfInBounds_toArray, List.set_cons_zero, List.set_cons_succ])
    (refine LexW.call (f := ?_) (args := ?_) rfl rfl (fun w1 => ?_) (fun w1 he hdep => ?_) ?_; rotate_left 2; (go_simp; refine ⟨?_, ?_⟩ <;> rfl); ( rw [HSq.out]; exact c_fullSquare p a d cap qs w1 (by omega) (by omega) (by omega) (HQ.out.ext (GW.out.trans he)) HQB.out); simp only [Act.put, List.setIfInBounds_toArray, List.set_cons_zero, List.set_cons_succ])
    (refine LexW.call (f := ?_) (args := ?_) rfl rfl (fun w1 => ?_) (fun w1 he hdep => ?_) ?_; rotate_left 2; (go_simp; refine ⟨?_, ?_⟩ <;> rfl); ( rw [HRR.out]; exact c_isSquare p S w1 (by omega) (by omega)); simp only [Act.put, List.setIfInBounds_toArray, List.set_cons_zero, List.set_cons_succ])
    (refine LexW.pure (v := ?_) rfl rfl (fun w1 he => ?_) ?_; rotate_left; ( have e1 := he.cell T0.out; have e2 := he.cell T1.out; go_simp; rfl); simp only [Act.put, List.setIfInBounds_toArray, List.set_cons_zero, List.set_cons_succ])
    refine LexW.nil (fun w3 he hkn => ?_)
    have HE := Lib.hid (GW.out.trans he)
    clear he hkn 
    cases r
    all_goals
      go_wp2_with (fail)
      ((try simp only [Exit.inBlock, Exit.then]); refine bodyPost_ret (results_tmp4 rfl _ _ _) rfl ?_)
      exact ⟨by rw [HB.out.1, HB.out.2, HR.out]; rfl, HE.out⟩

set_option maxHeartbeats 4000000 in
theorem s_structure (p : Int) (a : Option Addr) (d cap : Nat) (qs : List Int) (w : World) (hd : d ≤ 4194304) (hq : RdC w a d qs) (h4 : d ≤ 4) (hpr : primeB p = true) (hqb : isB p qs = true) :
    Calls Try.prog 65 #[.agg #[.int .i64 p, .slice a d cap]] w fun e w' => e = .returned (.tuple #[.int .i64 (strB p qs), .int .i64 (strR qs), .int .i64 (strD p qs)]) ∧ Ext w w' := by
  have hpb := prime_bd hpr
  have HQB := Lib.hid hqb
  have HQ := Lib.hid hq
  have hdl := hq.1
  have hpi : IntKind.i64.wrap (2 ^ (d / 2)) = ((2 ^ (d / 2) : Nat) : Int) := pow_wrapI (by omega)
  have hpw : wrap64 (2 ^ (d / 2)) = ((2 ^ (d / 2) : Nat) : Int) := pow_wrap (by omega)
  have HR := Lib.hid (show strR qs = ((2 ^ (d / 2) : Nat) : Int) by unfold strR; rw [hdl])
  obtain ⟨S, hS⟩ : ∃ S, S = sqFull p qs := ⟨_, rfl⟩
  have HSq := Lib.hid hS
  obtain ⟨M, hM⟩ : ∃ M, M = 2 ^ (d / 2) := ⟨_, rfl⟩
  rw [← hM] at hpi hpw HR
  clear hS
  have hcv := conv_u (d / 2) (by omega)
  clear hq hqb hpr
  obtain ⟨W, hW⟩ : ∃ W, W = w.alloc (.cells #[.int .i64 p, .slice a d cap] 28) := ⟨_, rfl⟩
  have gW : Ext w W := by rw [hW]; exact ext_alloc _ _
  have hs0 : W.cell? ⟨w.heap.size, 0, none⟩ = some (.int .i64 p) := by rw [hW]; simp
  have hs1 : W.cell? ⟨w.heap.size, 1, none⟩ = some (.slice a d cap) := by rw [hW]; simp
  have HS0 := Lib.hid ((ext_drew _).cell hs0)
  have HS1 := Lib.hid ((ext_drew _).cell hs1)
  have GW := Lib.hid (gW.trans (ext_drew _))
  have HW := Lib.hid hW
  clear hs0 hs1 gW hW
  by_cases hev : d % 2 = 0
  · have hevb := rem_even h4 hev
    have HB := Lib.hid (show strB p qs = 1 ∧ strD p qs = 1 by unfold strB strD; rw [hdl, if_pos hev, if_pos hev]; exact ⟨rfl, rfl⟩)
    clear hev hM hdl
    go_enter Try.func65, Try.ntmps65
    go_wp2_with (fail)
    go_ret3
    exact ⟨by rw [HB.out.1, HB.out.2, HR.out, ← hpw]; rfl, ext_alloc _ _⟩
  · have hevb := rem_odd h4 hev
    have HB := Lib.hid (show strB p qs = (if rootB p S = true then 2 else 1) ∧ strD p qs = (if rootB p S = true then 1 else 2) by unfold strB strD; rw [hdl, if_neg hev, if_neg hev, HSq.out]; exact ⟨rfl, rfl⟩)
    obtain ⟨I, hI⟩ : ∃ I, I = rootI p S := ⟨_, rfl⟩
    have HI := Lib.hid hI
    clear hev hM hdl hI
    go_enter Try.func65, Try.ntmps65
    go_wp2_with (fail)
    rw [← HW.out]
    refine wp_region_lex [(3, .val (.int .i64 S)), (4, .val (.int .i64 I))] (by kernel_rfl) (by kernel_rfl) ?_
    (refine LexW.pure (v := ?_) rfl rfl (fun w1 he => ?_) ?_; rotate_left; ( have e1 := he.cell HS0.out; have e2 := he.cell HS1.out; go_simp; rfl); simp only [Act.put, List.setIfInBounds_toArray, List.set_cons_zero, List.set_cons_succ])
    (refine LexW.pure (v := ?_) rfl rfl (fun w1 he => ?_) ?_; rotate_left; ( have e1 := he.cell HS0.out; have e2 := he.cell HS1.out; go_simp; rfl); simp only [Act.put, List.setIfInBounds_toArray, List.set_cons_zero, List.set_cons_succ])
    (refine LexW.pure (v := ?_) rfl rfl (fun w1 he => ?_) ?_; rotate_left; ( have e1 := he.cell HS0.out; have e2 := he.cell HS1.out; go_simp; rfl); simp only [Act.put, List.setIfInBounds_toArray, List.set_cons_zero, List.set_cons_succ])
    (refine LexW.call (f := ?_) (args := ?_) rfl rfl (fun w1 => ?_) (fun w1 he hdep => ?_) ?_; rotate_left 2; (go_simp; refine ⟨?_, ?_⟩ <;> rfl); ( rw [HSq.out]; exact s_square p a d cap qs w1 (by omega) (by omega) (by omega) (HQ.out.ext (GW.out.trans he)) HQB.out); simp only [Act.put, List.setIfInBounds_toArray, List.set_cons_zero, List.set_cons_succ])
    (refine LexW.call (f := ?_) (args := ?_) rfl rfl (fun w1 => ?_) (fun w1 he hdep => ?_) ?_; rotate_left 2; (go_simp; refine ⟨?_, ?_⟩ <;> rfl); ( rw [HI.out]; exact s_root p S w1 (by omega) (by omega)); simp only [Act.put, List.setIfInBounds_toArray, List.set_cons_zero, List.set_cons_succ])
    (refine LexW.pure (v := ?_) rfl rfl (fun w1 he => ?_) ?_; rotate_left; ( have e1 := he.cell HS0.out; have e2 := he.cell HS1.out; go_simp; rfl); simp only [Act.put, List.setIfInBounds_toArray, List.set_cons_zero, List.set_cons_succ])
    refine LexW.nil (fun w3 he hkn => ?_)
    have HE := Lib.hid (GW.out.trans he)
    clear he hkn 
    by_cases hI0 : 0 ≤ I
    · have HBt := Lib.hid (show rootB p S = true by rw [← rootI_dec, ← HI.out]; exact hI0)
      go_wp2_with (fail)
      go_ret3
      exact ⟨by rw [HB.out.1, HB.out.2, HR.out, HBt.out, ← hpw]; rfl, HE.out⟩
    · have HBt := Lib.hid (show ¬ rootB p S = true by rw [← rootI_dec, ← HI.out]; exact hI0)
      go_wp2_with (fail)
      go_ret3
      exact ⟨by rw [HB.out.1, HB.out.2, HR.out, if_neg HBt.out, if_neg HBt.out, ← hpw]; rfl, HE.out⟩

set_option maxHeartbeats 2000000 in
theorem s_StructureOf_bad (p : Int) (a : Option Addr) (d cap : Nat) (qs : List Int) (w : World) (hd : d ≤ 4194304) (hq : RdC w a d qs) (hc : codeAR p qs ≠ 0) :
    Calls Try.prog 26 #[.agg #[.int .i64 p, .slice a d cap]] w fun e w' => e = .returned (.tuple #[.int .i64 0, .int .i64 0, .int .i64 0, .int .i64 (codeAR p qs)]) ∧ Ext w w' := by
  by_cases hca : codeA p qs [] = 0
  · have hr : regB qs = false := by
      cases h : regB qs
      · rfl
      · exact absurd (by simp [codeAR, hca, h]) hc
    have HC := Lib.hid (show codeAR p qs = 5 by simp [codeAR, hca, hr])
    have hcb : ((0 : Int) != 0) = false := by simp
    have hcb2 : ((0 : Int) == 0) = true := by simp
    obtain ⟨hs, h4⟩ := codeA_nil hca
    obtain ⟨hpr, hd1, hd6, hqb⟩ := space_of hs
    have hpb := prime_bd hpr
    rw [hq.1] at h4 hd1 hd6
    have HQB := Lib.hid hqb
    have HPR := Lib.hid hpr
    have HQ := Lib.hid hq
    have HCA := Lib.hid hca
    have HDR := Lib.hid (disc_reg hpr hqb)
    have hdl := hq.1
    have hdb : (discL p qs == 0) = true := by rw [HDR.out, hr]; rfl
    clear hc hca hr hq hs hpr hqb
    go_enter Try.func26, Try.ntmps26
    go_wp2_with (first | (go_at_call 54; refine (s_code9 p a d cap qs none 0 0 [] _ hd (by omega) (fun i hi => absurd hi (Nat.not_lt_zero _)) (HQ.out.ext (ext_alloc _ _)) (rdR_nil _)).mono ?_; rintro e w1 ⟨rfl, g1⟩; rw [HCA.out]; have hcc := Ext.cells g1; try simp only [World.size_alloc] at hcc) | (go_at_call 64; refine (s_disc p a d cap qs _ (by omega) (by omega) (by omega) (HQ.out.ext ((ext_alloc _ _).trans g1)) HQB.out).mono ?_; rintro e w2 ⟨rfl, g2⟩; have hcc2 := Ext.cells (g1.trans g2); try simp only [World.size_alloc] at hcc2))
    ((try simp only [Exit.inBlock, Exit.then]); refine bodyPost_ret (results_tmp4 rfl _ _ _) rfl ?_)
    exact ⟨by rw [HC.out]; rfl, (ext_alloc _ _).trans (g1.trans g2)⟩
  · have HC := Lib.hid (show codeAR p qs = codeA p qs [] by simp [codeAR, hca])
    have hcb : (codeA p qs [] != 0) = true := by simp [hca]
    have hcb2 : (codeA p qs [] == 0) = false := by simp [hca]
    clear hc hca
    go_enter Try.func26, Try.ntmps26
    go_wp2_with (go_at_call 54; refine (s_code9 p a d cap qs none 0 0 [] _ hd (by omega) (fun i hi => absurd hi (Nat.not_lt_zero _)) (hq.ext (ext_alloc _ _)) (rdR_nil _)).mono ?_; rintro e w1 ⟨rfl, g1⟩)
    ((try simp only [Exit.inBlock, Exit.then]); refine bodyPost_ret (results_tmp4 rfl _ _ _) rfl ?_)
    exact ⟨by rw [HC.out]; rfl, (ext_alloc _ _).trans g1⟩
set_option maxHeartbeats 4000000 in
theorem s_StructureOf_ok (p : Int) (a : Option Addr) (d cap : Nat) (qs : List Int) (w : World) (hd : d ≤ 4194304) (hq : RdC w a d qs) (hc : codeAR p qs = 0) :
    Calls Try.prog 26 #[.agg #[.int .i64 p, .slice a d cap]] w fun e w' => e = .returned (.tuple #[.int .i64 (strB p qs), .int .i64 (strR qs), .int .i64 (strD p qs), .int .i64 0]) ∧ Ext w w' := by
  obtain ⟨hca, hr⟩ := codeAR_zero hc
  obtain ⟨hs, h4⟩ := codeA_nil hca
  obtain ⟨hpr, hd1, hd6, hqb⟩ := space_of hs
  have hpb := prime_bd hpr
  rw [hq.1] at h4 hd1 hd6
  have HQB := Lib.hid hqb
  have HPR := Lib.hid hpr
  have HQ := Lib.hid hq
  have HCA := Lib.hid hca
  have HDR := Lib.hid (disc_reg hpr hqb)
  have hdl := hq.1
  have hdb : (discL p qs == 0) = false := by rw [HDR.out, hr]; rfl
  have hcb : ((0 : Int) != 0) = false := by simp
  have hcb2 : ((0 : Int) == 0) = true := by simp
  obtain ⟨SB, hSB⟩ : ∃ x, x = strB p qs := ⟨_, rfl⟩
  obtain ⟨SR, hSR⟩ : ∃ x, x = strR qs := ⟨_, rfl⟩
  obtain ⟨SD, hSD⟩ : ∃ x, x = strD p qs := ⟨_, rfl⟩
  rw [← hSB, ← hSR, ← hSD]
  have HSB := Lib.hid hSB
  have HSR := Lib.hid hSR
  have HSD := Lib.hid hSD
  clear hc hca hr hq hs hpr hqb hSB hSR hSD
  go_enter Try.func26, Try.ntmps26
  go_wp2_with (first | (go_at_call 54; refine (s_code9 p a d cap qs none 0 0 [] _ hd (by omega) (fun i hi => absurd hi (Nat.not_lt_zero _)) (HQ.out.ext (ext_alloc _ _)) (rdR_nil _)).mono ?_; rintro e w1 ⟨rfl, g1⟩; rw [HCA.out]; have hcc := Ext.cells g1; try simp only [World.size_alloc] at hcc) | (go_at_call 64; refine (s_disc p a d cap qs _ (by omega) (by omega) (by omega) (HQ.out.ext ((ext_alloc _ _).trans g1)) HQB.out).mono ?_; rintro e w2 ⟨rfl, g2⟩; have hcc2 := Ext.cells (g1.trans g2); try simp only [World.size_alloc] at hcc2) | (go_at_call 65; refine (s_structure p a d cap qs _ hd (HQ.out.ext ((ext_alloc _ _).trans (g1.trans g2))) h4 HPR.out HQB.out).mono ?_; rintro e w3 ⟨rfl, g3⟩; rw [← HSB.out, ← HSR.out, ← HSD.out]))
  ((try simp only [Exit.inBlock, Exit.then]); refine bodyPost_ret (results_tmp4 rfl _ _ _) rfl ?_)
  exact ⟨rfl, (ext_alloc _ _).trans ((g1.trans g2).trans g3)⟩

set_option maxHeartbeats 1000000 in
theorem c_MinimalIdealSize_bad (p : Int) (a : Option Addr) (d cap : Nat) (qs : List Int) (w : World) (hd : d ≤ 4194304) (hq : RdC w a d qs) (hc : codeAR p qs ≠ 0) :
    Calls Try.prog 25 #[.agg #[.int .i64 p, .slice a d cap]] w fun e w' => e = .returned (.tuple #[.int .i64 0, .int .i64 (codeAR p qs)]) ∧ Ext w w' := by
  go_enter Try.func25, Try.ntmps25
  go_wp2_with (go_at_call 27; refine (c_StructureOf_bad p a d cap qs _ hd (hq.ext (ext_alloc _ _)) hc).mono ?_; rintro e w1 ⟨rfl, g1⟩)
  go_ret2
  exact ⟨rfl, (ext_alloc _ _).trans g1⟩
set_option maxHeartbeats 1000000 in
theorem c_MinimalIdealSize_ok (p : Int) (a : Option Addr) (d cap : Nat) (qs : List Int) (w : World) (hd : d ≤ 4194304) (hq : RdC w a d qs) (hc : codeAR p qs = 0) :
    Calls Try.prog 25 #[.agg #[.int .i64 p, .slice a d cap]] w fun e w' => e = .returned (.tuple #[.int .i64 (strR qs * strD p qs), .int .i64 0]) ∧ Ext w w' := by
  obtain ⟨SB, hSB⟩ : ∃ x, x = strB p qs := ⟨_, rfl⟩
  obtain ⟨SR, hSR⟩ : ∃ x, x = strR qs := ⟨_, rfl⟩
  obtain ⟨SD, hSD⟩ : ∃ x, x = strD p qs := ⟨_, rfl⟩
  have hb : IntKind.i64.wrap (SR * SD) = SR * SD := by
    refine IntWalk.i64_in _ ?_
    obtain ⟨hca, hr⟩ := codeAR_zero hc
    obtain ⟨hs, h4⟩ := codeA_nil hca
    have h1 : ∀ d : Nat, d ≤ 4 → 0 ≤ ((2 ^ (d / 2) : Nat) : Int) ∧ ((2 ^ (d / 2) : Nat) : Int) ≤ 4 := by decide +kernel
    have h2 := h1 _ h4
    have h3 : SR = ((2 ^ (qs.length / 2) : Nat) : Int) := hSR
    rw [← h3] at h2
    have h5 : SD = 1 ∨ SD = 2 := by rw [hSD]; unfold strD; split; exact .inl rfl; split; exact .inl rfl; exact .inr rfl
    rcases h5 with h5 | h5 <;> rw [h5] <;> constructor <;> omega
  rw [← hSR, ← hSD]
  have HSB := Lib.hid hSB
  have HSR := Lib.hid hSR
  have HSD := Lib.hid hSD
  clear hSB hSR hSD
  go_enter Try.func25, Try.ntmps25
  go_wp2_with (go_at_call 27; refine (c_StructureOf_ok p a d cap qs _ hd (hq.ext (ext_alloc _ _)) hc).mono ?_; rintro e w1 ⟨rfl, g1⟩; rw [← HSB.out, ← HSR.out, ← HSD.out])
  go_ret2
  exact ⟨rfl, (ext_alloc _ _).trans g1⟩

set_option maxHeartbeats 1000000 in
theorem s_MinimalIdealSize_bad (p : Int) (a : Option Addr) (d cap : Nat) (qs : List Int) (w : World) (hd : d ≤ 4194304) (hq : RdC w a d qs) (hc : codeAR p qs ≠ 0) :
    Calls Try.prog 24 #[.agg #[.int .i64 p, .slice a d cap]] w fun e w' => e = .returned (.tuple #[.int .i64 0, .int .i64 (codeAR p qs)]) ∧ Ext w w' := by
  go_enter Try.func24, Try.ntmps24
  go_wp2_with (go_at_call 26; refine (s_StructureOf_bad p a d cap qs _ hd (hq.ext (ext_alloc _ _)) hc).mono ?_; rintro e w1 ⟨rfl, g1⟩)
  go_ret2
  exact ⟨rfl, (ext_alloc _ _).trans g1⟩
set_option maxHeartbeats 1000000 in
theorem s_MinimalIdealSize_ok (p : Int) (a : Option Addr) (d cap : Nat) (qs : List Int) (w : World) (hd : d ≤ 4194304) (hq : RdC w a d qs) (hc : codeAR p qs = 0) :
    Calls Try.prog 24 #[.agg #[.int .i64 p, .slice a d cap]] w fun e w' => e = .returned (.tuple #[.int .i64 (strR qs * strD p qs), .int .i64 0]) ∧ Ext w w' := by
  obtain ⟨SB, hSB⟩ : ∃ x, x = strB p qs := ⟨_, rfl⟩
  obtain ⟨SR, hSR⟩ : ∃ x, x = strR qs := ⟨_, rfl⟩
  obtain ⟨SD, hSD⟩ : ∃ x, x = strD p qs := ⟨_, rfl⟩
  have hb : IntKind.i64.wrap (SR * SD) = SR * SD := by
    refine IntWalk.i64_in _ ?_
    obtain ⟨hca, hr⟩ := codeAR_zero hc
    obtain ⟨hs, h4⟩ := codeA_nil hca
    have h1 : ∀ d : Nat, d ≤ 4 → 0 ≤ ((2 ^ (d / 2) : Nat) : Int) ∧ ((2 ^ (d / 2) : Nat) : Int) ≤ 4 := by decide +kernel
    have h2 := h1 _ h4
    have h3 : SR = ((2 ^ (qs.length / 2) : Nat) : Int) := hSR
    rw [← h3] at h2
    have h5 : SD = 1 ∨ SD = 2 := by rw [hSD]; unfold strD; split; exact .inl rfl; split; exact .inl rfl; exact .inr rfl
    rcases h5 with h5 | h5 <;> rw [h5] <;> constructor <;> omega
  rw [← hSR, ← hSD]
  have HSB := Lib.hid hSB
  have HSR := Lib.hid hSR
  have HSD := Lib.hid hSD
  clear hSB hSR hSD
  go_enter Try.func24, Try.ntmps24
  go_wp2_with (go_at_call 26; refine (s_StructureOf_ok p a d cap qs _ hd (hq.ext (ext_alloc _ _)) hc).mono ?_; rintro e w1 ⟨rfl, g1⟩; rw [← HSB.out, ← HSR.out, ← HSD.out])
  go_ret2
  exact ⟨rfl, (ext_alloc _ _).trans g1⟩

end Go.Proofs.Ytlchmkaaogokiaa
