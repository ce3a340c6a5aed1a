/-
  The listed function VersorOf.
  No condition.
-/
import Derived.Test.YtkmegekpfmjdlaaNorm
import Derived.Test.YtkmegekpfmjdlaaRegular
namespace Go.Proofs.Ytkmegekpfmjdlaa
set_option maxRecDepth 100000
open Go.RowKit

/-- No vector of norm 0. -/
def noNullB (p : Int) (qs : List Int) (rows : List (List Int)) : Bool := rows.all fun v => pairL p qs v v qs.length != 0
def codeVers (p : Int) (qs : List Int) (rows : List (List Int)) : Int := if codeVR p qs rows = 0 then (if (regB qs && noNullB p qs rows) = true then 0 else 5) else codeVR p qs rows
theorem codeVers_zero {p : Int} {qs : List Int} {rows : List (List Int)} (h : codeVers p qs rows = 0) : codeVR p qs rows = 0 ∧ regB qs = true ∧ noNullB p qs rows = true := by
  unfold codeVers at h
  split at h
  · rename_i h0
    split at h
    · rename_i h1
      simp only [Bool.and_eq_true] at h1
      exact ⟨h0, h1⟩
    · cases h
  · rename_i h0; exact absurd h h0
theorem any_null {p : Int} {qs : List Int} {rows : List (List Int)} {n d : Nat} (hn : rows.length = n) (hd : qs.length = d) : (List.range n).any (fun i => pairL p qs (nthR rows i) (nthR rows i) d == 0) = !noNullB p qs rows := by
  subst hn
  subst hd
  rw [Bool.eq_iff_iff]
  simp only [List.any_eq_true, List.mem_range, beq_iff_eq, Bool.not_eq_true', noNullB, List.all_eq_false, bne_iff_ne, ne_eq, Decidable.not_not]
  constructor
  · rintro ⟨i, hi, h⟩
    exact ⟨rows[i], List.getElem_mem hi, by rw [nthR_eq hi] at h; exact h⟩
  · rintro ⟨v, hv, h⟩
    obtain ⟨i, hi, rfl⟩ := List.getElem_of_mem hv
    exact ⟨i, hi, by rw [nthR_eq hi]; exact h⟩
theorem null_at {p : Int} {qs : List Int} {rows : List (List Int)} {d k : Nat} (hd : qs.length = d) (hk : k < rows.length) (h : pairL p qs (nthR rows k) (nthR rows k) d = 0) : noNullB p qs rows = false := by
  subst hd
  unfold noNullB
  rw [List.all_eq_false]
  exact ⟨rows[k], List.getElem_mem hk, by rw [nthR_eq hk] at h; simp [h]⟩
theorem null_none {p : Int} {qs : List Int} {rows : List (List Int)} {d : Nat} (hd : qs.length = d) (h : ∀ j, j < rows.length → pairL p qs (nthR rows j) (nthR rows j) d ≠ 0) : noNullB p qs rows = true := by
  subst hd
  unfold noNullB
  rw [List.all_eq_true]
  intro v hv
  obtain ⟨i, hi, rfl⟩ := List.getElem_of_mem hv
  have := h i hi
  rw [nthR_eq hi] at this
  simpa using this
def versL (p : Int) (qs : List Int) (rows : List (List Int)) (n : Nat) : List Int := prodS p qs tkA rows n

set_option maxHeartbeats 400000 in
theorem c_VersorOf1 (p : Int) (a : Option Addr) (d cap : Nat) (qs : List Int) (ax : Option Addr) (cx : Nat) (xs : List Int) (q : Nat) (w : World) (hp1 : 3 ≤ p) (hp2 : p ≤ 1000) (hd : d ≤ 6) (hq : RdC w a d qs) (hqb : isB p qs = true) (hx : RdC w ax d xs) (hg : Good p d xs)
    (hq0 : w.cell? ⟨q, 0, none⟩ = some (.int .i64 p)) (hq1 : w.cell? ⟨q, 1, none⟩ = some (.slice a d cap)) :
    Calls Try.prog 82 #[.slice ax d cx, .pointer (some ⟨q, 0, none⟩)] w fun e w' => e = .returned (.bool (pairL p qs xs xs d == 0)) ∧ Ext w w' := by
  have HQ := Lib.hid hq
  have HQB := Lib.hid hqb
  have HX := Lib.hid hx
  have HG := Lib.hid hg
  clear hq hqb hx hg
  obtain ⟨z, hz⟩ : ∃ z, z = pairL p qs xs xs d := ⟨_, rfl⟩
  have HZ := Lib.hid hz
  rw [← hz]
  clear hz
  go_enter Try.func82, Try.ntmps82
  go_wp2_with (go_at_call 83; refine (c_norm p a d cap qs ax cx xs w hp1 hp2 hd HQ.out HQB.out HX.out HG.out).mono ?_; rintro e w1 ⟨rfl, h1⟩; rw [← HZ.out])
  go_ret
  exact ⟨rfl, h1⟩

set_option maxHeartbeats 2000000 in
theorem c_VersorOf_bad (p : Int) (a : Option Addr) (d cap : Nat) (qs : List Int) (ax1 : Option Addr) (n1 cx1 : Nat) (xs1 : List (List Int)) (w : World) (hd : d ≤ 4194304) (hn1 : n1 ≤ 4194304) (hr1 : ∀ i, i < n1 → (nthR xs1 i).length ≤ 4194304) (hq : RdC w a d qs) (hx1 : RdR w ax1 n1 xs1) (hc : codeVers p qs xs1 ≠ 0) :
    Calls Try.prog 41 #[.agg #[.int .i64 p, .slice a d cap], .slice ax1 n1 cx1] w fun e w' => ∃ ra rc, e = .returned (.tuple #[.slice ra 0 rc, .int .i64 (codeVers p qs xs1)]) ∧ OwnC w.heap.size w' ra 0 rc [] ∧ Ext w w' := by
  have Hr := Lib.hid hr1
  clear hr1
  by_cases hv : codeVR p qs xs1 = 0
  · have HVR := Lib.hid hv
    have HC5 := Lib.hid (show codeVers p qs xs1 = 5 by unfold codeVers at hc ⊢; rw [if_pos hv] at hc ⊢; split at hc; exact absurd rfl hc; rename_i h; rw [if_neg h])
    have hcb : ((0 : Int) != 0) = false := by simp
    obtain ⟨hs, ha, h16⟩ := codeVR_zero HVR.out
    obtain ⟨hpr, hd1, hd6, hqb⟩ := space_of hs
    have hpb := prime_bd hpr
    have hql := hq.1
    rw [hql] at hd6 ha hd1
    have HG := Lib.hid (rows_good ha)
    have HQB := Lib.hid hqb
    have HPR := Lib.hid hpr
    have HAN := Lib.hid (any_null (p := p) (qs := qs) (rows := xs1) hx1.1 hql)
    have HLen := Lib.hid (show ∀ i, i < n1 → (nthR xs1 i).length = d from fun i hi => (HG.out i (by rw [hx1.1]; exact hi)).1)
    have HXL := Lib.hid hx1.1
    have HQ := Lib.hid hq
    have HX := Lib.hid hx1
    obtain ⟨ai, ci, hR, hrow⟩ := hx1.choose
    have HRR := Lib.hid hR
    have HRow := Lib.hid hrow
    cases hr : regB qs
    · have HRB := Lib.hid hr
      clear hv hs ha hpr hqb hq hx1 hR hrow hr hc hql
      go_enter Try.func41, Try.ntmps41
      go_wp2_with (first | (go_at_call 64; refine (c_checkList p a d cap qs ax1 n1 cx1 xs1 _ hd hn1 Hr.out (HQ.out.ext (ext_alloc _ _)) (HX.out.ext (ext_alloc _ _))).mono ?_; rintro e w1 ⟨rfl, g1⟩; rw [HVR.out]; have hcc := Ext.cells g1) | (go_at_call 80; refine (c_regular p a d cap qs _ hd (HQ.out.ext ((ext_alloc _ _).trans g1))).mono ?_; rintro e w2 ⟨rfl, g2⟩; rw [HRB.out]; have hcc2 := Ext.cells (g1.trans g2)))
      go_ret2
      exact ⟨none, 0, by rw [HC5.out]; rfl, own_nil _ _, (ext_alloc _ _).trans (g1.trans g2)⟩
    · have HRB := Lib.hid hr
      have HNN : Hid (noNullB p qs xs1 = false) := Lib.hid (by
        cases h : noNullB p qs xs1
        · rfl
        · exact absurd (show codeVers p qs xs1 = 0 by simp [codeVers, hv, hr, h]) hc)
      clear hv hs ha hpr hqb hq hx1 hR hrow hr hc hql
      go_enter Try.func41, Try.ntmps41
      go_wp2_with (first | (go_at_call 64; refine (c_checkList p a d cap qs ax1 n1 cx1 xs1 _ hd hn1 Hr.out (HQ.out.ext (ext_alloc _ _)) (HX.out.ext (ext_alloc _ _))).mono ?_; rintro e w1 ⟨rfl, g1⟩; rw [HVR.out]; have hcc := Ext.cells g1) | (go_at_call 80; refine (c_regular p a d cap qs _ hd (HQ.out.ext ((ext_alloc _ _).trans g1))).mono ?_; rintro e w2 ⟨rfl, g2⟩; rw [HRB.out]; have hcc2 := Ext.cells (g1.trans g2)) | (go_at_call 81; refine (c_containsFunc ax1 n1 cx1 82 #[.pointer (some ⟨w.heap.size, 0, none⟩)] (rowV ai ci xs1) (fun i => pairL p qs (nthR xs1 i) (nthR xs1 i) d == 0) _ hn1 ?_ (fun i hi => ?_) (fun i hi w2 he => ?_)).mono ?_; rotate_right; rintro e w3 ⟨rfl, g3⟩; rw [HAN.out, HNN.out]))
      rotate_left
      · intro args w; go_simp
      · obtain ⟨b, off, hb1, hb2⟩ := HRR.out i hi
        exact ⟨b, off, hb1, ((ext_alloc _ _).trans (g1.trans g2)).cell hb2⟩
      · have hl := HLen.out i hi
        have hrow := HRow.out i hi
        rw [hl] at hrow
        unfold rowV
        rw [hl]
        refine c_VersorOf1 p a d cap qs _ _ _ _ _ (by omega) (by omega) hd6 (HQ.out.ext ((ext_alloc _ _).trans ((g1.trans g2).trans he))) HQB.out (hrow.ext ((ext_alloc _ _).trans ((g1.trans g2).trans he))) (HG.out i (by rw [HXL.out]; exact hi)) ?_ ?_
        · refine he.cell ((g1.trans g2).cell ?_); simp
        · refine he.cell ((g1.trans g2).cell ?_); simp
      go_ret2
      exact ⟨none, 0, by rw [HC5.out]; rfl, own_nil _ _, (ext_alloc _ _).trans ((g1.trans g2).trans g3)⟩
  · have HCE := Lib.hid (show codeVers p qs xs1 = codeVR p qs xs1 by simp [codeVers, hv])
    have hcb : (codeVR p qs xs1 != 0) = true := by simp [hv]
    clear hv hc
    go_enter Try.func41, Try.ntmps41
    go_wp2_with (go_at_call 64; refine (c_checkList p a d cap qs ax1 n1 cx1 xs1 _ hd hn1 Hr.out (hq.ext (ext_alloc _ _)) (hx1.ext (ext_alloc _ _))).mono ?_; rintro e w1 ⟨rfl, g1⟩)
    go_ret2
    exact ⟨none, 0, by rw [HCE.out]; rfl, own_nil _ _, (ext_alloc _ _).trans g1⟩
set_option maxHeartbeats 2000000 in
theorem c_VersorOf_ok (p : Int) (a : Option Addr) (d cap : Nat) (qs : List Int) (ax1 : Option Addr) (n1 cx1 : Nat) (xs1 : List (List Int)) (w : World) (hd : d ≤ 4194304) (hn1 : n1 ≤ 4194304) (hr1 : ∀ i, i < n1 → (nthR xs1 i).length ≤ 4194304) (hq : RdC w a d qs) (hx1 : RdR w ax1 n1 xs1) (hc : codeVers p qs xs1 = 0) :
    Calls Try.prog 41 #[.agg #[.int .i64 p, .slice a d cap], .slice ax1 n1 cx1] w fun e w' => ∃ ra rc, e = .returned (.tuple #[.slice ra (2 ^ d) rc, .int .i64 0]) ∧ OwnC w.heap.size w' ra (2 ^ d) rc (versL p qs xs1 n1) ∧ Ext w w' := by
  have Hr := Lib.hid hr1
  clear hr1
  obtain ⟨hv, hr, hnn⟩ := codeVers_zero hc
  obtain ⟨N, hN⟩ : ∃ N, N = 2 ^ d := ⟨_, rfl⟩
  rw [← hN]
  have HN := Lib.hid hN
  have HVR := Lib.hid hv
  have HRB := Lib.hid hr
  have HNN := Lib.hid hnn
  have hcb : ((0 : Int) != 0) = false := by simp
  obtain ⟨hs, ha, h16⟩ := codeVR_zero HVR.out
  obtain ⟨hpr, hd1, hd6, hqb⟩ := space_of hs
  have hpb := prime_bd hpr
  have hql := hq.1
  rw [hql] at hd6 ha hd1
  have HG := Lib.hid (rows_good ha)
  have HQB := Lib.hid hqb
  have HPR := Lib.hid hpr
  have HAN := Lib.hid (any_null (p := p) (qs := qs) (rows := xs1) hx1.1 hql)
  have HLen := Lib.hid (show ∀ i, i < n1 → (nthR xs1 i).length = d from fun i hi => (HG.out i (by rw [hx1.1]; exact hi)).1)
  have HXL := Lib.hid hx1.1
  have HQ := Lib.hid hq
  have HX := Lib.hid hx1
  obtain ⟨ai, ci, hR, hrow⟩ := hx1.choose
  have HRR := Lib.hid hR
  have HRow := Lib.hid hrow
  clear hv hs ha hpr hqb hq hx1 hR hrow hr hc hql hnn hN
  go_enter Try.func41, Try.ntmps41
  go_wp2_with (first | (go_at_call 64; refine (c_checkList p a d cap qs ax1 n1 cx1 xs1 _ hd hn1 Hr.out (HQ.out.ext (ext_alloc _ _)) (HX.out.ext (ext_alloc _ _))).mono ?_; rintro e w1 ⟨rfl, g1⟩; rw [HVR.out]; have hcc := Ext.cells g1) | (go_at_call 80; refine (c_regular p a d cap qs _ hd (HQ.out.ext ((ext_alloc _ _).trans g1))).mono ?_; rintro e w2 ⟨rfl, g2⟩; rw [HRB.out]; have hcc2 := Ext.cells (g1.trans g2)) | (go_at_call 81; refine (c_containsFunc ax1 n1 cx1 82 #[.pointer (some ⟨w.heap.size, 0, none⟩)] (rowV ai ci xs1) (fun i => pairL p qs (nthR xs1 i) (nthR xs1 i) d == 0) _ hn1 ?_ (fun i hi => ?_) (fun i hi w2 he => ?_)).mono ?_; rotate_right; rintro e w3 ⟨rfl, g3⟩; rw [HAN.out, HNN.out]; have hcc3 := Ext.cells ((g1.trans g2).trans g3)) | (go_at_call 84; refine (c_versor HN.out p a cap qs ax1 n1 cx1 xs1 _ hd6 (by omega) (by omega) hn1 (HQ.out.ext ((ext_alloc _ _).trans ((g1.trans g2).trans g3))) HQB.out (HX.out.ext ((ext_alloc _ _).trans ((g1.trans g2).trans g3))) HG.out).mono ?_; rintro e w4 ⟨g, rfl, ho, g4⟩; have HO := Lib.hid ho; have G4 := Lib.hid (((ext_alloc _ _).trans ((g1.trans g2).trans g3)).trans g4); have HB := Lib.hid (((ext_alloc _ _).trans ((g1.trans g2).trans g3)).size); clear ho g4))
  rotate_left
  · intro args w; go_simp
  · obtain ⟨b, off, hb1, hb2⟩ := HRR.out i hi
    exact ⟨b, off, hb1, ((ext_alloc _ _).trans (g1.trans g2)).cell hb2⟩
  · have hl := HLen.out i hi
    have hrow := HRow.out i hi
    rw [hl] at hrow
    unfold rowV
    rw [hl]
    refine c_VersorOf1 p a d cap qs _ _ _ _ _ (by omega) (by omega) hd6 (HQ.out.ext ((ext_alloc _ _).trans ((g1.trans g2).trans he))) HQB.out (hrow.ext ((ext_alloc _ _).trans ((g1.trans g2).trans he))) (HG.out i (by rw [HXL.out]; exact hi)) ?_ ?_
    · refine he.cell ((g1.trans g2).cell ?_); simp
    · refine he.cell ((g1.trans g2).cell ?_); simp
  go_ret2
  exact ⟨_, _, rfl, HO.out.mono HB.out, G4.out⟩

set_option maxHeartbeats 4000000 in
theorem s_VersorOf_bad (p : Int) (a : Option Addr) (d cap : Nat) (qs : List Int) (ax1 : Option Addr) (n1 cx1 : Nat) (xs1 : List (List Int)) (w : World) (hd : d ≤ 4194304) (hn1 : n1 ≤ 4194304) (hr1 : ∀ i, i < n1 → (nthR xs1 i).length ≤ 4194304) (hq : RdC w a d qs) (hx1 : RdR w ax1 n1 xs1) (hc : codeVers p qs xs1 ≠ 0) :
    Calls Try.prog 40 #[.agg #[.int .i64 p, .slice a d cap], .slice ax1 n1 cx1] w fun e w' => ∃ ra rc, e = .returned (.tuple #[.slice ra 0 rc, .int .i64 (codeVers p qs xs1)]) ∧ OwnC w.heap.size w' ra 0 rc [] ∧ Ext w w' := by
  have Hr := Lib.hid hr1
  clear hr1
  by_cases hv : codeVR p qs xs1 = 0
  · have HVR := Lib.hid hv
    have HC5 := Lib.hid (show codeVers p qs xs1 = 5 by unfold codeVers at hc ⊢; rw [if_pos hv] at hc ⊢; split at hc; exact absurd rfl hc; rename_i h; rw [if_neg h])
    have hcb : ((0 : Int) == 0) = true := by simp
    have hc5b : ((5 : Int) != 0) = true := by simp
    have hc5c : ((5 : Int) == 0) = false := by simp
    obtain ⟨hs, ha, h16⟩ := codeVR_zero HVR.out
    obtain ⟨hpr, hd1, hd6, hqb⟩ := space_of hs
    have hpb := prime_bd hpr
    have hql := hq.1
    rw [hql] at hd6 ha hd1
    have HG := Lib.hid (rows_good ha)
    have HQB := Lib.hid hqb
    have HPR := Lib.hid hpr
    have HAN := Lib.hid (any_null (p := p) (qs := qs) (rows := xs1) hx1.1 hql)
    have HLen := Lib.hid (show ∀ i, i < n1 → (nthR xs1 i).length = d from fun i hi => (HG.out i (by rw [hx1.1]; exact hi)).1)
    have HXL := Lib.hid hx1.1
    have HQ := Lib.hid hq
    have HX := Lib.hid hx1
    have HDR := Lib.hid (disc_reg hpr hqb)
    cases hr : regB qs
    · have HRB := Lib.hid hr
      have HDB : Hid ((discL p qs == 0) = true) := Lib.hid (by rw [HDR.out, hr]; rfl)
      obtain ⟨dz, hdz⟩ : ∃ dz, dz = discL p qs := ⟨_, rfl⟩
      have HDZ := Lib.hid hdz
      rw [← hdz] at HDB
      have hdb := HDB.out
      clear hv hs ha hpr hqb hq hx1 hr hc hql hdz
      go_enter Try.func40, Try.ntmps40
      go_wp2_with (first | (go_at_call 62; refine (s_list p a d cap qs ax1 n1 cx1 xs1 _ hd hn1 Hr.out (HQ.out.ext (ext_alloc _ _)) (HX.out.ext (ext_alloc _ _))).mono ?_; rintro e w1 ⟨rfl, g1⟩; rw [HVR.out]; have hcc := Ext.cells g1) | (go_at_call 77; refine (s_disc p a d cap qs _ (by omega) (by omega) (by omega) (HQ.out.ext ((ext_alloc _ _).trans g1)) HQB.out).mono ?_; rintro e w2 ⟨rfl, g2⟩; rw [← HDZ.out]))
      go_loop [6, 7] (fun c i => c = .int .i64 5 ∧ i = .int .i64 0) (fun _ _ => 0)
      case atStart => exact ⟨rfl, rfl⟩
      case round =>
        obtain ⟨rfl, rfl⟩ := hrel
        by_cases hn0 : 0 < n1
        · go_wp2_with (fail)
          go_ret2
          exact ⟨none, 0, by rw [HC5.out]; rfl, own_nil _ _, (ext_alloc _ _).trans (g1.trans g2)⟩
        · go_wp2_with (fail)
          go_ret2
          exact ⟨none, 0, by rw [HC5.out]; rfl, own_nil _ _, (ext_alloc _ _).trans (g1.trans g2)⟩
    · have HRB := Lib.hid hr
      have HNN : Hid (noNullB p qs xs1 = false) := Lib.hid (by
        cases h : noNullB p qs xs1
        · rfl
        · exact absurd (show codeVers p qs xs1 = 0 by simp [codeVers, hv, hr, h]) hc)
      have HDB : Hid ((discL p qs == 0) = false) := Lib.hid (by rw [HDR.out, hr]; rfl)
      obtain ⟨dz, hdz⟩ : ∃ dz, dz = discL p qs := ⟨_, rfl⟩
      have HDZ := Lib.hid hdz
      rw [← hdz] at HDB
      have hdb := HDB.out
      have HQL := Lib.hid hql
      clear hv hs ha hpr hqb hq hx1 hr hc hql hdz
      go_enter Try.func40, Try.ntmps40
      go_wp2_with (first | (go_at_call 62; refine (s_list p a d cap qs ax1 n1 cx1 xs1 _ hd hn1 Hr.out (HQ.out.ext (ext_alloc _ _)) (HX.out.ext (ext_alloc _ _))).mono ?_; rintro e w1 ⟨rfl, g1⟩; rw [HVR.out]; have hcc := Ext.cells g1) | (go_at_call 77; refine (s_disc p a d cap qs _ (by omega) (by omega) (by omega) (HQ.out.ext ((ext_alloc _ _).trans g1)) HQB.out).mono ?_; rintro e w2 ⟨rfl, g2⟩; rw [← HDZ.out]))
      have HS0 : Hid (w2.cell? ⟨w.heap.size, 0, none⟩ = some (.int .i64 p)) := Lib.hid ((g1.trans g2).cell (by simp))
      have HS1 : Hid (w2.cell? ⟨w.heap.size, 1, none⟩ = some (.slice a d cap)) := Lib.hid ((g1.trans g2).cell (by simp))
      have G2 := Lib.hid ((ext_alloc w (.cells #[.int .i64 p, .slice a d cap] 30)).trans (g1.trans g2))
      clear g1 g2 hcc
      go_loopw [6, 7] (fun c i wr => ∃ k : Nat, k ≤ n1 ∧ i = .int .i64 k ∧ ((c = .int .i64 0 ∧ Hid (∀ j, j < k → pairL p qs (nthR xs1 j) (nthR xs1 j) d ≠ 0)) ∨ c = .int .i64 5) ∧ Ext w2 wr) (fun _ i _ => n1 - (intOf i).toNat)
      case atStart => exact ⟨0, Nat.zero_le _, rfl, .inl ⟨rfl, Lib.hid (fun j hj => by omega)⟩, Ext.refl _⟩
      case round =>
        obtain ⟨k, hk, rfl, hcode, hext⟩ := hrel
        have HExt := Lib.hid hext
        clear hext
        rcases hcode with ⟨rfl, HT⟩ | rfl
        · by_cases hlt : k < n1
          · obtain ⟨b, off, ak, ck, rfl, hc0, hrk⟩ := HX.out.2 k hlt
            rw [HLen.out k hlt] at hc0 hrk
            have GX := Lib.hid (G2.out.trans (HExt.out.trans (ext_drew wr)))
            have HT0 := Lib.hid ((HExt.out.trans (ext_drew _)).cell HS0.out)
            have HT1 := Lib.hid ((HExt.out.trans (ext_drew _)).cell HS1.out)
            have HCk := Lib.hid (GX.out.cell hc0)
            have HRk := Lib.hid hrk
            have HGk := Lib.hid (HG.out k (by rw [HXL.out]; exact hlt))
            clear hc0 hrk
            by_cases hz : pairL p qs (nthR xs1 k) (nthR xs1 k) d = 0
            · have HZ := Lib.hid hz
              have hzb : (pairL p qs (nthR xs1 k) (nthR xs1 k) d == 0) = true := by simp [hz]
              clear hz
              go_wp2_with (fail)
              refine wp_region_lex [(9, .val (.int .i64 (pairL p qs (nthR xs1 k) (nthR xs1 k) d)))] (by kernel_rfl) (by kernel_rfl) ?_
              (refine LexW.pure (v := ?_) rfl rfl (fun w1 he => ?_) ?_; rotate_left; ( have e1 := he.cell HT0.out; have e2 := he.cell HT1.out; have e3 := he.cell HCk.out; go_simp; rfl); simp only [Act.put, List.setIfInBounds_toArray, List.set_cons_zero, List.set_cons_succ])
              (refine LexW.pure (v := ?_) rfl rfl (fun w1 he => ?_) ?_; rotate_left; ( have e1 := he.cell HT0.out; have e2 := he.cell HT1.out; have e3 := he.cell HCk.out; go_simp; rfl); simp only [Act.put, List.setIfInBounds_toArray, List.set_cons_zero, List.set_cons_succ])
              (refine LexW.pure (v := ?_) rfl rfl (fun w1 he => ?_) ?_; rotate_left; ( have e1 := he.cell HT0.out; have e2 := he.cell HT1.out; have e3 := he.cell HCk.out; go_simp; rfl); simp only [Act.put, List.setIfInBounds_toArray, List.set_cons_zero, List.set_cons_succ])
              (refine LexW.pure (v := ?_) rfl rfl (fun w1 he => ?_) ?_; rotate_left; ( have e1 := he.cell HT0.out; have e2 := he.cell HT1.out; have e3 := he.cell HCk.out; go_simp; rfl); simp only [Act.put, List.setIfInBounds_toArray, List.set_cons_zero, List.set_cons_succ])
              (refine LexW.pure (v := ?_) rfl rfl (fun w1 he => ?_) ?_; rotate_left; ( have e1 := he.cell HT0.out; have e2 := he.cell HT1.out; have e3 := he.cell HCk.out; go_simp; rfl); simp only [Act.put, List.setIfInBounds_toArray, List.set_cons_zero, List.set_cons_succ])
              (refine LexW.pure (v := ?_) rfl rfl (fun w1 he => ?_) ?_; rotate_left; ( have e1 := he.cell HT0.out; have e2 := he.cell HT1.out; have e3 := he.cell HCk.out; go_simp; rfl); simp only [Act.put, List.setIfInBounds_toArray, List.set_cons_zero, List.set_cons_succ])
              (refine LexW.pure (v := ?_) rfl rfl (fun w1 he => ?_) ?_; rotate_left; ( have e1 := he.cell HT0.out; have e2 := he.cell HT1.out; have e3 := he.cell HCk.out; go_simp; rfl); simp only [Act.put, List.setIfInBounds_toArray, List.set_cons_zero, List.set_cons_succ])
              (refine LexW.pure (v := ?_) rfl rfl (fun w1 he => ?_) ?_; rotate_left; ( have e1 := he.cell HT0.out; have e2 := he.cell HT1.out; have e3 := he.cell HCk.out; go_simp; rfl); simp only [Act.put, List.setIfInBounds_toArray, List.set_cons_zero, List.set_cons_succ])
              (refine LexW.pure (v := ?_) rfl rfl (fun w1 he => ?_) ?_; rotate_left; ( have e1 := he.cell HT0.out; have e2 := he.cell HT1.out; have e3 := he.cell HCk.out; go_simp; rfl); simp only [Act.put, List.setIfInBounds_toArray, List.set_cons_zero, List.set_cons_succ])
              (refine LexW.call (f := ?_) (args := ?_) rfl rfl (fun w1 => ?_) (fun w1 he hdep => ?_) ?_; rotate_left 2; (go_simp; refine ⟨?_, ?_⟩ <;> rfl); ( exact s_pair p a d cap qs ak ck (nthR xs1 k) ak ck (nthR xs1 k) w1 (by omega) (by omega) hd6 (HQ.out.ext (GX.out.trans he)) HQB.out (HRk.out.ext (GX.out.trans he)) HGk.out (HRk.out.ext (GX.out.trans he)) HGk.out); simp only [Act.put, List.setIfInBounds_toArray, List.set_cons_zero, List.set_cons_succ])
              (refine LexW.pure (v := ?_) rfl rfl (fun w1 he => ?_) ?_; rotate_left; ( have e1 := he.cell HT0.out; have e2 := he.cell HT1.out; have e3 := he.cell HCk.out; go_simp; rfl); simp only [Act.put, List.setIfInBounds_toArray, List.set_cons_zero, List.set_cons_succ])
              refine LexW.nil (fun w3 he hkn => ?_)
              have X3 := Lib.hid (HExt.out.trans ((ext_drew wr).trans he))
              clear he hkn
              go_wp2_with (fail)
              go_roundw
              case rel => exact ⟨k + 1, by omega, by go_num, .inr rfl, X3.out⟩
              case measure => simp [intOf]; omega
            · have HZ := Lib.hid hz
              have hzb : (pairL p qs (nthR xs1 k) (nthR xs1 k) d == 0) = false := by simp [hz]
              clear hz
              go_wp2_with (fail)
              refine wp_region_lex [(9, .val (.int .i64 (pairL p qs (nthR xs1 k) (nthR xs1 k) d)))] (by kernel_rfl) (by kernel_rfl) ?_
              (refine LexW.pure (v := ?_) rfl rfl (fun w1 he => ?_) ?_; rotate_left; ( have e1 := he.cell HT0.out; have e2 := he.cell HT1.out; have e3 := he.cell HCk.out; go_simp; rfl); simp only [Act.put, List.setIfInBounds_toArray, List.set_cons_zero, List.set_cons_succ])
              (refine LexW.pure (v := ?_) rfl rfl (fun w1 he => ?_) ?_; rotate_left; ( have e1 := he.cell HT0.out; have e2 := he.cell HT1.out; have e3 := he.cell HCk.out; go_simp; rfl); simp only [Act.put, List.setIfInBounds_toArray, List.set_cons_zero, List.set_cons_succ])
              (refine LexW.pure (v := ?_) rfl rfl (fun w1 he => ?_) ?_; rotate_left; ( have e1 := he.cell HT0.out; have e2 := he.cell HT1.out; have e3 := he.cell HCk.out; go_simp; rfl); simp only [Act.put, List.setIfInBounds_toArray, List.set_cons_zero, List.set_cons_succ])
              (refine LexW.pure (v := ?_) rfl rfl (fun w1 he => ?_) ?_; rotate_left; ( have e1 := he.cell HT0.out; have e2 := he.cell HT1.out; have e3 := he.cell HCk.out; go_simp; rfl); simp only [Act.put, List.setIfInBounds_toArray, List.set_cons_zero, List.set_cons_succ])
              (refine LexW.pure (v := ?_) rfl rfl (fun w1 he => ?_) ?_; rotate_left; ( have e1 := he.cell HT0.out; have e2 := he.cell HT1.out; have e3 := he.cell HCk.out; go_simp; rfl); simp only [Act.put, List.setIfInBounds_toArray, List.set_cons_zero, List.set_cons_succ])
              (refine LexW.pure (v := ?_) rfl rfl (fun w1 he => ?_) ?_; rotate_left; ( have e1 := he.cell HT0.out; have e2 := he.cell HT1.out; have e3 := he.cell HCk.out; go_simp; rfl); simp only [Act.put, List.setIfInBounds_toArray, List.set_cons_zero, List.set_cons_succ])
              (refine LexW.pure (v := ?_) rfl rfl (fun w1 he => ?_) ?_; rotate_left; ( have e1 := he.cell HT0.out; have e2 := he.cell HT1.out; have e3 := he.cell HCk.out; go_simp; rfl); simp only [Act.put, List.setIfInBounds_toArray, List.set_cons_zero, List.set_cons_succ])
              (refine LexW.pure (v := ?_) rfl rfl (fun w1 he => ?_) ?_; rotate_left; ( have e1 := he.cell HT0.out; have e2 := he.cell HT1.out; have e3 := he.cell HCk.out; go_simp; rfl); simp only [Act.put, List.setIfInBounds_toArray, List.set_cons_zero, List.set_cons_succ])
              (refine LexW.pure (v := ?_) rfl rfl (fun w1 he => ?_) ?_; rotate_left; ( have e1 := he.cell HT0.out; have e2 := he.cell HT1.out; have e3 := he.cell HCk.out; go_simp; rfl); simp only [Act.put, List.setIfInBounds_toArray, List.set_cons_zero, List.set_cons_succ])
              (refine LexW.call (f := ?_) (args := ?_) rfl rfl (fun w1 => ?_) (fun w1 he hdep => ?_) ?_; rotate_left 2; (go_simp; refine ⟨?_, ?_⟩ <;> rfl); ( exact s_pair p a d cap qs ak ck (nthR xs1 k) ak ck (nthR xs1 k) w1 (by omega) (by omega) hd6 (HQ.out.ext (GX.out.trans he)) HQB.out (HRk.out.ext (GX.out.trans he)) HGk.out (HRk.out.ext (GX.out.trans he)) HGk.out); simp only [Act.put, List.setIfInBounds_toArray, List.set_cons_zero, List.set_cons_succ])
              (refine LexW.pure (v := ?_) rfl rfl (fun w1 he => ?_) ?_; rotate_left; ( have e1 := he.cell HT0.out; have e2 := he.cell HT1.out; have e3 := he.cell HCk.out; go_simp; rfl); simp only [Act.put, List.setIfInBounds_toArray, List.set_cons_zero, List.set_cons_succ])
              refine LexW.nil (fun w3 he hkn => ?_)
              have X3 := Lib.hid (HExt.out.trans ((ext_drew wr).trans he))
              clear he hkn
              go_wp2_with (fail)
              go_roundw
              case rel => exact ⟨k + 1, by omega, by go_num, .inl ⟨rfl, Lib.hid (fun j hj => by
                by_cases hjk : j = k
                · subst hjk; exact HZ.out
                · exact HT.out j (by omega))⟩, X3.out⟩
              case measure => simp [intOf]; omega
          · have h1 := null_none (p := p) (rows := xs1) HQL.out (fun j hj => HT.out j (by rw [HXL.out] at hj; omega))
            rw [HNN.out] at h1
            cases h1
        · by_cases hlt : k < n1
          all_goals
            go_wp2_with (fail)
            go_ret2
            exact ⟨none, 0, by rw [HC5.out]; rfl, own_nil _ _, G2.out.trans HExt.out⟩
  · have HCE := Lib.hid (show codeVers p qs xs1 = codeVR p qs xs1 by simp [codeVers, hv])
    have hcb : (codeVR p qs xs1 == 0) = false := by simp [hv]
    have hcb2 : (codeVR p qs xs1 != 0) = true := by simp [hv]
    clear hv hc
    go_enter Try.func40, Try.ntmps40
    go_wp2_with (go_at_call 62; refine (s_list p a d cap qs ax1 n1 cx1 xs1 _ hd hn1 Hr.out (hq.ext (ext_alloc _ _)) (hx1.ext (ext_alloc _ _))).mono ?_; rintro e w1 ⟨rfl, g1⟩)
    go_loop [6, 7] (fun c i => c = .int .i64 (codeVR p qs xs1) ∧ i = .int .i64 0) (fun _ _ => 0)
    case atStart => exact ⟨rfl, rfl⟩
    case round =>
      obtain ⟨rfl, rfl⟩ := hrel
      by_cases hn0 : 0 < n1
      all_goals
        go_wp2_with (fail)
        go_ret2
        exact ⟨none, 0, by rw [HCE.out]; rfl, own_nil _ _, (ext_alloc _ _).trans g1⟩
set_option maxHeartbeats 4000000 in
theorem s_VersorOf_ok (p : Int) (a : Option Addr) (d cap : Nat) (qs : List Int) (ax1 : Option Addr) (n1 cx1 : Nat) (xs1 : List (List Int)) (w : World) (hd : d ≤ 4194304) (hn1 : n1 ≤ 4194304) (hr1 : ∀ i, i < n1 → (nthR xs1 i).length ≤ 4194304) (hq : RdC w a d qs) (hx1 : RdR w ax1 n1 xs1) (hc : codeVers p qs xs1 = 0) :
    Calls Try.prog 40 #[.agg #[.int .i64 p, .slice a d cap], .slice ax1 n1 cx1] w fun e w' => ∃ ra rc, e = .returned (.tuple #[.slice ra (2 ^ d) rc, .int .i64 0]) ∧ OwnC w.heap.size w' ra (2 ^ d) rc (versL p qs xs1 n1) ∧ Ext w w' := by
  have Hr := Lib.hid hr1
  clear hr1
  obtain ⟨hv, hr, hnn⟩ := codeVers_zero hc
  obtain ⟨N, hN⟩ : ∃ N, N = 2 ^ d := ⟨_, rfl⟩
  rw [← hN]
  have HN := Lib.hid hN
  have HVR := Lib.hid hv
  have HNN := Lib.hid hnn
  have hcb : ((0 : Int) == 0) = true := by simp
  have hcb2 : ((0 : Int) != 0) = false := by simp
  obtain ⟨hs, ha, h16⟩ := codeVR_zero HVR.out
  obtain ⟨hpr, hd1, hd6, hqb⟩ := space_of hs
  have hpb := prime_bd hpr
  have hql := hq.1
  rw [hql] at hd6 ha hd1
  have HG := Lib.hid (rows_good ha)
  have HQB := Lib.hid hqb
  have HPR := Lib.hid hpr
  have HAN := Lib.hid (any_null (p := p) (qs := qs) (rows := xs1) hx1.1 hql)
  have HLen := Lib.hid (show ∀ i, i < n1 → (nthR xs1 i).length = d from fun i hi => (HG.out i (by rw [hx1.1]; exact hi)).1)
  have HXL := Lib.hid hx1.1
  have HQ := Lib.hid hq
  have HX := Lib.hid hx1
  have HDB : Hid ((discL p qs == 0) = false) := Lib.hid (by rw [disc_reg hpr hqb, hr]; rfl)
  obtain ⟨dz, hdz⟩ : ∃ dz, dz = discL p qs := ⟨_, rfl⟩
  have HDZ := Lib.hid hdz
  rw [← hdz] at HDB
  have hdb := HDB.out
  have HQL := Lib.hid hql
  clear hv hs ha hpr hqb hq hx1 hr hc hql hdz hnn hN
  go_enter Try.func40, Try.ntmps40
  go_wp2_with (first | (go_at_call 62; refine (s_list p a d cap qs ax1 n1 cx1 xs1 _ hd hn1 Hr.out (HQ.out.ext (ext_alloc _ _)) (HX.out.ext (ext_alloc _ _))).mono ?_; rintro e w1 ⟨rfl, g1⟩; rw [HVR.out]; have hcc := Ext.cells g1) | (go_at_call 77; refine (s_disc p a d cap qs _ (by omega) (by omega) (by omega) (HQ.out.ext ((ext_alloc _ _).trans g1)) HQB.out).mono ?_; rintro e w2 ⟨rfl, g2⟩; rw [← HDZ.out]))
  have HS0 : Hid (w2.cell? ⟨w.heap.size, 0, none⟩ = some (.int .i64 p)) := Lib.hid ((g1.trans g2).cell (by simp))
  have HS1 : Hid (w2.cell? ⟨w.heap.size, 1, none⟩ = some (.slice a d cap)) := Lib.hid ((g1.trans g2).cell (by simp))
  have G2 := Lib.hid ((ext_alloc w (.cells #[.int .i64 p, .slice a d cap] 30)).trans (g1.trans g2))
  clear g1 g2 hcc
  go_loopw [6, 7] (fun c i wr => ∃ k : Nat, k ≤ n1 ∧ i = .int .i64 k ∧ c = .int .i64 0 ∧ Ext w2 wr) (fun _ i _ => n1 - (intOf i).toNat)
  case atStart => exact ⟨0, Nat.zero_le _, rfl, rfl, Ext.refl _⟩
  case round =>
    obtain ⟨k, hk, rfl, rfl, hext⟩ := hrel
    have HExt := Lib.hid hext
    have hs0 := hext.cell HS0.out
    have hs1 := hext.cell HS1.out
    clear hext
    by_cases hlt : k < n1
    · clear hs0 hs1
      obtain ⟨b, off, ak, ck, rfl, hc0, hrk⟩ := HX.out.2 k hlt
      rw [HLen.out k hlt] at hc0 hrk
      have GX := Lib.hid (G2.out.trans (HExt.out.trans (ext_drew wr)))
      have HT0 := Lib.hid ((HExt.out.trans (ext_drew _)).cell HS0.out)
      have HT1 := Lib.hid ((HExt.out.trans (ext_drew _)).cell HS1.out)
      have HCk := Lib.hid (GX.out.cell hc0)
      have HRk := Lib.hid hrk
      have HGk := Lib.hid (HG.out k (by rw [HXL.out]; exact hlt))
      have hzb : (pairL p qs (nthR xs1 k) (nthR xs1 k) d == 0) = false := by
        cases h : (pairL p qs (nthR xs1 k) (nthR xs1 k) d == 0)
        · rfl
        · have := null_at (p := p) (rows := xs1) HQL.out (by rw [HXL.out]; exact hlt) (by simpa using h)
          rw [HNN.out] at this; cases this
      clear hc0 hrk
      go_wp2_with (fail)
      refine wp_region_lex [(9, .val (.int .i64 (pairL p qs (nthR xs1 k) (nthR xs1 k) d)))] (by kernel_rfl) (by kernel_rfl) ?_
      (refine LexW.pure (v := ?_) rfl rfl (fun w1 he => ?_) ?_; rotate_left; ( have e1 := he.cell HT0.out; have e2 := he.cell HT1.out; have e3 := he.cell HCk.out; go_simp; rfl); simp only [Act.put, List.setIfInBounds_toArray, List.set_cons_zero, List.set_cons_succ])
      (refine LexW.pure (v := ?_) rfl rfl (fun w1 he => ?_) ?_; rotate_left; ( have e1 := he.cell HT0.out; have e2 := he.cell HT1.out; have e3 := he.cell HCk.out; go_simp; rfl); simp only [Act.put, List.setIfInBounds_toArray, List.set_cons_zero, List.set_cons_succ])
      (refine LexW.pure (v := ?_) rfl rfl (fun w1 he => ?_) ?_; rotate_left; ( have e1 := he.cell HT0.out; have e2 := he.cell HT1.out; have e3 := he.cell HCk.out; go_simp; rfl); simp only [Act.put, List.setIfInBounds_toArray, List.set_cons_zero, List.set_cons_succ])
      (refine LexW.pure (v := ?_) rfl rfl (fun w1 he => ?_) ?_; rotate_left; ( have e1 := he.cell HT0.out; have e2 := he.cell HT1.out; have e3 := he.cell HCk.out; go_simp; rfl); simp only [Act.put, List.setIfInBounds_toArray, List.set_cons_zero, List.set_cons_succ])
      (refine LexW.pure (v := ?_) rfl rfl (fun w1 he => ?_) ?_; rotate_left; ( have e1 := he.cell HT0.out; have e2 := he.cell HT1.out; have e3 := he.cell HCk.out; go_simp; rfl); simp only [Act.put, List.setIfInBounds_toArray, List.set_cons_zero, List.set_cons_succ])
      (refine LexW.pure (v := ?_) rfl rfl (fun w1 he => ?_) ?_; rotate_left; ( have e1 := he.cell HT0.out; have e2 := he.cell HT1.out; have e3 := he.cell HCk.out; go_simp; rfl); simp only [Act.put, List.setIfInBounds_toArray, List.set_cons_zero, List.set_cons_succ])
      (refine LexW.pure (v := ?_) rfl rfl (fun w1 he => ?_) ?_; rotate_left; ( have e1 := he.cell HT0.out; have e2 := he.cell HT1.out; have e3 := he.cell HCk.out; go_simp; rfl); simp only [Act.put, List.setIfInBounds_toArray, List.set_cons_zero, List.set_cons_succ])
      (refine LexW.pure (v := ?_) rfl rfl (fun w1 he => ?_) ?_; rotate_left; ( have e1 := he.cell HT0.out; have e2 := he.cell HT1.out; have e3 := he.cell HCk.out; go_simp; rfl); simp only [Act.put, List.setIfInBounds_toArray, List.set_cons_zero, List.set_cons_succ])
      (refine LexW.pure (v := ?_) rfl rfl (fun w1 he => ?_) ?_; rotate_left; ( have e1 := he.cell HT0.out; have e2 := he.cell HT1.out; have e3 := he.cell HCk.out; go_simp; rfl); simp only [Act.put, List.setIfInBounds_toArray, List.set_cons_zero, List.set_cons_succ])
      (refine LexW.call (f := ?_) (args := ?_) rfl rfl (fun w1 => ?_) (fun w1 he hdep => ?_) ?_; rotate_left 2; (go_simp; refine ⟨?_, ?_⟩ <;> rfl); ( exact s_pair p a d cap qs ak ck (nthR xs1 k) ak ck (nthR xs1 k) w1 (by omega) (by omega) hd6 (HQ.out.ext (GX.out.trans he)) HQB.out (HRk.out.ext (GX.out.trans he)) HGk.out (HRk.out.ext (GX.out.trans he)) HGk.out); simp only [Act.put, List.setIfInBounds_toArray, List.set_cons_zero, List.set_cons_succ])
      (refine LexW.pure (v := ?_) rfl rfl (fun w1 he => ?_) ?_; rotate_left; ( have e1 := he.cell HT0.out; have e2 := he.cell HT1.out; have e3 := he.cell HCk.out; go_simp; rfl); simp only [Act.put, List.setIfInBounds_toArray, List.set_cons_zero, List.set_cons_succ])
      refine LexW.nil (fun w3 he hkn => ?_)
      have X3 := Lib.hid (HExt.out.trans ((ext_drew wr).trans he))
      clear he hkn
      go_wp2_with (fail)
      go_roundw
      case rel => exact ⟨k + 1, by omega, by go_num, rfl, X3.out⟩
      case measure => simp [intOf]; omega
    · go_wp2_with (go_at_call 79; refine (s_versor HN.out p a cap qs ax1 n1 cx1 xs1 _ hd6 (by omega) (by omega) hn1 (HQ.out.ext (G2.out.trans HExt.out)) HQB.out (HX.out.ext (G2.out.trans HExt.out)) HG.out).mono ?_; rintro e w4 ⟨g, rfl, ho, g4⟩; have HO := Lib.hid ho; have G4 := Lib.hid ((G2.out.trans HExt.out).trans g4); clear ho g4)
      go_ret2
      exact ⟨_, _, rfl, HO.out.mono (G2.out.trans HExt.out).size, G4.out⟩

end Go.Proofs.Ytkmegekpfmjdlaa
