/-
  The listed function VersorBetween.
  No condition.
-/
import Derived.Test.YtlchmkaaogokiaaVersC
import Derived.Test.YtlchmkaaogokiaaVecs
import Derived.Test.YtlchmkaaogokiaaNorm
import Derived.Test.YtlchmkaaogokiaaPlus
namespace Go.Proofs.Ytlchmkaaogokiaa
set_option maxRecDepth 100000
open Go.RowKit

def codeVB (p : Int) (qs u v : List Int) : Int := if codeW p qs [u, v] = 0 then (if pairL p qs u u qs.length = 0 ∨ pairL p qs u u qs.length ≠ pairL p qs v v qs.length then 5 else 0) else codeW p qs [u, v]
theorem codeVB_zero {p : Int} {qs u v : List Int} (h : codeVB p qs u v = 0) : codeW p qs [u, v] = 0 ∧ pairL p qs u u qs.length ≠ 0 ∧ pairL p qs u u qs.length = pairL p qs v v qs.length := by
  unfold codeVB at h
  split at h
  · rename_i h0
    split at h
    · cases h
    · rename_i h1
      exact ⟨h0, fun hh => h1 (.inl hh), Decidable.byContradiction fun hh => h1 (.inr hh)⟩
  · rename_i h0; exact absurd h h0
theorem codeVB_five {p : Int} {qs u v : List Int} (hw : codeW p qs [u, v] = 0) (h : codeVB p qs u v ≠ 0) : codeVB p qs u v = 5 ∧ (pairL p qs u u qs.length = 0 ∨ (pairL p qs u u qs.length ≠ 0 ∧ pairL p qs u u qs.length ≠ pairL p qs v v qs.length)) := by
  unfold codeVB at h ⊢
  rw [if_pos hw] at h ⊢
  split at h
  · rename_i h1
    refine ⟨if_pos h1, ?_⟩
    by_cases h2 : pairL p qs u u qs.length = 0
    · exact .inl h2
    · exact .inr ⟨h2, h1.resolve_left h2⟩
  · exact absurd rfl h
def vbL (p : Int) (qs u v : List Int) : List Int :=
  if pairL p qs (plusL p v u (-1) qs.length) (plusL p v u (-1) qs.length) qs.length = 0 then prodS p qs tkA [v, plusL p v u 1 qs.length] 2 else vecL (2 ^ qs.length) (plusL p v u (-1) qs.length)
theorem rowsG_two {p : Int} {d : Nat} {v u : List Int} (hv : Good p d v) (hu : Good p d u) : RowsG p d [v, u] := fun i hi => by
  have : i = 0 ∨ i = 1 := by simp at hi; omega
  rcases this with rfl | rfl
  · exact hv
  · exact hu

set_option maxHeartbeats 4000000 in
set_option maxRecDepth 100000 in
theorem c_VersorBetween_bad (p : Int) (a : Option Addr) (d cap : Nat) (qs : List Int) (ax1 : Option Addr) (n1 cx1 : Nat) (xs1 : List Int) (ax2 : Option Addr) (n2 cx2 : Nat) (xs2 : List Int) (w : World) (hd : d ≤ 4194304) (hn1 : n1 ≤ 4194304) (hn2 : n2 ≤ 4194304) (hq : RdC w a d qs) (hx1 : RdC w ax1 n1 xs1) (hx2 : RdC w ax2 n2 xs2) (hc : codeVB p qs xs1 xs2 ≠ 0) :
    Calls Try.prog 35 #[.agg #[.int .i64 p, .slice a d cap], .slice ax1 n1 cx1, .slice ax2 n2 cx2] w fun e w' => ∃ ra rc, e = .returned (.tuple #[.slice ra 0 rc, .int .i64 (codeVB p qs xs1 xs2)]) ∧ OwnC w.heap.size w' ra 0 rc [] ∧ Ext w w' := by
  by_cases hw : codeW p qs [xs1, xs2] = 0
  · obtain ⟨h5, hcase⟩ := codeVB_five hw hc
    have HC5 := Lib.hid h5
    clear h5 hc
    rw [hq.1] at hcase
    obtain ⟨hvr, hrg⟩ := codeW_zero hw
    obtain ⟨hs, hva, hvb⟩ := codeVR_two hvr
    obtain ⟨hpr, hd1, hd6, hqb⟩ := space_of hs
    have hpb := prime_bd hpr
    obtain ⟨hxl1, hxb1⟩ := vec_of hva
    obtain ⟨hxl2, hxb2⟩ := vec_of hvb
    rw [hq.1] at hxl1 hxl2 hd6 hd1
    obtain rfl : d = n1 := hxl1.symm.trans hx1.1
    obtain rfl : d = n2 := hxl2.symm.trans hx2.1
    have HW0 := Lib.hid hw
    have HQB := Lib.hid hqb
    have HGV := Lib.hid (good_isB hx1.1 hxb1)
    have HGU := Lib.hid (good_isB hx2.1 hxb2)
    have HQ := Lib.hid hq
    have HX := Lib.hid hx1
    have HY := Lib.hid hx2
    obtain ⟨U, hU⟩ : ∃ U, U = pairL p qs xs1 xs1 d := ⟨_, rfl⟩
    obtain ⟨V, hV⟩ : ∃ V, V = pairL p qs xs2 xs2 d := ⟨_, rfl⟩
    have HU := Lib.hid hU
    have HV := Lib.hid hV
    clear hs hva hvb hvr hrg hqb hxb1 hxb2 hxl1 hxl2 hpr hw hU hV
    rw [← HU.out, ← HV.out] at hcase
    have hcb : ((0 : Int) != 0) = false := by simp
    have hcb2 : ((0 : Int) == 0) = true := by simp
    rcases hcase with h | ⟨h, h'⟩
    · have hub : (U == 0) = true := by simp [h]
      clear h
      go_enter Try.func35, Try.ntmps35
      go_wp2_with (go_at_call 71; refine (c_checkVersV p a d cap qs _ 2 _ [xs1, xs2] _ hd (by omega) (len_two (by rw [HX.out.1]; exact hn1) (by rw [HY.out.1]; exact hn2)) (HQ.out.ext ((ext_alloc _ _).alloc _)) (rdR_two (a := ax1) (b := ax2) (n := _) (m := _) (ca := cx1) (cb := cx2) (by simp) (by simp) (HX.out.ext ((ext_alloc _ _).alloc _)) (HY.out.ext ((ext_alloc _ _).alloc _)))).mono ?_; rintro e w1 ⟨rfl, g1⟩; rw [HW0.out]; have hq0 : w1.cell? ⟨w.heap.size, 0, none⟩ = some (.int .i64 p) := g1.cell (by simp); have hq1 : w1.cell? ⟨w.heap.size, 1, none⟩ = some (.slice a d cap) := g1.cell (by simp))
      have G1 := Lib.hid (((ext_alloc w (.cells #[.int .i64 p, .slice a d cap] 28)).alloc (.cells #[.slice ax1 d cx1, .slice ax2 d cx2] 22)).trans g1)
      have HS0 := Lib.hid ((ext_drew _).cell hq0)
      have HS1 := Lib.hid ((ext_drew _).cell hq1)
      have GW := Lib.hid (G1.out.trans (ext_drew _))
      clear g1 hq0 hq1
      refine wp_region_lex [(2, .val (.int .i64 U))] (by kernel_rfl) (by kernel_rfl) ?_
      (refine LexW.pure (v := ?_) rfl rfl (fun w1 he => ?_) ?_; rotate_left; ( have e1 := he.cell HS0.out; have e2 := he.cell HS1.out; go_simp; rfl); simp only [Act.put, List.setIfInBounds_toArray, List.set_cons_zero, List.set_cons_succ])
      (refine LexW.pure (v := ?_) rfl rfl (fun w1 he => ?_) ?_; rotate_left; ( have e1 := he.cell HS0.out; have e2 := he.cell HS1.out; go_simp; rfl); simp only [Act.put, List.setIfInBounds_toArray, List.set_cons_zero, List.set_cons_succ])
      (refine LexW.call (f := ?_) (args := ?_) rfl rfl (fun w1 => ?_) (fun w1 he hdep => ?_) ?_; rotate_left 2; (go_simp; refine ⟨?_, ?_⟩ <;> rfl); ( rw [HU.out]; exact c_norm p a d cap qs ax1 cx1 xs1 w1 (by omega) (by omega) hd6 (HQ.out.ext (GW.out.trans he)) HQB.out (HX.out.ext (GW.out.trans he)) HGV.out); simp only [Act.put, List.setIfInBounds_toArray, List.set_cons_zero, List.set_cons_succ])
      (refine LexW.pure (v := ?_) rfl rfl (fun w1 he => ?_) ?_; rotate_left; ( have e1 := he.cell HS0.out; have e2 := he.cell HS1.out; go_simp; rfl); simp only [Act.put, List.setIfInBounds_toArray, List.set_cons_zero, List.set_cons_succ])
      (refine LexW.pure (v := ?_) rfl rfl (fun w1 he => ?_) ?_; rotate_left; ( have e1 := he.cell HS0.out; have e2 := he.cell HS1.out; go_simp; rfl); simp only [Act.put, List.setIfInBounds_toArray, List.set_cons_zero, List.set_cons_succ])
      (refine LexW.skip rfl rfl ?_; simp only [Act.put, List.setIfInBounds_toArray, List.set_cons_zero, List.set_cons_succ])
      (refine LexW.skip rfl rfl ?_; simp only [Act.put, List.setIfInBounds_toArray, List.set_cons_zero, List.set_cons_succ])
      (refine LexW.skip rfl rfl ?_; simp only [Act.put, List.setIfInBounds_toArray, List.set_cons_zero, List.set_cons_succ])
      (refine LexW.skip rfl rfl ?_; simp only [Act.put, List.setIfInBounds_toArray, List.set_cons_zero, List.set_cons_succ])
      (refine LexW.skip rfl rfl ?_; simp only [Act.put, List.setIfInBounds_toArray, List.set_cons_zero, List.set_cons_succ])
      (refine LexW.skip rfl rfl ?_; simp only [Act.put, List.setIfInBounds_toArray, List.set_cons_zero, List.set_cons_succ])
      (refine LexW.skip rfl rfl ?_; simp only [Act.put, List.setIfInBounds_toArray, List.set_cons_zero, List.set_cons_succ])
      (refine LexW.pure (v := ?_) rfl rfl (fun w1 he => ?_) ?_; rotate_left; ( have e1 := he.cell HS0.out; have e2 := he.cell HS1.out; go_simp; rfl); simp only [Act.put, List.setIfInBounds_toArray, List.set_cons_zero, List.set_cons_succ])
      refine LexW.nil (fun w3 he hkn => ?_)
      have HE := Lib.hid (GW.out.trans he)
      clear he hkn 
      go_wp2_with (fail)
      go_ret2
      exact ⟨none, 0, by rw [HC5.out]; rfl, own_nil _ _, HE.out⟩
    · have hub : (U == 0) = false := by simp [h]
      have huv : (U != V) = true := by simpa using h'
      clear h h'
      go_enter Try.func35, Try.ntmps35
      go_wp2_with (go_at_call 71; refine (c_checkVersV p a d cap qs _ 2 _ [xs1, xs2] _ hd (by omega) (len_two (by rw [HX.out.1]; exact hn1) (by rw [HY.out.1]; exact hn2)) (HQ.out.ext ((ext_alloc _ _).alloc _)) (rdR_two (a := ax1) (b := ax2) (n := _) (m := _) (ca := cx1) (cb := cx2) (by simp) (by simp) (HX.out.ext ((ext_alloc _ _).alloc _)) (HY.out.ext ((ext_alloc _ _).alloc _)))).mono ?_; rintro e w1 ⟨rfl, g1⟩; rw [HW0.out]; have hq0 : w1.cell? ⟨w.heap.size, 0, none⟩ = some (.int .i64 p) := g1.cell (by simp); have hq1 : w1.cell? ⟨w.heap.size, 1, none⟩ = some (.slice a d cap) := g1.cell (by simp))
      have G1 := Lib.hid (((ext_alloc w (.cells #[.int .i64 p, .slice a d cap] 28)).alloc (.cells #[.slice ax1 d cx1, .slice ax2 d cx2] 22)).trans g1)
      have HS0 := Lib.hid ((ext_drew _).cell hq0)
      have HS1 := Lib.hid ((ext_drew _).cell hq1)
      have GW := Lib.hid (G1.out.trans (ext_drew _))
      clear g1 hq0 hq1
      refine wp_region_lex [(2, .val (.int .i64 U)), (7, .val (.int .i64 U)), (10, .val (.int .i64 V))] (by kernel_rfl) (by kernel_rfl) ?_
      (refine LexW.pure (v := ?_) rfl rfl (fun w1 he => ?_) ?_; rotate_left; ( have e1 := he.cell HS0.out; have e2 := he.cell HS1.out; go_simp; rfl); simp only [Act.put, List.setIfInBounds_toArray, List.set_cons_zero, List.set_cons_succ])
      (refine LexW.pure (v := ?_) rfl rfl (fun w1 he => ?_) ?_; rotate_left; ( have e1 := he.cell HS0.out; have e2 := he.cell HS1.out; go_simp; rfl); simp only [Act.put, List.setIfInBounds_toArray, List.set_cons_zero, List.set_cons_succ])
      (refine LexW.call (f := ?_) (args := ?_) rfl rfl (fun w1 => ?_) (fun w1 he hdep => ?_) ?_; rotate_left 2; (go_simp; refine ⟨?_, ?_⟩ <;> rfl); ( rw [HU.out]; exact c_norm p a d cap qs ax1 cx1 xs1 w1 (by omega) (by omega) hd6 (HQ.out.ext (GW.out.trans he)) HQB.out (HX.out.ext (GW.out.trans he)) HGV.out); simp only [Act.put, List.setIfInBounds_toArray, List.set_cons_zero, List.set_cons_succ])
      (refine LexW.pure (v := ?_) rfl rfl (fun w1 he => ?_) ?_; rotate_left; ( have e1 := he.cell HS0.out; have e2 := he.cell HS1.out; go_simp; rfl); simp only [Act.put, List.setIfInBounds_toArray, List.set_cons_zero, List.set_cons_succ])
      (refine LexW.pure (v := ?_) rfl rfl (fun w1 he => ?_) ?_; rotate_left; ( have e1 := he.cell HS0.out; have e2 := he.cell HS1.out; go_simp; rfl); simp only [Act.put, List.setIfInBounds_toArray, List.set_cons_zero, List.set_cons_succ])
      (refine LexW.pure (v := ?_) rfl rfl (fun w1 he => ?_) ?_; rotate_left; ( have e1 := he.cell HS0.out; have e2 := he.cell HS1.out; go_simp; rfl); simp only [Act.put, List.setIfInBounds_toArray, List.set_cons_zero, List.set_cons_succ])
      (refine LexW.pure (v := ?_) rfl rfl (fun w1 he => ?_) ?_; rotate_left; ( have e1 := he.cell HS0.out; have e2 := he.cell HS1.out; go_simp; rfl); simp only [Act.put, List.setIfInBounds_toArray, List.set_cons_zero, List.set_cons_succ])
      (refine LexW.call (f := ?_) (args := ?_) rfl rfl (fun w1 => ?_) (fun w1 he hdep => ?_) ?_; rotate_left 2; (go_simp; refine ⟨?_, ?_⟩ <;> rfl); ( rw [HU.out]; exact c_norm p a d cap qs ax1 cx1 xs1 w1 (by omega) (by omega) hd6 (HQ.out.ext (GW.out.trans he)) HQB.out (HX.out.ext (GW.out.trans he)) HGV.out); simp only [Act.put, List.setIfInBounds_toArray, List.set_cons_zero, List.set_cons_succ])
      (refine LexW.pure (v := ?_) rfl rfl (fun w1 he => ?_) ?_; rotate_left; ( have e1 := he.cell HS0.out; have e2 := he.cell HS1.out; go_simp; rfl); simp only [Act.put, List.setIfInBounds_toArray, List.set_cons_zero, List.set_cons_succ])
      (refine LexW.pure (v := ?_) rfl rfl (fun w1 he => ?_) ?_; rotate_left; ( have e1 := he.cell HS0.out; have e2 := he.cell HS1.out; go_simp; rfl); simp only [Act.put, List.setIfInBounds_toArray, List.set_cons_zero, List.set_cons_succ])
      (refine LexW.call (f := ?_) (args := ?_) rfl rfl (fun w1 => ?_) (fun w1 he hdep => ?_) ?_; rotate_left 2; (go_simp; refine ⟨?_, ?_⟩ <;> rfl); ( rw [HV.out]; exact c_norm p a d cap qs ax2 cx2 xs2 w1 (by omega) (by omega) hd6 (HQ.out.ext (GW.out.trans he)) HQB.out (HY.out.ext (GW.out.trans he)) HGU.out); simp only [Act.put, List.setIfInBounds_toArray, List.set_cons_zero, List.set_cons_succ])
      (refine LexW.pure (v := ?_) rfl rfl (fun w1 he => ?_) ?_; rotate_left; ( have e1 := he.cell HS0.out; have e2 := he.cell HS1.out; go_simp; rfl); simp only [Act.put, List.setIfInBounds_toArray, List.set_cons_zero, List.set_cons_succ])
      (refine LexW.pure (v := ?_) rfl rfl (fun w1 he => ?_) ?_; rotate_left; ( have e1 := he.cell HS0.out; have e2 := he.cell HS1.out; go_simp; rfl); simp only [Act.put, List.setIfInBounds_toArray, List.set_cons_zero, List.set_cons_succ])
      refine LexW.nil (fun w3 he hkn => ?_)
      have HE := Lib.hid (GW.out.trans he)
      clear he hkn 
      go_wp2_with (fail)
      go_ret2
      exact ⟨none, 0, by rw [HC5.out]; rfl, own_nil _ _, HE.out⟩
  · have HCE := Lib.hid (show codeVB p qs xs1 xs2 = codeW p qs [xs1, xs2] by simp [codeVB, hw])
    have hcb : (codeW p qs [xs1, xs2] != 0) = true := by simp [hw]
    have hcb2 : (codeW p qs [xs1, xs2] == 0) = false := by simp [hw]
    clear hw hc
    go_enter Try.func35, Try.ntmps35
    go_wp2_with (go_at_call 71; refine (c_checkVersV p a d cap qs _ 2 _ [xs1, xs2] _ hd (by omega) (len_two (by rw [hx1.1]; exact hn1) (by rw [hx2.1]; exact hn2)) (hq.ext ((ext_alloc _ _).alloc _)) (rdR_two (a := ax1) (b := ax2) (n := _) (m := _) (ca := cx1) (cb := cx2) (by simp) (by simp) (hx1.ext ((ext_alloc _ _).alloc _)) (hx2.ext ((ext_alloc _ _).alloc _)))).mono ?_; rintro e w1 ⟨rfl, g1⟩)
    go_ret2
    exact ⟨none, 0, by rw [HCE.out]; rfl, own_nil _ _, ((ext_alloc _ _).alloc _).trans g1⟩

set_option maxHeartbeats 8000000 in
set_option maxRecDepth 100000 in
theorem c_VersorBetween_ok (p : Int) (a : Option Addr) (d cap : Nat) (qs : List Int) (ax1 : Option Addr) (n1 cx1 : Nat) (xs1 : List Int) (ax2 : Option Addr) (n2 cx2 : Nat) (xs2 : List Int) (w : World) (hd : d ≤ 4194304) (hn1 : n1 ≤ 4194304) (hn2 : n2 ≤ 4194304) (hq : RdC w a d qs) (hx1 : RdC w ax1 n1 xs1) (hx2 : RdC w ax2 n2 xs2) (hc : codeVB p qs xs1 xs2 = 0) :
    Calls Try.prog 35 #[.agg #[.int .i64 p, .slice a d cap], .slice ax1 n1 cx1, .slice ax2 n2 cx2] w fun e w' => ∃ ra rc, e = .returned (.tuple #[.slice ra (2 ^ d) rc, .int .i64 0]) ∧ OwnC w.heap.size w' ra (2 ^ d) rc (vbL p qs xs1 xs2) ∧ Ext w w' := by
  obtain ⟨hw, hn, he⟩ := codeVB_zero hc
  rw [hq.1] at hn he
  obtain ⟨hvr, hrg⟩ := codeW_zero hw
  obtain ⟨hs, hva, hvb⟩ := codeVR_two hvr
  obtain ⟨hpr, hd1, hd6, hqb⟩ := space_of hs
  have hpb := prime_bd hpr
  obtain ⟨hxl1, hxb1⟩ := vec_of hva
  obtain ⟨hxl2, hxb2⟩ := vec_of hvb
  rw [hq.1] at hxl1 hxl2 hd6 hd1
  obtain rfl : d = n1 := hxl1.symm.trans hx1.1
  obtain rfl : d = n2 := hxl2.symm.trans hx2.1
  have HW0 := Lib.hid hw
  have HQB := Lib.hid hqb
  have HGV := Lib.hid (good_isB hx1.1 hxb1)
  have HGU := Lib.hid (good_isB hx2.1 hxb2)
  have HQ := Lib.hid hq
  have HX := Lib.hid hx1
  have HY := Lib.hid hx2
  obtain ⟨U, hU⟩ : ∃ U, U = pairL p qs xs1 xs1 d := ⟨_, rfl⟩
  obtain ⟨V, hV⟩ : ∃ V, V = pairL p qs xs2 xs2 d := ⟨_, rfl⟩
  have HU := Lib.hid hU
  have HV := Lib.hid hV
  clear hs hva hvb hvr hrg hqb hxb1 hxb2 hxl1 hxl2 hpr hw hU hV
  rw [← HU.out] at hn he
  rw [← HV.out] at he
  have hub : (U == 0) = false := by simpa using hn
  have huv : (U != V) = false := by simp [he]
  have hcb : ((0 : Int) != 0) = false := by simp
  have hcb2 : ((0 : Int) == 0) = true := by simp
  obtain ⟨N, hN⟩ : ∃ N, N = 2 ^ d := ⟨_, rfl⟩
  rw [← hN]
  have HN := Lib.hid hN
  have HGL : Hid (Good p d (plusL p xs2 xs1 (-1) d)) := Lib.hid (plus_good (by omega))
  have HG1 : Hid (Good p d (plusL p xs2 xs1 1 d)) := Lib.hid (plus_good (by omega))
  have HG2 := Lib.hid (rowsG_two HGU.out HG1.out)
  obtain ⟨Dn, hDn⟩ : ∃ D, D = pairL p qs (plusL p xs2 xs1 (-1) d) (plusL p xs2 xs1 (-1) d) d := ⟨_, rfl⟩
  have HDn := Lib.hid hDn
  have HVB := Lib.hid (show vbL p qs xs1 xs2 = if Dn = 0 then prodS p qs tkA [xs2, plusL p xs2 xs1 1 d] 2 else vecL N (plusL p xs2 xs1 (-1) d) by unfold vbL; rw [HQ.out.1, ← hN, ← hDn])
  clear hn he hN hDn hc hq hx1 hx2
  have hN64 : N ≤ 64 := by rw [HN.out]; exact pow_le64 hd6
  go_enter Try.func35, Try.ntmps35
  go_wp2_with (go_at_call 71; refine (c_checkVersV p a d cap qs _ 2 _ [xs1, xs2] _ hd (by omega) (len_two (by rw [HX.out.1]; exact hn1) (by rw [HY.out.1]; exact hn2)) (HQ.out.ext ((ext_alloc _ _).alloc _)) (rdR_two (a := ax1) (b := ax2) (n := _) (m := _) (ca := cx1) (cb := cx2) (by simp) (by simp) (HX.out.ext ((ext_alloc _ _).alloc _)) (HY.out.ext ((ext_alloc _ _).alloc _)))).mono ?_; rintro e w1 ⟨rfl, g1⟩; rw [HW0.out]; have hq0 : w1.cell? ⟨w.heap.size, 0, none⟩ = some (.int .i64 p) := g1.cell (by simp); have hq1 : w1.cell? ⟨w.heap.size, 1, none⟩ = some (.slice a d cap) := g1.cell (by simp))
  have G1 := Lib.hid (((ext_alloc w (.cells #[.int .i64 p, .slice a d cap] 28)).alloc (.cells #[.slice ax1 d cx1, .slice ax2 d cx2] 22)).trans g1)
  have HS0 := Lib.hid ((ext_drew _).cell hq0)
  have HS1 := Lib.hid ((ext_drew _).cell hq1)
  have GW := Lib.hid (G1.out.trans (ext_drew _))
  clear g1 hq0 hq1
  refine wp_region_lex [(2, .val (.int .i64 U)), (7, .val (.int .i64 U)), (10, .val (.int .i64 V))] (by kernel_rfl) (by kernel_rfl) ?_
  (refine LexW.pure (v := ?_) rfl rfl (fun w1 he => ?_) ?_; rotate_left; ( have e1 := he.cell HS0.out; have e2 := he.cell HS1.out; go_simp; rfl); simp only [Act.put, List.setIfInBounds_toArray, List.set_cons_zero, List.set_cons_succ])
  (refine LexW.pure (v := ?_) rfl rfl (fun w1 he => ?_) ?_; rotate_left; ( have e1 := he.cell HS0.out; have e2 := he.cell HS1.out; go_simp; rfl); simp only [Act.put, List.setIfInBounds_toArray, List.set_cons_zero, List.set_cons_succ])
  (refine LexW.call (f := ?_) (args := ?_) rfl rfl (fun w1 => ?_) (fun w1 he hdep => ?_) ?_; rotate_left 2; (go_simp; refine ⟨?_, ?_⟩ <;> rfl); ( rw [HU.out]; exact c_norm p a d cap qs ax1 cx1 xs1 w1 (by omega) (by omega) hd6 (HQ.out.ext (GW.out.trans he)) HQB.out (HX.out.ext (GW.out.trans he)) HGV.out); simp only [Act.put, List.setIfInBounds_toArray, List.set_cons_zero, List.set_cons_succ])
  (refine LexW.pure (v := ?_) rfl rfl (fun w1 he => ?_) ?_; rotate_left; ( have e1 := he.cell HS0.out; have e2 := he.cell HS1.out; go_simp; rfl); simp only [Act.put, List.setIfInBounds_toArray, List.set_cons_zero, List.set_cons_succ])
  (refine LexW.pure (v := ?_) rfl rfl (fun w1 he => ?_) ?_; rotate_left; ( have e1 := he.cell HS0.out; have e2 := he.cell HS1.out; go_simp; rfl); simp only [Act.put, List.setIfInBounds_toArray, List.set_cons_zero, List.set_cons_succ])
  (refine LexW.pure (v := ?_) rfl rfl (fun w1 he => ?_) ?_; rotate_left; ( have e1 := he.cell HS0.out; have e2 := he.cell HS1.out; go_simp; rfl); simp only [Act.put, List.setIfInBounds_toArray, List.set_cons_zero, List.set_cons_succ])
  (refine LexW.pure (v := ?_) rfl rfl (fun w1 he => ?_) ?_; rotate_left; ( have e1 := he.cell HS0.out; have e2 := he.cell HS1.out; go_simp; rfl); simp only [Act.put, List.setIfInBounds_toArray, List.set_cons_zero, List.set_cons_succ])
  (refine LexW.call (f := ?_) (args := ?_) rfl rfl (fun w1 => ?_) (fun w1 he hdep => ?_) ?_; rotate_left 2; (go_simp; refine ⟨?_, ?_⟩ <;> rfl); ( rw [HU.out]; exact c_norm p a d cap qs ax1 cx1 xs1 w1 (by omega) (by omega) hd6 (HQ.out.ext (GW.out.trans he)) HQB.out (HX.out.ext (GW.out.trans he)) HGV.out); simp only [Act.put, List.setIfInBounds_toArray, List.set_cons_zero, List.set_cons_succ])
  (refine LexW.pure (v := ?_) rfl rfl (fun w1 he => ?_) ?_; rotate_left; ( have e1 := he.cell HS0.out; have e2 := he.cell HS1.out; go_simp; rfl); simp only [Act.put, List.setIfInBounds_toArray, List.set_cons_zero, List.set_cons_succ])
  (refine LexW.pure (v := ?_) rfl rfl (fun w1 he => ?_) ?_; rotate_left; ( have e1 := he.cell HS0.out; have e2 := he.cell HS1.out; go_simp; rfl); simp only [Act.put, List.setIfInBounds_toArray, List.set_cons_zero, List.set_cons_succ])
  (refine LexW.call (f := ?_) (args := ?_) rfl rfl (fun w1 => ?_) (fun w1 he hdep => ?_) ?_; rotate_left 2; (go_simp; refine ⟨?_, ?_⟩ <;> rfl); ( rw [HV.out]; exact c_norm p a d cap qs ax2 cx2 xs2 w1 (by omega) (by omega) hd6 (HQ.out.ext (GW.out.trans he)) HQB.out (HY.out.ext (GW.out.trans he)) HGU.out); simp only [Act.put, List.setIfInBounds_toArray, List.set_cons_zero, List.set_cons_succ])
  (refine LexW.pure (v := ?_) rfl rfl (fun w1 he => ?_) ?_; rotate_left; ( have e1 := he.cell HS0.out; have e2 := he.cell HS1.out; go_simp; rfl); simp only [Act.put, List.setIfInBounds_toArray, List.set_cons_zero, List.set_cons_succ])
  (refine LexW.pure (v := ?_) rfl rfl (fun w1 he => ?_) ?_; rotate_left; ( have e1 := he.cell HS0.out; have e2 := he.cell HS1.out; go_simp; rfl); simp only [Act.put, List.setIfInBounds_toArray, List.set_cons_zero, List.set_cons_succ])
  refine LexW.nil (fun w3 he hkn => ?_)
  have T0 := Lib.hid (he.cell HS0.out)
  have T1 := Lib.hid (he.cell HS1.out)
  have HE := Lib.hid (GW.out.trans he)
  clear he hkn 
  by_cases hz : Dn = 0
  · have hzb : (Dn != 0) = false := by simp [hz]
    have HZ := Lib.hid (show vbL p qs xs1 xs2 = prodS p qs tkA [xs2, plusL p xs2 xs1 1 d] 2 by rw [HVB.out, if_pos hz])
    clear hz
    have hb0 := T0.out
    have hb1 := T1.out
    go_wp2_with (first | (go_at_call 67; refine (c_field _ _ _).mono ?_; rintro e w4 ⟨rfl, g4⟩; have E4 := Lib.hid (HE.out.trans g4); have hb0 := g4.cell T0.out; have hb1 := g4.cell T1.out; have T4a := Lib.hid hb0; have T4b := Lib.hid hb1) | (go_at_call 89; refine (c_plus p _ _ d cx2 cx1 xs2 xs1 (-1) _ (by omega) (by omega) (by omega) (by omega) (HY.out.ext E4.out) (HX.out.ext E4.out) HGU.out HGV.out).mono ?_; rintro e w5 ⟨g5', rc5, rfl, ho5, g5⟩; have HO5 := Lib.hid ho5; have E5 := Lib.hid (E4.out.trans g5); have hb0' := g5.cell T4a.out; have hb1' := g5.cell T4b.out; have T5a := Lib.hid hb0'; have T5b := Lib.hid hb1'; clear ho5 hb0 hb1) | (go_at_call 95; refine (c_norm p a d cap qs _ _ (plusL p xs2 xs1 (-1) d) _ (by omega) (by omega) hd6 (HQ.out.ext E5.out) HQB.out HO5.out.rd HGL.out).mono ?_; rintro e w6 ⟨rfl, g6⟩; rw [← HDn.out]; have hb0'' := g6.cell T5a.out; have hb1'' := g6.cell T5b.out; have T6a := Lib.hid hb0''; have T6b := Lib.hid hb1''; have E6 := Lib.hid (E5.out.trans g6); have O6 := Lib.hid (HO5.out.ext g6)))
    have T6a' := Lib.hid ((ext_drew _).cell T6a.out)
    have T6b' := Lib.hid ((ext_drew _).cell T6b.out)
    refine wp_region_lex [(3, .val (.int .i64 p)), (6, .ownS w.heap.size d (plusL p xs2 xs1 1 d)), (7, .rows 2 [xs2, plusL p xs2 xs1 1 d]), (8, .ownG w.heap.size N (prodS p qs tkA [xs2, plusL p xs2 xs1 1 d] 2))] (by kernel_rfl) (by kernel_rfl) ?_
    (refine LexW.pure (v := ?_) rfl rfl (fun w1 he => ?_) ?_; rotate_left; ( have e1 := he.cell T6a'.out; have e2 := he.cell T6b'.out; go_simp; rfl); simp only [Act.put, List.setIfInBounds_toArray, List.set_cons_zero, List.set_cons_succ])
    (refine LexW.pure (v := ?_) rfl rfl (fun w1 he => ?_) ?_; rotate_left; ( have e1 := he.cell T6a'.out; have e2 := he.cell T6b'.out; go_simp; rfl); simp only [Act.put, List.setIfInBounds_toArray, List.set_cons_zero, List.set_cons_succ])
    (refine LexW.pure (v := ?_) rfl rfl (fun w1 he => ?_) ?_; rotate_left; ( have e1 := he.cell T6a'.out; have e2 := he.cell T6b'.out; go_simp; rfl); simp only [Act.put, List.setIfInBounds_toArray, List.set_cons_zero, List.set_cons_succ])
    (refine LexW.call (f := ?_) (args := ?_) rfl rfl (fun w1 => ?_) (fun w1 he hdep => ?_) ?_; rotate_left 2; (go_simp; refine ⟨?_, ?_⟩ <;> rfl); ( exact c_field _ _ _); simp only [Act.put, List.setIfInBounds_toArray, List.set_cons_zero, List.set_cons_succ])
    (refine LexW.pure (v := ?_) rfl rfl (fun w1 he => ?_) ?_; rotate_left; ( have e1 := he.cell T6a'.out; have e2 := he.cell T6b'.out; go_simp; rfl); simp only [Act.put, List.setIfInBounds_toArray, List.set_cons_zero, List.set_cons_succ])
    (refine LexW.pure (v := ?_) rfl rfl (fun w1 he => ?_) ?_; rotate_left; ( have e1 := he.cell T6a'.out; have e2 := he.cell T6b'.out; go_simp; rfl); simp only [Act.put, List.setIfInBounds_toArray, List.set_cons_zero, List.set_cons_succ])
    (refine LexW.callR (f := ?_) (args := ?_) rfl rfl (fun w1 => ?_) (fun w1 he hdep => ?_) (fun v hv => ?_); rotate_left 2; (go_simp; refine ⟨?_, ?_⟩ <;> rfl); ( refine (c_plus p _ _ d cx2 cx1 xs2 xs1 1 w1 (by omega) (by omega) (by omega) (by omega) (HY.out.ext ((E6.out.trans (ext_drew _)).trans he)) (HX.out.ext ((E6.out.trans (ext_drew _)).trans he)) HGU.out HGV.out).mono ?_; rintro e w2 ⟨g, rc, rfl, ho, g2⟩; exact ⟨_, rfl, g2, g, rc, rfl, ho.mono (Nat.le_trans (E6.out.trans (ext_drew _)).size he.size)⟩); simp only [Act.put, List.setIfInBounds_toArray, List.set_cons_zero, List.set_cons_succ])
    obtain ⟨_, g49, c49, rfl, _⟩ := hv
    (refine LexW.rel rfl rfl (fun w1 he hdep => ?_) (fun v hv => ?_); ( obtain ⟨_, _, q49, r49⟩ : (SPred.ownS w.heap.size d (plusL p xs2 xs1 1 d)).holds (.slice (some ⟨g49, 0, none⟩) d c49) w1 := hdep (6, 49) (by decide +kernel); cases q49; exact ⟨.slice (some ⟨w1.heap.size, 0, none⟩) 2 2, w1.alloc (.cells #[.slice ax2 d cx2, .slice (some ⟨g49, 0, none⟩) d c49] 22), (by go_simp), ext_alloc _ _, _, rfl, rdR_two (a := ax2) (b := (some ⟨g49, 0, none⟩)) (n := d) (m := d) (ca := cx2) (cb := c49) (by simp) (by simp) ((HY.out.ext ((E6.out.trans (ext_drew _)).trans he)).ext (ext_alloc _ _)) ((r49.rd).ext (ext_alloc _ _))⟩); simp only [Act.put, List.setIfInBounds_toArray, List.set_cons_zero, List.set_cons_succ])
    obtain ⟨_, g50, rfl, _⟩ := hv
    (refine LexW.callR (f := ?_) (args := ?_) rfl rfl (fun w1 => ?_) (fun w1 he hdep => ?_) (fun v hv => ?_); rotate_left 2; (go_simp; refine ⟨?_, ?_⟩ <;> rfl); ( obtain ⟨_, q50, r50⟩ : (SPred.rows 2 [xs2, plusL p xs2 xs1 1 d]).holds (.slice (some ⟨g50, 0, none⟩) 2 2) w1 := hdep (7, 50) (by decide +kernel); cases q50; refine (c_versor HN.out p a cap qs _ 2 2 [xs2, plusL p xs2 xs1 1 d] w1 hd6 (by omega) (by omega) (by omega) (HQ.out.ext ((E6.out.trans (ext_drew _)).trans he)) HQB.out r50 HG2.out).mono ?_; rintro e w2 ⟨g, rfl, ho, g2⟩; exact ⟨_, rfl, g2, g, rfl, ho.mono (Nat.le_trans (E6.out.trans (ext_drew _)).size he.size)⟩); simp only [Act.put, List.setIfInBounds_toArray, List.set_cons_zero, List.set_cons_succ])
    obtain ⟨_, g51, rfl, _⟩ := hv
    (refine LexW.pure (v := ?_) rfl rfl (fun w1 he => ?_) ?_; rotate_left; ( have e1 := he.cell T6a'.out; have e2 := he.cell T6b'.out; go_simp; rfl); simp only [Act.put, List.setIfInBounds_toArray, List.set_cons_zero, List.set_cons_succ])
    (refine LexW.pure (v := ?_) rfl rfl (fun w1 he => ?_) ?_; rotate_left; ( have e1 := he.cell T6a'.out; have e2 := he.cell T6b'.out; go_simp; rfl); simp only [Act.put, List.setIfInBounds_toArray, List.set_cons_zero, List.set_cons_succ])
    refine LexW.nil (fun w3 he hkn => ?_)
    obtain ⟨_, q51, r51⟩ : (SPred.ownG w.heap.size N (prodS p qs tkA [xs2, plusL p xs2 xs1 1 d] 2)).holds (.slice (some ⟨g51, 0, none⟩) N N) w3 := hkn (8, _) (by simp)
    cases q51
    have R51 := Lib.hid r51
    have HE9 := Lib.hid ((E6.out.trans (ext_drew _)).trans he)
    clear he hkn r51
    go_wp2_with (fail)
    go_ret2
    exact ⟨_, _, rfl, by rw [HZ.out]; exact R51.out, HE9.out⟩
  · have hzb : (Dn != 0) = true := by simpa using hz
    have HZ := Lib.hid (show vbL p qs xs1 xs2 = vecL N (plusL p xs2 xs1 (-1) d) by rw [HVB.out, if_neg hz])
    clear hz
    have hb0 := T0.out
    have hb1 := T1.out
    go_wp2_with (first | (go_at_call 63; refine (c_vector HN.out p a cap _ _ (plusL p xs2 xs1 (-1) d) _ hd6 O6.out.rd).mono ?_; rintro e w7 ⟨g7', rfl, ho7, g7⟩; have O7 := Lib.hid (ho7.mono E6.out.size); have E7 := Lib.hid (E6.out.trans g7); clear ho7) | (go_at_call 67; refine (c_field _ _ _).mono ?_; rintro e w4 ⟨rfl, g4⟩; have E4 := Lib.hid (HE.out.trans g4); have hb0 := g4.cell T0.out; have hb1 := g4.cell T1.out; have T4a := Lib.hid hb0; have T4b := Lib.hid hb1) | (go_at_call 89; refine (c_plus p _ _ d cx2 cx1 xs2 xs1 (-1) _ (by omega) (by omega) (by omega) (by omega) (HY.out.ext E4.out) (HX.out.ext E4.out) HGU.out HGV.out).mono ?_; rintro e w5 ⟨g5', rc5, rfl, ho5, g5⟩; have HO5 := Lib.hid ho5; have E5 := Lib.hid (E4.out.trans g5); have hb0' := g5.cell T4a.out; have hb1' := g5.cell T4b.out; have T5a := Lib.hid hb0'; have T5b := Lib.hid hb1'; clear ho5 hb0 hb1) | (go_at_call 95; refine (c_norm p a d cap qs _ _ (plusL p xs2 xs1 (-1) d) _ (by omega) (by omega) hd6 (HQ.out.ext E5.out) HQB.out HO5.out.rd HGL.out).mono ?_; rintro e w6 ⟨rfl, g6⟩; rw [← HDn.out]; have hb0'' := g6.cell T5a.out; have hb1'' := g6.cell T5b.out; have T6a := Lib.hid hb0''; have T6b := Lib.hid hb1''; have E6 := Lib.hid (E5.out.trans g6); have O6 := Lib.hid (HO5.out.ext g6)))
    go_ret2
    exact ⟨_, _, rfl, by rw [HZ.out]; exact O7.out, E7.out⟩

set_option maxHeartbeats 4000000 in
set_option maxRecDepth 100000 in
theorem s_VersorBetween_bad (p : Int) (a : Option Addr) (d cap : Nat) (qs : List Int) (ax1 : Option Addr) (n1 cx1 : Nat) (xs1 : List Int) (ax2 : Option Addr) (n2 cx2 : Nat) (xs2 : List Int) (w : World) (hd : d ≤ 4194304) (hn1 : n1 ≤ 4194304) (hn2 : n2 ≤ 4194304) (hq : RdC w a d qs) (hx1 : RdC w ax1 n1 xs1) (hx2 : RdC w ax2 n2 xs2) (hc : codeVB p qs xs1 xs2 ≠ 0) :
    Calls Try.prog 34 #[.agg #[.int .i64 p, .slice a d cap], .slice ax1 n1 cx1, .slice ax2 n2 cx2] w fun e w' => ∃ ra rc, e = .returned (.tuple #[.slice ra 0 rc, .int .i64 (codeVB p qs xs1 xs2)]) ∧ OwnC w.heap.size w' ra 0 rc [] ∧ Ext w w' := by
  by_cases hw : codeW p qs [xs1, xs2] = 0
  · obtain ⟨h5, hcase⟩ := codeVB_five hw hc
    have HC5 := Lib.hid h5
    clear h5 hc
    rw [hq.1] at hcase
    obtain ⟨hvr, hrg⟩ := codeW_zero hw
    obtain ⟨hs, hva, hvb⟩ := codeVR_two hvr
    obtain ⟨hpr, hd1, hd6, hqb⟩ := space_of hs
    have hpb := prime_bd hpr
    obtain ⟨hxl1, hxb1⟩ := vec_of hva
    obtain ⟨hxl2, hxb2⟩ := vec_of hvb
    rw [hq.1] at hxl1 hxl2 hd6 hd1
    obtain rfl : d = n1 := hxl1.symm.trans hx1.1
    obtain rfl : d = n2 := hxl2.symm.trans hx2.1
    have HW0 := Lib.hid hw
    have HQB := Lib.hid hqb
    have HGV := Lib.hid (good_isB hx1.1 hxb1)
    have HGU := Lib.hid (good_isB hx2.1 hxb2)
    have HQ := Lib.hid hq
    have HX := Lib.hid hx1
    have HY := Lib.hid hx2
    obtain ⟨U, hU⟩ : ∃ U, U = pairL p qs xs1 xs1 d := ⟨_, rfl⟩
    obtain ⟨V, hV⟩ : ∃ V, V = pairL p qs xs2 xs2 d := ⟨_, rfl⟩
    have HU := Lib.hid hU
    have HV := Lib.hid hV
    clear hs hva hvb hvr hrg hqb hxb1 hxb2 hxl1 hxl2 hpr hw hU hV
    rw [← HU.out, ← HV.out] at hcase
    have hcb : ((0 : Int) != 0) = false := by simp
    have hcb2 : ((0 : Int) == 0) = true := by simp
    rcases hcase with h | ⟨h, h'⟩
    · have hub : (U == 0) = true := by simp [h]
      clear h
      go_enter Try.func34, Try.ntmps34
      go_wp2_with (go_at_call 73; refine (s_vectors p a d cap qs _ 2 _ [xs1, xs2] _ hd (by omega) (len_two (by rw [HX.out.1]; exact hn1) (by rw [HY.out.1]; exact hn2)) (HQ.out.ext ((ext_alloc _ _).alloc _)) (rdR_two (a := ax1) (b := ax2) (n := _) (m := _) (ca := cx1) (cb := cx2) (by simp) (by simp) (HX.out.ext ((ext_alloc _ _).alloc _)) (HY.out.ext ((ext_alloc _ _).alloc _)))).mono ?_; rintro e w1 ⟨rfl, g1⟩; rw [HW0.out]; have hq0 : w1.cell? ⟨w.heap.size, 0, none⟩ = some (.int .i64 p) := g1.cell (by simp); have hq1 : w1.cell? ⟨w.heap.size, 1, none⟩ = some (.slice a d cap) := g1.cell (by simp))
      have G1 := Lib.hid (((ext_alloc w (.cells #[.int .i64 p, .slice a d cap] 28)).alloc (.cells #[.slice ax1 d cx1, .slice ax2 d cx2] 22)).trans g1)
      have HS0 := Lib.hid ((ext_drew _).cell hq0)
      have HS1 := Lib.hid ((ext_drew _).cell hq1)
      have GW := Lib.hid (G1.out.trans (ext_drew _))
      clear g1 hq0 hq1
      refine wp_region_lex [(6, .val (.int .i64 U))] (by kernel_rfl) (by kernel_rfl) ?_
      (refine LexW.pure (v := ?_) rfl rfl (fun w1 he => ?_) ?_; rotate_left; ( have e1 := he.cell HS0.out; have e2 := he.cell HS1.out; go_simp; rfl); simp only [Act.put, List.setIfInBounds_toArray, List.set_cons_zero, List.set_cons_succ])
      (refine LexW.pure (v := ?_) rfl rfl (fun w1 he => ?_) ?_; rotate_left; ( have e1 := he.cell HS0.out; have e2 := he.cell HS1.out; go_simp; rfl); simp only [Act.put, List.setIfInBounds_toArray, List.set_cons_zero, List.set_cons_succ])
      (refine LexW.pure (v := ?_) rfl rfl (fun w1 he => ?_) ?_; rotate_left; ( have e1 := he.cell HS0.out; have e2 := he.cell HS1.out; go_simp; rfl); simp only [Act.put, List.setIfInBounds_toArray, List.set_cons_zero, List.set_cons_succ])
      (refine LexW.pure (v := ?_) rfl rfl (fun w1 he => ?_) ?_; rotate_left; ( have e1 := he.cell HS0.out; have e2 := he.cell HS1.out; go_simp; rfl); simp only [Act.put, List.setIfInBounds_toArray, List.set_cons_zero, List.set_cons_succ])
      (refine LexW.pure (v := ?_) rfl rfl (fun w1 he => ?_) ?_; rotate_left; ( have e1 := he.cell HS0.out; have e2 := he.cell HS1.out; go_simp; rfl); simp only [Act.put, List.setIfInBounds_toArray, List.set_cons_zero, List.set_cons_succ])
      (refine LexW.pure (v := ?_) rfl rfl (fun w1 he => ?_) ?_; rotate_left; ( have e1 := he.cell HS0.out; have e2 := he.cell HS1.out; go_simp; rfl); simp only [Act.put, List.setIfInBounds_toArray, List.set_cons_zero, List.set_cons_succ])
      (refine LexW.call (f := ?_) (args := ?_) rfl rfl (fun w1 => ?_) (fun w1 he hdep => ?_) ?_; rotate_left 2; (go_simp; refine ⟨?_, ?_⟩ <;> rfl); ( rw [HU.out]; exact s_pair p a d cap qs ax1 cx1 xs1 ax1 cx1 xs1 w1 (by omega) (by omega) hd6 (HQ.out.ext (GW.out.trans he)) HQB.out (HX.out.ext (GW.out.trans he)) HGV.out (HX.out.ext (GW.out.trans he)) HGV.out); simp only [Act.put, List.setIfInBounds_toArray, List.set_cons_zero, List.set_cons_succ])
      (refine LexW.pure (v := ?_) rfl rfl (fun w1 he => ?_) ?_; rotate_left; ( have e1 := he.cell HS0.out; have e2 := he.cell HS1.out; go_simp; rfl); simp only [Act.put, List.setIfInBounds_toArray, List.set_cons_zero, List.set_cons_succ])
      (refine LexW.pure (v := ?_) rfl rfl (fun w1 he => ?_) ?_; rotate_left; ( have e1 := he.cell HS0.out; have e2 := he.cell HS1.out; go_simp; rfl); simp only [Act.put, List.setIfInBounds_toArray, List.set_cons_zero, List.set_cons_succ])
      (refine LexW.skip rfl rfl ?_; simp only [Act.put, List.setIfInBounds_toArray, List.set_cons_zero, List.set_cons_succ])
      (refine LexW.skip rfl rfl ?_; simp only [Act.put, List.setIfInBounds_toArray, List.set_cons_zero, List.set_cons_succ])
      (refine LexW.skip rfl rfl ?_; simp only [Act.put, List.setIfInBounds_toArray, List.set_cons_zero, List.set_cons_succ])
      (refine LexW.skip rfl rfl ?_; simp only [Act.put, List.setIfInBounds_toArray, List.set_cons_zero, List.set_cons_succ])
      (refine LexW.skip rfl rfl ?_; simp only [Act.put, List.setIfInBounds_toArray, List.set_cons_zero, List.set_cons_succ])
      (refine LexW.skip rfl rfl ?_; simp only [Act.put, List.setIfInBounds_toArray, List.set_cons_zero, List.set_cons_succ])
      (refine LexW.skip rfl rfl ?_; simp only [Act.put, List.setIfInBounds_toArray, List.set_cons_zero, List.set_cons_succ])
      (refine LexW.skip rfl rfl ?_; simp only [Act.put, List.setIfInBounds_toArray, List.set_cons_zero, List.set_cons_succ])
      (refine LexW.skip rfl rfl ?_; simp only [Act.put, List.setIfInBounds_toArray, List.set_cons_zero, List.set_cons_succ])
      (refine LexW.pure (v := ?_) rfl rfl (fun w1 he => ?_) ?_; rotate_left; ( have e1 := he.cell HS0.out; have e2 := he.cell HS1.out; go_simp; rfl); simp only [Act.put, List.setIfInBounds_toArray, List.set_cons_zero, List.set_cons_succ])
      (refine LexW.pure (v := ?_) rfl rfl (fun w1 he => ?_) ?_; rotate_left; ( have e1 := he.cell HS0.out; have e2 := he.cell HS1.out; go_simp; rfl); simp only [Act.put, List.setIfInBounds_toArray, List.set_cons_zero, List.set_cons_succ])
      refine LexW.nil (fun w3 he hkn => ?_)
      have HE := Lib.hid (GW.out.trans he)
      clear he hkn 
      go_wp2_with (fail)
      go_ret2
      exact ⟨none, 0, by rw [HC5.out]; rfl, own_nil _ _, HE.out⟩
    · have hub : (U == 0) = false := by simp [h]
      have huv : (U != V) = true := by simpa using h'
      clear h h'
      go_enter Try.func34, Try.ntmps34
      go_wp2_with (go_at_call 73; refine (s_vectors p a d cap qs _ 2 _ [xs1, xs2] _ hd (by omega) (len_two (by rw [HX.out.1]; exact hn1) (by rw [HY.out.1]; exact hn2)) (HQ.out.ext ((ext_alloc _ _).alloc _)) (rdR_two (a := ax1) (b := ax2) (n := _) (m := _) (ca := cx1) (cb := cx2) (by simp) (by simp) (HX.out.ext ((ext_alloc _ _).alloc _)) (HY.out.ext ((ext_alloc _ _).alloc _)))).mono ?_; rintro e w1 ⟨rfl, g1⟩; rw [HW0.out]; have hq0 : w1.cell? ⟨w.heap.size, 0, none⟩ = some (.int .i64 p) := g1.cell (by simp); have hq1 : w1.cell? ⟨w.heap.size, 1, none⟩ = some (.slice a d cap) := g1.cell (by simp))
      have G1 := Lib.hid (((ext_alloc w (.cells #[.int .i64 p, .slice a d cap] 28)).alloc (.cells #[.slice ax1 d cx1, .slice ax2 d cx2] 22)).trans g1)
      have HS0 := Lib.hid ((ext_drew _).cell hq0)
      have HS1 := Lib.hid ((ext_drew _).cell hq1)
      have GW := Lib.hid (G1.out.trans (ext_drew _))
      clear g1 hq0 hq1
      refine wp_region_lex [(6, .val (.int .i64 U)), (12, .val (.int .i64 U)), (16, .val (.int .i64 V))] (by kernel_rfl) (by kernel_rfl) ?_
      (refine LexW.pure (v := ?_) rfl rfl (fun w1 he => ?_) ?_; rotate_left; ( have e1 := he.cell HS0.out; have e2 := he.cell HS1.out; go_simp; rfl); simp only [Act.put, List.setIfInBounds_toArray, List.set_cons_zero, List.set_cons_succ])
      (refine LexW.pure (v := ?_) rfl rfl (fun w1 he => ?_) ?_; rotate_left; ( have e1 := he.cell HS0.out; have e2 := he.cell HS1.out; go_simp; rfl); simp only [Act.put, List.setIfInBounds_toArray, List.set_cons_zero, List.set_cons_succ])
      (refine LexW.pure (v := ?_) rfl rfl (fun w1 he => ?_) ?_; rotate_left; ( have e1 := he.cell HS0.out; have e2 := he.cell HS1.out; go_simp; rfl); simp only [Act.put, List.setIfInBounds_toArray, List.set_cons_zero, List.set_cons_succ])
      (refine LexW.pure (v := ?_) rfl rfl (fun w1 he => ?_) ?_; rotate_left; ( have e1 := he.cell HS0.out; have e2 := he.cell HS1.out; go_simp; rfl); simp only [Act.put, List.setIfInBounds_toArray, List.set_cons_zero, List.set_cons_succ])
      (refine LexW.pure (v := ?_) rfl rfl (fun w1 he => ?_) ?_; rotate_left; ( have e1 := he.cell HS0.out; have e2 := he.cell HS1.out; go_simp; rfl); simp only [Act.put, List.setIfInBounds_toArray, List.set_cons_zero, List.set_cons_succ])
      (refine LexW.pure (v := ?_) rfl rfl (fun w1 he => ?_) ?_; rotate_left; ( have e1 := he.cell HS0.out; have e2 := he.cell HS1.out; go_simp; rfl); simp only [Act.put, List.setIfInBounds_toArray, List.set_cons_zero, List.set_cons_succ])
      (refine LexW.call (f := ?_) (args := ?_) rfl rfl (fun w1 => ?_) (fun w1 he hdep => ?_) ?_; rotate_left 2; (go_simp; refine ⟨?_, ?_⟩ <;> rfl); ( rw [HU.out]; exact s_pair p a d cap qs ax1 cx1 xs1 ax1 cx1 xs1 w1 (by omega) (by omega) hd6 (HQ.out.ext (GW.out.trans he)) HQB.out (HX.out.ext (GW.out.trans he)) HGV.out (HX.out.ext (GW.out.trans he)) HGV.out); simp only [Act.put, List.setIfInBounds_toArray, List.set_cons_zero, List.set_cons_succ])
      (refine LexW.pure (v := ?_) rfl rfl (fun w1 he => ?_) ?_; rotate_left; ( have e1 := he.cell HS0.out; have e2 := he.cell HS1.out; go_simp; rfl); simp only [Act.put, List.setIfInBounds_toArray, List.set_cons_zero, List.set_cons_succ])
      (refine LexW.pure (v := ?_) rfl rfl (fun w1 he => ?_) ?_; rotate_left; ( have e1 := he.cell HS0.out; have e2 := he.cell HS1.out; go_simp; rfl); simp only [Act.put, List.setIfInBounds_toArray, List.set_cons_zero, List.set_cons_succ])
      (refine LexW.pure (v := ?_) rfl rfl (fun w1 he => ?_) ?_; rotate_left; ( have e1 := he.cell HS0.out; have e2 := he.cell HS1.out; go_simp; rfl); simp only [Act.put, List.setIfInBounds_toArray, List.set_cons_zero, List.set_cons_succ])
      (refine LexW.pure (v := ?_) rfl rfl (fun w1 he => ?_) ?_; rotate_left; ( have e1 := he.cell HS0.out; have e2 := he.cell HS1.out; go_simp; rfl); simp only [Act.put, List.setIfInBounds_toArray, List.set_cons_zero, List.set_cons_succ])
      (refine LexW.pure (v := ?_) rfl rfl (fun w1 he => ?_) ?_; rotate_left; ( have e1 := he.cell HS0.out; have e2 := he.cell HS1.out; go_simp; rfl); simp only [Act.put, List.setIfInBounds_toArray, List.set_cons_zero, List.set_cons_succ])
      (refine LexW.call (f := ?_) (args := ?_) rfl rfl (fun w1 => ?_) (fun w1 he hdep => ?_) ?_; rotate_left 2; (go_simp; refine ⟨?_, ?_⟩ <;> rfl); ( rw [HU.out]; exact s_pair p a d cap qs ax1 cx1 xs1 ax1 cx1 xs1 w1 (by omega) (by omega) hd6 (HQ.out.ext (GW.out.trans he)) HQB.out (HX.out.ext (GW.out.trans he)) HGV.out (HX.out.ext (GW.out.trans he)) HGV.out); simp only [Act.put, List.setIfInBounds_toArray, List.set_cons_zero, List.set_cons_succ])
      (refine LexW.pure (v := ?_) rfl rfl (fun w1 he => ?_) ?_; rotate_left; ( have e1 := he.cell HS0.out; have e2 := he.cell HS1.out; go_simp; rfl); simp only [Act.put, List.setIfInBounds_toArray, List.set_cons_zero, List.set_cons_succ])
      (refine LexW.pure (v := ?_) rfl rfl (fun w1 he => ?_) ?_; rotate_left; ( have e1 := he.cell HS0.out; have e2 := he.cell HS1.out; go_simp; rfl); simp only [Act.put, List.setIfInBounds_toArray, List.set_cons_zero, List.set_cons_succ])
      (refine LexW.pure (v := ?_) rfl rfl (fun w1 he => ?_) ?_; rotate_left; ( have e1 := he.cell HS0.out; have e2 := he.cell HS1.out; go_simp; rfl); simp only [Act.put, List.setIfInBounds_toArray, List.set_cons_zero, List.set_cons_succ])
      (refine LexW.call (f := ?_) (args := ?_) rfl rfl (fun w1 => ?_) (fun w1 he hdep => ?_) ?_; rotate_left 2; (go_simp; refine ⟨?_, ?_⟩ <;> rfl); ( rw [HV.out]; exact s_pair p a d cap qs ax2 cx2 xs2 ax2 cx2 xs2 w1 (by omega) (by omega) hd6 (HQ.out.ext (GW.out.trans he)) HQB.out (HY.out.ext (GW.out.trans he)) HGU.out (HY.out.ext (GW.out.trans he)) HGU.out); simp only [Act.put, List.setIfInBounds_toArray, List.set_cons_zero, List.set_cons_succ])
      (refine LexW.pure (v := ?_) rfl rfl (fun w1 he => ?_) ?_; rotate_left; ( have e1 := he.cell HS0.out; have e2 := he.cell HS1.out; go_simp; rfl); simp only [Act.put, List.setIfInBounds_toArray, List.set_cons_zero, List.set_cons_succ])
      (refine LexW.pure (v := ?_) rfl rfl (fun w1 he => ?_) ?_; rotate_left; ( have e1 := he.cell HS0.out; have e2 := he.cell HS1.out; go_simp; rfl); simp only [Act.put, List.setIfInBounds_toArray, List.set_cons_zero, List.set_cons_succ])
      (refine LexW.pure (v := ?_) rfl rfl (fun w1 he => ?_) ?_; rotate_left; ( have e1 := he.cell HS0.out; have e2 := he.cell HS1.out; go_simp; rfl); simp only [Act.put, List.setIfInBounds_toArray, List.set_cons_zero, List.set_cons_succ])
      refine LexW.nil (fun w3 he hkn => ?_)
      have HE := Lib.hid (GW.out.trans he)
      clear he hkn 
      go_wp2_with (fail)
      go_ret2
      exact ⟨none, 0, by rw [HC5.out]; rfl, own_nil _ _, HE.out⟩
  · have HCE := Lib.hid (show codeVB p qs xs1 xs2 = codeW p qs [xs1, xs2] by simp [codeVB, hw])
    have hcb : (codeW p qs [xs1, xs2] != 0) = true := by simp [hw]
    have hcb2 : (codeW p qs [xs1, xs2] == 0) = false := by simp [hw]
    clear hw hc
    go_enter Try.func34, Try.ntmps34
    go_wp2_with (go_at_call 73; refine (s_vectors p a d cap qs _ 2 _ [xs1, xs2] _ hd (by omega) (len_two (by rw [hx1.1]; exact hn1) (by rw [hx2.1]; exact hn2)) (hq.ext ((ext_alloc _ _).alloc _)) (rdR_two (a := ax1) (b := ax2) (n := _) (m := _) (ca := cx1) (cb := cx2) (by simp) (by simp) (hx1.ext ((ext_alloc _ _).alloc _)) (hx2.ext ((ext_alloc _ _).alloc _)))).mono ?_; rintro e w1 ⟨rfl, g1⟩)
    obtain ⟨C, hC⟩ : ∃ C, C = codeW p qs [xs1, xs2] := ⟨_, rfl⟩
    rw [← hC] at hcb hcb2 HCE
    rw [← hC]
    clear hC
    have GW := Lib.hid ((((ext_alloc w (.cells #[.int .i64 p, .slice a d cap] 28)).alloc (.cells #[.slice ax1 n1 cx1, .slice ax2 n2 cx2] 22)).trans g1).trans (ext_drew _))
    clear g1
    refine wp_region_lex [] (by kernel_rfl) (by kernel_rfl) ?_
    (refine LexW.pure (v := ?_) rfl rfl (fun w1 he => ?_) ?_; rotate_left; ( go_simp; rfl); simp only [Act.put, List.setIfInBounds_toArray, List.set_cons_zero, List.set_cons_succ])
    (refine LexW.pure (v := ?_) rfl rfl (fun w1 he => ?_) ?_; rotate_left; ( go_simp; rfl); simp only [Act.put, List.setIfInBounds_toArray, List.set_cons_zero, List.set_cons_succ])
    (refine LexW.pure (v := ?_) rfl rfl (fun w1 he => ?_) ?_; rotate_left; ( go_simp; rfl); simp only [Act.put, List.setIfInBounds_toArray, List.set_cons_zero, List.set_cons_succ])
    (refine LexW.skip rfl rfl ?_; simp only [Act.put, List.setIfInBounds_toArray, List.set_cons_zero, List.set_cons_succ])
    (refine LexW.skip rfl rfl ?_; simp only [Act.put, List.setIfInBounds_toArray, List.set_cons_zero, List.set_cons_succ])
    (refine LexW.skip rfl rfl ?_; simp only [Act.put, List.setIfInBounds_toArray, List.set_cons_zero, List.set_cons_succ])
    (refine LexW.skip rfl rfl ?_; simp only [Act.put, List.setIfInBounds_toArray, List.set_cons_zero, List.set_cons_succ])
    (refine LexW.skip rfl rfl ?_; simp only [Act.put, List.setIfInBounds_toArray, List.set_cons_zero, List.set_cons_succ])
    (refine LexW.skip rfl rfl ?_; simp only [Act.put, List.setIfInBounds_toArray, List.set_cons_zero, List.set_cons_succ])
    (refine LexW.skip rfl rfl ?_; simp only [Act.put, List.setIfInBounds_toArray, List.set_cons_zero, List.set_cons_succ])
    (refine LexW.skip rfl rfl ?_; simp only [Act.put, List.setIfInBounds_toArray, List.set_cons_zero, List.set_cons_succ])
    (refine LexW.skip rfl rfl ?_; simp only [Act.put, List.setIfInBounds_toArray, List.set_cons_zero, List.set_cons_succ])
    (refine LexW.skip rfl rfl ?_; simp only [Act.put, List.setIfInBounds_toArray, List.set_cons_zero, List.set_cons_succ])
    (refine LexW.skip rfl rfl ?_; simp only [Act.put, List.setIfInBounds_toArray, List.set_cons_zero, List.set_cons_succ])
    (refine LexW.skip rfl rfl ?_; simp only [Act.put, List.setIfInBounds_toArray, List.set_cons_zero, List.set_cons_succ])
    (refine LexW.skip rfl rfl ?_; simp only [Act.put, List.setIfInBounds_toArray, List.set_cons_zero, List.set_cons_succ])
    (refine LexW.skip rfl rfl ?_; simp only [Act.put, List.setIfInBounds_toArray, List.set_cons_zero, List.set_cons_succ])
    (refine LexW.skip rfl rfl ?_; simp only [Act.put, List.setIfInBounds_toArray, List.set_cons_zero, List.set_cons_succ])
    (refine LexW.skip rfl rfl ?_; simp only [Act.put, List.setIfInBounds_toArray, List.set_cons_zero, List.set_cons_succ])
    (refine LexW.pure (v := ?_) rfl rfl (fun w1 he => ?_) ?_; rotate_left; ( go_simp; rfl); simp only [Act.put, List.setIfInBounds_toArray, List.set_cons_zero, List.set_cons_succ])
    refine LexW.nil (fun w3 he hkn => ?_)
    have HE := Lib.hid (GW.out.trans he)
    clear he hkn 
    go_wp2_with (fail)
    go_ret2
    exact ⟨none, 0, by rw [HCE.out]; rfl, own_nil _ _, HE.out⟩

set_option maxHeartbeats 8000000 in
set_option maxRecDepth 100000 in
theorem s_VersorBetween_ok (p : Int) (a : Option Addr) (d cap : Nat) (qs : List Int) (ax1 : Option Addr) (n1 cx1 : Nat) (xs1 : List Int) (ax2 : Option Addr) (n2 cx2 : Nat) (xs2 : List Int) (w : World) (hd : d ≤ 4194304) (hn1 : n1 ≤ 4194304) (hn2 : n2 ≤ 4194304) (hq : RdC w a d qs) (hx1 : RdC w ax1 n1 xs1) (hx2 : RdC w ax2 n2 xs2) (hc : codeVB p qs xs1 xs2 = 0) :
    Calls Try.prog 34 #[.agg #[.int .i64 p, .slice a d cap], .slice ax1 n1 cx1, .slice ax2 n2 cx2] w fun e w' => ∃ ra rc, e = .returned (.tuple #[.slice ra (2 ^ d) rc, .int .i64 0]) ∧ OwnC w.heap.size w' ra (2 ^ d) rc (vbL p qs xs1 xs2) ∧ Ext w w' := by
  obtain ⟨hw, hn, he⟩ := codeVB_zero hc
  rw [hq.1] at hn he
  obtain ⟨hvr, hrg⟩ := codeW_zero hw
  obtain ⟨hs, hva, hvb⟩ := codeVR_two hvr
  obtain ⟨hpr, hd1, hd6, hqb⟩ := space_of hs
  have hpb := prime_bd hpr
  obtain ⟨hxl1, hxb1⟩ := vec_of hva
  obtain ⟨hxl2, hxb2⟩ := vec_of hvb
  rw [hq.1] at hxl1 hxl2 hd6 hd1
  obtain rfl : d = n1 := hxl1.symm.trans hx1.1
  obtain rfl : d = n2 := hxl2.symm.trans hx2.1
  have HW0 := Lib.hid hw
  have HQB := Lib.hid hqb
  have HGV := Lib.hid (good_isB hx1.1 hxb1)
  have HGU := Lib.hid (good_isB hx2.1 hxb2)
  have HQ := Lib.hid hq
  have HX := Lib.hid hx1
  have HY := Lib.hid hx2
  obtain ⟨U, hU⟩ : ∃ U, U = pairL p qs xs1 xs1 d := ⟨_, rfl⟩
  obtain ⟨V, hV⟩ : ∃ V, V = pairL p qs xs2 xs2 d := ⟨_, rfl⟩
  have HU := Lib.hid hU
  have HV := Lib.hid hV
  clear hs hva hvb hvr hrg hqb hxb1 hxb2 hxl1 hxl2 hpr hw hU hV
  rw [← HU.out] at hn he
  rw [← HV.out] at he
  have hub : (U == 0) = false := by simpa using hn
  have huv : (U != V) = false := by simp [he]
  have hcb : ((0 : Int) != 0) = false := by simp
  have hcb2 : ((0 : Int) == 0) = true := by simp
  obtain ⟨N, hN⟩ : ∃ N, N = 2 ^ d := ⟨_, rfl⟩
  rw [← hN]
  have HN := Lib.hid hN
  have HGL : Hid (Good p d (plusL p xs2 xs1 (-1) d)) := Lib.hid (plus_good (by omega))
  have HG1 : Hid (Good p d (plusL p xs2 xs1 1 d)) := Lib.hid (plus_good (by omega))
  have HG2 := Lib.hid (rowsG_two HGU.out HG1.out)
  obtain ⟨Dn, hDn⟩ : ∃ D, D = pairL p qs (plusL p xs2 xs1 (-1) d) (plusL p xs2 xs1 (-1) d) d := ⟨_, rfl⟩
  have HDn := Lib.hid hDn
  have HVB := Lib.hid (show vbL p qs xs1 xs2 = if Dn = 0 then prodS p qs tkA [xs2, plusL p xs2 xs1 1 d] 2 else vecL N (plusL p xs2 xs1 (-1) d) by unfold vbL; rw [HQ.out.1, ← hN, ← hDn])
  clear hn he hN hDn hc hq hx1 hx2
  have hN64 : N ≤ 64 := by rw [HN.out]; exact pow_le64 hd6
  go_enter Try.func34, Try.ntmps34
  go_wp2_with (go_at_call 73; refine (s_vectors p a d cap qs _ 2 _ [xs1, xs2] _ hd (by omega) (len_two (by rw [HX.out.1]; exact hn1) (by rw [HY.out.1]; exact hn2)) (HQ.out.ext ((ext_alloc _ _).alloc _)) (rdR_two (a := ax1) (b := ax2) (n := _) (m := _) (ca := cx1) (cb := cx2) (by simp) (by simp) (HX.out.ext ((ext_alloc _ _).alloc _)) (HY.out.ext ((ext_alloc _ _).alloc _)))).mono ?_; rintro e w1 ⟨rfl, g1⟩; rw [HW0.out]; have hq0 : w1.cell? ⟨w.heap.size, 0, none⟩ = some (.int .i64 p) := g1.cell (by simp); have hq1 : w1.cell? ⟨w.heap.size, 1, none⟩ = some (.slice a d cap) := g1.cell (by simp))
  have G1 := Lib.hid (((ext_alloc w (.cells #[.int .i64 p, .slice a d cap] 28)).alloc (.cells #[.slice ax1 d cx1, .slice ax2 d cx2] 22)).trans g1)
  have HS0 := Lib.hid ((ext_drew _).cell hq0)
  have HS1 := Lib.hid ((ext_drew _).cell hq1)
  have GW := Lib.hid (G1.out.trans (ext_drew _))
  clear g1 hq0 hq1
  refine wp_region_lex [(6, .val (.int .i64 U)), (12, .val (.int .i64 U)), (16, .val (.int .i64 V))] (by kernel_rfl) (by kernel_rfl) ?_
  (refine LexW.pure (v := ?_) rfl rfl (fun w1 he => ?_) ?_; rotate_left; ( have e1 := he.cell HS0.out; have e2 := he.cell HS1.out; go_simp; rfl); simp only [Act.put, List.setIfInBounds_toArray, List.set_cons_zero, List.set_cons_succ])
  (refine LexW.pure (v := ?_) rfl rfl (fun w1 he => ?_) ?_; rotate_left; ( have e1 := he.cell HS0.out; have e2 := he.cell HS1.out; go_simp; rfl); simp only [Act.put, List.setIfInBounds_toArray, List.set_cons_zero, List.set_cons_succ])
  (refine LexW.pure (v := ?_) rfl rfl (fun w1 he => ?_) ?_; rotate_left; ( have e1 := he.cell HS0.out; have e2 := he.cell HS1.out; go_simp; rfl); simp only [Act.put, List.setIfInBounds_toArray, List.set_cons_zero, List.set_cons_succ])
  (refine LexW.pure (v := ?_) rfl rfl (fun w1 he => ?_) ?_; rotate_left; ( have e1 := he.cell HS0.out; have e2 := he.cell HS1.out; go_simp; rfl); simp only [Act.put, List.setIfInBounds_toArray, List.set_cons_zero, List.set_cons_succ])
  (refine LexW.pure (v := ?_) rfl rfl (fun w1 he => ?_) ?_; rotate_left; ( have e1 := he.cell HS0.out; have e2 := he.cell HS1.out; go_simp; rfl); simp only [Act.put, List.setIfInBounds_toArray, List.set_cons_zero, List.set_cons_succ])
  (refine LexW.pure (v := ?_) rfl rfl (fun w1 he => ?_) ?_; rotate_left; ( have e1 := he.cell HS0.out; have e2 := he.cell HS1.out; go_simp; rfl); simp only [Act.put, List.setIfInBounds_toArray, List.set_cons_zero, List.set_cons_succ])
  (refine LexW.call (f := ?_) (args := ?_) rfl rfl (fun w1 => ?_) (fun w1 he hdep => ?_) ?_; rotate_left 2; (go_simp; refine ⟨?_, ?_⟩ <;> rfl); ( rw [HU.out]; exact s_pair p a d cap qs ax1 cx1 xs1 ax1 cx1 xs1 w1 (by omega) (by omega) hd6 (HQ.out.ext (GW.out.trans he)) HQB.out (HX.out.ext (GW.out.trans he)) HGV.out (HX.out.ext (GW.out.trans he)) HGV.out); simp only [Act.put, List.setIfInBounds_toArray, List.set_cons_zero, List.set_cons_succ])
  (refine LexW.pure (v := ?_) rfl rfl (fun w1 he => ?_) ?_; rotate_left; ( have e1 := he.cell HS0.out; have e2 := he.cell HS1.out; go_simp; rfl); simp only [Act.put, List.setIfInBounds_toArray, List.set_cons_zero, List.set_cons_succ])
  (refine LexW.pure (v := ?_) rfl rfl (fun w1 he => ?_) ?_; rotate_left; ( have e1 := he.cell HS0.out; have e2 := he.cell HS1.out; go_simp; rfl); simp only [Act.put, List.setIfInBounds_toArray, List.set_cons_zero, List.set_cons_succ])
  (refine LexW.pure (v := ?_) rfl rfl (fun w1 he => ?_) ?_; rotate_left; ( have e1 := he.cell HS0.out; have e2 := he.cell HS1.out; go_simp; rfl); simp only [Act.put, List.setIfInBounds_toArray, List.set_cons_zero, List.set_cons_succ])
  (refine LexW.pure (v := ?_) rfl rfl (fun w1 he => ?_) ?_; rotate_left; ( have e1 := he.cell HS0.out; have e2 := he.cell HS1.out; go_simp; rfl); simp only [Act.put, List.setIfInBounds_toArray, List.set_cons_zero, List.set_cons_succ])
  (refine LexW.pure (v := ?_) rfl rfl (fun w1 he => ?_) ?_; rotate_left; ( have e1 := he.cell HS0.out; have e2 := he.cell HS1.out; go_simp; rfl); simp only [Act.put, List.setIfInBounds_toArray, List.set_cons_zero, List.set_cons_succ])
  (refine LexW.call (f := ?_) (args := ?_) rfl rfl (fun w1 => ?_) (fun w1 he hdep => ?_) ?_; rotate_left 2; (go_simp; refine ⟨?_, ?_⟩ <;> rfl); ( rw [HU.out]; exact s_pair p a d cap qs ax1 cx1 xs1 ax1 cx1 xs1 w1 (by omega) (by omega) hd6 (HQ.out.ext (GW.out.trans he)) HQB.out (HX.out.ext (GW.out.trans he)) HGV.out (HX.out.ext (GW.out.trans he)) HGV.out); simp only [Act.put, List.setIfInBounds_toArray, List.set_cons_zero, List.set_cons_succ])
  (refine LexW.pure (v := ?_) rfl rfl (fun w1 he => ?_) ?_; rotate_left; ( have e1 := he.cell HS0.out; have e2 := he.cell HS1.out; go_simp; rfl); simp only [Act.put, List.setIfInBounds_toArray, List.set_cons_zero, List.set_cons_succ])
  (refine LexW.pure (v := ?_) rfl rfl (fun w1 he => ?_) ?_; rotate_left; ( have e1 := he.cell HS0.out; have e2 := he.cell HS1.out; go_simp; rfl); simp only [Act.put, List.setIfInBounds_toArray, List.set_cons_zero, List.set_cons_succ])
  (refine LexW.pure (v := ?_) rfl rfl (fun w1 he => ?_) ?_; rotate_left; ( have e1 := he.cell HS0.out; have e2 := he.cell HS1.out; go_simp; rfl); simp only [Act.put, List.setIfInBounds_toArray, List.set_cons_zero, List.set_cons_succ])
  (refine LexW.call (f := ?_) (args := ?_) rfl rfl (fun w1 => ?_) (fun w1 he hdep => ?_) ?_; rotate_left 2; (go_simp; refine ⟨?_, ?_⟩ <;> rfl); ( rw [HV.out]; exact s_pair p a d cap qs ax2 cx2 xs2 ax2 cx2 xs2 w1 (by omega) (by omega) hd6 (HQ.out.ext (GW.out.trans he)) HQB.out (HY.out.ext (GW.out.trans he)) HGU.out (HY.out.ext (GW.out.trans he)) HGU.out); simp only [Act.put, List.setIfInBounds_toArray, List.set_cons_zero, List.set_cons_succ])
  (refine LexW.pure (v := ?_) rfl rfl (fun w1 he => ?_) ?_; rotate_left; ( have e1 := he.cell HS0.out; have e2 := he.cell HS1.out; go_simp; rfl); simp only [Act.put, List.setIfInBounds_toArray, List.set_cons_zero, List.set_cons_succ])
  (refine LexW.pure (v := ?_) rfl rfl (fun w1 he => ?_) ?_; rotate_left; ( have e1 := he.cell HS0.out; have e2 := he.cell HS1.out; go_simp; rfl); simp only [Act.put, List.setIfInBounds_toArray, List.set_cons_zero, List.set_cons_succ])
  (refine LexW.pure (v := ?_) rfl rfl (fun w1 he => ?_) ?_; rotate_left; ( have e1 := he.cell HS0.out; have e2 := he.cell HS1.out; go_simp; rfl); simp only [Act.put, List.setIfInBounds_toArray, List.set_cons_zero, List.set_cons_succ])
  refine LexW.nil (fun w3 he hkn => ?_)
  have T0 := Lib.hid (he.cell HS0.out)
  have T1 := Lib.hid (he.cell HS1.out)
  have HE := Lib.hid (GW.out.trans he)
  clear he hkn 
  by_cases hz : Dn = 0
  · have hzb : (Dn != 0) = false := by simp [hz]
    have HZ := Lib.hid (show vbL p qs xs1 xs2 = prodS p qs tkA [xs2, plusL p xs2 xs1 1 d] 2 by rw [HVB.out, if_pos hz])
    clear hz
    have hb0 := T0.out
    have hb1 := T1.out
    go_wp2_with (first | (go_at_call 93; refine (s_plus p _ _ d cx2 cx1 xs2 xs1 (p - 1) _ (by omega) (by omega) (by omega) (by omega) (HY.out.ext HE.out) (HX.out.ext HE.out) HGU.out HGV.out).mono ?_; rintro e w5 ⟨g5', rc5, rfl, ho5, g5⟩; rw [plus_minus] at ho5; have HO5 := Lib.hid ho5; have E5 := Lib.hid (HE.out.trans g5); have hb0' := g5.cell T0.out; have hb1' := g5.cell T1.out; have T5a := Lib.hid hb0'; have T5b := Lib.hid hb1'; clear ho5) | (go_at_call 92; refine (s_pair p a d cap qs _ _ (plusL p xs2 xs1 (-1) d) _ _ (plusL p xs2 xs1 (-1) d) _ (by omega) (by omega) hd6 (HQ.out.ext E5.out) HQB.out HO5.out.rd HGL.out HO5.out.rd HGL.out).mono ?_; rintro e w6 ⟨rfl, g6⟩; rw [← HDn.out]; have hb0'' := g6.cell T5a.out; have hb1'' := g6.cell T5b.out; have T6a := Lib.hid hb0''; have T6b := Lib.hid hb1''; have E6 := Lib.hid (E5.out.trans g6); have O6 := Lib.hid (HO5.out.ext g6)))
    have T6a' := Lib.hid ((ext_drew _).cell T6a.out)
    have T6b' := Lib.hid ((ext_drew _).cell T6b.out)
    refine wp_region_lex [(6, .ownS w.heap.size d (plusL p xs2 xs1 1 d)), (7, .rows 2 [xs2, plusL p xs2 xs1 1 d]), (8, .ownG w.heap.size N (prodS p qs tkA [xs2, plusL p xs2 xs1 1 d] 2))] (by kernel_rfl) (by kernel_rfl) ?_
    (refine LexW.pure (v := ?_) rfl rfl (fun w1 he => ?_) ?_; rotate_left; ( have e1 := he.cell T6a'.out; have e2 := he.cell T6b'.out; go_simp; rfl); simp only [Act.put, List.setIfInBounds_toArray, List.set_cons_zero, List.set_cons_succ])
    (refine LexW.pure (v := ?_) rfl rfl (fun w1 he => ?_) ?_; rotate_left; ( have e1 := he.cell T6a'.out; have e2 := he.cell T6b'.out; go_simp; rfl); simp only [Act.put, List.setIfInBounds_toArray, List.set_cons_zero, List.set_cons_succ])
    (refine LexW.pure (v := ?_) rfl rfl (fun w1 he => ?_) ?_; rotate_left; ( have e1 := he.cell T6a'.out; have e2 := he.cell T6b'.out; go_simp; rfl); simp only [Act.put, List.setIfInBounds_toArray, List.set_cons_zero, List.set_cons_succ])
    (refine LexW.pure (v := ?_) rfl rfl (fun w1 he => ?_) ?_; rotate_left; ( have e1 := he.cell T6a'.out; have e2 := he.cell T6b'.out; go_simp; rfl); simp only [Act.put, List.setIfInBounds_toArray, List.set_cons_zero, List.set_cons_succ])
    (refine LexW.pure (v := ?_) rfl rfl (fun w1 he => ?_) ?_; rotate_left; ( have e1 := he.cell T6a'.out; have e2 := he.cell T6b'.out; go_simp; rfl); simp only [Act.put, List.setIfInBounds_toArray, List.set_cons_zero, List.set_cons_succ])
    (refine LexW.pure (v := ?_) rfl rfl (fun w1 he => ?_) ?_; rotate_left; ( have e1 := he.cell T6a'.out; have e2 := he.cell T6b'.out; go_simp; rfl); simp only [Act.put, List.setIfInBounds_toArray, List.set_cons_zero, List.set_cons_succ])
    (refine LexW.callR (f := ?_) (args := ?_) rfl rfl (fun w1 => ?_) (fun w1 he hdep => ?_) (fun v hv => ?_); rotate_left 2; (go_simp; refine ⟨?_, ?_⟩ <;> rfl); ( refine (s_plus p _ _ d cx2 cx1 xs2 xs1 1 w1 (by omega) (by omega) (by omega) (by omega) (HY.out.ext ((E6.out.trans (ext_drew _)).trans he)) (HX.out.ext ((E6.out.trans (ext_drew _)).trans he)) HGU.out HGV.out).mono ?_; rintro e w2 ⟨g, rc, rfl, ho, g2⟩; exact ⟨_, rfl, g2, g, rc, rfl, ho.mono (Nat.le_trans (E6.out.trans (ext_drew _)).size he.size)⟩); simp only [Act.put, List.setIfInBounds_toArray, List.set_cons_zero, List.set_cons_succ])
    obtain ⟨_, g60, c60, rfl, _⟩ := hv
    (refine LexW.rel rfl rfl (fun w1 he hdep => ?_) (fun v hv => ?_); ( obtain ⟨_, _, q60, r60⟩ : (SPred.ownS w.heap.size d (plusL p xs2 xs1 1 d)).holds (.slice (some ⟨g60, 0, none⟩) d c60) w1 := hdep (6, 60) (by decide +kernel); cases q60; exact ⟨.slice (some ⟨w1.heap.size, 0, none⟩) 2 2, w1.alloc (.cells #[.slice ax2 d cx2, .slice (some ⟨g60, 0, none⟩) d c60] 22), (by go_simp), ext_alloc _ _, _, rfl, rdR_two (a := ax2) (b := (some ⟨g60, 0, none⟩)) (n := d) (m := d) (ca := cx2) (cb := c60) (by simp) (by simp) ((HY.out.ext ((E6.out.trans (ext_drew _)).trans he)).ext (ext_alloc _ _)) ((r60.rd).ext (ext_alloc _ _))⟩); simp only [Act.put, List.setIfInBounds_toArray, List.set_cons_zero, List.set_cons_succ])
    obtain ⟨_, g61, rfl, _⟩ := hv
    (refine LexW.callR (f := ?_) (args := ?_) rfl rfl (fun w1 => ?_) (fun w1 he hdep => ?_) (fun v hv => ?_); rotate_left 2; (go_simp; refine ⟨?_, ?_⟩ <;> rfl); ( obtain ⟨_, q61, r61⟩ : (SPred.rows 2 [xs2, plusL p xs2 xs1 1 d]).holds (.slice (some ⟨g61, 0, none⟩) 2 2) w1 := hdep (7, 61) (by decide +kernel); cases q61; refine (s_versor HN.out p a cap qs _ 2 2 [xs2, plusL p xs2 xs1 1 d] w1 hd6 (by omega) (by omega) (by omega) (HQ.out.ext ((E6.out.trans (ext_drew _)).trans he)) HQB.out r61 HG2.out).mono ?_; rintro e w2 ⟨g, rfl, ho, g2⟩; exact ⟨_, rfl, g2, g, rfl, ho.mono (Nat.le_trans (E6.out.trans (ext_drew _)).size he.size)⟩); simp only [Act.put, List.setIfInBounds_toArray, List.set_cons_zero, List.set_cons_succ])
    obtain ⟨_, g62, rfl, _⟩ := hv
    (refine LexW.pure (v := ?_) rfl rfl (fun w1 he => ?_) ?_; rotate_left; ( have e1 := he.cell T6a'.out; have e2 := he.cell T6b'.out; go_simp; rfl); simp only [Act.put, List.setIfInBounds_toArray, List.set_cons_zero, List.set_cons_succ])
    (refine LexW.pure (v := ?_) rfl rfl (fun w1 he => ?_) ?_; rotate_left; ( have e1 := he.cell T6a'.out; have e2 := he.cell T6b'.out; go_simp; rfl); simp only [Act.put, List.setIfInBounds_toArray, List.set_cons_zero, List.set_cons_succ])
    refine LexW.nil (fun w3 he hkn => ?_)
    obtain ⟨_, q62, r62⟩ : (SPred.ownG w.heap.size N (prodS p qs tkA [xs2, plusL p xs2 xs1 1 d] 2)).holds (.slice (some ⟨g62, 0, none⟩) N N) w3 := hkn (8, _) (by simp)
    cases q62
    have R62 := Lib.hid r62
    have HE9 := Lib.hid ((E6.out.trans (ext_drew _)).trans he)
    clear he hkn r62
    go_wp2_with (fail)
    go_ret2
    exact ⟨_, _, rfl, by rw [HZ.out]; exact R62.out, HE9.out⟩
  · have hzb : (Dn != 0) = true := by simpa using hz
    have HZ := Lib.hid (show vbL p qs xs1 xs2 = vecL N (plusL p xs2 xs1 (-1) d) by rw [HVB.out, if_neg hz])
    clear hz
    have hb0 := T0.out
    have hb1 := T1.out
    go_wp2_with (first | (go_at_call 74; refine (s_vector HN.out p a cap _ _ (plusL p xs2 xs1 (-1) d) _ hd6 O6.out.rd).mono ?_; rintro e w7 ⟨g7', rfl, ho7, g7⟩; have O7 := Lib.hid (ho7.mono E6.out.size); have E7 := Lib.hid (E6.out.trans g7); clear ho7) | (go_at_call 93; refine (s_plus p _ _ d cx2 cx1 xs2 xs1 (p - 1) _ (by omega) (by omega) (by omega) (by omega) (HY.out.ext HE.out) (HX.out.ext HE.out) HGU.out HGV.out).mono ?_; rintro e w5 ⟨g5', rc5, rfl, ho5, g5⟩; rw [plus_minus] at ho5; have HO5 := Lib.hid ho5; have E5 := Lib.hid (HE.out.trans g5); have hb0' := g5.cell T0.out; have hb1' := g5.cell T1.out; have T5a := Lib.hid hb0'; have T5b := Lib.hid hb1'; clear ho5) | (go_at_call 92; refine (s_pair p a d cap qs _ _ (plusL p xs2 xs1 (-1) d) _ _ (plusL p xs2 xs1 (-1) d) _ (by omega) (by omega) hd6 (HQ.out.ext E5.out) HQB.out HO5.out.rd HGL.out HO5.out.rd HGL.out).mono ?_; rintro e w6 ⟨rfl, g6⟩; rw [← HDn.out]; have hb0'' := g6.cell T5a.out; have hb1'' := g6.cell T5b.out; have T6a := Lib.hid hb0''; have T6b := Lib.hid hb1''; have E6 := Lib.hid (E5.out.trans g6); have O6 := Lib.hid (HO5.out.ext g6)))
    go_ret2
    exact ⟨_, _, rfl, by rw [HZ.out]; exact O7.out, E7.out⟩

end Go.Proofs.Ytlchmkaaogokiaa
