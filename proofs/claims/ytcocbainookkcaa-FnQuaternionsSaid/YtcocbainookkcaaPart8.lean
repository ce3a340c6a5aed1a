/-
  Contracts and plain laws, part 8: Top18C, Top18D.
  No condition.
-/
import Derived.Test.YtcocbainookkcaaPart7
/-
  Conformal functions: checks with a vector of the extension, the listed functions.
  No condition.
-/
namespace Go.Proofs.Ytcocbainookkcaa
set_option maxRecDepth 100000
open Go.RowKit

def code18M (p : Int) (qs x : List Int) (vs : List (List Int)) : Int := if spaceB p qs = true then (if qs.length ≤ 4 then (if (vs.all (vecB p qs.length) && vecB p (qs.length + 2) x) = true then 0 else 2) else 3) else 1
theorem code18M_zero {p : Int} {qs x : List Int} {vs : List (List Int)} (h : code18M p qs x vs = 0) : spaceB p qs = true ∧ qs.length ≤ 4 ∧ vs.all (vecB p qs.length) = true ∧ vecB p (qs.length + 2) x = true := by
  unfold code18M at h
  split at h
  · rename_i h1
    split at h
    · rename_i h2
      split at h
      · rename_i h3
        simp only [Bool.and_eq_true] at h3
        exact ⟨h1, h2, h3.1, h3.2⟩
      · cases h
    · cases h
  · cases h
theorem code18M_0 {p : Int} {qs x : List Int} {vs : List (List Int)} (hs : spaceB p qs = true) (h4 : qs.length ≤ 4) (hv : vs.all (vecB p qs.length) = true) (hx : Good p (qs.length + 2) x) : code18M p qs x vs = 0 := by
  unfold code18M; rw [if_pos hs, if_pos h4, hv, good_vecB hx]; rfl
theorem all_one {p : Int} {d : Nat} {v : List Int} (h : Good p d v) : [v].all (vecB p d) = true := by simp [good_vecB h]

set_option maxHeartbeats 2000000 in
theorem c_checkPlacesX (p : Int) (a : Option Addr) (d cap : Nat) (qs : List Int) (al : Option Addr) (n cl : Nat) (vs : List (List Int)) (ao : Option Addr) (co : Nat) (x : List Int) (w : World) (hxl : x.length ≤ 4194304) (hd : d ≤ 4194304) (hl : n ≤ 4194304) (hr : ∀ i, i < n → (nthR vs i).length ≤ 4194304)
    (hq : RdC w a d qs) (hx : RdR w al n vs) (hy : RdR w ao 1 [x]) :
    Calls Try.prog 44 #[.agg #[.int .i64 p, .slice a d cap], .slice al n cl, .slice ao 1 co] w fun e w' => e = .returned (.int .i64 (code18M p qs x vs)) ∧ Ext w w' := by
  have Hr := Lib.hid hr
  have HQ := Lib.hid hq
  have HX := Lib.hid hx
  have HY := Lib.hid hy
  have hdl := hq.1
  clear hr hq hx hy
  cases hs : spaceB p qs
  · have HS := Lib.hid hs
    have HC := Lib.hid (show code18M p qs x vs = 1 by simp [code18M, hs])
    clear hs
    go_enter Try.func44, Try.ntmps44
    go_wp2_with (go_at_call 93; refine (c_isSpace _ _ _ _ _ _ hd (HQ.out.ext (ext_alloc _ _))).mono ?_; rintro e w1 ⟨rfl, g1⟩; rw [HS.out]; have hcc := Ext.cells g1)
    go_ret
    exact ⟨ret_int HC.out.symm, (ext_alloc _ _).trans g1⟩
  · obtain ⟨hpr, hd1, hd6, hqb⟩ := space_of hs
    have hpb := prime_bd hpr
    rw [hdl] at hd1
    have HS := Lib.hid hs
    have hcb : ((0 : Int) != 0) = false := by simp
    have hcb2 : ((2 : Int) != 0) = true := by simp
    by_cases h4 : d ≤ 4
    · have h4q : qs.length ≤ 4 := by omega
      cases ha : vs.all (vecB p qs.length)
      · have HV := Lib.hid (show codeV p qs vs = 2 by unfold codeV; rw [hs, ha]; rfl)
        have HC := Lib.hid (show code18M p qs x vs = 2 by unfold code18M; rw [if_pos hs, if_pos h4q, ha]; rfl)
        clear hs ha hpr hqb hd6 hdl h4q
        go_enter Try.func44, Try.ntmps44
        go_wp2_with (first | (go_at_call 93; refine (c_isSpace _ _ _ _ _ _ hd (HQ.out.ext (ext_alloc _ _))).mono ?_; rintro e w1 ⟨rfl, g1⟩; rw [HS.out]; have hcc := Ext.cells g1; try simp only [World.size_alloc] at hcc) | (go_at_call 50; refine (c_dim _ _ _ _ _).mono ?_; rintro e w2 ⟨rfl, g2⟩; have hcc2 := Ext.cells (g1.trans g2); try simp only [World.size_alloc] at hcc2) | (go_at_call 77; refine (c_checkVectors p a d cap qs al n cl vs _ hd hl Hr.out (HQ.out.ext ((ext_alloc _ _).trans (g1.trans g2))) (HX.out.ext ((ext_alloc _ _).trans (g1.trans g2)))).mono ?_; rintro e w3 ⟨rfl, g3⟩; rw [HV.out]; have hcc3 := Ext.cells ((g1.trans g2).trans g3); try simp only [World.size_alloc] at hcc3))
        go_ret
        exact ⟨ret_int HC.out.symm, (ext_alloc _ _).trans ((g1.trans g2).trans g3)⟩
      · cases ho : vecB p (qs.length + 2) x
        · have HV := Lib.hid (show codeV p qs vs = 0 by unfold codeV; rw [hs, ha]; rfl)
          have HV2 := Lib.hid (show codeV p (extL p qs) [x] = 2 by unfold codeV; rw [extL_space hs h4q, extL_len]; simp [ho])
          have HC := Lib.hid (show code18M p qs x vs = 2 by unfold code18M; rw [if_pos hs, if_pos h4q, ha, ho]; rfl)
          clear ho hs ha hpr hqb hd6 hdl h4q
          go_enter Try.func44, Try.ntmps44
          go_wp2_with (first | (go_at_call 93; refine (c_isSpace _ _ _ _ _ _ hd (HQ.out.ext (ext_alloc _ _))).mono ?_; rintro e w1 ⟨rfl, g1⟩; rw [HS.out]; have hcc := Ext.cells g1; try simp only [World.size_alloc] at hcc) | (go_at_call 50; refine (c_dim _ _ _ _ _).mono ?_; rintro e w2 ⟨rfl, g2⟩; have hcc2 := Ext.cells (g1.trans g2); try simp only [World.size_alloc] at hcc2) | (go_at_call 45; refine (c_extended p a d cap qs _ (by omega) (by omega) (by omega) (by omega) (HQ.out.ext ((ext_alloc _ _).trans ((g1.trans g2).trans g3)))).mono ?_; rintro e w4 ⟨ge, re, rfl, he4, g4⟩; have HE4 := Lib.hid he4; clear he4) | (go_at_call 77; refine (c_checkVectors p (some ⟨ge, 0, none⟩) (d + 2) re (extL p qs) ao 1 co [x] _ (by omega) (by omega) (len_one hxl) HE4.out.rd (HY.out.ext ((ext_alloc _ _).trans (((g1.trans g2).trans g3).trans g4)))).mono ?_; rintro e w5 ⟨rfl, g5⟩; rw [HV2.out]) | (go_at_call 77; refine (c_checkVectors p a d cap qs al n cl vs _ hd hl Hr.out (HQ.out.ext ((ext_alloc _ _).trans (g1.trans g2))) (HX.out.ext ((ext_alloc _ _).trans (g1.trans g2)))).mono ?_; rintro e w3 ⟨rfl, g3⟩; rw [HV.out]; have hcc3 := Ext.cells ((g1.trans g2).trans g3); try simp only [World.size_alloc] at hcc3))
          go_ret
          exact ⟨ret_int HC.out.symm, ((ext_alloc _ _).trans ((g1.trans g2).trans g3)).trans (g4.trans g5)⟩
        · have HV := Lib.hid (show codeV p qs vs = 0 by unfold codeV; rw [hs, ha]; rfl)
          have HV2 := Lib.hid (show codeV p (extL p qs) [x] = 0 by unfold codeV; rw [extL_space hs h4q, extL_len]; simp [ho])
          have HC := Lib.hid (show code18M p qs x vs = 0 by unfold code18M; rw [if_pos hs, if_pos h4q, ha, ho]; rfl)
          clear ho hs ha hpr hqb hd6 hdl h4q
          go_enter Try.func44, Try.ntmps44
          go_wp2_with (first | (go_at_call 93; refine (c_isSpace _ _ _ _ _ _ hd (HQ.out.ext (ext_alloc _ _))).mono ?_; rintro e w1 ⟨rfl, g1⟩; rw [HS.out]; have hcc := Ext.cells g1; try simp only [World.size_alloc] at hcc) | (go_at_call 50; refine (c_dim _ _ _ _ _).mono ?_; rintro e w2 ⟨rfl, g2⟩; have hcc2 := Ext.cells (g1.trans g2); try simp only [World.size_alloc] at hcc2) | (go_at_call 45; refine (c_extended p a d cap qs _ (by omega) (by omega) (by omega) (by omega) (HQ.out.ext ((ext_alloc _ _).trans ((g1.trans g2).trans g3)))).mono ?_; rintro e w4 ⟨ge, re, rfl, he4, g4⟩; have HE4 := Lib.hid he4; clear he4) | (go_at_call 77; refine (c_checkVectors p (some ⟨ge, 0, none⟩) (d + 2) re (extL p qs) ao 1 co [x] _ (by omega) (by omega) (len_one hxl) HE4.out.rd (HY.out.ext ((ext_alloc _ _).trans (((g1.trans g2).trans g3).trans g4)))).mono ?_; rintro e w5 ⟨rfl, g5⟩; rw [HV2.out]) | (go_at_call 77; refine (c_checkVectors p a d cap qs al n cl vs _ hd hl Hr.out (HQ.out.ext ((ext_alloc _ _).trans (g1.trans g2))) (HX.out.ext ((ext_alloc _ _).trans (g1.trans g2)))).mono ?_; rintro e w3 ⟨rfl, g3⟩; rw [HV.out]; have hcc3 := Ext.cells ((g1.trans g2).trans g3); try simp only [World.size_alloc] at hcc3))
          go_ret
          exact ⟨ret_int HC.out.symm, ((ext_alloc _ _).trans ((g1.trans g2).trans g3)).trans (g4.trans g5)⟩
    · have HC := Lib.hid (show code18M p qs x vs = 3 by unfold code18M; rw [if_pos hs, if_neg (by omega)])
      clear hs hpr hqb hd6 hdl
      go_enter Try.func44, Try.ntmps44
      go_wp2_with (first | (go_at_call 93; refine (c_isSpace _ _ _ _ _ _ hd (HQ.out.ext (ext_alloc _ _))).mono ?_; rintro e w1 ⟨rfl, g1⟩; rw [HS.out]; have hcc := Ext.cells g1; try simp only [World.size_alloc] at hcc) | (go_at_call 50; refine (c_dim _ _ _ _ _).mono ?_; rintro e w2 ⟨rfl, g2⟩; have hcc2 := Ext.cells (g1.trans g2); try simp only [World.size_alloc] at hcc2))
      go_ret
      exact ⟨ret_int HC.out.symm, (ext_alloc _ _).trans (g1.trans g2)⟩

set_option maxHeartbeats 4000000 in
set_option maxRecDepth 100000 in
theorem c_IsOnSphere_ok (p : Int) (a : Option Addr) (d cap : Nat) (qs : List Int) (ax : Option Addr) (cx : Nat) (x : List Int) (av : Option Addr) (cv : Nat) (v : List Int) (w : World) (hs : spaceB p qs = true) (h4 : qs.length ≤ 4) (hq : RdC w a d qs) (hx : RdC w ax (d + 2) x) (hgx : Good p (d + 2) x) (hv : RdC w av d v) (hgv : Good p d v) :
    Calls Try.prog 12 #[.agg #[.int .i64 p, .slice a d cap], .slice ax (d + 2) cx, .slice av d cv] w fun e w' => e = .returned (.tuple #[.bool (pexZ p qs x v == 0), .int .i64 0]) ∧ Ext w w' := by
  have HC := Lib.hid (code18M_0 (vs := [v]) hs h4 (all_one (by rw [hq.1]; exact hgv)) (x := x) (by rw [hq.1]; exact hgx))
  have HSP := Lib.hid hs
  obtain ⟨hpr, hd1, _, hqb⟩ := space_of hs
  have hpb := prime_bd hpr
  have HPR := Lib.hid hpr
  have HQB := Lib.hid hqb
  have hql := hq.1
  rw [hql] at hd1 h4
  have HQL := Lib.hid hql
  have HEB := Lib.hid (extL_isB (p := p) (by omega) hqb)
  have HGI := Lib.hid (good_inf (p := p) (d := d) (by omega))
  have HGP := fun (u : List Int) => Lib.hid (pointL_good (p := p) (qs := qs) (v := u) (d := d) (by omega) hql)
  clear hpr hqb hql
  have hcb : ((0 : Int) != 0) = false := by simp
  obtain ⟨W, hW⟩ : ∃ W, W = w.alloc (.cells #[.int .i64 p, .slice a d cap] 26) := ⟨_, rfl⟩
  have E : Hid (Ext w W) := Lib.hid (by rw [hW]; exact ext_alloc _ _)
  have C0 : Hid (W.cell? ⟨w.heap.size, 0, none⟩ = some (.int .i64 p)) := Lib.hid (by rw [hW]; simp)
  have C1 : Hid (W.cell? ⟨w.heap.size, 1, none⟩ = some (.slice a d cap)) := Lib.hid (by rw [hW]; simp)
  have HZ : Hid (W.heap.size = w.heap.size + 1) := Lib.hid (by rw [hW]; simp)
  have HW := Lib.hid hW
  clear hW
  have HQ := Lib.hid (hq.ext E.out)
  have HX := Lib.hid (hx.ext E.out)
  have HV := Lib.hid (hv.ext E.out)
  clear hq hx hv
  go_enter Try.func12, Try.ntmps12
  have x00 := C0.out
  have x01 := C1.out
  go_wp2_with (fail)
  clear x00 x01
  rw [← HW.out]
  clear HW
  refine Calls.mono (c_checkPlacesX p a d cap qs _ 1 _ [v] _ 1 x _ (by rw [HX.out.1]; omega) (by omega) (by omega) (len_one (by rw [HV.out.1]; omega)) (HQ.out.ext ((ext_alloc _ _).alloc _)) (rdR_one (a := av) (n := d) (cap := cv) (by rw [← HZ.out]; simp) (HV.out.ext ((ext_alloc _ _).alloc _))) (rdR_one (a := ax) (n := (d + 2)) (cap := cx) (by rw [← HZ.out]; simp) (HX.out.ext ((ext_alloc _ _).alloc _)))) ?_
  rintro e v1 ⟨rfl, gg⟩
  replace gg := ((ext_alloc _ _).alloc _).trans gg
  rw [HC.out]
  replace E := Lib.hid (E.out.trans gg)
  replace HQ := Lib.hid (HQ.out.ext gg)
  replace HX := Lib.hid (HX.out.ext gg)
  replace HV := Lib.hid (HV.out.ext gg)
  replace C0 := Lib.hid (gg.cell (p := ⟨w.heap.size, 0, none⟩) C0.out)
  replace C1 := Lib.hid (gg.cell (p := ⟨w.heap.size, 1, none⟩) C1.out)
  clear gg
  have x00 := C0.out
  have x01 := C1.out
  go_wp2_with (fail)
  clear x00 x01
  refine Calls.mono (c_isOn p a d cap qs ax cx x av cv v v1 HSP.out (by rw [HQL.out]; exact h4) HQ.out HX.out hgx HV.out hgv) ?_
  rintro e v2 ⟨rfl, gg⟩
  replace E := Lib.hid (E.out.trans gg)
  replace HQ := Lib.hid (HQ.out.ext gg)
  replace HX := Lib.hid (HX.out.ext gg)
  replace HV := Lib.hid (HV.out.ext gg)
  replace C0 := Lib.hid (gg.cell (p := ⟨w.heap.size, 0, none⟩) C0.out)
  replace C1 := Lib.hid (gg.cell (p := ⟨w.heap.size, 1, none⟩) C1.out)
  clear gg
  go_wp2_with (fail)
  go_ret2
  exact ⟨rfl, E.out⟩

theorem rdC_takeO {B : Nat} {w : World} {g n c d : Nat} {xs : List Int} (h : OwnC B w (some ⟨g, 0, none⟩) n c xs) (hd : d ≤ n) : RdC w (some ⟨g, 0, none⟩) d (xs.take d) := rdC_take h.rd hd

set_option maxHeartbeats 4000000 in
set_option maxRecDepth 100000 in
theorem c_PlaceOf_ok (p : Int) (a : Option Addr) (d cap : Nat) (qs : List Int) (ax : Option Addr) (cx : Nat) (x : List Int) (w : World) (hs : spaceB p qs = true) (h4 : qs.length ≤ 4) (hq : RdC w a d qs) (hx : RdC w ax (d + 2) x) (hgx : Good p (d + 2) x) (hw : wgtI p qs x ≠ 0) :
    Calls Try.prog 25 #[.agg #[.int .i64 p, .slice a d cap], .slice ax (d + 2) cx] w fun e w' => ∃ g, e = .returned (.tuple #[.slice (some ⟨g, 0, none⟩) d d, .int .i64 0]) ∧ RdC w' (some ⟨g, 0, none⟩) d (plcL p qs x) ∧ Ext w w' := by
  have HC := Lib.hid (code18M_0 (vs := []) hs h4 rfl (x := x) (by rw [hq.1]; exact hgx))
  have HSP := Lib.hid hs
  obtain ⟨hpr, hd1, _, hqb⟩ := space_of hs
  have hpb := prime_bd hpr
  have HPR := Lib.hid hpr
  have HQB := Lib.hid hqb
  have hql := hq.1
  rw [hql] at hd1 h4
  have HQL := Lib.hid hql
  have HEB := Lib.hid (extL_isB (p := p) (by omega) hqb)
  have HGI := Lib.hid (good_inf (p := p) (d := d) (by omega))
  have HGP := fun (u : List Int) => Lib.hid (pointL_good (p := p) (qs := qs) (v := u) (d := d) (by omega) hql)
  clear hpr hqb hql
  have hcb : ((0 : Int) != 0) = false := by simp
  have HPL : Hid (plcL p qs x = (finL p qs x).take d) := Lib.hid (by unfold plcL; rw [HQL.out])
  obtain ⟨W, hW⟩ : ∃ W, W = w.alloc (.cells #[.int .i64 p, .slice a d cap] 26) := ⟨_, rfl⟩
  have E : Hid (Ext w W) := Lib.hid (by rw [hW]; exact ext_alloc _ _)
  have C0 : Hid (W.cell? ⟨w.heap.size, 0, none⟩ = some (.int .i64 p)) := Lib.hid (by rw [hW]; simp)
  have C1 : Hid (W.cell? ⟨w.heap.size, 1, none⟩ = some (.slice a d cap)) := Lib.hid (by rw [hW]; simp)
  have HZ : Hid (W.heap.size = w.heap.size + 1) := Lib.hid (by rw [hW]; simp)
  have HW := Lib.hid hW
  clear hW
  have HQ := Lib.hid (hq.ext E.out)
  have HX := Lib.hid (hx.ext E.out)
  clear hq hx
  go_enter Try.func25, Try.ntmps25
  have x00 := C0.out
  have x01 := C1.out
  go_wp2_with (fail)
  clear x00 x01
  rw [← HW.out]
  clear HW
  refine Calls.mono (c_checkPlacesX p a d cap qs none 0 0 [] _ 1 x _ (by rw [HX.out.1]; omega) (by omega) (by omega) (fun _ hi => absurd hi (Nat.not_lt_zero _)) (HQ.out.ext (ext_alloc _ _)) ⟨rfl, fun _ hi => absurd hi (Nat.not_lt_zero _)⟩ (rdR_one (a := ax) (n := (d + 2)) (cap := cx) (by rw [← HZ.out]; simp) (HX.out.ext (ext_alloc _ _)))) ?_
  rintro e v1 ⟨rfl, gg⟩
  replace gg := (ext_alloc _ _).trans gg
  rw [HC.out]
  replace E := Lib.hid (E.out.trans gg)
  replace HQ := Lib.hid (HQ.out.ext gg)
  replace HX := Lib.hid (HX.out.ext gg)
  replace C0 := Lib.hid (gg.cell (p := ⟨w.heap.size, 0, none⟩) C0.out)
  replace C1 := Lib.hid (gg.cell (p := ⟨w.heap.size, 1, none⟩) C1.out)
  clear gg
  have x00 := C0.out
  have x01 := C1.out
  go_wp2_with (fail)
  clear x00 x01
  refine Calls.mono (c_finite_yes p a d cap qs ax cx x v1 HSP.out (by rw [HQL.out]; exact h4) HQ.out HX.out hgx hw) ?_
  rintro e v2 ⟨gF, kF, rfl, ho, gg⟩
  have RF := Lib.hid (ho.mono E.out.size)
  clear ho
  replace E := Lib.hid (E.out.trans gg)
  replace HQ := Lib.hid (HQ.out.ext gg)
  replace HX := Lib.hid (HX.out.ext gg)
  replace C0 := Lib.hid (gg.cell (p := ⟨w.heap.size, 0, none⟩) C0.out)
  replace C1 := Lib.hid (gg.cell (p := ⟨w.heap.size, 1, none⟩) C1.out)
  clear gg
  have hkF : d + 2 ≤ kF := RF.out.capLe (by omega)
  have hkF1 : d ≤ kF := by omega
  have hdd : ¬ d = 0 := by omega
  have x00 := C0.out
  have x01 := C1.out
  go_wp2_with (fail)
  clear x00 x01
  replace E := Lib.hid (E.out.trans (ext_drew v2))
  replace HQ := Lib.hid (HQ.out.ext (ext_drew v2))
  replace HX := Lib.hid (HX.out.ext (ext_drew v2))
  replace RF := Lib.hid (RF.out.ext (ext_drew v2))
  replace C0 := Lib.hid ((ext_drew v2).cell (p := ⟨w.heap.size, 0, none⟩) C0.out)
  replace C1 := Lib.hid ((ext_drew v2).cell (p := ⟨w.heap.size, 1, none⟩) C1.out)
  refine wp_region_lex [(2, .val (.int .i64 (d : Int))), (4, .val (.int .i64 (d : Int)))] (by kernel_rfl) (by kernel_rfl) ?_
  (refine LexW.pure (v := ?_) rfl rfl (fun w1 he => ?_) ?_; rotate_left; ( have x00 := (he.cell (p := ⟨w.heap.size, 0, none⟩) C0.out); have x01 := (he.cell (p := ⟨w.heap.size, 1, none⟩) C1.out); go_simp; rfl); simp only [Act.put, List.setIfInBounds_toArray, List.set_cons_zero, List.set_cons_succ])
  (refine LexW.pure (v := ?_) rfl rfl (fun w1 he => ?_) ?_; rotate_left; ( have x00 := (he.cell (p := ⟨w.heap.size, 0, none⟩) C0.out); have x01 := (he.cell (p := ⟨w.heap.size, 1, none⟩) C1.out); go_simp; rfl); simp only [Act.put, List.setIfInBounds_toArray, List.set_cons_zero, List.set_cons_succ])
  (refine LexW.call (f := ?_) (args := ?_) rfl rfl (fun w1 => ?_) (fun w1 he hdep => ?_) ?_; rotate_left 2; (go_simp; refine ⟨?_, ?_⟩ <;> rfl); ( exact c_dim _ _ _ _ _); simp only [Act.put, List.setIfInBounds_toArray, List.set_cons_zero, List.set_cons_succ])
  (refine LexW.pure (v := ?_) rfl rfl (fun w1 he => ?_) ?_; rotate_left; ( have x00 := (he.cell (p := ⟨w.heap.size, 0, none⟩) C0.out); have x01 := (he.cell (p := ⟨w.heap.size, 1, none⟩) C1.out); go_simp; rfl); simp only [Act.put, List.setIfInBounds_toArray, List.set_cons_zero, List.set_cons_succ])
  (refine LexW.call (f := ?_) (args := ?_) rfl rfl (fun w1 => ?_) (fun w1 he hdep => ?_) ?_; rotate_left 2; (go_simp; refine ⟨?_, ?_⟩ <;> rfl); ( exact c_dim _ _ _ _ _); simp only [Act.put, List.setIfInBounds_toArray, List.set_cons_zero, List.set_cons_succ])
  (refine LexW.pure (v := ?_) rfl rfl (fun w1 he => ?_) ?_; rotate_left; ( have x00 := (he.cell (p := ⟨w.heap.size, 0, none⟩) C0.out); have x01 := (he.cell (p := ⟨w.heap.size, 1, none⟩) C1.out); go_simp; rfl); simp only [Act.put, List.setIfInBounds_toArray, List.set_cons_zero, List.set_cons_succ])
  (refine LexW.pure (v := ?_) rfl rfl (fun w1 he => ?_) ?_; rotate_left; ( have x00 := (he.cell (p := ⟨w.heap.size, 0, none⟩) C0.out); have x01 := (he.cell (p := ⟨w.heap.size, 1, none⟩) C1.out); go_simp; rfl); simp only [Act.put, List.setIfInBounds_toArray, List.set_cons_zero, List.set_cons_succ])
  (refine LexW.pure (v := ?_) rfl rfl (fun w1 he => ?_) ?_; rotate_left; ( have x00 := (he.cell (p := ⟨w.heap.size, 0, none⟩) C0.out); have x01 := (he.cell (p := ⟨w.heap.size, 1, none⟩) C1.out); go_simp; rfl); simp only [Act.put, List.setIfInBounds_toArray, List.set_cons_zero, List.set_cons_succ])
  refine LexW.nil (fun w3 he hkn => ?_)
  have HE := Lib.hid he
  clear he hkn 
  rename World => v3
  replace E := Lib.hid (E.out.trans HE.out)
  replace HQ := Lib.hid (HQ.out.ext HE.out)
  replace HX := Lib.hid (HX.out.ext HE.out)
  replace RF := Lib.hid (RF.out.ext HE.out)
  replace C0 := Lib.hid (HE.out.cell (p := ⟨w.heap.size, 0, none⟩) C0.out)
  replace C1 := Lib.hid (HE.out.cell (p := ⟨w.heap.size, 1, none⟩) C1.out)
  clear HE
  go_wp2_with (fail)
  go_ret2
  exact ⟨gF, rfl, by rw [HPL.out]; exact rdC_takeO RF.out (by omega), E.out⟩

set_option maxHeartbeats 4000000 in
set_option maxRecDepth 100000 in
theorem c_DistanceOf_ok (p : Int) (a : Option Addr) (d cap : Nat) (qs : List Int) (av : Option Addr) (cv : Nat) (v : List Int) (au : Option Addr) (cu : Nat) (u : List Int) (w : World) (hs : spaceB p qs = true) (h4 : qs.length ≤ 4) (hq : RdC w a d qs) (hv : RdC w av d v) (hgv : Good p d v) (hu : RdC w au d u) (hgu : Good p d u) :
    Calls Try.prog 14 #[.agg #[.int .i64 p, .slice a d cap], .slice av d cv, .slice au d cu] w fun e w' => e = .returned (.tuple #[.int .i64 (distN p qs v u), .int .i64 0]) ∧ Ext w w' := by
  have HC := Lib.hid (code18_two0 hs h4 (by rw [hq.1]; exact hgv) (by rw [hq.1]; exact hgu))
  obtain ⟨hpr, hd1, _, hqb⟩ := space_of hs
  have hpb := prime_bd hpr
  have HPR := Lib.hid hpr
  have HQB := Lib.hid hqb
  have hql := hq.1
  rw [hql] at hd1 h4
  have HQL := Lib.hid hql
  have HEB := Lib.hid (extL_isB (p := p) (by omega) hqb)
  have HGI := Lib.hid (good_inf (p := p) (d := d) (by omega))
  have HGP := fun (u : List Int) => Lib.hid (pointL_good (p := p) (qs := qs) (v := u) (d := d) (by omega) hql)
  clear hpr hqb hql
  have hcb : ((0 : Int) != 0) = false := by simp
  have HPX : Hid (pexZ p qs (pointL p qs v) u = pairL p (extL p qs) (pointL p qs v) (pointL p qs u) (d + 2)) := Lib.hid (by unfold pexZ; rw [HQL.out])
  have hzb : 0 ≤ pexZ p qs (pointL p qs v) u ∧ pexZ p qs (pointL p qs v) u < p := pairL_bd (by omega)
  have HD : Hid (-2 * pexZ p qs (pointL p qs v) u % p = distN p qs v u) := Lib.hid rfl
  obtain ⟨z, hz⟩ : ∃ z, z = pexZ p qs (pointL p qs v) u := ⟨_, rfl⟩
  rw [← hz] at HPX hzb HD
  clear hz
  have hwz : IntKind.i64.wrap (-2 * z) = -2 * z := IntWalk.i64_in _ (by omega)
  obtain ⟨D, hD⟩ : ∃ D, D = distN p qs v u := ⟨_, rfl⟩
  rw [← hD] at HD ⊢
  clear hD
  obtain ⟨W, hW⟩ : ∃ W, W = w.alloc (.cells #[.int .i64 p, .slice a d cap] 26) := ⟨_, rfl⟩
  have E : Hid (Ext w W) := Lib.hid (by rw [hW]; exact ext_alloc _ _)
  have C0 : Hid (W.cell? ⟨w.heap.size, 0, none⟩ = some (.int .i64 p)) := Lib.hid (by rw [hW]; simp)
  have C1 : Hid (W.cell? ⟨w.heap.size, 1, none⟩ = some (.slice a d cap)) := Lib.hid (by rw [hW]; simp)
  have HZ : Hid (W.heap.size = w.heap.size + 1) := Lib.hid (by rw [hW]; simp)
  have HW := Lib.hid hW
  clear hW
  have HQ := Lib.hid (hq.ext E.out)
  have HV := Lib.hid (hv.ext E.out)
  have HU := Lib.hid (hu.ext E.out)
  clear hq hv hu
  go_enter Try.func14, Try.ntmps14
  have x00 := C0.out
  have x01 := C1.out
  go_wp2_with (fail)
  clear x00 x01
  rw [← HW.out]
  clear HW
  refine Calls.mono (c_checkPlaces p a d cap qs _ 2 _ [v, u] _ (by omega) (by omega) (len_two (by rw [HV.out.1]; omega) (by rw [HU.out.1]; omega)) (HQ.out.ext (ext_alloc _ _)) (rdR_two (a := av) (b := au) (n := d) (m := d) (ca := cv) (cb := cu) (by rw [← HZ.out]; simp) (by rw [← HZ.out]; simp) (HV.out.ext (ext_alloc _ _)) (HU.out.ext (ext_alloc _ _)))) ?_
  rintro e v1 ⟨rfl, gg⟩
  replace gg := (ext_alloc _ _).trans gg
  rw [HC.out]
  replace E := Lib.hid (E.out.trans gg)
  replace HQ := Lib.hid (HQ.out.ext gg)
  replace HV := Lib.hid (HV.out.ext gg)
  replace HU := Lib.hid (HU.out.ext gg)
  replace C0 := Lib.hid (gg.cell (p := ⟨w.heap.size, 0, none⟩) C0.out)
  replace C1 := Lib.hid (gg.cell (p := ⟨w.heap.size, 1, none⟩) C1.out)
  clear gg
  have x00 := C0.out
  have x01 := C1.out
  go_wp2_with (fail)
  clear x00 x01
  replace E := Lib.hid (E.out.trans (ext_drew v1))
  replace HQ := Lib.hid (HQ.out.ext (ext_drew v1))
  replace HV := Lib.hid (HV.out.ext (ext_drew v1))
  replace HU := Lib.hid (HU.out.ext (ext_drew v1))
  replace C0 := Lib.hid ((ext_drew v1).cell (p := ⟨w.heap.size, 0, none⟩) C0.out)
  replace C1 := Lib.hid ((ext_drew v1).cell (p := ⟨w.heap.size, 1, none⟩) C1.out)
  refine wp_region_lex [(1, .val (.int .i64 p)), (3, .spx w.heap.size p (d + 2) (extL p qs)), (6, .ownS w.heap.size (d + 2) (pointL p qs v)), (9, .ownS w.heap.size (d + 2) (pointL p qs u)), (10, .val (.int .i64 z)), (12, .val (.int .i64 D))] (by kernel_rfl) (by kernel_rfl) ?_
  (refine LexW.pure (v := ?_) rfl rfl (fun w1 he => ?_) ?_; rotate_left; ( have x00 := (he.cell (p := ⟨w.heap.size, 0, none⟩) C0.out); have x01 := (he.cell (p := ⟨w.heap.size, 1, none⟩) C1.out); go_simp; rfl); simp only [Act.put, List.setIfInBounds_toArray, List.set_cons_zero, List.set_cons_succ])
  (refine LexW.call (f := ?_) (args := ?_) rfl rfl (fun w1 => ?_) (fun w1 he hdep => ?_) ?_; rotate_left 2; (go_simp; refine ⟨?_, ?_⟩ <;> rfl); ( exact c_field _ _ _); simp only [Act.put, List.setIfInBounds_toArray, List.set_cons_zero, List.set_cons_succ])
  (refine LexW.pure (v := ?_) rfl rfl (fun w1 he => ?_) ?_; rotate_left; ( have x00 := (he.cell (p := ⟨w.heap.size, 0, none⟩) C0.out); have x01 := (he.cell (p := ⟨w.heap.size, 1, none⟩) C1.out); go_simp; rfl); simp only [Act.put, List.setIfInBounds_toArray, List.set_cons_zero, List.set_cons_succ])
  (refine LexW.callR (f := ?_) (args := ?_) rfl rfl (fun w1 => ?_) (fun w1 he hdep => ?_) (fun v hv => ?_); rotate_left 2; (go_simp; refine ⟨?_, ?_⟩ <;> rfl); ( refine (c_extended p a d cap qs w1 (by omega) (by omega) (by omega) (by omega) (HQ.out.ext he)).mono ?_; rintro e w2 ⟨g, rc, rfl, ho, g2⟩; exact ⟨_, rfl, g2, g, rc, rfl, ho.mono (Nat.le_trans E.out.size he.size)⟩); simp only [Act.put, List.setIfInBounds_toArray, List.set_cons_zero, List.set_cons_succ])
  obtain ⟨_, g20, c20, rfl, _⟩ := hv
  (refine LexW.pure (v := ?_) rfl rfl (fun w1 he => ?_) ?_; rotate_left; ( have x00 := (he.cell (p := ⟨w.heap.size, 0, none⟩) C0.out); have x01 := (he.cell (p := ⟨w.heap.size, 1, none⟩) C1.out); go_simp; rfl); simp only [Act.put, List.setIfInBounds_toArray, List.set_cons_zero, List.set_cons_succ])
  (refine LexW.pure (v := ?_) rfl rfl (fun w1 he => ?_) ?_; rotate_left; ( have x00 := (he.cell (p := ⟨w.heap.size, 0, none⟩) C0.out); have x01 := (he.cell (p := ⟨w.heap.size, 1, none⟩) C1.out); go_simp; rfl); simp only [Act.put, List.setIfInBounds_toArray, List.set_cons_zero, List.set_cons_succ])
  (refine LexW.callR (f := ?_) (args := ?_) rfl rfl (fun w1 => ?_) (fun w1 he hdep => ?_) (fun v hv => ?_); rotate_left 2; (go_simp; refine ⟨?_, ?_⟩ <;> rfl); ( refine (c_point p a d cap qs av cv v w1 (by omega) h4 HPR.out (HQ.out.ext he) HQB.out (HV.out.ext he) hgv).mono ?_; rintro e w2 ⟨g, rc, rfl, ho, g2⟩; exact ⟨_, rfl, g2, g, rc, rfl, ho.mono (Nat.le_trans E.out.size he.size)⟩); simp only [Act.put, List.setIfInBounds_toArray, List.set_cons_zero, List.set_cons_succ])
  obtain ⟨_, g23, c23, rfl, _⟩ := hv
  (refine LexW.pure (v := ?_) rfl rfl (fun w1 he => ?_) ?_; rotate_left; ( have x00 := (he.cell (p := ⟨w.heap.size, 0, none⟩) C0.out); have x01 := (he.cell (p := ⟨w.heap.size, 1, none⟩) C1.out); go_simp; rfl); simp only [Act.put, List.setIfInBounds_toArray, List.set_cons_zero, List.set_cons_succ])
  (refine LexW.pure (v := ?_) rfl rfl (fun w1 he => ?_) ?_; rotate_left; ( have x00 := (he.cell (p := ⟨w.heap.size, 0, none⟩) C0.out); have x01 := (he.cell (p := ⟨w.heap.size, 1, none⟩) C1.out); go_simp; rfl); simp only [Act.put, List.setIfInBounds_toArray, List.set_cons_zero, List.set_cons_succ])
  (refine LexW.callR (f := ?_) (args := ?_) rfl rfl (fun w1 => ?_) (fun w1 he hdep => ?_) (fun v hv => ?_); rotate_left 2; (go_simp; refine ⟨?_, ?_⟩ <;> rfl); ( refine (c_point p a d cap qs au cu u w1 (by omega) h4 HPR.out (HQ.out.ext he) HQB.out (HU.out.ext he) hgu).mono ?_; rintro e w2 ⟨g, rc, rfl, ho, g2⟩; exact ⟨_, rfl, g2, g, rc, rfl, ho.mono (Nat.le_trans E.out.size he.size)⟩); simp only [Act.put, List.setIfInBounds_toArray, List.set_cons_zero, List.set_cons_succ])
  obtain ⟨_, g26, c26, rfl, _⟩ := hv
  (refine LexW.call (f := ?_) (args := ?_) rfl rfl (fun w1 => ?_) (fun w1 he hdep => ?_) ?_; rotate_left 2; (go_simp; refine ⟨?_, ?_⟩ <;> rfl); ( obtain ⟨_, _, q20, r20⟩ : (SPred.spx w.heap.size p (d + 2) (extL p qs)).holds (.agg #[.int .i64 p, .slice (some ⟨g20, 0, none⟩) (d + 2) c20]) w1 := hdep (3, 20) (by decide +kernel); cases q20; obtain ⟨_, _, q23, r23⟩ : (SPred.ownS w.heap.size (d + 2) (pointL p qs v)).holds (.slice (some ⟨g23, 0, none⟩) (d + 2) c23) w1 := hdep (6, 23) (by decide +kernel); cases q23; obtain ⟨_, _, q26, r26⟩ : (SPred.ownS w.heap.size (d + 2) (pointL p qs u)).holds (.slice (some ⟨g26, 0, none⟩) (d + 2) c26) w1 := hdep (9, 26) (by decide +kernel); cases q26; have H := c_pair p (some ⟨g20, 0, none⟩) (d + 2) c20 (extL p qs) (some ⟨g23, 0, none⟩) c23 (pointL p qs v) (some ⟨g26, 0, none⟩) c26 (pointL p qs u) w1 (by omega) (by omega) (by omega) r20.rd HEB.out r23.rd (HGP v).out r26.rd (HGP u).out; rw [← HPX.out] at H; exact H); simp only [Act.put, List.setIfInBounds_toArray, List.set_cons_zero, List.set_cons_succ])
  (refine LexW.pure (v := ?_) rfl rfl (fun w1 he => ?_) ?_; rotate_left; ( have x00 := (he.cell (p := ⟨w.heap.size, 0, none⟩) C0.out); have x01 := (he.cell (p := ⟨w.heap.size, 1, none⟩) C1.out); go_simp; rfl); simp only [Act.put, List.setIfInBounds_toArray, List.set_cons_zero, List.set_cons_succ])
  (refine LexW.call (f := ?_) (args := ?_) rfl rfl (fun w1 => ?_) (fun w1 he hdep => ?_) ?_; rotate_left 2; (go_simp; refine ⟨?_, ?_⟩ <;> rfl); ( have H := c_num p (-2 * z) w1 (by omega) (by omega); rw [HD.out] at H; exact H); simp only [Act.put, List.setIfInBounds_toArray, List.set_cons_zero, List.set_cons_succ])
  (refine LexW.pure (v := ?_) rfl rfl (fun w1 he => ?_) ?_; rotate_left; ( have x00 := (he.cell (p := ⟨w.heap.size, 0, none⟩) C0.out); have x01 := (he.cell (p := ⟨w.heap.size, 1, none⟩) C1.out); go_simp; rfl); simp only [Act.put, List.setIfInBounds_toArray, List.set_cons_zero, List.set_cons_succ])
  (refine LexW.pure (v := ?_) rfl rfl (fun w1 he => ?_) ?_; rotate_left; ( have x00 := (he.cell (p := ⟨w.heap.size, 0, none⟩) C0.out); have x01 := (he.cell (p := ⟨w.heap.size, 1, none⟩) C1.out); go_simp; rfl); simp only [Act.put, List.setIfInBounds_toArray, List.set_cons_zero, List.set_cons_succ])
  refine LexW.nil (fun w3 he hkn => ?_)
  have HE := Lib.hid he
  clear he hkn 
  rename World => v2
  replace E := Lib.hid (E.out.trans HE.out)
  replace HQ := Lib.hid (HQ.out.ext HE.out)
  replace HV := Lib.hid (HV.out.ext HE.out)
  replace HU := Lib.hid (HU.out.ext HE.out)
  replace C0 := Lib.hid (HE.out.cell (p := ⟨w.heap.size, 0, none⟩) C0.out)
  replace C1 := Lib.hid (HE.out.cell (p := ⟨w.heap.size, 1, none⟩) C1.out)
  clear HE
  go_wp2_with (fail)
  go_ret2
  exact ⟨rfl, E.out⟩

set_option maxHeartbeats 4000000 in
set_option maxRecDepth 100000 in
theorem s_DistanceOf_ok (p : Int) (a : Option Addr) (d cap : Nat) (qs : List Int) (av : Option Addr) (cv : Nat) (v : List Int) (au : Option Addr) (cu : Nat) (u : List Int) (w : World) (hs : spaceB p qs = true) (h4 : qs.length ≤ 4) (hq : RdC w a d qs) (hv : RdC w av d v) (hgv : Good p d v) (hu : RdC w au d u) (hgu : Good p d u) :
    Calls Try.prog 21 #[.agg #[.int .i64 p, .slice a d cap], .slice av d cv, .slice au d cu] w fun e w' => e = .returned (.tuple #[.int .i64 (distN p qs v u), .int .i64 0]) ∧ Ext w w' := by
  have HC := Lib.hid (code18_two0 hs h4 (by rw [hq.1]; exact hgv) (by rw [hq.1]; exact hgu))
  obtain ⟨hpr, hd1, _, hqb⟩ := space_of hs
  have hpb := prime_bd hpr
  have HPR := Lib.hid hpr
  have HQB := Lib.hid hqb
  have hql := hq.1
  rw [hql] at hd1 h4
  have HQL := Lib.hid hql
  have HEB := Lib.hid (extL_isB (p := p) (by omega) hqb)
  have HGI := Lib.hid (good_inf (p := p) (d := d) (by omega))
  have HGP := fun (u : List Int) => Lib.hid (pointL_good (p := p) (qs := qs) (v := u) (d := d) (by omega) hql)
  clear hpr hqb hql
  have hcb : ((0 : Int) != 0) = false := by simp
  have HPX : Hid (pexZ p qs (pointL p qs v) u = pairL p (extL p qs) (pointL p qs v) (pointL p qs u) (d + 2)) := Lib.hid (by unfold pexZ; rw [HQL.out])
  have hzb : 0 ≤ pexZ p qs (pointL p qs v) u ∧ pexZ p qs (pointL p qs v) u < p := pairL_bd (by omega)
  have HD : Hid (-2 * pexZ p qs (pointL p qs v) u % p = distN p qs v u) := Lib.hid rfl
  obtain ⟨z, hz⟩ : ∃ z, z = pexZ p qs (pointL p qs v) u := ⟨_, rfl⟩
  rw [← hz] at HPX hzb HD
  clear hz
  have hwz : IntKind.i64.wrap (-2 * z) = -2 * z := IntWalk.i64_in _ (by omega)
  obtain ⟨D, hD⟩ : ∃ D, D = distN p qs v u := ⟨_, rfl⟩
  rw [← hD] at HD ⊢
  clear hD
  obtain ⟨W, hW⟩ : ∃ W, W = w.alloc (.cells #[.int .i64 p, .slice a d cap] 26) := ⟨_, rfl⟩
  have E : Hid (Ext w W) := Lib.hid (by rw [hW]; exact ext_alloc _ _)
  have C0 : Hid (W.cell? ⟨w.heap.size, 0, none⟩ = some (.int .i64 p)) := Lib.hid (by rw [hW]; simp)
  have C1 : Hid (W.cell? ⟨w.heap.size, 1, none⟩ = some (.slice a d cap)) := Lib.hid (by rw [hW]; simp)
  have HZ : Hid (W.heap.size = w.heap.size + 1) := Lib.hid (by rw [hW]; simp)
  have HW := Lib.hid hW
  clear hW
  have HQ := Lib.hid (hq.ext E.out)
  have HV := Lib.hid (hv.ext E.out)
  have HU := Lib.hid (hu.ext E.out)
  clear hq hv hu
  go_enter Try.func21, Try.ntmps21
  have x00 := C0.out
  have x01 := C1.out
  go_wp2_with (fail)
  clear x00 x01
  rw [← HW.out]
  clear HW
  refine Calls.mono (s_code18 p a d cap qs _ 2 _ [v, u] _ (by omega) (by omega) (len_two (by rw [HV.out.1]; omega) (by rw [HU.out.1]; omega)) (HQ.out.ext (ext_alloc _ _)) (rdR_two (a := av) (b := au) (n := d) (m := d) (ca := cv) (cb := cu) (by rw [← HZ.out]; simp) (by rw [← HZ.out]; simp) (HV.out.ext (ext_alloc _ _)) (HU.out.ext (ext_alloc _ _)))) ?_
  rintro e v1 ⟨rfl, gg⟩
  replace gg := (ext_alloc _ _).trans gg
  rw [HC.out]
  replace E := Lib.hid (E.out.trans gg)
  replace HQ := Lib.hid (HQ.out.ext gg)
  replace HV := Lib.hid (HV.out.ext gg)
  replace HU := Lib.hid (HU.out.ext gg)
  replace C0 := Lib.hid (gg.cell (p := ⟨w.heap.size, 0, none⟩) C0.out)
  replace C1 := Lib.hid (gg.cell (p := ⟨w.heap.size, 1, none⟩) C1.out)
  clear gg
  have x00 := C0.out
  have x01 := C1.out
  go_wp2_with (fail)
  clear x00 x01
  replace E := Lib.hid (E.out.trans (ext_drew v1))
  replace HQ := Lib.hid (HQ.out.ext (ext_drew v1))
  replace HV := Lib.hid (HV.out.ext (ext_drew v1))
  replace HU := Lib.hid (HU.out.ext (ext_drew v1))
  replace C0 := Lib.hid ((ext_drew v1).cell (p := ⟨w.heap.size, 0, none⟩) C0.out)
  replace C1 := Lib.hid ((ext_drew v1).cell (p := ⟨w.heap.size, 1, none⟩) C1.out)
  refine wp_region_lex [(3, .spx w.heap.size p (d + 2) (extL p qs)), (6, .ownS w.heap.size (d + 2) (pointL p qs v)), (9, .ownS w.heap.size (d + 2) (pointL p qs u)), (10, .val (.int .i64 z)), (12, .val (.int .i64 D))] (by kernel_rfl) (by kernel_rfl) ?_
  (refine LexW.pure (v := ?_) rfl rfl (fun w1 he => ?_) ?_; rotate_left; ( have x00 := (he.cell (p := ⟨w.heap.size, 0, none⟩) C0.out); have x01 := (he.cell (p := ⟨w.heap.size, 1, none⟩) C1.out); go_simp; rfl); simp only [Act.put, List.setIfInBounds_toArray, List.set_cons_zero, List.set_cons_succ])
  (refine LexW.pure (v := ?_) rfl rfl (fun w1 he => ?_) ?_; rotate_left; ( have x00 := (he.cell (p := ⟨w.heap.size, 0, none⟩) C0.out); have x01 := (he.cell (p := ⟨w.heap.size, 1, none⟩) C1.out); go_simp; rfl); simp only [Act.put, List.setIfInBounds_toArray, List.set_cons_zero, List.set_cons_succ])
  (refine LexW.pure (v := ?_) rfl rfl (fun w1 he => ?_) ?_; rotate_left; ( have x00 := (he.cell (p := ⟨w.heap.size, 0, none⟩) C0.out); have x01 := (he.cell (p := ⟨w.heap.size, 1, none⟩) C1.out); go_simp; rfl); simp only [Act.put, List.setIfInBounds_toArray, List.set_cons_zero, List.set_cons_succ])
  (refine LexW.callR (f := ?_) (args := ?_) rfl rfl (fun w1 => ?_) (fun w1 he hdep => ?_) (fun v hv => ?_); rotate_left 2; (go_simp; refine ⟨?_, ?_⟩ <;> rfl); ( refine (s_extended p a d cap qs w1 (by omega) (by omega) (by omega) (by omega) (HQ.out.ext he)).mono ?_; rintro e w2 ⟨g, rc, rfl, ho, g2⟩; exact ⟨_, rfl, g2, g, rc, rfl, ho.mono (Nat.le_trans E.out.size he.size)⟩); simp only [Act.put, List.setIfInBounds_toArray, List.set_cons_zero, List.set_cons_succ])
  obtain ⟨_, g20, c20, rfl, _⟩ := hv
  (refine LexW.pure (v := ?_) rfl rfl (fun w1 he => ?_) ?_; rotate_left; ( have x00 := (he.cell (p := ⟨w.heap.size, 0, none⟩) C0.out); have x01 := (he.cell (p := ⟨w.heap.size, 1, none⟩) C1.out); go_simp; rfl); simp only [Act.put, List.setIfInBounds_toArray, List.set_cons_zero, List.set_cons_succ])
  (refine LexW.pure (v := ?_) rfl rfl (fun w1 he => ?_) ?_; rotate_left; ( have x00 := (he.cell (p := ⟨w.heap.size, 0, none⟩) C0.out); have x01 := (he.cell (p := ⟨w.heap.size, 1, none⟩) C1.out); go_simp; rfl); simp only [Act.put, List.setIfInBounds_toArray, List.set_cons_zero, List.set_cons_succ])
  (refine LexW.callR (f := ?_) (args := ?_) rfl rfl (fun w1 => ?_) (fun w1 he hdep => ?_) (fun v hv => ?_); rotate_left 2; (go_simp; refine ⟨?_, ?_⟩ <;> rfl); ( refine (s_point p a d cap qs av cv v w1 (by omega) h4 HPR.out (HQ.out.ext he) HQB.out (HV.out.ext he) hgv).mono ?_; rintro e w2 ⟨g, rc, rfl, ho, g2⟩; exact ⟨_, rfl, g2, g, rc, rfl, ho.mono (Nat.le_trans E.out.size he.size)⟩); simp only [Act.put, List.setIfInBounds_toArray, List.set_cons_zero, List.set_cons_succ])
  obtain ⟨_, g23, c23, rfl, _⟩ := hv
  (refine LexW.pure (v := ?_) rfl rfl (fun w1 he => ?_) ?_; rotate_left; ( have x00 := (he.cell (p := ⟨w.heap.size, 0, none⟩) C0.out); have x01 := (he.cell (p := ⟨w.heap.size, 1, none⟩) C1.out); go_simp; rfl); simp only [Act.put, List.setIfInBounds_toArray, List.set_cons_zero, List.set_cons_succ])
  (refine LexW.pure (v := ?_) rfl rfl (fun w1 he => ?_) ?_; rotate_left; ( have x00 := (he.cell (p := ⟨w.heap.size, 0, none⟩) C0.out); have x01 := (he.cell (p := ⟨w.heap.size, 1, none⟩) C1.out); go_simp; rfl); simp only [Act.put, List.setIfInBounds_toArray, List.set_cons_zero, List.set_cons_succ])
  (refine LexW.callR (f := ?_) (args := ?_) rfl rfl (fun w1 => ?_) (fun w1 he hdep => ?_) (fun v hv => ?_); rotate_left 2; (go_simp; refine ⟨?_, ?_⟩ <;> rfl); ( refine (s_point p a d cap qs au cu u w1 (by omega) h4 HPR.out (HQ.out.ext he) HQB.out (HU.out.ext he) hgu).mono ?_; rintro e w2 ⟨g, rc, rfl, ho, g2⟩; exact ⟨_, rfl, g2, g, rc, rfl, ho.mono (Nat.le_trans E.out.size he.size)⟩); simp only [Act.put, List.setIfInBounds_toArray, List.set_cons_zero, List.set_cons_succ])
  obtain ⟨_, g26, c26, rfl, _⟩ := hv
  (refine LexW.call (f := ?_) (args := ?_) rfl rfl (fun w1 => ?_) (fun w1 he hdep => ?_) ?_; rotate_left 2; (go_simp; refine ⟨?_, ?_⟩ <;> rfl); ( obtain ⟨_, _, q20, r20⟩ : (SPred.spx w.heap.size p (d + 2) (extL p qs)).holds (.agg #[.int .i64 p, .slice (some ⟨g20, 0, none⟩) (d + 2) c20]) w1 := hdep (3, 20) (by decide +kernel); cases q20; obtain ⟨_, _, q23, r23⟩ : (SPred.ownS w.heap.size (d + 2) (pointL p qs v)).holds (.slice (some ⟨g23, 0, none⟩) (d + 2) c23) w1 := hdep (6, 23) (by decide +kernel); cases q23; obtain ⟨_, _, q26, r26⟩ : (SPred.ownS w.heap.size (d + 2) (pointL p qs u)).holds (.slice (some ⟨g26, 0, none⟩) (d + 2) c26) w1 := hdep (9, 26) (by decide +kernel); cases q26; have H := s_pair p (some ⟨g20, 0, none⟩) (d + 2) c20 (extL p qs) (some ⟨g23, 0, none⟩) c23 (pointL p qs v) (some ⟨g26, 0, none⟩) c26 (pointL p qs u) w1 (by omega) (by omega) (by omega) r20.rd HEB.out r23.rd (HGP v).out r26.rd (HGP u).out; rw [← HPX.out] at H; exact H); simp only [Act.put, List.setIfInBounds_toArray, List.set_cons_zero, List.set_cons_succ])
  (refine LexW.pure (v := ?_) rfl rfl (fun w1 he => ?_) ?_; rotate_left; ( have x00 := (he.cell (p := ⟨w.heap.size, 0, none⟩) C0.out); have x01 := (he.cell (p := ⟨w.heap.size, 1, none⟩) C1.out); go_simp; rfl); simp only [Act.put, List.setIfInBounds_toArray, List.set_cons_zero, List.set_cons_succ])
  (refine LexW.call (f := ?_) (args := ?_) rfl rfl (fun w1 => ?_) (fun w1 he hdep => ?_) ?_; rotate_left 2; (go_simp; refine ⟨?_, ?_⟩ <;> rfl); ( have H := s_mod p (-2 * z) w1 (by omega) (by omega); rw [HD.out] at H; exact H); simp only [Act.put, List.setIfInBounds_toArray, List.set_cons_zero, List.set_cons_succ])
  (refine LexW.pure (v := ?_) rfl rfl (fun w1 he => ?_) ?_; rotate_left; ( have x00 := (he.cell (p := ⟨w.heap.size, 0, none⟩) C0.out); have x01 := (he.cell (p := ⟨w.heap.size, 1, none⟩) C1.out); go_simp; rfl); simp only [Act.put, List.setIfInBounds_toArray, List.set_cons_zero, List.set_cons_succ])
  (refine LexW.pure (v := ?_) rfl rfl (fun w1 he => ?_) ?_; rotate_left; ( have x00 := (he.cell (p := ⟨w.heap.size, 0, none⟩) C0.out); have x01 := (he.cell (p := ⟨w.heap.size, 1, none⟩) C1.out); go_simp; rfl); simp only [Act.put, List.setIfInBounds_toArray, List.set_cons_zero, List.set_cons_succ])
  refine LexW.nil (fun w3 he hkn => ?_)
  have HE := Lib.hid he
  clear he hkn 
  rename World => v2
  replace E := Lib.hid (E.out.trans HE.out)
  replace HQ := Lib.hid (HQ.out.ext HE.out)
  replace HV := Lib.hid (HV.out.ext HE.out)
  replace HU := Lib.hid (HU.out.ext HE.out)
  replace C0 := Lib.hid (HE.out.cell (p := ⟨w.heap.size, 0, none⟩) C0.out)
  replace C1 := Lib.hid (HE.out.cell (p := ⟨w.heap.size, 1, none⟩) C1.out)
  clear HE
  go_wp2_with (fail)
  go_ret2
  exact ⟨rfl, E.out⟩

def codeSv (p : Int) (qs v : List Int) (r : Int) : Int := if code18 p qs [v] = 0 then (if inB r 0 (p - 1) = true then 0 else 2) else code18 p qs [v]
theorem codeSv_zero {p : Int} {qs v : List Int} {r : Int} (h : codeSv p qs v r = 0) : code18 p qs [v] = 0 ∧ 0 ≤ r ∧ r < p := by
  unfold codeSv at h
  split at h
  · rename_i h1
    split at h
    · rename_i h2
      simp only [inB, decide_eq_true_eq] at h2
      exact ⟨h1, by omega, by omega⟩
    · cases h
  · rename_i h1; exact absurd h h1
theorem ball_scale {p r : Int} {qs c : List Int} {n : Nat} : plusL p (pointL p qs c) (scaleL p (infL qs.length) (invN p 2 * r) n) (-1) n = plusL p (pointL p qs c) (infL qs.length) (-(r * invN p 2 % p)) n := by
  rw [plus_scaleS]
  refine plus_modk ?_
  obtain ⟨s, hs⟩ := emod_ex p (r * invN p 2)
  rw [hs]
  exact emod_add ⟨s, by rw [Int.mul_comm r]; grind⟩
theorem ball_good {p r : Int} {qs c : List Int} {d : Nat} (hp : 1 ≤ p) (hd : qs.length = d) : Good p (d + 2) (ballL p qs c r) := by subst hd; exact plus_good hp

set_option maxHeartbeats 4000000 in
set_option maxRecDepth 100000 in
theorem s_sphere18 (p : Int) (a : Option Addr) (d cap : Nat) (qs : List Int) (av : Option Addr) (cv : Nat) (v : List Int) (r : Int) (w : World) (hs : spaceB p qs = true) (h4 : qs.length ≤ 4) (hq : RdC w a d qs) (hv : RdC w av d v) (hgv : Good p d v) (hr0 : 0 ≤ r) (hr1 : r < p) :
    Calls Try.prog 76 #[.agg #[.int .i64 p, .slice a d cap], .slice av d cv, .int .i64 r] w fun e w' => ∃ g rc, e = .returned (.slice (some ⟨g, 0, none⟩) (d + 2) rc) ∧ OwnC w.heap.size w' (some ⟨g, 0, none⟩) (d + 2) rc (ballL p qs v r) ∧ Ext w w' := by
  obtain ⟨hpr, hd1, _, hqb⟩ := space_of hs
  have hpb := prime_bd hpr
  have HPR := Lib.hid hpr
  have HQB := Lib.hid hqb
  have hql := hq.1
  rw [hql] at hd1 h4
  have HQL := Lib.hid hql
  have HEB := Lib.hid (extL_isB (p := p) (by omega) hqb)
  have HGI := Lib.hid (good_inf (p := p) (d := d) (by omega))
  have HGP := fun (u : List Int) => Lib.hid (pointL_good (p := p) (qs := qs) (v := u) (d := d) (by omega) hql)
  clear hpr hqb hql
  have HBL : Hid (ballL p qs v r = plusL p (pointL p qs v) (infL d) (-(r * invN p 2 % p)) (d + 2)) := Lib.hid (by unfold ballL; rw [HQL.out])
  have hib := invN_bd (p := p) (a := 2) (by omega)
  have HBS : Hid (ballL p qs v r = plusL p (pointL p qs v) (scaleL p (infL d) (invN p 2 * r) (d + 2)) (-1) (d + 2)) := Lib.hid (by rw [HBL.out]; have := ball_scale (p := p) (r := r) (qs := qs) (c := v) (n := d + 2); rw [HQL.out] at this; exact this.symm)
  obtain ⟨i2, hi2⟩ : ∃ i, i = invN p 2 := ⟨_, rfl⟩
  rw [← hi2] at hib HBS
  have HI2 := Lib.hid hi2.symm
  clear hi2 HBL
  have hmb : 0 ≤ i2 * r ∧ i2 * r ≤ 169 := ⟨Int.mul_nonneg hib.1 hr0, by have := Int.mul_le_mul (show i2 ≤ 13 by omega) (show r ≤ 13 by omega) hr0 (show (0 : Int) ≤ 13 by omega); omega⟩
  have hwm : IntKind.i64.wrap (i2 * r) = i2 * r := IntWalk.i64_in _ (by omega)
  obtain ⟨m, hm⟩ : ∃ m, m = i2 * r := ⟨_, rfl⟩
  rw [← hm] at HBS hmb
  have hwm2 : IntKind.i64.wrap (i2 * r) = m := by rw [hwm, hm]
  clear hm hwm
  obtain ⟨W, hW⟩ : ∃ W, W = w.alloc (.cells #[.int .i64 p, .slice a d cap] 26) := ⟨_, rfl⟩
  have E : Hid (Ext w W) := Lib.hid (by rw [hW]; exact ext_alloc _ _)
  have C0 : Hid (W.cell? ⟨w.heap.size, 0, none⟩ = some (.int .i64 p)) := Lib.hid (by rw [hW]; simp)
  have C1 : Hid (W.cell? ⟨w.heap.size, 1, none⟩ = some (.slice a d cap)) := Lib.hid (by rw [hW]; simp)
  have HZ : Hid (W.heap.size = w.heap.size + 1) := Lib.hid (by rw [hW]; simp)
  have HW := Lib.hid hW
  clear hW
  have HQ := Lib.hid (hq.ext E.out)
  have HV := Lib.hid (hv.ext E.out)
  clear hq hv
  go_enter Try.func76, Try.ntmps76
  have x00 := C0.out
  have x01 := C1.out
  go_wp2_with (fail)
  clear x00 x01
  rw [← HW.out]
  clear HW
  replace E := Lib.hid (E.out.trans (ext_drew W))
  replace HQ := Lib.hid (HQ.out.ext (ext_drew W))
  replace HV := Lib.hid (HV.out.ext (ext_drew W))
  replace C0 := Lib.hid ((ext_drew W).cell (p := ⟨w.heap.size, 0, none⟩) C0.out)
  replace C1 := Lib.hid ((ext_drew W).cell (p := ⟨w.heap.size, 1, none⟩) C1.out)
  refine wp_region_lex [(4, .ownS w.heap.size (d + 2) (pointL p qs v)), (9, .val (.int .i64 i2)), (13, .ownS w.heap.size (d + 2) (infL d)), (14, .ownS w.heap.size (d + 2) (scaleL p (infL d) m (d + 2))), (15, .ownS w.heap.size (d + 2) (plusL p (pointL p qs v) (scaleL p (infL d) m (d + 2)) (-1) (d + 2)))] (by kernel_rfl) (by kernel_rfl) ?_
  (refine LexW.pure (v := ?_) rfl rfl (fun w1 he => ?_) ?_; rotate_left; ( have x00 := (he.cell (p := ⟨w.heap.size, 0, none⟩) C0.out); have x01 := (he.cell (p := ⟨w.heap.size, 1, none⟩) C1.out); go_simp; rfl); simp only [Act.put, List.setIfInBounds_toArray, List.set_cons_zero, List.set_cons_succ])
  (refine LexW.pure (v := ?_) rfl rfl (fun w1 he => ?_) ?_; rotate_left; ( have x00 := (he.cell (p := ⟨w.heap.size, 0, none⟩) C0.out); have x01 := (he.cell (p := ⟨w.heap.size, 1, none⟩) C1.out); go_simp; rfl); simp only [Act.put, List.setIfInBounds_toArray, List.set_cons_zero, List.set_cons_succ])
  (refine LexW.pure (v := ?_) rfl rfl (fun w1 he => ?_) ?_; rotate_left; ( have x00 := (he.cell (p := ⟨w.heap.size, 0, none⟩) C0.out); have x01 := (he.cell (p := ⟨w.heap.size, 1, none⟩) C1.out); go_simp; rfl); simp only [Act.put, List.setIfInBounds_toArray, List.set_cons_zero, List.set_cons_succ])
  (refine LexW.pure (v := ?_) rfl rfl (fun w1 he => ?_) ?_; rotate_left; ( have x00 := (he.cell (p := ⟨w.heap.size, 0, none⟩) C0.out); have x01 := (he.cell (p := ⟨w.heap.size, 1, none⟩) C1.out); go_simp; rfl); simp only [Act.put, List.setIfInBounds_toArray, List.set_cons_zero, List.set_cons_succ])
  (refine LexW.callR (f := ?_) (args := ?_) rfl rfl (fun w1 => ?_) (fun w1 he hdep => ?_) (fun v hv => ?_); rotate_left 2; (go_simp; refine ⟨?_, ?_⟩ <;> rfl); ( refine (s_point p a d cap qs av cv v w1 (by omega) h4 HPR.out (HQ.out.ext he) HQB.out (HV.out.ext he) hgv).mono ?_; rintro e w2 ⟨g, rc, rfl, ho, g2⟩; exact ⟨_, rfl, g2, g, rc, rfl, ho.mono (Nat.le_trans E.out.size he.size)⟩); simp only [Act.put, List.setIfInBounds_toArray, List.set_cons_zero, List.set_cons_succ])
  obtain ⟨_, g11, c11, rfl, _⟩ := hv
  (refine LexW.pure (v := ?_) rfl rfl (fun w1 he => ?_) ?_; rotate_left; ( have x00 := (he.cell (p := ⟨w.heap.size, 0, none⟩) C0.out); have x01 := (he.cell (p := ⟨w.heap.size, 1, none⟩) C1.out); go_simp; rfl); simp only [Act.put, List.setIfInBounds_toArray, List.set_cons_zero, List.set_cons_succ])
  (refine LexW.pure (v := ?_) rfl rfl (fun w1 he => ?_) ?_; rotate_left; ( have x00 := (he.cell (p := ⟨w.heap.size, 0, none⟩) C0.out); have x01 := (he.cell (p := ⟨w.heap.size, 1, none⟩) C1.out); go_simp; rfl); simp only [Act.put, List.setIfInBounds_toArray, List.set_cons_zero, List.set_cons_succ])
  (refine LexW.pure (v := ?_) rfl rfl (fun w1 he => ?_) ?_; rotate_left; ( have x00 := (he.cell (p := ⟨w.heap.size, 0, none⟩) C0.out); have x01 := (he.cell (p := ⟨w.heap.size, 1, none⟩) C1.out); go_simp; rfl); simp only [Act.put, List.setIfInBounds_toArray, List.set_cons_zero, List.set_cons_succ])
  (refine LexW.pure (v := ?_) rfl rfl (fun w1 he => ?_) ?_; rotate_left; ( have x00 := (he.cell (p := ⟨w.heap.size, 0, none⟩) C0.out); have x01 := (he.cell (p := ⟨w.heap.size, 1, none⟩) C1.out); go_simp; rfl); simp only [Act.put, List.setIfInBounds_toArray, List.set_cons_zero, List.set_cons_succ])
  (refine LexW.call (f := ?_) (args := ?_) rfl rfl (fun w1 => ?_) (fun w1 he hdep => ?_) ?_; rotate_left 2; (go_simp; refine ⟨?_, ?_⟩ <;> rfl); ( have H := s_inv p 2 w1 HPR.out (by omega) (by omega); rw [HI2.out] at H; exact H); simp only [Act.put, List.setIfInBounds_toArray, List.set_cons_zero, List.set_cons_succ])
  (refine LexW.pure (v := ?_) rfl rfl (fun w1 he => ?_) ?_; rotate_left; ( have x00 := (he.cell (p := ⟨w.heap.size, 0, none⟩) C0.out); have x01 := (he.cell (p := ⟨w.heap.size, 1, none⟩) C1.out); go_simp; rfl); simp only [Act.put, List.setIfInBounds_toArray, List.set_cons_zero, List.set_cons_succ])
  (refine LexW.pure (v := ?_) rfl rfl (fun w1 he => ?_) ?_; rotate_left; ( have x00 := (he.cell (p := ⟨w.heap.size, 0, none⟩) C0.out); have x01 := (he.cell (p := ⟨w.heap.size, 1, none⟩) C1.out); go_simp; rfl); simp only [Act.put, List.setIfInBounds_toArray, List.set_cons_zero, List.set_cons_succ])
  (refine LexW.pure (v := ?_) rfl rfl (fun w1 he => ?_) ?_; rotate_left; ( have x00 := (he.cell (p := ⟨w.heap.size, 0, none⟩) C0.out); have x01 := (he.cell (p := ⟨w.heap.size, 1, none⟩) C1.out); go_simp; rfl); simp only [Act.put, List.setIfInBounds_toArray, List.set_cons_zero, List.set_cons_succ])
  (refine LexW.callR (f := ?_) (args := ?_) rfl rfl (fun w1 => ?_) (fun w1 he hdep => ?_) (fun v hv => ?_); rotate_left 2; (go_simp; refine ⟨?_, ?_⟩ <;> rfl); ( refine (s_infinity p a d cap w1 (by omega)).mono ?_; rintro e w2 ⟨g, rc, rfl, ho, g2⟩; exact ⟨_, rfl, g2, g, rc, rfl, ho.mono (Nat.le_trans E.out.size he.size)⟩); simp only [Act.put, List.setIfInBounds_toArray, List.set_cons_zero, List.set_cons_succ])
  obtain ⟨_, g20, c20, rfl, _⟩ := hv
  (refine LexW.callR (f := ?_) (args := ?_) rfl rfl (fun w1 => ?_) (fun w1 he hdep => ?_) (fun v hv => ?_); rotate_left 2; (go_simp; refine ⟨?_, ?_⟩ <;> rfl); ( obtain ⟨_, _, q20, r20⟩ : (SPred.ownS w.heap.size (d + 2) (infL d)).holds (.slice (some ⟨g20, 0, none⟩) (d + 2) c20) w1 := hdep (13, 20) (by decide +kernel); cases q20; refine (s_scale11 p _ (d + 2) _ (infL d) m w1 (by omega) (by omega) (by omega) (by omega) r20.rd HGI.out).mono ?_; rintro e w2 ⟨g, rc, rfl, ho, g2⟩; exact ⟨_, rfl, g2, g, rc, rfl, ho.mono (Nat.le_trans E.out.size he.size)⟩); simp only [Act.put, List.setIfInBounds_toArray, List.set_cons_zero, List.set_cons_succ])
  obtain ⟨_, g21, c21, rfl, _⟩ := hv
  (refine LexW.callR (f := ?_) (args := ?_) rfl rfl (fun w1 => ?_) (fun w1 he hdep => ?_) (fun v hv => ?_); rotate_left 2; (go_simp; refine ⟨?_, ?_⟩ <;> rfl); ( obtain ⟨_, _, q11, r11⟩ : (SPred.ownS w.heap.size (d + 2) (pointL p qs v)).holds (.slice (some ⟨g11, 0, none⟩) (d + 2) c11) w1 := hdep (4, 11) (by decide +kernel); cases q11; obtain ⟨_, _, q21, r21⟩ : (SPred.ownS w.heap.size (d + 2) (scaleL p (infL d) m (d + 2))).holds (.slice (some ⟨g21, 0, none⟩) (d + 2) c21) w1 := hdep (14, 21) (by decide +kernel); cases q21; refine (s_minus11 p _ _ (d + 2) _ _ (pointL p qs v) (scaleL p (infL d) m (d + 2)) w1 (by omega) (by omega) (by omega) r11.rd r21.rd (fun i hi => by have := (HGP v).out.2 i hi; omega) (scale_good (by omega))).mono ?_; rintro e w2 ⟨g, rc, rfl, ho, g2⟩; exact ⟨_, rfl, g2, g, rc, rfl, ho.mono (Nat.le_trans E.out.size he.size)⟩); simp only [Act.put, List.setIfInBounds_toArray, List.set_cons_zero, List.set_cons_succ])
  obtain ⟨_, g22, c22, rfl, _⟩ := hv
  (refine LexW.pure (v := ?_) rfl rfl (fun w1 he => ?_) ?_; rotate_left; ( have x00 := (he.cell (p := ⟨w.heap.size, 0, none⟩) C0.out); have x01 := (he.cell (p := ⟨w.heap.size, 1, none⟩) C1.out); go_simp; rfl); simp only [Act.put, List.setIfInBounds_toArray, List.set_cons_zero, List.set_cons_succ])
  refine LexW.nil (fun w3 he hkn => ?_)
  obtain ⟨_, _, q22, r22⟩ : (SPred.ownS w.heap.size (d + 2) (plusL p (pointL p qs v) (scaleL p (infL d) m (d + 2)) (-1) (d + 2))).holds (.slice (some ⟨g22, 0, none⟩) (d + 2) c22) w3 := hkn (15, _) (by simp)
  cases q22
  have R22 := Lib.hid r22
  have HE := Lib.hid he
  clear he hkn r22
  rename World => v1
  replace E := Lib.hid (E.out.trans HE.out)
  replace HQ := Lib.hid (HQ.out.ext HE.out)
  replace HV := Lib.hid (HV.out.ext HE.out)
  replace C0 := Lib.hid (HE.out.cell (p := ⟨w.heap.size, 0, none⟩) C0.out)
  replace C1 := Lib.hid (HE.out.cell (p := ⟨w.heap.size, 1, none⟩) C1.out)
  clear HE
  go_wp2_with (fail)
  go_ret
  exact ⟨_, _, rfl, by rw [HBS.out]; exact R22.out, E.out⟩

set_option maxHeartbeats 4000000 in
set_option maxRecDepth 100000 in
theorem c_SphereVector_bad (p : Int) (a : Option Addr) (d cap : Nat) (qs : List Int) (av : Option Addr) (n cv : Nat) (v : List Int) (r : Int) (w : World) (hd : d ≤ 4194304) (hn : n ≤ 4194304) (hq : RdC w a d qs) (hv : RdC w av n v) (hc : codeSv p qs v r ≠ 0) :
    Calls Try.prog 18 #[.agg #[.int .i64 p, .slice a d cap], .slice av n cv, .int .i64 r] w fun e w' => ∃ ra rc, e = .returned (.tuple #[.slice ra 0 rc, .int .i64 (codeSv p qs v r)]) ∧ OwnC w.heap.size w' ra 0 rc [] ∧ Ext w w' := by
  obtain ⟨W, hW⟩ : ∃ W, W = w.alloc (.cells #[.int .i64 p, .slice a d cap] 26) := ⟨_, rfl⟩
  have E : Hid (Ext w W) := Lib.hid (by rw [hW]; exact ext_alloc _ _)
  have C0 : Hid (W.cell? ⟨w.heap.size, 0, none⟩ = some (.int .i64 p)) := Lib.hid (by rw [hW]; simp)
  have C1 : Hid (W.cell? ⟨w.heap.size, 1, none⟩ = some (.slice a d cap)) := Lib.hid (by rw [hW]; simp)
  have HZ : Hid (W.heap.size = w.heap.size + 1) := Lib.hid (by rw [hW]; simp)
  have HW := Lib.hid hW
  clear hW
  have HQ := Lib.hid (hq.ext E.out)
  have HV := Lib.hid (hv.ext E.out)
  clear hq hv
  by_cases h1 : code18 p qs [v] = 0
  · have HC := Lib.hid h1
    have HCS : Hid (codeSv p qs v r = 2) := Lib.hid (by
      unfold codeSv at hc ⊢
      rw [if_pos h1] at hc ⊢
      split at hc
      · exact absurd rfl hc
      · rename_i h2; rw [if_neg h2])
    have hb := prime_bd (space_of (code18_zero h1).1).1
    have HIB : Hid (inB r 0 (p - 1) = false) := Lib.hid (by
      unfold codeSv at hc
      rw [if_pos h1] at hc
      cases h : inB r 0 (p - 1)
      · rfl
      · rw [h] at hc; exact absurd rfl hc)
    clear hc h1
    have hcb : ((0 : Int) != 0) = false := by simp
    have hcb0 : ((0 : Int) == 0) = true := by simp
    have hcb2 : ((2 : Int) != 0) = true := by simp
    have hcbz : ((2 : Int) == 0) = false := by simp
    go_enter Try.func18, Try.ntmps18
    have x00 := C0.out
    have x01 := C1.out
    go_wp2_with (fail)
    clear x00 x01
    rw [← HW.out]
    clear HW
    refine Calls.mono (c_checkPlaces p a d cap qs _ 1 _ [v] _ hd (by omega) (len_one (by rw [HV.out.1]; exact hn)) (HQ.out.ext (ext_alloc _ _)) (rdR_one (a := av) (n := n) (cap := cv) (by rw [← HZ.out]; simp) (HV.out.ext (ext_alloc _ _)))) ?_
    rintro e v1 ⟨rfl, gg⟩
    replace gg := (ext_alloc _ _).trans gg
    rw [HC.out]
    replace E := Lib.hid (E.out.trans gg)
    replace HQ := Lib.hid (HQ.out.ext gg)
    replace HV := Lib.hid (HV.out.ext gg)
    replace C0 := Lib.hid (gg.cell (p := ⟨w.heap.size, 0, none⟩) C0.out)
    replace C1 := Lib.hid (gg.cell (p := ⟨w.heap.size, 1, none⟩) C1.out)
    clear gg
    have x00 := C0.out
    have x01 := C1.out
    go_wp2_with (fail)
    clear x00 x01
    refine Calls.mono (c_field p _ v1) ?_
    rintro e v2 ⟨rfl, gg⟩
    replace E := Lib.hid (E.out.trans gg)
    replace HQ := Lib.hid (HQ.out.ext gg)
    replace HV := Lib.hid (HV.out.ext gg)
    replace C0 := Lib.hid (gg.cell (p := ⟨w.heap.size, 0, none⟩) C0.out)
    replace C1 := Lib.hid (gg.cell (p := ⟨w.heap.size, 1, none⟩) C1.out)
    clear gg
    have x00 := C0.out
    have x01 := C1.out
    go_wp2_with (fail)
    clear x00 x01
    refine Calls.mono (c_is p _ 1 1 [r] _ (by omega) (by omega) (by omega) (rdC_lit v2 2 [r])) ?_
    rintro e v3 ⟨rfl, gg⟩
    replace gg := (ext_alloc _ _).trans gg
    rw [show isB p [r] = false by unfold isB; simp [HIB.out]]
    replace E := Lib.hid (E.out.trans gg)
    replace HQ := Lib.hid (HQ.out.ext gg)
    replace HV := Lib.hid (HV.out.ext gg)
    replace C0 := Lib.hid (gg.cell (p := ⟨w.heap.size, 0, none⟩) C0.out)
    replace C1 := Lib.hid (gg.cell (p := ⟨w.heap.size, 1, none⟩) C1.out)
    clear gg
    go_wp2_with (fail)
    go_ret2
    exact ⟨none, 0, by rw [HCS.out] <;> rfl, own_nil _ _, E.out⟩
  · have HC := Lib.hid (show codeSv p qs v r = code18 p qs [v] by unfold codeSv; rw [if_neg h1])
    have hcb : (code18 p qs [v] != 0) = true := by simp [h1]
    have hcb0 : (code18 p qs [v] == 0) = false := by simp [h1]
    clear h1 hc
    go_enter Try.func18, Try.ntmps18
    have x00 := C0.out
    have x01 := C1.out
    go_wp2_with (fail)
    clear x00 x01
    rw [← HW.out]
    clear HW
    refine Calls.mono (c_checkPlaces p a d cap qs _ 1 _ [v] _ hd (by omega) (len_one (by rw [HV.out.1]; exact hn)) (HQ.out.ext (ext_alloc _ _)) (rdR_one (a := av) (n := n) (cap := cv) (by rw [← HZ.out]; simp) (HV.out.ext (ext_alloc _ _)))) ?_
    rintro e v1 ⟨rfl, gg⟩
    replace gg := (ext_alloc _ _).trans gg
    replace E := Lib.hid (E.out.trans gg)
    replace HQ := Lib.hid (HQ.out.ext gg)
    replace HV := Lib.hid (HV.out.ext gg)
    replace C0 := Lib.hid (gg.cell (p := ⟨w.heap.size, 0, none⟩) C0.out)
    replace C1 := Lib.hid (gg.cell (p := ⟨w.heap.size, 1, none⟩) C1.out)
    clear gg
    go_wp2_with (fail)
    go_ret2
    exact ⟨none, 0, by rw [HC.out] <;> rfl, own_nil _ _, E.out⟩

set_option maxHeartbeats 4000000 in
set_option maxRecDepth 100000 in
theorem c_SphereVector_ok (p : Int) (a : Option Addr) (d cap : Nat) (qs : List Int) (av : Option Addr) (cv : Nat) (v : List Int) (r : Int) (w : World) (hs : spaceB p qs = true) (h4 : qs.length ≤ 4) (hq : RdC w a d qs) (hv : RdC w av d v) (hgv : Good p d v) (hr0 : 0 ≤ r) (hr1 : r < p) :
    Calls Try.prog 18 #[.agg #[.int .i64 p, .slice a d cap], .slice av d cv, .int .i64 r] w fun e w' => ∃ g rc, e = .returned (.tuple #[.slice (some ⟨g, 0, none⟩) (d + 2) rc, .int .i64 0]) ∧ OwnC w.heap.size w' (some ⟨g, 0, none⟩) (d + 2) rc (ballL p qs v r) ∧ Ext w w' := by
  have HC := Lib.hid (code18_one0 hs h4 (v := v) (by rw [hq.1]; exact hgv))
  have HSP := Lib.hid hs
  obtain ⟨hpr, hd1, _, hqb⟩ := space_of hs
  have hpb := prime_bd hpr
  have HPR := Lib.hid hpr
  have HQB := Lib.hid hqb
  have hql := hq.1
  rw [hql] at hd1 h4
  have HQL := Lib.hid hql
  have HEB := Lib.hid (extL_isB (p := p) (by omega) hqb)
  have HGI := Lib.hid (good_inf (p := p) (d := d) (by omega))
  have HGP := fun (u : List Int) => Lib.hid (pointL_good (p := p) (qs := qs) (v := u) (d := d) (by omega) hql)
  clear hpr hqb hql
  have hcb : ((0 : Int) != 0) = false := by simp
  have hcb0 : ((0 : Int) == 0) = true := by simp
  have HIB : Hid (inB r 0 (p - 1) = true) := Lib.hid (by simp [inB]; omega)
  have HBL : Hid (ballL p qs v r = plusL p (pointL p qs v) (infL d) (-(r * invN p 2 % p)) (d + 2)) := Lib.hid (by unfold ballL; rw [HQL.out])
  have hib := invN_bd (p := p) (a := 2) (by omega)
  have hhb : 0 ≤ r * invN p 2 % p ∧ r * invN p 2 % p < p := ⟨Int.emod_nonneg _ (by omega), Int.emod_lt_of_pos _ (by omega)⟩
  obtain ⟨h, hh⟩ : ∃ h, h = r * invN p 2 % p := ⟨_, rfl⟩
  rw [← hh] at HBL hhb
  have HH := Lib.hid hh.symm
  clear hh
  have hneg : IntKind.i64.wrap (-h) = -h := IntWalk.i64_in _ (by omega)
  obtain ⟨W, hW⟩ : ∃ W, W = w.alloc (.cells #[.int .i64 p, .slice a d cap] 26) := ⟨_, rfl⟩
  have E : Hid (Ext w W) := Lib.hid (by rw [hW]; exact ext_alloc _ _)
  have C0 : Hid (W.cell? ⟨w.heap.size, 0, none⟩ = some (.int .i64 p)) := Lib.hid (by rw [hW]; simp)
  have C1 : Hid (W.cell? ⟨w.heap.size, 1, none⟩ = some (.slice a d cap)) := Lib.hid (by rw [hW]; simp)
  have HZ : Hid (W.heap.size = w.heap.size + 1) := Lib.hid (by rw [hW]; simp)
  have HW := Lib.hid hW
  clear hW
  have HQ := Lib.hid (hq.ext E.out)
  have HV := Lib.hid (hv.ext E.out)
  clear hq hv
  go_enter Try.func18, Try.ntmps18
  have x00 := C0.out
  have x01 := C1.out
  go_wp2_with (fail)
  clear x00 x01
  rw [← HW.out]
  clear HW
  refine Calls.mono (c_checkPlaces p a d cap qs _ 1 _ [v] _ (by omega) (by omega) (len_one (by rw [HV.out.1]; omega)) (HQ.out.ext (ext_alloc _ _)) (rdR_one (a := av) (n := d) (cap := cv) (by rw [← HZ.out]; simp) (HV.out.ext (ext_alloc _ _)))) ?_
  rintro e v1 ⟨rfl, gg⟩
  replace gg := (ext_alloc _ _).trans gg
  rw [HC.out]
  replace E := Lib.hid (E.out.trans gg)
  replace HQ := Lib.hid (HQ.out.ext gg)
  replace HV := Lib.hid (HV.out.ext gg)
  replace C0 := Lib.hid (gg.cell (p := ⟨w.heap.size, 0, none⟩) C0.out)
  replace C1 := Lib.hid (gg.cell (p := ⟨w.heap.size, 1, none⟩) C1.out)
  clear gg
  have x00 := C0.out
  have x01 := C1.out
  go_wp2_with (fail)
  clear x00 x01
  refine Calls.mono (c_field p _ v1) ?_
  rintro e v2 ⟨rfl, gg⟩
  replace E := Lib.hid (E.out.trans gg)
  replace HQ := Lib.hid (HQ.out.ext gg)
  replace HV := Lib.hid (HV.out.ext gg)
  replace C0 := Lib.hid (gg.cell (p := ⟨w.heap.size, 0, none⟩) C0.out)
  replace C1 := Lib.hid (gg.cell (p := ⟨w.heap.size, 1, none⟩) C1.out)
  clear gg
  have x00 := C0.out
  have x01 := C1.out
  go_wp2_with (fail)
  clear x00 x01
  refine Calls.mono (c_is p _ 1 1 [r] _ (by omega) (by omega) (by omega) (rdC_lit v2 2 [r])) ?_
  rintro e v3 ⟨rfl, gg⟩
  replace gg := (ext_alloc _ _).trans gg
  rw [show isB p [r] = true by unfold isB; simp [HIB.out]]
  replace E := Lib.hid (E.out.trans gg)
  replace HQ := Lib.hid (HQ.out.ext gg)
  replace HV := Lib.hid (HV.out.ext gg)
  replace C0 := Lib.hid (gg.cell (p := ⟨w.heap.size, 0, none⟩) C0.out)
  replace C1 := Lib.hid (gg.cell (p := ⟨w.heap.size, 1, none⟩) C1.out)
  clear gg
  have x00 := C0.out
  have x01 := C1.out
  go_wp2_with (fail)
  clear x00 x01
  replace E := Lib.hid (E.out.trans (ext_drew v3))
  replace HQ := Lib.hid (HQ.out.ext (ext_drew v3))
  replace HV := Lib.hid (HV.out.ext (ext_drew v3))
  replace C0 := Lib.hid ((ext_drew v3).cell (p := ⟨w.heap.size, 0, none⟩) C0.out)
  replace C1 := Lib.hid ((ext_drew v3).cell (p := ⟨w.heap.size, 1, none⟩) C1.out)
  refine wp_region_lex [(1, .val (.int .i64 p)), (4, .ownS w.heap.size (d + 2) (pointL p qs v)), (6, .ownS w.heap.size (d + 2) (infL d)), (8, .val (.int .i64 p)), (10, .val (.int .i64 h)), (12, .ownS w.heap.size (d + 2) (plusL p (pointL p qs v) (infL d) (-h) (d + 2)))] (by kernel_rfl) (by kernel_rfl) ?_
  (refine LexW.pure (v := ?_) rfl rfl (fun w1 he => ?_) ?_; rotate_left; ( have x00 := (he.cell (p := ⟨w.heap.size, 0, none⟩) C0.out); have x01 := (he.cell (p := ⟨w.heap.size, 1, none⟩) C1.out); go_simp; rfl); simp only [Act.put, List.setIfInBounds_toArray, List.set_cons_zero, List.set_cons_succ])
  (refine LexW.call (f := ?_) (args := ?_) rfl rfl (fun w1 => ?_) (fun w1 he hdep => ?_) ?_; rotate_left 2; (go_simp; refine ⟨?_, ?_⟩ <;> rfl); ( exact c_field _ _ _); simp only [Act.put, List.setIfInBounds_toArray, List.set_cons_zero, List.set_cons_succ])
  (refine LexW.pure (v := ?_) rfl rfl (fun w1 he => ?_) ?_; rotate_left; ( have x00 := (he.cell (p := ⟨w.heap.size, 0, none⟩) C0.out); have x01 := (he.cell (p := ⟨w.heap.size, 1, none⟩) C1.out); go_simp; rfl); simp only [Act.put, List.setIfInBounds_toArray, List.set_cons_zero, List.set_cons_succ])
  (refine LexW.pure (v := ?_) rfl rfl (fun w1 he => ?_) ?_; rotate_left; ( have x00 := (he.cell (p := ⟨w.heap.size, 0, none⟩) C0.out); have x01 := (he.cell (p := ⟨w.heap.size, 1, none⟩) C1.out); go_simp; rfl); simp only [Act.put, List.setIfInBounds_toArray, List.set_cons_zero, List.set_cons_succ])
  (refine LexW.callR (f := ?_) (args := ?_) rfl rfl (fun w1 => ?_) (fun w1 he hdep => ?_) (fun v hv => ?_); rotate_left 2; (go_simp; refine ⟨?_, ?_⟩ <;> rfl); ( refine (c_point p a d cap qs av cv v w1 (by omega) h4 HPR.out (HQ.out.ext he) HQB.out (HV.out.ext he) hgv).mono ?_; rintro e w2 ⟨g, rc, rfl, ho, g2⟩; exact ⟨_, rfl, g2, g, rc, rfl, ho.mono (Nat.le_trans E.out.size he.size)⟩); simp only [Act.put, List.setIfInBounds_toArray, List.set_cons_zero, List.set_cons_succ])
  obtain ⟨_, g26, c26, rfl, _⟩ := hv
  (refine LexW.pure (v := ?_) rfl rfl (fun w1 he => ?_) ?_; rotate_left; ( have x00 := (he.cell (p := ⟨w.heap.size, 0, none⟩) C0.out); have x01 := (he.cell (p := ⟨w.heap.size, 1, none⟩) C1.out); go_simp; rfl); simp only [Act.put, List.setIfInBounds_toArray, List.set_cons_zero, List.set_cons_succ])
  (refine LexW.callR (f := ?_) (args := ?_) rfl rfl (fun w1 => ?_) (fun w1 he hdep => ?_) (fun v hv => ?_); rotate_left 2; (go_simp; refine ⟨?_, ?_⟩ <;> rfl); ( refine (c_infinity p a d cap w1 (by omega)).mono ?_; rintro e w2 ⟨g, rc, rfl, ho, g2⟩; exact ⟨_, rfl, g2, g, rc, rfl, ho.mono (Nat.le_trans E.out.size he.size)⟩); simp only [Act.put, List.setIfInBounds_toArray, List.set_cons_zero, List.set_cons_succ])
  obtain ⟨_, g28, c28, rfl, _⟩ := hv
  (refine LexW.pure (v := ?_) rfl rfl (fun w1 he => ?_) ?_; rotate_left; ( have x00 := (he.cell (p := ⟨w.heap.size, 0, none⟩) C0.out); have x01 := (he.cell (p := ⟨w.heap.size, 1, none⟩) C1.out); go_simp; rfl); simp only [Act.put, List.setIfInBounds_toArray, List.set_cons_zero, List.set_cons_succ])
  (refine LexW.call (f := ?_) (args := ?_) rfl rfl (fun w1 => ?_) (fun w1 he hdep => ?_) ?_; rotate_left 2; (go_simp; refine ⟨?_, ?_⟩ <;> rfl); ( exact c_field _ _ _); simp only [Act.put, List.setIfInBounds_toArray, List.set_cons_zero, List.set_cons_succ])
  (refine LexW.pure (v := ?_) rfl rfl (fun w1 he => ?_) ?_; rotate_left; ( have x00 := (he.cell (p := ⟨w.heap.size, 0, none⟩) C0.out); have x01 := (he.cell (p := ⟨w.heap.size, 1, none⟩) C1.out); go_simp; rfl); simp only [Act.put, List.setIfInBounds_toArray, List.set_cons_zero, List.set_cons_succ])
  (refine LexW.call (f := ?_) (args := ?_) rfl rfl (fun w1 => ?_) (fun w1 he hdep => ?_) ?_; rotate_left 2; (go_simp; refine ⟨?_, ?_⟩ <;> rfl); ( exact c_half p r h w1 (by omega) (by omega) (by omega) HH.out); simp only [Act.put, List.setIfInBounds_toArray, List.set_cons_zero, List.set_cons_succ])
  (refine LexW.pure (v := ?_) rfl rfl (fun w1 he => ?_) ?_; rotate_left; ( have x00 := (he.cell (p := ⟨w.heap.size, 0, none⟩) C0.out); have x01 := (he.cell (p := ⟨w.heap.size, 1, none⟩) C1.out); go_simp; rfl); simp only [Act.put, List.setIfInBounds_toArray, List.set_cons_zero, List.set_cons_succ])
  (refine LexW.callR (f := ?_) (args := ?_) rfl rfl (fun w1 => ?_) (fun w1 he hdep => ?_) (fun v hv => ?_); rotate_left 2; (go_simp; refine ⟨?_, ?_⟩ <;> rfl); ( obtain ⟨_, _, q26, r26⟩ : (SPred.ownS w.heap.size (d + 2) (pointL p qs v)).holds (.slice (some ⟨g26, 0, none⟩) (d + 2) c26) w1 := hdep (4, 26) (by decide +kernel); cases q26; obtain ⟨_, _, q28, r28⟩ : (SPred.ownS w.heap.size (d + 2) (infL d)).holds (.slice (some ⟨g28, 0, none⟩) (d + 2) c28) w1 := hdep (6, 28) (by decide +kernel); cases q28; refine (c_plus p _ _ (d + 2) _ _ (pointL p qs v) (infL d) (-h) w1 (by omega) (by omega) (by omega) (by omega) r26.rd r28.rd (HGP v).out HGI.out).mono ?_; rintro e w2 ⟨g, rc, rfl, ho, g2⟩; exact ⟨_, rfl, g2, g, rc, rfl, ho.mono (Nat.le_trans E.out.size he.size)⟩); simp only [Act.put, List.setIfInBounds_toArray, List.set_cons_zero, List.set_cons_succ])
  obtain ⟨_, g34, c34, rfl, _⟩ := hv
  (refine LexW.pure (v := ?_) rfl rfl (fun w1 he => ?_) ?_; rotate_left; ( have x00 := (he.cell (p := ⟨w.heap.size, 0, none⟩) C0.out); have x01 := (he.cell (p := ⟨w.heap.size, 1, none⟩) C1.out); go_simp; rfl); simp only [Act.put, List.setIfInBounds_toArray, List.set_cons_zero, List.set_cons_succ])
  (refine LexW.pure (v := ?_) rfl rfl (fun w1 he => ?_) ?_; rotate_left; ( have x00 := (he.cell (p := ⟨w.heap.size, 0, none⟩) C0.out); have x01 := (he.cell (p := ⟨w.heap.size, 1, none⟩) C1.out); go_simp; rfl); simp only [Act.put, List.setIfInBounds_toArray, List.set_cons_zero, List.set_cons_succ])
  refine LexW.nil (fun w3 he hkn => ?_)
  obtain ⟨_, _, q34, r34⟩ : (SPred.ownS w.heap.size (d + 2) (plusL p (pointL p qs v) (infL d) (-h) (d + 2))).holds (.slice (some ⟨g34, 0, none⟩) (d + 2) c34) w3 := hkn (12, _) (by simp)
  cases q34
  have R34 := Lib.hid r34
  have HE := Lib.hid he
  clear he hkn r34
  rename World => v4
  replace E := Lib.hid (E.out.trans HE.out)
  replace HQ := Lib.hid (HQ.out.ext HE.out)
  replace HV := Lib.hid (HV.out.ext HE.out)
  replace C0 := Lib.hid (HE.out.cell (p := ⟨w.heap.size, 0, none⟩) C0.out)
  replace C1 := Lib.hid (HE.out.cell (p := ⟨w.heap.size, 1, none⟩) C1.out)
  clear HE
  go_wp2_with (fail)
  go_ret2
  exact ⟨_, _, rfl, by rw [HBL.out]; exact R34.out, E.out⟩

set_option maxHeartbeats 4000000 in
set_option maxRecDepth 100000 in
theorem s_SphereVector_bad (p : Int) (a : Option Addr) (d cap : Nat) (qs : List Int) (av : Option Addr) (n cv : Nat) (v : List Int) (r : Int) (w : World) (hd : d ≤ 4194304) (hn : n ≤ 4194304) (hq : RdC w a d qs) (hv : RdC w av n v) (hc : codeSv p qs v r ≠ 0) :
    Calls Try.prog 19 #[.agg #[.int .i64 p, .slice a d cap], .slice av n cv, .int .i64 r] w fun e w' => ∃ ra rc, e = .returned (.tuple #[.slice ra 0 rc, .int .i64 (codeSv p qs v r)]) ∧ OwnC w.heap.size w' ra 0 rc [] ∧ Ext w w' := by
  obtain ⟨W, hW⟩ : ∃ W, W = w.alloc (.cells #[.int .i64 p, .slice a d cap] 26) := ⟨_, rfl⟩
  have E : Hid (Ext w W) := Lib.hid (by rw [hW]; exact ext_alloc _ _)
  have C0 : Hid (W.cell? ⟨w.heap.size, 0, none⟩ = some (.int .i64 p)) := Lib.hid (by rw [hW]; simp)
  have C1 : Hid (W.cell? ⟨w.heap.size, 1, none⟩ = some (.slice a d cap)) := Lib.hid (by rw [hW]; simp)
  have HZ : Hid (W.heap.size = w.heap.size + 1) := Lib.hid (by rw [hW]; simp)
  have HW := Lib.hid hW
  clear hW
  have HQ := Lib.hid (hq.ext E.out)
  have HV := Lib.hid (hv.ext E.out)
  clear hq hv
  by_cases h1 : code18 p qs [v] = 0
  · have HC := Lib.hid h1
    have HCS : Hid (codeSv p qs v r = 2) := Lib.hid (by
      unfold codeSv at hc ⊢
      rw [if_pos h1] at hc ⊢
      split at hc
      · exact absurd rfl hc
      · rename_i h2; rw [if_neg h2])
    have hb := prime_bd (space_of (code18_zero h1).1).1
    have HIB : Hid (inB r 0 (p - 1) = false) := Lib.hid (by
      unfold codeSv at hc
      rw [if_pos h1] at hc
      cases h : inB r 0 (p - 1)
      · rfl
      · rw [h] at hc; exact absurd rfl hc)
    clear hc h1
    have hcb : ((0 : Int) != 0) = false := by simp
    have hcb0 : ((0 : Int) == 0) = true := by simp
    have hcb2 : ((2 : Int) != 0) = true := by simp
    have hcbz : ((2 : Int) == 0) = false := by simp
    obtain ⟨Q, hQ⟩ : ∃ Q, Q = p - 1 := ⟨_, rfl⟩
    have hwq : IntKind.i64.wrap (p - 1) = Q := by rw [hQ]; exact IntWalk.i64_in _ (by omega)
    rw [← hQ] at HIB
    clear hQ
    go_enter Try.func19, Try.ntmps19
    have x00 := C0.out
    have x01 := C1.out
    go_wp2_with (fail)
    clear x00 x01
    rw [← HW.out]
    clear HW
    refine Calls.mono (s_code18 p a d cap qs _ 1 _ [v] _ hd (by omega) (len_one (by rw [HV.out.1]; exact hn)) (HQ.out.ext (ext_alloc _ _)) (rdR_one (a := av) (n := n) (cap := cv) (by rw [← HZ.out]; simp) (HV.out.ext (ext_alloc _ _)))) ?_
    rintro e v1 ⟨rfl, gg⟩
    replace gg := (ext_alloc _ _).trans gg
    rw [HC.out]
    replace E := Lib.hid (E.out.trans gg)
    replace HQ := Lib.hid (HQ.out.ext gg)
    replace HV := Lib.hid (HV.out.ext gg)
    replace C0 := Lib.hid (gg.cell (p := ⟨w.heap.size, 0, none⟩) C0.out)
    replace C1 := Lib.hid (gg.cell (p := ⟨w.heap.size, 1, none⟩) C1.out)
    clear gg
    have x00 := C0.out
    have x01 := C1.out
    go_wp2_with (fail)
    clear x00 x01
    refine Calls.mono (s_in r 0 Q v1) ?_
    rintro e v2 ⟨rfl, gg⟩
    rw [HIB.out]
    replace E := Lib.hid (E.out.trans gg)
    replace HQ := Lib.hid (HQ.out.ext gg)
    replace HV := Lib.hid (HV.out.ext gg)
    replace C0 := Lib.hid (gg.cell (p := ⟨w.heap.size, 0, none⟩) C0.out)
    replace C1 := Lib.hid (gg.cell (p := ⟨w.heap.size, 1, none⟩) C1.out)
    clear gg
    go_wp2_with (fail)
    go_ret2
    exact ⟨none, 0, by rw [HCS.out] <;> rfl, own_nil _ _, E.out⟩
  · have HC := Lib.hid (show codeSv p qs v r = code18 p qs [v] by unfold codeSv; rw [if_neg h1])
    have hcb : (code18 p qs [v] != 0) = true := by simp [h1]
    have hcb0 : (code18 p qs [v] == 0) = false := by simp [h1]
    clear h1 hc
    go_enter Try.func19, Try.ntmps19
    have x00 := C0.out
    have x01 := C1.out
    go_wp2_with (fail)
    clear x00 x01
    rw [← HW.out]
    clear HW
    refine Calls.mono (s_code18 p a d cap qs _ 1 _ [v] _ hd (by omega) (len_one (by rw [HV.out.1]; exact hn)) (HQ.out.ext (ext_alloc _ _)) (rdR_one (a := av) (n := n) (cap := cv) (by rw [← HZ.out]; simp) (HV.out.ext (ext_alloc _ _)))) ?_
    rintro e v1 ⟨rfl, gg⟩
    replace gg := (ext_alloc _ _).trans gg
    replace E := Lib.hid (E.out.trans gg)
    replace HQ := Lib.hid (HQ.out.ext gg)
    replace HV := Lib.hid (HV.out.ext gg)
    replace C0 := Lib.hid (gg.cell (p := ⟨w.heap.size, 0, none⟩) C0.out)
    replace C1 := Lib.hid (gg.cell (p := ⟨w.heap.size, 1, none⟩) C1.out)
    clear gg
    go_wp2_with (fail)
    go_ret2
    exact ⟨none, 0, by rw [HC.out] <;> rfl, own_nil _ _, E.out⟩

set_option maxHeartbeats 4000000 in
set_option maxRecDepth 100000 in
theorem s_SphereVector_ok (p : Int) (a : Option Addr) (d cap : Nat) (qs : List Int) (av : Option Addr) (cv : Nat) (v : List Int) (r : Int) (w : World) (hs : spaceB p qs = true) (h4 : qs.length ≤ 4) (hq : RdC w a d qs) (hv : RdC w av d v) (hgv : Good p d v) (hr0 : 0 ≤ r) (hr1 : r < p) :
    Calls Try.prog 19 #[.agg #[.int .i64 p, .slice a d cap], .slice av d cv, .int .i64 r] w fun e w' => ∃ g rc, e = .returned (.tuple #[.slice (some ⟨g, 0, none⟩) (d + 2) rc, .int .i64 0]) ∧ OwnC w.heap.size w' (some ⟨g, 0, none⟩) (d + 2) rc (ballL p qs v r) ∧ Ext w w' := by
  have HC := Lib.hid (code18_one0 hs h4 (v := v) (by rw [hq.1]; exact hgv))
  have HSP := Lib.hid hs
  obtain ⟨hpr, hd1, _, hqb⟩ := space_of hs
  have hpb := prime_bd hpr
  have HPR := Lib.hid hpr
  have HQB := Lib.hid hqb
  have hql := hq.1
  rw [hql] at hd1 h4
  have HQL := Lib.hid hql
  have HEB := Lib.hid (extL_isB (p := p) (by omega) hqb)
  have HGI := Lib.hid (good_inf (p := p) (d := d) (by omega))
  have HGP := fun (u : List Int) => Lib.hid (pointL_good (p := p) (qs := qs) (v := u) (d := d) (by omega) hql)
  clear hpr hqb hql
  have hcb : ((0 : Int) != 0) = false := by simp
  have hcb0 : ((0 : Int) == 0) = true := by simp
  have HIB : Hid (inB r 0 (p - 1) = true) := Lib.hid (by simp [inB]; omega)
  obtain ⟨Q, hQ⟩ : ∃ Q, Q = p - 1 := ⟨_, rfl⟩
  have hwq : IntKind.i64.wrap (p - 1) = Q := by rw [hQ]; exact IntWalk.i64_in _ (by omega)
  rw [← hQ] at HIB
  clear hQ
  obtain ⟨W, hW⟩ : ∃ W, W = w.alloc (.cells #[.int .i64 p, .slice a d cap] 26) := ⟨_, rfl⟩
  have E : Hid (Ext w W) := Lib.hid (by rw [hW]; exact ext_alloc _ _)
  have C0 : Hid (W.cell? ⟨w.heap.size, 0, none⟩ = some (.int .i64 p)) := Lib.hid (by rw [hW]; simp)
  have C1 : Hid (W.cell? ⟨w.heap.size, 1, none⟩ = some (.slice a d cap)) := Lib.hid (by rw [hW]; simp)
  have HZ : Hid (W.heap.size = w.heap.size + 1) := Lib.hid (by rw [hW]; simp)
  have HW := Lib.hid hW
  clear hW
  have HQ := Lib.hid (hq.ext E.out)
  have HV := Lib.hid (hv.ext E.out)
  clear hq hv
  go_enter Try.func19, Try.ntmps19
  have x00 := C0.out
  have x01 := C1.out
  go_wp2_with (fail)
  clear x00 x01
  rw [← HW.out]
  clear HW
  refine Calls.mono (s_code18 p a d cap qs _ 1 _ [v] _ (by omega) (by omega) (len_one (by rw [HV.out.1]; omega)) (HQ.out.ext (ext_alloc _ _)) (rdR_one (a := av) (n := d) (cap := cv) (by rw [← HZ.out]; simp) (HV.out.ext (ext_alloc _ _)))) ?_
  rintro e v1 ⟨rfl, gg⟩
  replace gg := (ext_alloc _ _).trans gg
  rw [HC.out]
  replace E := Lib.hid (E.out.trans gg)
  replace HQ := Lib.hid (HQ.out.ext gg)
  replace HV := Lib.hid (HV.out.ext gg)
  replace C0 := Lib.hid (gg.cell (p := ⟨w.heap.size, 0, none⟩) C0.out)
  replace C1 := Lib.hid (gg.cell (p := ⟨w.heap.size, 1, none⟩) C1.out)
  clear gg
  have x00 := C0.out
  have x01 := C1.out
  go_wp2_with (fail)
  clear x00 x01
  refine Calls.mono (s_in r 0 Q v1) ?_
  rintro e v2 ⟨rfl, gg⟩
  rw [HIB.out]
  replace E := Lib.hid (E.out.trans gg)
  replace HQ := Lib.hid (HQ.out.ext gg)
  replace HV := Lib.hid (HV.out.ext gg)
  replace C0 := Lib.hid (gg.cell (p := ⟨w.heap.size, 0, none⟩) C0.out)
  replace C1 := Lib.hid (gg.cell (p := ⟨w.heap.size, 1, none⟩) C1.out)
  clear gg
  have x00 := C0.out
  have x01 := C1.out
  go_wp2_with (fail)
  clear x00 x01
  refine Calls.mono (s_sphere18 p a d cap qs av cv v r v2 HSP.out (by rw [HQL.out]; exact h4) HQ.out HV.out hgv hr0 hr1) ?_
  rintro e v3 ⟨g, rc, rfl, ho, gg⟩
  have R := Lib.hid (ho.mono E.out.size)
  clear ho
  replace E := Lib.hid (E.out.trans gg)
  replace HQ := Lib.hid (HQ.out.ext gg)
  replace HV := Lib.hid (HV.out.ext gg)
  replace C0 := Lib.hid (gg.cell (p := ⟨w.heap.size, 0, none⟩) C0.out)
  replace C1 := Lib.hid (gg.cell (p := ⟨w.heap.size, 1, none⟩) C1.out)
  clear gg
  go_wp2_with (fail)
  go_ret2
  exact ⟨_, _, rfl, R.out, E.out⟩

end Go.Proofs.Ytcocbainookkcaa

/-
  Conformal functions: SphereOf; the codes of DistanceOf.
  No condition.
-/
namespace Go.Proofs.Ytcocbainookkcaa
set_option maxRecDepth 100000
open Go.RowKit

set_option maxHeartbeats 4000000 in
set_option maxRecDepth 100000 in
theorem c_DistanceOf_bad (p : Int) (a : Option Addr) (d cap : Nat) (qs : List Int) (av : Option Addr) (n cv : Nat) (v : List Int) (au : Option Addr) (m cu : Nat) (u : List Int) (w : World) (hd : d ≤ 4194304) (hn : n ≤ 4194304) (hm : m ≤ 4194304) (hq : RdC w a d qs) (hv : RdC w av n v) (hu : RdC w au m u) (hc : code18 p qs [v, u] ≠ 0) :
    Calls Try.prog 14 #[.agg #[.int .i64 p, .slice a d cap], .slice av n cv, .slice au m cu] w fun e w' => e = .returned (.tuple #[.int .i64 0, .int .i64 (code18 p qs [v, u])]) ∧ Ext w w' := by
  have hcb : (code18 p qs [v, u] != 0) = true := by simp [hc]
  clear hc
  obtain ⟨W, hW⟩ : ∃ W, W = w.alloc (.cells #[.int .i64 p, .slice a d cap] 26) := ⟨_, rfl⟩
  have E : Hid (Ext w W) := Lib.hid (by rw [hW]; exact ext_alloc _ _)
  have C0 : Hid (W.cell? ⟨w.heap.size, 0, none⟩ = some (.int .i64 p)) := Lib.hid (by rw [hW]; simp)
  have C1 : Hid (W.cell? ⟨w.heap.size, 1, none⟩ = some (.slice a d cap)) := Lib.hid (by rw [hW]; simp)
  have HZ : Hid (W.heap.size = w.heap.size + 1) := Lib.hid (by rw [hW]; simp)
  have HW := Lib.hid hW
  clear hW
  have HQ := Lib.hid (hq.ext E.out)
  have HV := Lib.hid (hv.ext E.out)
  have HU := Lib.hid (hu.ext E.out)
  clear hq hv hu
  go_enter Try.func14, Try.ntmps14
  have x00 := C0.out
  have x01 := C1.out
  go_wp2_with (fail)
  clear x00 x01
  rw [← HW.out]
  clear HW
  refine Calls.mono (c_checkPlaces p a d cap qs _ 2 _ [v, u] _ hd (by omega) (len_two (by rw [HV.out.1]; exact hn) (by rw [HU.out.1]; exact hm)) (HQ.out.ext (ext_alloc _ _)) (rdR_two (a := av) (b := au) (n := n) (m := m) (ca := cv) (cb := cu) (by rw [← HZ.out]; simp) (by rw [← HZ.out]; simp) (HV.out.ext (ext_alloc _ _)) (HU.out.ext (ext_alloc _ _)))) ?_
  rintro e v1 ⟨rfl, gg⟩
  replace gg := (ext_alloc _ _).trans gg
  replace E := Lib.hid (E.out.trans gg)
  replace HQ := Lib.hid (HQ.out.ext gg)
  replace HV := Lib.hid (HV.out.ext gg)
  replace HU := Lib.hid (HU.out.ext gg)
  replace C0 := Lib.hid (gg.cell (p := ⟨w.heap.size, 0, none⟩) C0.out)
  replace C1 := Lib.hid (gg.cell (p := ⟨w.heap.size, 1, none⟩) C1.out)
  clear gg
  go_wp2_with (fail)
  go_ret2
  exact ⟨rfl, E.out⟩

set_option maxHeartbeats 4000000 in
set_option maxRecDepth 100000 in
theorem s_DistanceOf_bad (p : Int) (a : Option Addr) (d cap : Nat) (qs : List Int) (av : Option Addr) (n cv : Nat) (v : List Int) (au : Option Addr) (m cu : Nat) (u : List Int) (w : World) (hd : d ≤ 4194304) (hn : n ≤ 4194304) (hm : m ≤ 4194304) (hq : RdC w a d qs) (hv : RdC w av n v) (hu : RdC w au m u) (hc : code18 p qs [v, u] ≠ 0) :
    Calls Try.prog 21 #[.agg #[.int .i64 p, .slice a d cap], .slice av n cv, .slice au m cu] w fun e w' => e = .returned (.tuple #[.int .i64 0, .int .i64 (code18 p qs [v, u])]) ∧ Ext w w' := by
  have hcb : (code18 p qs [v, u] != 0) = true := by simp [hc]
  clear hc
  obtain ⟨W, hW⟩ : ∃ W, W = w.alloc (.cells #[.int .i64 p, .slice a d cap] 26) := ⟨_, rfl⟩
  have E : Hid (Ext w W) := Lib.hid (by rw [hW]; exact ext_alloc _ _)
  have C0 : Hid (W.cell? ⟨w.heap.size, 0, none⟩ = some (.int .i64 p)) := Lib.hid (by rw [hW]; simp)
  have C1 : Hid (W.cell? ⟨w.heap.size, 1, none⟩ = some (.slice a d cap)) := Lib.hid (by rw [hW]; simp)
  have HZ : Hid (W.heap.size = w.heap.size + 1) := Lib.hid (by rw [hW]; simp)
  have HW := Lib.hid hW
  clear hW
  have HQ := Lib.hid (hq.ext E.out)
  have HV := Lib.hid (hv.ext E.out)
  have HU := Lib.hid (hu.ext E.out)
  clear hq hv hu
  go_enter Try.func21, Try.ntmps21
  have x00 := C0.out
  have x01 := C1.out
  go_wp2_with (fail)
  clear x00 x01
  rw [← HW.out]
  clear HW
  refine Calls.mono (s_code18 p a d cap qs _ 2 _ [v, u] _ hd (by omega) (len_two (by rw [HV.out.1]; exact hn) (by rw [HU.out.1]; exact hm)) (HQ.out.ext (ext_alloc _ _)) (rdR_two (a := av) (b := au) (n := n) (m := m) (ca := cv) (cb := cu) (by rw [← HZ.out]; simp) (by rw [← HZ.out]; simp) (HV.out.ext (ext_alloc _ _)) (HU.out.ext (ext_alloc _ _)))) ?_
  rintro e v1 ⟨rfl, gg⟩
  replace gg := (ext_alloc _ _).trans gg
  replace E := Lib.hid (E.out.trans gg)
  replace HQ := Lib.hid (HQ.out.ext gg)
  replace HV := Lib.hid (HV.out.ext gg)
  replace HU := Lib.hid (HU.out.ext gg)
  replace C0 := Lib.hid (gg.cell (p := ⟨w.heap.size, 0, none⟩) C0.out)
  replace C1 := Lib.hid (gg.cell (p := ⟨w.heap.size, 1, none⟩) C1.out)
  clear gg
  go_wp2_with (fail)
  go_ret2
  exact ⟨rfl, E.out⟩

/-- The number of a sphere. -/
def sphN (p : Int) (qs x : List Int) : Int := -2 * (nth (finL p qs x) qs.length - nth (pointL p qs (plcL p qs x)) qs.length) % p
theorem plc_good {p : Int} {qs x : List Int} {d : Nat} (hp : 1 ≤ p) (hd : qs.length = d) : Good p d (plcL p qs x) := by
  subst hd
  refine ⟨by unfold plcL finL; rw [List.length_take, scaleL_len]; omega, fun i hi => ?_⟩
  unfold plcL
  rw [tk_nth hi]
  exact (scale_good (p := p) (n := qs.length + 2) hp).2 i (by omega)

set_option maxHeartbeats 4000000 in
set_option maxRecDepth 100000 in
theorem c_SphereOf_ok (p : Int) (a : Option Addr) (d cap : Nat) (qs : List Int) (ax : Option Addr) (cx : Nat) (x : List Int) (w : World) (hs : spaceB p qs = true) (h4 : qs.length ≤ 4) (hq : RdC w a d qs) (hx : RdC w ax (d + 2) x) (hgx : Good p (d + 2) x) (hw : wgtI p qs x ≠ 0) :
    Calls Try.prog 13 #[.agg #[.int .i64 p, .slice a d cap], .slice ax (d + 2) cx] w fun e w' => ∃ g rc, e = .returned (.tuple #[.slice (some ⟨g, 0, none⟩) d rc, .int .i64 (sphN p qs x), .int .i64 0]) ∧ OwnC w.heap.size w' (some ⟨g, 0, none⟩) d rc (plcL p qs x) ∧ Ext w w' := by
  have HC := Lib.hid (code18M_0 (vs := []) hs h4 rfl (x := x) (by rw [hq.1]; exact hgx))
  have HSP := Lib.hid hs
  obtain ⟨hpr, hd1, _, hqb⟩ := space_of hs
  have hpb := prime_bd hpr
  have HPR := Lib.hid hpr
  have HQB := Lib.hid hqb
  have hql := hq.1
  rw [hql] at hd1 h4
  have HQL := Lib.hid hql
  have HEB := Lib.hid (extL_isB (p := p) (by omega) hqb)
  have HGI := Lib.hid (good_inf (p := p) (d := d) (by omega))
  have HGP := fun (u : List Int) => Lib.hid (pointL_good (p := p) (qs := qs) (v := u) (d := d) (by omega) hql)
  clear hpr hqb hql
  have hcb : ((0 : Int) != 0) = false := by simp
  have HPL : Hid (plcL p qs x = (finL p qs x).take d) := Lib.hid (by unfold plcL; rw [HQL.out])
  have HGC := Lib.hid (plc_good (p := p) (qs := qs) (x := x) (by omega) HQL.out)
  have HGF : Hid (Good p (d + 2) (finL p qs x)) := Lib.hid (by unfold finL; rw [HQL.out]; exact scale_good (by omega))
  have hAb := HGF.out.2 d (by omega)
  have hBb := (HGP (plcL p qs x)).out.2 d (by omega)
  have HSN : Hid (-2 * (nth (finL p qs x) d - nth (pointL p qs (plcL p qs x)) d) % p = sphN p qs x) := Lib.hid (by unfold sphN; rw [HQL.out])
  obtain ⟨c, hc⟩ : ∃ c, c = plcL p qs x := ⟨_, rfl⟩
  rw [← hc] at HPL HGC hBb HSN ⊢
  clear hc
  obtain ⟨A, hA⟩ : ∃ A, A = nth (finL p qs x) d := ⟨_, rfl⟩
  obtain ⟨b0, hB⟩ : ∃ B, B = nth (pointL p qs c) d := ⟨_, rfl⟩
  rw [← hA] at hAb HSN
  rw [← hB] at hBb HSN
  have HA := Lib.hid hA
  have HBB := Lib.hid hB
  clear hA hB
  have hw1 : IntKind.i64.wrap (A - b0) = A - b0 := IntWalk.i64_in _ (by omega)
  have hw2 : IntKind.i64.wrap (-2 * (A - b0)) = -2 * (A - b0) := IntWalk.i64_in _ (by omega)
  have hd2 : d < d + 2 := by omega
  have hdd : ¬ d = 0 := by omega
  have hd2i : (d : Int) < (d : Int) + 2 := by omega
  obtain ⟨W, hW⟩ : ∃ W, W = w.alloc (.cells #[.int .i64 p, .slice a d cap] 26) := ⟨_, rfl⟩
  have E : Hid (Ext w W) := Lib.hid (by rw [hW]; exact ext_alloc _ _)
  have C0 : Hid (W.cell? ⟨w.heap.size, 0, none⟩ = some (.int .i64 p)) := Lib.hid (by rw [hW]; simp)
  have C1 : Hid (W.cell? ⟨w.heap.size, 1, none⟩ = some (.slice a d cap)) := Lib.hid (by rw [hW]; simp)
  have HZ : Hid (W.heap.size = w.heap.size + 1) := Lib.hid (by rw [hW]; simp)
  have HW := Lib.hid hW
  clear hW
  have HQ := Lib.hid (hq.ext E.out)
  have HX := Lib.hid (hx.ext E.out)
  clear hq hx
  go_enter Try.func13, Try.ntmps13
  have x00 := C0.out
  have x01 := C1.out
  go_wp2_with (fail)
  clear x00 x01
  rw [← HW.out]
  clear HW
  refine Calls.mono (c_checkPlacesX p a d cap qs none 0 0 [] _ 1 x _ (by rw [HX.out.1]; omega) (by omega) (by omega) (fun _ hi => absurd hi (Nat.not_lt_zero _)) (HQ.out.ext (ext_alloc _ _)) ⟨rfl, fun _ hi => absurd hi (Nat.not_lt_zero _)⟩ (rdR_one (a := ax) (n := (d + 2)) (cap := cx) (by rw [← HZ.out]; simp) (HX.out.ext (ext_alloc _ _)))) ?_
  rintro e v1 ⟨rfl, gg⟩
  replace gg := (ext_alloc _ _).trans gg
  rw [HC.out]
  replace E := Lib.hid (E.out.trans gg)
  replace HQ := Lib.hid (HQ.out.ext gg)
  replace HX := Lib.hid (HX.out.ext gg)
  replace C0 := Lib.hid (gg.cell (p := ⟨w.heap.size, 0, none⟩) C0.out)
  replace C1 := Lib.hid (gg.cell (p := ⟨w.heap.size, 1, none⟩) C1.out)
  clear gg
  have x00 := C0.out
  have x01 := C1.out
  go_wp2_with (fail)
  clear x00 x01
  refine Calls.mono (c_finite_yes p a d cap qs ax cx x v1 HSP.out (by rw [HQL.out]; exact h4) HQ.out HX.out hgx hw) ?_
  rintro e v2 ⟨gF, kF, rfl, ho, gg⟩
  have RF := Lib.hid (ho.mono E.out.size)
  clear ho
  replace E := Lib.hid (E.out.trans gg)
  replace HQ := Lib.hid (HQ.out.ext gg)
  replace HX := Lib.hid (HX.out.ext gg)
  replace C0 := Lib.hid (gg.cell (p := ⟨w.heap.size, 0, none⟩) C0.out)
  replace C1 := Lib.hid (gg.cell (p := ⟨w.heap.size, 1, none⟩) C1.out)
  clear gg
  have hkF : d + 2 ≤ kF := RF.out.capLe (by omega)
  have hkF1 : d ≤ kF := by omega
  have x00 := C0.out
  have x01 := C1.out
  go_wp2_with (fail)
  clear x00 x01
  refine Calls.mono (c_dim p a d cap v2) ?_
  rintro e v3 ⟨rfl, gg⟩
  replace E := Lib.hid (E.out.trans gg)
  replace HQ := Lib.hid (HQ.out.ext gg)
  replace HX := Lib.hid (HX.out.ext gg)
  replace RF := Lib.hid (RF.out.ext gg)
  replace C0 := Lib.hid (gg.cell (p := ⟨w.heap.size, 0, none⟩) C0.out)
  replace C1 := Lib.hid (gg.cell (p := ⟨w.heap.size, 1, none⟩) C1.out)
  clear gg
  have x00 := C0.out
  have x01 := C1.out
  go_wp2_with (fail)
  clear x00 x01
  refine Calls.mono (c_clone gF 0 d kF c v3 (by omega) (by omega) (HPL.out ▸ rdC_takeO RF.out (by omega))) ?_
  rintro e v4 ⟨gC, kC, rfl, ho, gg⟩
  have RC := Lib.hid (ho.mono E.out.size)
  clear ho
  replace E := Lib.hid (E.out.trans gg)
  replace HQ := Lib.hid (HQ.out.ext gg)
  replace HX := Lib.hid (HX.out.ext gg)
  replace RF := Lib.hid (RF.out.ext gg)
  replace C0 := Lib.hid (gg.cell (p := ⟨w.heap.size, 0, none⟩) C0.out)
  replace C1 := Lib.hid (gg.cell (p := ⟨w.heap.size, 1, none⟩) C1.out)
  clear gg
  have HCA := Lib.hid (show v4.cell? ⟨gF, d, none⟩ = some (Value.int .i64 A) by rw [HA.out]; exact RF.out.cell (j := d) (by omega))
  have x00 := C0.out
  have x01 := C1.out
  go_wp2_with (fail)
  clear x00 x01
  replace E := Lib.hid (E.out.trans (ext_drew v4))
  replace HQ := Lib.hid (HQ.out.ext (ext_drew v4))
  replace HX := Lib.hid (HX.out.ext (ext_drew v4))
  replace RF := Lib.hid (RF.out.ext (ext_drew v4))
  replace RC := Lib.hid (RC.out.ext (ext_drew v4))
  replace C0 := Lib.hid ((ext_drew v4).cell (p := ⟨w.heap.size, 0, none⟩) C0.out)
  replace C1 := Lib.hid ((ext_drew v4).cell (p := ⟨w.heap.size, 1, none⟩) C1.out)
  replace HCA := Lib.hid ((ext_drew v4).cell (p := ⟨gF, d, none⟩) HCA.out)
  refine wp_region_lex [(2, .val (.int .i64 p)), (9, .ownS w.heap.size (d + 2) (pointL p qs c)), (11, .cell (b0)), (12, .val (.int .i64 (b0))), (15, .val (.int .i64 (sphN p qs x)))] (by kernel_rfl) (by kernel_rfl) ?_
  (refine LexW.pure (v := ?_) rfl rfl (fun w1 he => ?_) ?_; rotate_left; ( have x00 := (he.cell (p := ⟨w.heap.size, 0, none⟩) C0.out); have x01 := (he.cell (p := ⟨w.heap.size, 1, none⟩) C1.out); have xA := he.cell (p := ⟨gF, d, none⟩) HCA.out; go_simp; rfl); simp only [Act.put, List.setIfInBounds_toArray, List.set_cons_zero, List.set_cons_succ])
  (refine LexW.pure (v := ?_) rfl rfl (fun w1 he => ?_) ?_; rotate_left; ( have x00 := (he.cell (p := ⟨w.heap.size, 0, none⟩) C0.out); have x01 := (he.cell (p := ⟨w.heap.size, 1, none⟩) C1.out); have xA := he.cell (p := ⟨gF, d, none⟩) HCA.out; go_simp; rfl); simp only [Act.put, List.setIfInBounds_toArray, List.set_cons_zero, List.set_cons_succ])
  (refine LexW.call (f := ?_) (args := ?_) rfl rfl (fun w1 => ?_) (fun w1 he hdep => ?_) ?_; rotate_left 2; (go_simp; refine ⟨?_, ?_⟩ <;> rfl); ( exact c_field _ _ _); simp only [Act.put, List.setIfInBounds_toArray, List.set_cons_zero, List.set_cons_succ])
  (refine LexW.pure (v := ?_) rfl rfl (fun w1 he => ?_) ?_; rotate_left; ( have x00 := (he.cell (p := ⟨w.heap.size, 0, none⟩) C0.out); have x01 := (he.cell (p := ⟨w.heap.size, 1, none⟩) C1.out); have xA := he.cell (p := ⟨gF, d, none⟩) HCA.out; go_simp; rfl); simp only [Act.put, List.setIfInBounds_toArray, List.set_cons_zero, List.set_cons_succ])
  (refine LexW.pure (v := ?_) rfl rfl (fun w1 he => ?_) ?_; rotate_left; ( have x00 := (he.cell (p := ⟨w.heap.size, 0, none⟩) C0.out); have x01 := (he.cell (p := ⟨w.heap.size, 1, none⟩) C1.out); have xA := he.cell (p := ⟨gF, d, none⟩) HCA.out; go_simp; rfl); simp only [Act.put, List.setIfInBounds_toArray, List.set_cons_zero, List.set_cons_succ])
  (refine LexW.pure (v := ?_) rfl rfl (fun w1 he => ?_) ?_; rotate_left; ( have x00 := (he.cell (p := ⟨w.heap.size, 0, none⟩) C0.out); have x01 := (he.cell (p := ⟨w.heap.size, 1, none⟩) C1.out); have xA := he.cell (p := ⟨gF, d, none⟩) HCA.out; go_simp; rfl); simp only [Act.put, List.setIfInBounds_toArray, List.set_cons_zero, List.set_cons_succ])
  (refine LexW.pure (v := ?_) rfl rfl (fun w1 he => ?_) ?_; rotate_left; ( have x00 := (he.cell (p := ⟨w.heap.size, 0, none⟩) C0.out); have x01 := (he.cell (p := ⟨w.heap.size, 1, none⟩) C1.out); have xA := he.cell (p := ⟨gF, d, none⟩) HCA.out; go_simp; rfl); simp only [Act.put, List.setIfInBounds_toArray, List.set_cons_zero, List.set_cons_succ])
  (refine LexW.pure (v := ?_) rfl rfl (fun w1 he => ?_) ?_; rotate_left; ( have x00 := (he.cell (p := ⟨w.heap.size, 0, none⟩) C0.out); have x01 := (he.cell (p := ⟨w.heap.size, 1, none⟩) C1.out); have xA := he.cell (p := ⟨gF, d, none⟩) HCA.out; go_simp; rfl); simp only [Act.put, List.setIfInBounds_toArray, List.set_cons_zero, List.set_cons_succ])
  (refine LexW.pure (v := ?_) rfl rfl (fun w1 he => ?_) ?_; rotate_left; ( have x00 := (he.cell (p := ⟨w.heap.size, 0, none⟩) C0.out); have x01 := (he.cell (p := ⟨w.heap.size, 1, none⟩) C1.out); have xA := he.cell (p := ⟨gF, d, none⟩) HCA.out; go_simp; rfl); simp only [Act.put, List.setIfInBounds_toArray, List.set_cons_zero, List.set_cons_succ])
  (refine LexW.callR (f := ?_) (args := ?_) rfl rfl (fun w1 => ?_) (fun w1 he hdep => ?_) (fun v hv => ?_); rotate_left 2; (go_simp; refine ⟨?_, ?_⟩ <;> rfl); ( refine (c_point p a d cap qs _ _ c w1 (by omega) h4 HPR.out (HQ.out.ext he) HQB.out (RC.out.rd.ext he) HGC.out).mono ?_; rintro e w2 ⟨g, rc, rfl, ho, g2⟩; exact ⟨_, rfl, g2, g, rc, rfl, ho.mono (Nat.le_trans E.out.size he.size)⟩); simp only [Act.put, List.setIfInBounds_toArray, List.set_cons_zero, List.set_cons_succ])
  obtain ⟨_, g42, c42, rfl, _⟩ := hv
  (refine LexW.pure (v := ?_) rfl rfl (fun w1 he => ?_) ?_; rotate_left; ( have x00 := (he.cell (p := ⟨w.heap.size, 0, none⟩) C0.out); have x01 := (he.cell (p := ⟨w.heap.size, 1, none⟩) C1.out); have xA := he.cell (p := ⟨gF, d, none⟩) HCA.out; go_simp; rfl); simp only [Act.put, List.setIfInBounds_toArray, List.set_cons_zero, List.set_cons_succ])
  (refine LexW.rel rfl rfl (fun w1 he hdep => ?_) (fun v hv => ?_); ( obtain ⟨_, _, q42, r42⟩ : (SPred.ownS w.heap.size (d + 2) (pointL p qs c)).holds (.slice (some ⟨g42, 0, none⟩) (d + 2) c42) w1 := hdep (9, 42) (by decide +kernel); cases q42; exact ⟨.pointer (some ⟨g42, d, none⟩), w1, (by go_simp), Ext.refl _, g42, d, rfl, (by rw [HBB.out]; exact r42.cell (j := d) (by omega))⟩); simp only [Act.put, List.setIfInBounds_toArray, List.set_cons_zero, List.set_cons_succ])
  obtain ⟨_, b44, o44, rfl, _⟩ := hv
  (refine LexW.relV rfl rfl (fun w1 he hdep => ?_) ?_; ( obtain ⟨_, _, q44, r44⟩ : (SPred.cell (b0)).holds (.pointer (some ⟨b44, o44, none⟩)) w1 := hdep (11, 44) (by decide +kernel); cases q44; exact ⟨w1, (by go_simp), Ext.refl _⟩); simp only [Act.put, List.setIfInBounds_toArray, List.set_cons_zero, List.set_cons_succ])
  (refine LexW.pure (v := ?_) rfl rfl (fun w1 he => ?_) ?_; rotate_left; ( have x00 := (he.cell (p := ⟨w.heap.size, 0, none⟩) C0.out); have x01 := (he.cell (p := ⟨w.heap.size, 1, none⟩) C1.out); have xA := he.cell (p := ⟨gF, d, none⟩) HCA.out; go_simp; rfl); simp only [Act.put, List.setIfInBounds_toArray, List.set_cons_zero, List.set_cons_succ])
  (refine LexW.pure (v := ?_) rfl rfl (fun w1 he => ?_) ?_; rotate_left; ( have x00 := (he.cell (p := ⟨w.heap.size, 0, none⟩) C0.out); have x01 := (he.cell (p := ⟨w.heap.size, 1, none⟩) C1.out); have xA := he.cell (p := ⟨gF, d, none⟩) HCA.out; go_simp; rfl); simp only [Act.put, List.setIfInBounds_toArray, List.set_cons_zero, List.set_cons_succ])
  (refine LexW.call (f := ?_) (args := ?_) rfl rfl (fun w1 => ?_) (fun w1 he hdep => ?_) ?_; rotate_left 2; (go_simp; refine ⟨?_, ?_⟩ <;> rfl); ( have H := c_num p (-2 * (A - b0)) w1 (by omega) (by omega); rw [HSN.out] at H; exact H); simp only [Act.put, List.setIfInBounds_toArray, List.set_cons_zero, List.set_cons_succ])
  (refine LexW.pure (v := ?_) rfl rfl (fun w1 he => ?_) ?_; rotate_left; ( have x00 := (he.cell (p := ⟨w.heap.size, 0, none⟩) C0.out); have x01 := (he.cell (p := ⟨w.heap.size, 1, none⟩) C1.out); have xA := he.cell (p := ⟨gF, d, none⟩) HCA.out; go_simp; rfl); simp only [Act.put, List.setIfInBounds_toArray, List.set_cons_zero, List.set_cons_succ])
  (refine LexW.pure (v := ?_) rfl rfl (fun w1 he => ?_) ?_; rotate_left; ( have x00 := (he.cell (p := ⟨w.heap.size, 0, none⟩) C0.out); have x01 := (he.cell (p := ⟨w.heap.size, 1, none⟩) C1.out); have xA := he.cell (p := ⟨gF, d, none⟩) HCA.out; go_simp; rfl); simp only [Act.put, List.setIfInBounds_toArray, List.set_cons_zero, List.set_cons_succ])
  (refine LexW.pure (v := ?_) rfl rfl (fun w1 he => ?_) ?_; rotate_left; ( have x00 := (he.cell (p := ⟨w.heap.size, 0, none⟩) C0.out); have x01 := (he.cell (p := ⟨w.heap.size, 1, none⟩) C1.out); have xA := he.cell (p := ⟨gF, d, none⟩) HCA.out; go_simp; rfl); simp only [Act.put, List.setIfInBounds_toArray, List.set_cons_zero, List.set_cons_succ])
  refine LexW.nil (fun w3 he hkn => ?_)
  have HE := Lib.hid he
  clear he hkn 
  rename World => v5
  replace E := Lib.hid (E.out.trans HE.out)
  replace HQ := Lib.hid (HQ.out.ext HE.out)
  replace HX := Lib.hid (HX.out.ext HE.out)
  replace RF := Lib.hid (RF.out.ext HE.out)
  replace RC := Lib.hid (RC.out.ext HE.out)
  replace C0 := Lib.hid (HE.out.cell (p := ⟨w.heap.size, 0, none⟩) C0.out)
  replace C1 := Lib.hid (HE.out.cell (p := ⟨w.heap.size, 1, none⟩) C1.out)
  replace HCA := Lib.hid (HE.out.cell (p := ⟨gF, d, none⟩) HCA.out)
  clear HE
  go_wp2_with (fail)
  refine bodyPost_ret (v := .tuple #[.slice (some ⟨gC, 0, none⟩) d kC, .int .i64 (sphN p qs x), .int .i64 0]) (by simp [results, Try.results13, go_sem]) rfl ⟨gC, kC, rfl, RC.out, E.out⟩

set_option maxHeartbeats 4000000 in
set_option maxRecDepth 100000 in
theorem c_SphereOf_no (p : Int) (a : Option Addr) (d cap : Nat) (qs : List Int) (ax : Option Addr) (cx : Nat) (x : List Int) (w : World) (hs : spaceB p qs = true) (h4 : qs.length ≤ 4) (hq : RdC w a d qs) (hx : RdC w ax (d + 2) x) (hgx : Good p (d + 2) x) (hw : wgtI p qs x = 0) :
    Calls Try.prog 13 #[.agg #[.int .i64 p, .slice a d cap], .slice ax (d + 2) cx] w fun e w' => e = .returned (.tuple #[.slice none 0 0, .int .i64 0, .int .i64 5]) ∧ Ext w w' := by
  have HC := Lib.hid (code18M_0 (vs := []) hs h4 rfl (x := x) (by rw [hq.1]; exact hgx))
  have HSP := Lib.hid hs
  obtain ⟨hpr, hd1, _, hqb⟩ := space_of hs
  have hpb := prime_bd hpr
  have HPR := Lib.hid hpr
  have HQB := Lib.hid hqb
  have hql := hq.1
  rw [hql] at hd1 h4
  have HQL := Lib.hid hql
  have HEB := Lib.hid (extL_isB (p := p) (by omega) hqb)
  have HGI := Lib.hid (good_inf (p := p) (d := d) (by omega))
  have HGP := fun (u : List Int) => Lib.hid (pointL_good (p := p) (qs := qs) (v := u) (d := d) (by omega) hql)
  clear hpr hqb hql
  have hcb : ((0 : Int) != 0) = false := by simp
  obtain ⟨W, hW⟩ : ∃ W, W = w.alloc (.cells #[.int .i64 p, .slice a d cap] 26) := ⟨_, rfl⟩
  have E : Hid (Ext w W) := Lib.hid (by rw [hW]; exact ext_alloc _ _)
  have C0 : Hid (W.cell? ⟨w.heap.size, 0, none⟩ = some (.int .i64 p)) := Lib.hid (by rw [hW]; simp)
  have C1 : Hid (W.cell? ⟨w.heap.size, 1, none⟩ = some (.slice a d cap)) := Lib.hid (by rw [hW]; simp)
  have HZ : Hid (W.heap.size = w.heap.size + 1) := Lib.hid (by rw [hW]; simp)
  have HW := Lib.hid hW
  clear hW
  have HQ := Lib.hid (hq.ext E.out)
  have HX := Lib.hid (hx.ext E.out)
  clear hq hx
  go_enter Try.func13, Try.ntmps13
  have x00 := C0.out
  have x01 := C1.out
  go_wp2_with (fail)
  clear x00 x01
  rw [← HW.out]
  clear HW
  refine Calls.mono (c_checkPlacesX p a d cap qs none 0 0 [] _ 1 x _ (by rw [HX.out.1]; omega) (by omega) (by omega) (fun _ hi => absurd hi (Nat.not_lt_zero _)) (HQ.out.ext (ext_alloc _ _)) ⟨rfl, fun _ hi => absurd hi (Nat.not_lt_zero _)⟩ (rdR_one (a := ax) (n := (d + 2)) (cap := cx) (by rw [← HZ.out]; simp) (HX.out.ext (ext_alloc _ _)))) ?_
  rintro e v1 ⟨rfl, gg⟩
  replace gg := (ext_alloc _ _).trans gg
  rw [HC.out]
  replace E := Lib.hid (E.out.trans gg)
  replace HQ := Lib.hid (HQ.out.ext gg)
  replace HX := Lib.hid (HX.out.ext gg)
  replace C0 := Lib.hid (gg.cell (p := ⟨w.heap.size, 0, none⟩) C0.out)
  replace C1 := Lib.hid (gg.cell (p := ⟨w.heap.size, 1, none⟩) C1.out)
  clear gg
  have x00 := C0.out
  have x01 := C1.out
  go_wp2_with (fail)
  clear x00 x01
  refine Calls.mono (c_finite_no p a d cap qs ax cx x v1 HSP.out (by rw [HQL.out]; exact h4) HQ.out HX.out hgx hw) ?_
  rintro e v2 ⟨rfl, gg⟩
  replace E := Lib.hid (E.out.trans gg)
  replace HQ := Lib.hid (HQ.out.ext gg)
  replace HX := Lib.hid (HX.out.ext gg)
  replace C0 := Lib.hid (gg.cell (p := ⟨w.heap.size, 0, none⟩) C0.out)
  replace C1 := Lib.hid (gg.cell (p := ⟨w.heap.size, 1, none⟩) C1.out)
  clear gg
  go_wp2_with (fail)
  refine bodyPost_ret (v := .tuple #[.slice none 0 0, .int .i64 0, .int .i64 5]) (by simp [results, Try.results13, go_sem]) rfl ⟨rfl, E.out⟩

theorem c_SphereOf_eq (p : Int) (a : Option Addr) (d cap : Nat) (qs : List Int) (ax : Option Addr) (cx : Nat) (x c : List Int) (n : Int) (w : World) (hs : spaceB p qs = true) (h4 : qs.length ≤ 4) (hq : RdC w a d qs) (hx : RdC w ax (d + 2) x) (hgx : Good p (d + 2) x) (hw : wgtI p qs x ≠ 0) (h1 : plcL p qs x = c) (h2 : sphN p qs x = n) :
    Calls Try.prog 13 #[.agg #[.int .i64 p, .slice a d cap], .slice ax (d + 2) cx] w fun e w' => ∃ g rc, e = .returned (.tuple #[.slice (some ⟨g, 0, none⟩) d rc, .int .i64 n, .int .i64 0]) ∧ OwnC w.heap.size w' (some ⟨g, 0, none⟩) d rc c ∧ Ext w w' := by
  subst h1
  subst h2
  exact c_SphereOf_ok p a d cap qs ax cx x w hs h4 hq hx hgx hw

end Go.Proofs.Ytcocbainookkcaa
