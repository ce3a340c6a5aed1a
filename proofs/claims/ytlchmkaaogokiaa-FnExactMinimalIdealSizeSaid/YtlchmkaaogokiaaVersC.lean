/-
  The codes of regular spaces with multivectors and vectors.
  No condition.
-/
import Derived.Test.YtlchmkaaogokiaaCodesV
import Derived.Test.YtlchmkaaogokiaaRegular
namespace Go.Proofs.Ytlchmkaaogokiaa
set_option maxRecDepth 100000
open Go.RowKit

def codeVs (p : Int) (qs : List Int) (ms vs : List (List Int)) : Int := if codeM p qs ms = 0 then (if codeV p qs vs = 0 then (if regB qs = true then 0 else 5) else codeV p qs vs) else codeM p qs ms
/-- The code of a regular space and at most 16 vectors. -/
def codeW (p : Int) (qs : List Int) (vs : List (List Int)) : Int := if codeVR p qs vs = 0 then (if regB qs = true then 0 else 5) else codeVR p qs vs
theorem codeVs_multi (p : Int) (qs : List Int) (ms : List (List Int)) : codeVs p qs ms [] = codeR p qs ms := by
  unfold codeVs codeR
  by_cases h : codeM p qs ms = 0
  · have hv : codeV p qs [] = 0 := by
      unfold codeM at h
      unfold codeV
      cases hs : spaceB p qs
      · simp [hs] at h
      · simp
    simp [h, hv]
  · simp [h]
theorem codeVs_vec (p : Int) (qs : List Int) {vs : List (List Int)} (h16 : vs.length ≤ 16) : codeVs p qs [] vs = codeW p qs vs := by
  unfold codeVs codeW codeVR codeM codeV
  cases hs : spaceB p qs
  · simp
  · cases ha : vs.all (vecB p qs.length) <;> cases hr : regB qs <;> simp [h16]
theorem codeW_zero {p : Int} {qs : List Int} {vs : List (List Int)} (h : codeW p qs vs = 0) : codeVR p qs vs = 0 ∧ regB qs = true := by
  unfold codeW at h
  split at h
  · rename_i hm
    split at h
    · rename_i hr; exact ⟨hm, hr⟩
    · omega
  · rename_i hm; exact absurd h hm
theorem codeVR_two {p : Int} {qs v u : List Int} (h : codeVR p qs [v, u] = 0) : spaceB p qs = true ∧ vecB p qs.length v = true ∧ vecB p qs.length u = true := by
  obtain ⟨hs, ha, _⟩ := codeVR_zero h
  simp only [List.all_cons, List.all_nil, Bool.and_true, Bool.and_eq_true] at ha
  exact ⟨hs, ha.1, ha.2⟩
theorem codeVR_one {p : Int} {qs v : List Int} (h : codeVR p qs [v] = 0) : spaceB p qs = true ∧ vecB p qs.length v = true := by
  obtain ⟨hs, ha, _⟩ := codeVR_zero h
  simp only [List.all_cons, List.all_nil, Bool.and_true] at ha
  exact ⟨hs, ha⟩
theorem rdR_nil (w : World) : RdR w none 0 [] := ⟨rfl, fun i hi => absurd hi (Nat.not_lt_zero _)⟩

set_option maxHeartbeats 1000000 in
theorem c_checkVersors (p : Int) (a : Option Addr) (d cap : Nat) (qs : List Int) (al : Option Addr) (n cl : Nat) (ms : List (List Int)) (av : Option Addr) (m cv : Nat) (vs : List (List Int)) (w : World) (hd : d ≤ 4194304) (hl : n ≤ 4194304) (hr : ∀ i, i < n → (nthR ms i).length ≤ 4194304) (hl2 : m ≤ 4194304) (hr2 : ∀ i, i < m → (nthR vs i).length ≤ 4194304)
    (hq : RdC w a d qs) (hx : RdR w al n ms) (hv : RdR w av m vs) :
    Calls Try.prog 71 #[.agg #[.int .i64 p, .slice a d cap], .slice al n cl, .slice av m cv] w fun e w' => e = .returned (.int .i64 (codeVs p qs ms vs)) ∧ Ext w w' := by
  have Hr := Lib.hid hr
  have Hr2 := Lib.hid hr2
  have HQ := Lib.hid hq
  have HX := Lib.hid hx
  have HV := Lib.hid hv
  clear hr hr2 hq hx hv
  by_cases hm : codeM p qs ms = 0
  · have hcb : ((0 : Int) != 0) = false := by simp
    have HM := Lib.hid hm
    by_cases hv : codeV p qs vs = 0
    · have HVV := Lib.hid hv
      have HC := Lib.hid (show codeVs p qs ms vs = if regB qs = true then 0 else 5 by simp [codeVs, hm, hv])
      clear hm hv
      cases hg : regB qs
      all_goals
        rw [hg] at HC
        have HG := Lib.hid hg
        clear hg
        go_enter Try.func71, Try.ntmps71
        go_wp2_with (first | (go_at_call 114; refine (c_checkMultis p a d cap qs al n cl ms _ hd hl Hr.out (HQ.out.ext (ext_alloc _ _)) (HX.out.ext (ext_alloc _ _))).mono ?_; rintro e w1 ⟨rfl, h1⟩; rw [HM.out]; have hcc := Ext.cells h1; try simp only [World.size_alloc] at hcc) | (go_at_call 126; refine (c_checkVectors p a d cap qs av m cv vs _ hd hl2 Hr2.out (HQ.out.ext ((ext_alloc _ _).trans h1)) (HV.out.ext ((ext_alloc _ _).trans h1))).mono ?_; rintro e w2 ⟨rfl, h2⟩; rw [HVV.out]; have hcc2 := Ext.cells (h1.trans h2); try simp only [World.size_alloc] at hcc2) | (go_at_call 66; refine (c_regular p a d cap qs _ hd (HQ.out.ext ((ext_alloc _ _).trans (h1.trans h2)))).mono ?_; rintro e w3 ⟨rfl, h3⟩; rw [HG.out]))
        go_ret
        exact ⟨ret_int HC.out.symm, (ext_alloc _ _).trans (h1.trans (h2.trans h3))⟩
    · have hvb : (codeV p qs vs != 0) = true := by simp [hv]
      have HC := Lib.hid (show codeVs p qs ms vs = codeV p qs vs by simp [codeVs, hm, hv])
      clear hm hv
      go_enter Try.func71, Try.ntmps71
      go_wp2_with (first | (go_at_call 114; refine (c_checkMultis p a d cap qs al n cl ms _ hd hl Hr.out (HQ.out.ext (ext_alloc _ _)) (HX.out.ext (ext_alloc _ _))).mono ?_; rintro e w1 ⟨rfl, h1⟩; rw [HM.out]; have hcc := Ext.cells h1; try simp only [World.size_alloc] at hcc) | (go_at_call 126; refine (c_checkVectors p a d cap qs av m cv vs _ hd hl2 Hr2.out (HQ.out.ext ((ext_alloc _ _).trans h1)) (HV.out.ext ((ext_alloc _ _).trans h1))).mono ?_; rintro e w2 ⟨rfl, h2⟩))
      go_ret
      exact ⟨ret_int HC.out.symm, (ext_alloc _ _).trans (h1.trans h2)⟩
  · have hcb : (codeM p qs ms != 0) = true := by simp [hm]
    have HC := Lib.hid (show codeVs p qs ms vs = codeM p qs ms by simp [codeVs, hm])
    clear hm
    go_enter Try.func71, Try.ntmps71
    go_wp2_with (go_at_call 114; refine (c_checkMultis p a d cap qs al n cl ms _ hd hl Hr.out (HQ.out.ext (ext_alloc _ _)) (HX.out.ext (ext_alloc _ _))).mono ?_; rintro e w1 ⟨rfl, h1⟩)
    go_ret
    exact ⟨ret_int HC.out.symm, (ext_alloc _ _).trans h1⟩
theorem c_checkVersM (p : Int) (a : Option Addr) (d cap : Nat) (qs : List Int) (al : Option Addr) (n cl : Nat) (ms : List (List Int)) (w : World) (hd : d ≤ 4194304) (hl : n ≤ 4194304) (hr : ∀ i, i < n → (nthR ms i).length ≤ 4194304)
    (hq : RdC w a d qs) (hx : RdR w al n ms) :
    Calls Try.prog 71 #[.agg #[.int .i64 p, .slice a d cap], .slice al n cl, .slice none 0 0] w fun e w' => e = .returned (.int .i64 (codeR p qs ms)) ∧ Ext w w' := by
  rw [← codeVs_multi]
  exact c_checkVersors p a d cap qs al n cl ms none 0 0 [] w hd hl hr (by omega) (fun i hi => absurd hi (Nat.not_lt_zero _)) hq hx (rdR_nil w)
theorem c_checkVersV (p : Int) (a : Option Addr) (d cap : Nat) (qs : List Int) (al : Option Addr) (n cl : Nat) (vs : List (List Int)) (w : World) (hd : d ≤ 4194304) (hl : n ≤ 16) (hr : ∀ i, i < n → (nthR vs i).length ≤ 4194304)
    (hq : RdC w a d qs) (hx : RdR w al n vs) :
    Calls Try.prog 71 #[.agg #[.int .i64 p, .slice a d cap], .slice none 0 0, .slice al n cl] w fun e w' => e = .returned (.int .i64 (codeW p qs vs)) ∧ Ext w w' := by
  rw [← codeVs_vec p qs (by rw [hx.1]; exact hl)]
  exact c_checkVersors p a d cap qs none 0 0 [] al n cl vs w hd (by omega) (fun i hi => absurd hi (Nat.not_lt_zero _)) (by omega) hr hq (rdR_nil w) hx

set_option maxHeartbeats 1000000 in
theorem s_vectors (p : Int) (a : Option Addr) (d cap : Nat) (qs : List Int) (al : Option Addr) (n cl : Nat) (vs : List (List Int)) (w : World) (hd : d ≤ 4194304) (hl : n ≤ 4194304) (hr : ∀ i, i < n → (nthR vs i).length ≤ 4194304)
    (hq : RdC w a d qs) (hx : RdR w al n vs) :
    Calls Try.prog 73 #[.agg #[.int .i64 p, .slice a d cap], .slice al n cl] w fun e w' => e = .returned (.int .i64 (codeW p qs vs)) ∧ Ext w w' := by
  have Hr := Lib.hid hr
  clear hr
  by_cases hm : codeVR p qs vs = 0
  · have hcb : ((0 : Int) == 0) = true := by simp
    have HM := Lib.hid hm
    have HC := Lib.hid (show codeW p qs vs = if regB qs = true then 0 else 5 by simp [codeW, hm])
    obtain ⟨hs, _, _⟩ := codeVR_zero hm
    obtain ⟨hpr, hd1, hd6, hqb⟩ := space_of hs
    have hpb := prime_bd hpr
    have hdl := hq.1
    have HDR := Lib.hid (disc_reg hpr hqb)
    clear hm
    cases hg : regB qs
    all_goals
      have hdb : (discL p qs == 0) = !regB qs := HDR.out
      rw [hg] at HC hdb
      simp only [Bool.not_true, Bool.not_false] at hdb
      clear hg
      go_enter Try.func73, Try.ntmps73
      go_wp2_with (first | (go_at_call 128; refine (s_list p a d cap qs al n cl vs _ hd hl Hr.out (hq.ext (ext_alloc _ _)) (hx.ext (ext_alloc _ _))).mono ?_; rintro e w1 ⟨rfl, h1⟩; rw [HM.out]; have hq0 : w1.cell? ⟨w.heap.size, 0, none⟩ = some (.int .i64 p) := h1.cell (by simp); have hq1 : w1.cell? ⟨w.heap.size, 1, none⟩ = some (.slice a d cap) := h1.cell (by simp)) | (go_at_call 64; refine (s_disc _ _ _ _ _ _ (by omega) (by omega) (by omega) (hq.ext ((ext_alloc _ _).trans h1)) hqb).mono ?_; rintro e w2 ⟨rfl, h2⟩))
      go_ret
      exact ⟨ret_int HC.out.symm, (ext_alloc _ _).trans (h1.trans h2)⟩
  · have hcb : (codeVR p qs vs == 0) = false := by simp [hm]
    have HC := Lib.hid (show codeW p qs vs = codeVR p qs vs by simp [codeW, hm])
    clear hm
    go_enter Try.func73, Try.ntmps73
    go_wp2_with (go_at_call 128; refine (s_list p a d cap qs al n cl vs _ hd hl Hr.out (hq.ext (ext_alloc _ _)) (hx.ext (ext_alloc _ _))).mono ?_; rintro e w1 ⟨rfl, h1⟩)
    go_ret
    exact ⟨ret_int HC.out.symm, (ext_alloc _ _).trans h1⟩
end Go.Proofs.Ytlchmkaaogokiaa
