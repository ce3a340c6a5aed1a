/-
  Contracts and plain laws, part 10: Orth, VoM, Read, ReadR.
  No condition.
-/
import Derived.Test.YtnabpmafcflljaaPart9
import Derived.Test.YtnabpmafcflljaaPart2
import Derived.Test.YtnabpmafcflljaaPart7
import Derived.Test.YtnabpmafcflljaaPart3
import Derived.Test.YtnabpmafcflljaaPart0
import Derived.ProofKit
import Derived.OpenShut
import Derived.ShutString
import Derived.ChangeOld
import Derived.Below
import Derived.Lib.SmallJoins
import Derived.Deep.Matrix
/-
  The checks of orthogonal matrices.
  No condition.
-/
namespace Go.Proofs.Ytnabpmafcflljaa
set_option maxRecDepth 100000
open Go.RowKit

def code8 (p : Int) (qs : List Int) (rows : List (List Int)) : Int := if spaceB p qs = true then (if regB qs = true then (if isoB p qs rows qs.length = true then 0 else 2) else 5) else 1
theorem code8_zero {p : Int} {qs : List Int} {rows : List (List Int)} (h : code8 p qs rows = 0) : spaceB p qs = true ∧ regB qs = true ∧ isoB p qs rows qs.length = true := by
  unfold code8 at h
  split at h
  · rename_i h1
    split at h
    · rename_i h2
      split at h
      · rename_i h3; exact ⟨h1, h2, h3⟩
      · cases h
    · cases h
  · cases h
theorem code8_A {p : Int} {qs : List Int} {rows : List (List Int)} (h : spaceB p qs = false) : code8 p qs rows = 1 := by unfold code8; rw [h]; rfl
theorem code8_B {p : Int} {qs : List Int} {rows : List (List Int)} (h : spaceB p qs = true) (h2 : regB qs = false) : code8 p qs rows = 5 := by unfold code8; rw [h, h2]; rfl
theorem code8_C {p : Int} {qs : List Int} {rows : List (List Int)} (h : spaceB p qs = true) (h2 : regB qs = true) : code8 p qs rows = if isoB p qs rows qs.length = true then 0 else 2 := by unfold code8; rw [h, h2]; rfl

set_option maxHeartbeats 2000000 in
theorem c_checkOrth (p : Int) (a : Option Addr) (d cap : Nat) (qs : List Int) (ax1 : Option Addr) (n1 cx1 : Nat) (xs1 : List (List Int)) (w : World) (hd : d ≤ 4194304) (hn1 : n1 ≤ 4194304) (hr1 : ∀ i, i < n1 → (nthR xs1 i).length ≤ 4194304) (hq : RdC w a d qs) (hx1 : RdR w ax1 n1 xs1) :
    Calls Try.prog 44 #[.agg #[.int .i64 p, .slice a d cap], .slice ax1 n1 cx1] w fun e w' => e = .returned (.int .i64 (code8 p qs xs1)) ∧ Ext w w' := by
  have HQ := Lib.hid hq
  have HX := Lib.hid hx1
  have HR := Lib.hid hr1
  clear hq hx1 hr1
  go_enter Try.func44, Try.ntmps44
  go_wp2_with (fail)
  refine Calls.mono (c_isSpace p a d cap qs _ hd (HQ.out.ext (ext_alloc _ _))) ?_
  rintro e w1 ⟨rfl, g1⟩
  have G := Lib.hid ((ext_alloc w (.cells #[.int .i64 p, .slice a d cap] 30)).trans g1)
  have s0 : w1.cell? ⟨w.heap.size, 0, none⟩ = some (.int .i64 p) := g1.cell (by simp)
  have s1 : w1.cell? ⟨w.heap.size, 1, none⟩ = some (.slice a d cap) := g1.cell (by simp)
  clear g1
  cases hs : spaceB p qs
  · have HC := Lib.hid (code8_A (rows := xs1) hs)
    clear hs
    go_wp2_with (fail)
    go_ret
    exact ⟨ret_int HC.out.symm, G.out⟩
  have HS := Lib.hid hs
  clear hs
  go_wp2_with (fail)
  refine Calls.mono (c_regular p a d cap qs _ hd (HQ.out.ext G.out)) ?_
  rintro e w2 ⟨rfl, g2⟩
  replace s0 := g2.cell s0
  replace s1 := g2.cell s1
  replace G := Lib.hid (G.out.trans g2)
  clear g2
  cases hrg : regB qs
  · have HC := Lib.hid (code8_B (rows := xs1) HS.out hrg)
    clear hrg
    go_wp2_with (fail)
    go_ret
    exact ⟨ret_int HC.out.symm, G.out⟩
  have HC := Lib.hid (code8_C (rows := xs1) HS.out hrg)
  clear hrg
  go_wp2_with (fail)
  refine Calls.mono (c_isometry p a d cap qs ax1 n1 cx1 xs1 _ HS.out hn1 HR.out (HQ.out.ext G.out) (HX.out.ext G.out)) ?_
  rintro e w3 ⟨rfl, g3⟩
  replace G := Lib.hid (G.out.trans g3)
  have HD := Lib.hid HQ.out.1
  clear g3
  cases hi : isoB p qs xs1 d
  · have HI := Lib.hid hi
    clear hi
    go_wp2_with (fail)
    go_ret
    exact ⟨ret_int (by rw [HC.out, HD.out, HI.out]; rfl), G.out⟩
  · have HI := Lib.hid hi
    clear hi
    go_wp2_with (fail)
    go_ret
    exact ⟨ret_int (by rw [HC.out, HD.out, HI.out]; rfl), G.out⟩

set_option maxHeartbeats 2000000 in
theorem s_IsOrth (p : Int) (a : Option Addr) (d cap : Nat) (qs : List Int) (ax1 : Option Addr) (n1 cx1 : Nat) (xs1 : List (List Int)) (w : World) (hd : d ≤ 4194304) (hn1 : n1 ≤ 4194304) (hr1 : ∀ i, i < n1 → (nthR xs1 i).length ≤ 4194304) (hq : RdC w a d qs) (hx1 : RdR w ax1 n1 xs1) (B : Bool) (C : Int) (hB : B = (spaceB p qs && regB qs && isoB p qs xs1 qs.length)) (hC : C = if spaceB p qs = true then (if regB qs = true then 0 else 5) else 1) :
    Calls Try.prog 78 #[.agg #[.int .i64 p, .slice a d cap], .slice ax1 n1 cx1] w fun e w' => e = .returned (.tuple #[.bool B, .int .i64 C]) ∧ Ext w w' := by
  have HQ := Lib.hid hq
  have HX := Lib.hid hx1
  have HR := Lib.hid hr1
  have HB := Lib.hid hB
  have HC := Lib.hid hC
  clear hq hx1 hr1 hB hC
  go_enter Try.func78, Try.ntmps78
  go_wp2_with (fail)
  refine Calls.mono (s_is p a d cap qs _ hd (HQ.out.ext (ext_alloc _ _))) ?_
  rintro e w1 ⟨rfl, g1⟩
  have G := Lib.hid ((ext_alloc w (.cells #[.int .i64 p, .slice a d cap] 30)).trans g1)
  have s0 : w1.cell? ⟨w.heap.size, 0, none⟩ = some (.int .i64 p) := g1.cell (by simp)
  have s1 : w1.cell? ⟨w.heap.size, 1, none⟩ = some (.slice a d cap) := g1.cell (by simp)
  clear g1
  cases hs : spaceB p qs
  · have HB2 := Lib.hid (show B = false by rw [HB.out, hs]; rfl)
    have HC2 := Lib.hid (show C = 1 by rw [HC.out, hs]; rfl)
    clear hs
    go_wp2_with (fail)
    go_ret2
    exact ⟨by rw [HB2.out, HC2.out]; rfl, G.out⟩
  have HS := Lib.hid hs
  clear hs
  obtain ⟨hpr, _, hd6, hqb⟩ := space_of HS.out
  have hpb := prime_bd hpr
  have HD := Lib.hid HQ.out.1
  rw [HD.out] at hd6
  have HDZ := Lib.hid (disc_reg hpr hqb)
  have HQB := Lib.hid hqb
  clear hpr hqb
  go_wp2_with (fail)
  refine Calls.mono (s_disc p a d cap qs _ (by omega) (by omega) (by omega) (HQ.out.ext G.out) HQB.out) ?_
  rintro e w2 ⟨rfl, g2⟩
  replace s0 := g2.cell s0
  replace s1 := g2.cell s1
  replace G := Lib.hid (G.out.trans g2)
  clear g2
  obtain ⟨dz, hdz⟩ : ∃ x, x = discL p qs := ⟨_, rfl⟩
  rw [← hdz] at HDZ ⊢
  clear hdz
  cases hrg : regB qs
  · have hz : (dz == 0) = true := by rw [HDZ.out, hrg]; rfl
    have HB2 := Lib.hid (show B = false by rw [HB.out, HS.out, hrg]; rfl)
    have HC2 := Lib.hid (show C = 5 by rw [HC.out, HS.out, hrg]; rfl)
    clear hrg
    go_wp2_with (fail)
    go_ret2
    exact ⟨by rw [HB2.out, HC2.out]; rfl, G.out⟩
  have HB2 := Lib.hid (show B = isoB p qs xs1 d by rw [HB.out, HS.out, hrg, HD.out]; rfl)
  have HC2 := Lib.hid (show C = 0 by rw [HC.out, HS.out, hrg]; rfl)
  have hz : (dz == 0) = false := by rw [HDZ.out, hrg]; rfl
  clear hrg
  go_wp2_with (fail)
  go_at_call 56
  have H8 : Calls Try.prog 56 #[.agg #[.int .i64 p, .slice a d cap], .slice ax1 n1 cx1] w2 fun e w' => e = .returned (.bool (isoB p qs xs1 d)) ∧ Ext w2 w' := by
    have HQ2 := Lib.hid (HQ.out.ext G.out)
    have HX2 := Lib.hid (HX.out.ext G.out)
    clear s0 s1
    go_enter Try.func56, Try.ntmps56
    go_wp2_with (fail)
    refine Calls.mono (s_isometry p a d cap qs ax1 n1 cx1 xs1 _ HS.out hn1 HR.out (HQ2.out.ext (ext_alloc _ _)) (HX2.out.ext (ext_alloc _ _))) ?_
    rintro e w3 ⟨rfl, g3⟩
    go_wp2_with (fail)
    go_ret
    exact ⟨rfl, (ext_alloc _ _).trans g3⟩
  refine Calls.mono H8 ?_
  rintro e w3 ⟨rfl, g3⟩
  replace G := Lib.hid (G.out.trans g3)
  clear g3 H8
  go_wp2_with (fail)
  go_ret2
  exact ⟨by rw [HB2.out, HC2.out]; rfl, G.out⟩
set_option maxHeartbeats 2000000 in
theorem s_code8 (p : Int) (a : Option Addr) (d cap : Nat) (qs : List Int) (ax1 : Option Addr) (n1 cx1 : Nat) (xs1 : List (List Int)) (w : World) (hd : d ≤ 4194304) (hn1 : n1 ≤ 4194304) (hr1 : ∀ i, i < n1 → (nthR xs1 i).length ≤ 4194304) (hq : RdC w a d qs) (hx1 : RdR w ax1 n1 xs1) :
    Calls Try.prog 41 #[.agg #[.int .i64 p, .slice a d cap], .slice ax1 n1 cx1] w fun e w' => e = .returned (.int .i64 (code8 p qs xs1)) ∧ Ext w w' := by
  have HQ := Lib.hid hq
  have HX := Lib.hid hx1
  have HR := Lib.hid hr1
  clear hq hx1 hr1
  go_enter Try.func41, Try.ntmps41
  go_wp2_with (fail)
  obtain ⟨B, hB⟩ : ∃ x, x = (spaceB p qs && regB qs && isoB p qs xs1 qs.length) := ⟨_, rfl⟩
  obtain ⟨C, hC⟩ : ∃ x : Int, x = if spaceB p qs = true then (if regB qs = true then 0 else 5) else 1 := ⟨_, rfl⟩
  have HB := Lib.hid hB
  have HC0 := Lib.hid hC
  refine Calls.mono (s_IsOrth p a d cap qs ax1 n1 cx1 xs1 _ hd hn1 HR.out (HQ.out.ext (ext_alloc _ _)) (HX.out.ext (ext_alloc _ _)) B C hB hC) ?_
  rintro e w1 ⟨rfl, g1⟩
  clear hB hC
  have G := Lib.hid ((ext_alloc w (.cells #[.int .i64 p, .slice a d cap] 30)).trans g1)
  clear g1
  by_cases h0 : C = 0
  · have hcb : (C == 0) = true := by simp [h0]
    have HCZ := Lib.hid (show code8 p qs xs1 = if B = true then 0 else 2 by
      have hc := HC0.out
      rw [h0] at hc
      unfold code8
      cases hs : spaceB p qs
      · rw [hs] at hc; cases hc
      · cases hr : regB qs
        · rw [hs, hr] at hc; cases hc
        · have hb := HB.out
          rw [hs, hr] at hb
          rw [hb]; rfl)
    clear h0
    cases B
    · go_wp2_with (fail)
      go_ret
      exact ⟨ret_int (by rw [HCZ.out]; rfl), G.out⟩
    · have HC1 := Lib.hid (show C = 0 by simpa using hcb)
      go_wp2_with (fail)
      go_ret
      exact ⟨ret_int (by rw [HCZ.out, HC1.out]; rfl), G.out⟩
  · have hcb : (C == 0) = false := by simp [h0]
    have HCZ := Lib.hid (show code8 p qs xs1 = C by
      have hc := HC0.out
      unfold code8
      cases hs : spaceB p qs
      · rw [hs] at hc; exact hc.symm
      · cases hr : regB qs
        · rw [hs, hr] at hc; exact hc.symm
        · rw [hs, hr] at hc; exact absurd hc h0)
    clear h0
    go_wp2_with (fail)
    go_ret
    exact ⟨ret_int HCZ.out.symm, G.out⟩
end Go.Proofs.Ytnabpmafcflljaa

/-
  The listed function VersorOfMatrix.
  No condition.
-/
namespace Go.Proofs.Ytnabpmafcflljaa
set_option maxRecDepth 100000
open Go.RowKit

/-- The product of the vectors of the decomposition. -/
def vomL (p : Int) (qs : List Int) (rows : List (List Int)) (d : Nat) : List Int := prodS p qs tkA (decL p qs rows d) (decL p qs rows d).length
theorem reg_ne {p : Int} {qs : List Int} {d : Nat} (hg : Good p d qs) (h : regB qs = true) : ∀ i, i < d → nth qs i % p ≠ 0 := fun i hi h0 => by
  have hb := hg.2 i hi
  rw [Int.emod_eq_of_lt hb.1 hb.2] at h0
  unfold regB hasB at h
  simp only [Bool.not_eq_true', List.any_eq_false, List.mem_range] at h
  have := h i (by rw [hg.1]; exact hi)
  rw [h0] at this
  exact this rfl
/-- A list whose rows can be read. -/
def SPred.listR (rows : List (List Int)) : SPred := ⟨fun v w => ∃ a n c, v = .slice a n c ∧ n ≤ 12 ∧ RdR w a n rows, fun _ _ _ ⟨a, n, c, hv, hn, h⟩ he => ⟨a, n, c, hv, hn, h.ext he⟩⟩

set_option maxHeartbeats 400000 in
theorem c_VersorOfMatrix_bad (p : Int) (a : Option Addr) (d cap : Nat) (qs : List Int) (ax1 : Option Addr) (n1 cx1 : Nat) (xs1 : List (List Int)) (w : World) (hd : d ≤ 4194304) (hn1 : n1 ≤ 4194304) (hr1 : ∀ i, i < n1 → (nthR xs1 i).length ≤ 4194304) (hq : RdC w a d qs) (hx1 : RdR w ax1 n1 xs1) (hc : code8 p qs xs1 ≠ 0) :
    Calls Try.prog 29 #[.agg #[.int .i64 p, .slice a d cap], .slice ax1 n1 cx1] w fun e w' => ∃ ra rc, e = .returned (.tuple #[.slice ra 0 rc, .int .i64 (code8 p qs xs1)]) ∧ OwnC w.heap.size w' ra 0 rc [] ∧ Ext w w' := by
  have hcb : (code8 p qs xs1 != 0) = true := by simp [hc]
  have HQ := Lib.hid hq
  have HX := Lib.hid hx1
  have HR := Lib.hid hr1
  clear hc hq hx1 hr1
  go_enter Try.func29, Try.ntmps29
  go_wp2_with (go_at_call 44; refine (c_checkOrth p a _ cap qs ax1 _ cx1 xs1 _ hd hn1 HR.out (HQ.out.ext (ext_alloc _ _)) (HX.out.ext (ext_alloc _ _))).mono ?_; rintro e w1 ⟨rfl, g1⟩)
  go_ret2
  exact ⟨none, 0, rfl, own_nil _ _, (ext_alloc _ _).trans g1⟩
set_option maxHeartbeats 8000000 in
set_option maxRecDepth 100000 in
theorem c_VersorOfMatrix_ok (p : Int) (a : Option Addr) (d cap : Nat) (qs : List Int) (ax1 : Option Addr) (n1 cx1 : Nat) (xs1 : List (List Int)) (w : World) (hd : d ≤ 4194304) (hn1 : n1 ≤ 4194304) (hr1 : ∀ i, i < n1 → (nthR xs1 i).length ≤ 4194304) (hq : RdC w a d qs) (hx1 : RdR w ax1 n1 xs1) (hc : code8 p qs xs1 = 0) :
    Calls Try.prog 29 #[.agg #[.int .i64 p, .slice a d cap], .slice ax1 n1 cx1] w fun e w' => ∃ ra rc, e = .returned (.tuple #[.slice ra (2 ^ d) rc, .int .i64 0]) ∧ OwnC w.heap.size w' ra (2 ^ d) rc (vomL p qs xs1 d) ∧ Ext w w' := by
  obtain ⟨hs, hrg, hiso⟩ := code8_zero hc
  obtain ⟨hpr, hd1, hd6, hqb⟩ := space_of hs
  have hpb := prime_bd hpr
  have hpz : ¬ p = 0 := by omega
  have hqd := hq.1
  rw [hqd] at hd1 hd6 hiso
  obtain ⟨him, hil, hiw, _, _⟩ := isoB_of hiso
  have hn1d := hx1.1.symm.trans hil
  subst hn1d
  obtain ⟨N, hN⟩ : ∃ N, N = 2 ^ n1 := ⟨_, rfl⟩
  rw [← hN]
  have HN := Lib.hid hN
  have HGR := Lib.hid (show RowsG p n1 xs1 from mat_good him hiw)
  have HIM := Lib.hid (isoM_of hiso)
  have HQN := Lib.hid (reg_ne (p := p) (d := n1) (good_isB hqd hqb) hrg)
  have HDG : Hid (RowsG p n1 (decL p qs xs1 n1)) := Lib.hid (decT_ok hpr (fun i hi => ⟨HQN.out i hi, (good_isB hqd hqb).2 i hi⟩) HGR.out hx1.1 HIM.out n1 (Nat.le_refl _)).1
  have HPR := Lib.hid hpr
  have HC := Lib.hid hc
  have HQ := Lib.hid hq
  have HQB := Lib.hid hqb
  have HX := Lib.hid hx1
  have HR := Lib.hid hr1
  have hcb : ((0 : Int) != 0) = false := by simp
  clear hc hs hrg hiso hpr hqb him hil hiw hqd hq hx1 hr1 hN
  go_enter Try.func29, Try.ntmps29
  go_wp2_with (go_at_call 44; refine (c_checkOrth p a _ cap qs ax1 _ cx1 xs1 _ hd hn1 HR.out (HQ.out.ext (ext_alloc _ _)) (HX.out.ext (ext_alloc _ _))).mono ?_; rintro e w1 ⟨rfl, g1⟩; rw [HC.out]; have hq0 : w1.cell? ⟨w.heap.size, 0, none⟩ = some (.int .i64 p) := g1.cell (by simp); have hq1 : w1.cell? ⟨w.heap.size, 1, none⟩ = some (.slice a n1 cap) := g1.cell (by simp))
  have HS0 := Lib.hid ((ext_drew _).cell hq0)
  have HS1 := Lib.hid ((ext_drew _).cell hq1)
  have GW := Lib.hid (((ext_alloc w (.cells #[.int .i64 p, .slice a n1 cap] 30)).trans g1).trans (ext_drew _))
  clear g1 hq0 hq1
  refine wp_region_lex [(3, .listR (decL p qs xs1 n1)), (4, .ownG w.heap.size N (vomL p qs xs1 n1))] (by kernel_rfl) (by kernel_rfl) ?_
  (refine LexW.pure (v := ?_) rfl rfl (fun w1 he => ?_) ?_; rotate_left; ( have e1 := he.cell HS0.out; have e2 := he.cell HS1.out; go_simp; rfl); simp only [Act.put, List.setIfInBounds_toArray, List.set_cons_zero, List.set_cons_succ])
  (refine LexW.pure (v := ?_) rfl rfl (fun w1 he => ?_) ?_; rotate_left; ( have e1 := he.cell HS0.out; have e2 := he.cell HS1.out; go_simp; rfl); simp only [Act.put, List.setIfInBounds_toArray, List.set_cons_zero, List.set_cons_succ])
  (refine LexW.pure (v := ?_) rfl rfl (fun w1 he => ?_) ?_; rotate_left; ( have e1 := he.cell HS0.out; have e2 := he.cell HS1.out; go_simp; rfl); simp only [Act.put, List.setIfInBounds_toArray, List.set_cons_zero, List.set_cons_succ])
  (refine LexW.callR (f := ?_) (args := ?_) rfl rfl (fun w1 => ?_) (fun w1 he hdep => ?_) (fun v hv => ?_); rotate_left 2; (go_simp; refine ⟨?_, ?_⟩ <;> rfl); ( refine (c_decomposition p a n1 cap qs ax1 cx1 xs1 w1 HPR.out (by omega) (by omega) (HQ.out.ext (GW.out.trans he)) HQB.out HQN.out (HX.out.ext (GW.out.trans he)) HGR.out HIM.out).mono ?_; rintro e w2 ⟨ra, n, rc, rfl, hn, hr, g2⟩; exact ⟨_, rfl, g2, ra, n, rc, rfl, hn, hr⟩); simp only [Act.put, List.setIfInBounds_toArray, List.set_cons_zero, List.set_cons_succ])
  obtain ⟨_, r16, n16, c16, rfl, _⟩ := hv
  (refine LexW.callR (f := ?_) (args := ?_) rfl rfl (fun w1 => ?_) (fun w1 he hdep => ?_) (fun v hv => ?_); rotate_left 2; (go_simp; refine ⟨?_, ?_⟩ <;> rfl); ( obtain ⟨_, _, _, q16, h16, x16⟩ : (SPred.listR (decL p qs xs1 n1)).holds (.slice r16 n16 c16) w1 := hdep (3, 16) (by decide +kernel); cases q16; have H := c_versor HN.out p a cap qs r16 n16 c16 (decL p qs xs1 n1) w1 (by omega) (by omega) (by omega) (by omega) (HQ.out.ext (GW.out.trans he)) HQB.out x16 HDG.out; rw [show prodS p qs tkA (decL p qs xs1 n1) n16 = vomL p qs xs1 n1 by unfold vomL; rw [x16.1]] at H; refine H.mono ?_; rintro e w2 ⟨g, rfl, ho, g2⟩; exact ⟨_, rfl, g2, g, rfl, ho.mono (Nat.le_trans GW.out.size he.size)⟩); simp only [Act.put, List.setIfInBounds_toArray, List.set_cons_zero, List.set_cons_succ])
  obtain ⟨_, g17, rfl, _⟩ := hv
  (refine LexW.pure (v := ?_) rfl rfl (fun w1 he => ?_) ?_; rotate_left; ( have e1 := he.cell HS0.out; have e2 := he.cell HS1.out; go_simp; rfl); simp only [Act.put, List.setIfInBounds_toArray, List.set_cons_zero, List.set_cons_succ])
  (refine LexW.pure (v := ?_) rfl rfl (fun w1 he => ?_) ?_; rotate_left; ( have e1 := he.cell HS0.out; have e2 := he.cell HS1.out; go_simp; rfl); simp only [Act.put, List.setIfInBounds_toArray, List.set_cons_zero, List.set_cons_succ])
  refine LexW.nil (fun w3 he hkn => ?_)
  obtain ⟨_, q17, r17⟩ : (SPred.ownG w.heap.size N (vomL p qs xs1 n1)).holds (.slice (some ⟨g17, 0, none⟩) N N) w3 := hkn (4, _) (by simp)
  cases q17
  have R17 := Lib.hid r17
  have HE := Lib.hid (GW.out.trans he)
  clear he hkn r17
  go_wp2_with (fail)
  go_ret2
  exact ⟨_, _, rfl, R17.out, HE.out⟩

set_option maxHeartbeats 400000 in
theorem s_VersorOfMatrix_bad (p : Int) (a : Option Addr) (d cap : Nat) (qs : List Int) (ax1 : Option Addr) (n1 cx1 : Nat) (xs1 : List (List Int)) (w : World) (hd : d ≤ 4194304) (hn1 : n1 ≤ 4194304) (hr1 : ∀ i, i < n1 → (nthR xs1 i).length ≤ 4194304) (hq : RdC w a d qs) (hx1 : RdR w ax1 n1 xs1) (hc : code8 p qs xs1 ≠ 0) :
    Calls Try.prog 28 #[.agg #[.int .i64 p, .slice a d cap], .slice ax1 n1 cx1] w fun e w' => ∃ ra rc, e = .returned (.tuple #[.slice ra 0 rc, .int .i64 (code8 p qs xs1)]) ∧ OwnC w.heap.size w' ra 0 rc [] ∧ Ext w w' := by
  have hcb : (code8 p qs xs1 != 0) = true := by simp [hc]
  have HQ := Lib.hid hq
  have HX := Lib.hid hx1
  have HR := Lib.hid hr1
  clear hc hq hx1 hr1
  go_enter Try.func28, Try.ntmps28
  go_wp2_with (go_at_call 41; refine (s_code8 p a _ cap qs ax1 _ cx1 xs1 _ hd hn1 HR.out (HQ.out.ext (ext_alloc _ _)) (HX.out.ext (ext_alloc _ _))).mono ?_; rintro e w1 ⟨rfl, g1⟩)
  go_ret2
  exact ⟨none, 0, rfl, own_nil _ _, (ext_alloc _ _).trans g1⟩
set_option maxHeartbeats 8000000 in
set_option maxRecDepth 100000 in
theorem s_VersorOfMatrix_ok (p : Int) (a : Option Addr) (d cap : Nat) (qs : List Int) (ax1 : Option Addr) (n1 cx1 : Nat) (xs1 : List (List Int)) (w : World) (hd : d ≤ 4194304) (hn1 : n1 ≤ 4194304) (hr1 : ∀ i, i < n1 → (nthR xs1 i).length ≤ 4194304) (hq : RdC w a d qs) (hx1 : RdR w ax1 n1 xs1) (hc : code8 p qs xs1 = 0) :
    Calls Try.prog 28 #[.agg #[.int .i64 p, .slice a d cap], .slice ax1 n1 cx1] w fun e w' => ∃ ra rc, e = .returned (.tuple #[.slice ra (2 ^ d) rc, .int .i64 0]) ∧ OwnC w.heap.size w' ra (2 ^ d) rc (vomL p qs xs1 d) ∧ Ext w w' := by
  obtain ⟨hs, hrg, hiso⟩ := code8_zero hc
  obtain ⟨hpr, hd1, hd6, hqb⟩ := space_of hs
  have hpb := prime_bd hpr
  have hpz : ¬ p = 0 := by omega
  have hqd := hq.1
  rw [hqd] at hd1 hd6 hiso
  obtain ⟨him, hil, hiw, _, _⟩ := isoB_of hiso
  have hn1d := hx1.1.symm.trans hil
  subst hn1d
  obtain ⟨N, hN⟩ : ∃ N, N = 2 ^ n1 := ⟨_, rfl⟩
  rw [← hN]
  have HN := Lib.hid hN
  have HGR := Lib.hid (show RowsG p n1 xs1 from mat_good him hiw)
  have HIM := Lib.hid (isoM_of hiso)
  have HQN := Lib.hid (reg_ne (p := p) (d := n1) (good_isB hqd hqb) hrg)
  have HDG : Hid (RowsG p n1 (decL p qs xs1 n1)) := Lib.hid (decT_ok hpr (fun i hi => ⟨HQN.out i hi, (good_isB hqd hqb).2 i hi⟩) HGR.out hx1.1 HIM.out n1 (Nat.le_refl _)).1
  have HPR := Lib.hid hpr
  have HC := Lib.hid hc
  have HQ := Lib.hid hq
  have HQB := Lib.hid hqb
  have HX := Lib.hid hx1
  have HR := Lib.hid hr1
  have hcb : ((0 : Int) != 0) = false := by simp
  clear hc hs hrg hiso hpr hqb him hil hiw hqd hq hx1 hr1 hN
  go_enter Try.func28, Try.ntmps28
  go_wp2_with (go_at_call 41; refine (s_code8 p a _ cap qs ax1 _ cx1 xs1 _ hd hn1 HR.out (HQ.out.ext (ext_alloc _ _)) (HX.out.ext (ext_alloc _ _))).mono ?_; rintro e w1 ⟨rfl, g1⟩; rw [HC.out]; have hq0 : w1.cell? ⟨w.heap.size, 0, none⟩ = some (.int .i64 p) := g1.cell (by simp); have hq1 : w1.cell? ⟨w.heap.size, 1, none⟩ = some (.slice a n1 cap) := g1.cell (by simp))
  have HS0 := Lib.hid ((ext_drew _).cell hq0)
  have HS1 := Lib.hid ((ext_drew _).cell hq1)
  have GW := Lib.hid (((ext_alloc w (.cells #[.int .i64 p, .slice a n1 cap] 30)).trans g1).trans (ext_drew _))
  clear g1 hq0 hq1
  refine wp_region_lex [(3, .listR (decL p qs xs1 n1)), (4, .ownG w.heap.size N (vomL p qs xs1 n1))] (by kernel_rfl) (by kernel_rfl) ?_
  (refine LexW.pure (v := ?_) rfl rfl (fun w1 he => ?_) ?_; rotate_left; ( have e1 := he.cell HS0.out; have e2 := he.cell HS1.out; go_simp; rfl); simp only [Act.put, List.setIfInBounds_toArray, List.set_cons_zero, List.set_cons_succ])
  (refine LexW.pure (v := ?_) rfl rfl (fun w1 he => ?_) ?_; rotate_left; ( have e1 := he.cell HS0.out; have e2 := he.cell HS1.out; go_simp; rfl); simp only [Act.put, List.setIfInBounds_toArray, List.set_cons_zero, List.set_cons_succ])
  (refine LexW.pure (v := ?_) rfl rfl (fun w1 he => ?_) ?_; rotate_left; ( have e1 := he.cell HS0.out; have e2 := he.cell HS1.out; go_simp; rfl); simp only [Act.put, List.setIfInBounds_toArray, List.set_cons_zero, List.set_cons_succ])
  (refine LexW.callR (f := ?_) (args := ?_) rfl rfl (fun w1 => ?_) (fun w1 he hdep => ?_) (fun v hv => ?_); rotate_left 2; (go_simp; refine ⟨?_, ?_⟩ <;> rfl); ( refine (s_decompose p a n1 cap qs ax1 cx1 xs1 w1 HPR.out (by omega) (by omega) (HQ.out.ext (GW.out.trans he)) HQB.out HQN.out (HX.out.ext (GW.out.trans he)) HGR.out HIM.out).mono ?_; rintro e w2 ⟨ra, n, rc, rfl, hn, hr, g2⟩; exact ⟨_, rfl, g2, ra, n, rc, rfl, hn, hr⟩); simp only [Act.put, List.setIfInBounds_toArray, List.set_cons_zero, List.set_cons_succ])
  obtain ⟨_, r16, n16, c16, rfl, _⟩ := hv
  (refine LexW.callR (f := ?_) (args := ?_) rfl rfl (fun w1 => ?_) (fun w1 he hdep => ?_) (fun v hv => ?_); rotate_left 2; (go_simp; refine ⟨?_, ?_⟩ <;> rfl); ( obtain ⟨_, _, _, q16, h16, x16⟩ : (SPred.listR (decL p qs xs1 n1)).holds (.slice r16 n16 c16) w1 := hdep (3, 16) (by decide +kernel); cases q16; have H := s_versor HN.out p a cap qs r16 n16 c16 (decL p qs xs1 n1) w1 (by omega) (by omega) (by omega) (by omega) (HQ.out.ext (GW.out.trans he)) HQB.out x16 HDG.out; rw [show prodS p qs tkA (decL p qs xs1 n1) n16 = vomL p qs xs1 n1 by unfold vomL; rw [x16.1]] at H; refine H.mono ?_; rintro e w2 ⟨g, rfl, ho, g2⟩; exact ⟨_, rfl, g2, g, rfl, ho.mono (Nat.le_trans GW.out.size he.size)⟩); simp only [Act.put, List.setIfInBounds_toArray, List.set_cons_zero, List.set_cons_succ])
  obtain ⟨_, g17, rfl, _⟩ := hv
  (refine LexW.pure (v := ?_) rfl rfl (fun w1 he => ?_) ?_; rotate_left; ( have e1 := he.cell HS0.out; have e2 := he.cell HS1.out; go_simp; rfl); simp only [Act.put, List.setIfInBounds_toArray, List.set_cons_zero, List.set_cons_succ])
  (refine LexW.pure (v := ?_) rfl rfl (fun w1 he => ?_) ?_; rotate_left; ( have e1 := he.cell HS0.out; have e2 := he.cell HS1.out; go_simp; rfl); simp only [Act.put, List.setIfInBounds_toArray, List.set_cons_zero, List.set_cons_succ])
  refine LexW.nil (fun w3 he hkn => ?_)
  obtain ⟨_, q17, r17⟩ : (SPred.ownG w.heap.size N (vomL p qs xs1 n1)).holds (.slice (some ⟨g17, 0, none⟩) N N) w3 := hkn (4, _) (by simp)
  cases q17
  have R17 := Lib.hid r17
  have HE := Lib.hid (GW.out.trans he)
  clear he hkn r17
  go_wp2_with (fail)
  go_ret2
  exact ⟨_, _, rfl, R17.out, HE.out⟩

end Go.Proofs.Ytnabpmafcflljaa

/-
  What is known of the arguments of a law in memory, read off the form's own words.
  No condition.
-/
namespace Go.Proofs.Ytnabpmafcflljaa
set_option maxRecDepth 100000
open Go.ChangeShapes Go.WideShapes Go.ChangeAt Go.RowKit Go.Joins

theorem own : ownKnob Try.prog.godebug = none := by kernel_rfl
theorem laidOut : laidOutB Try.prog = true := by kernel_rfl
theorem Try.cellsI : Try.prog.cellsOf 2 = 1 := by kernel_rfl
theorem Try.cellsR : Try.prog.cellsOf 22 = 1 := by kernel_rfl
theorem Try.cellsS : Try.prog.cellsOf 24 = 2 := by kernel_rfl

theorem add_cell {w : World} {x : Addr} {i : Nat} {v v0 : Value} (h0 : w.cell? (x.add 0) = some v0) (h : w.cell? (x.add i) = some v) : ∃ b off, some x = some (⟨b, off, none⟩ : Addr) ∧ w.cell? ⟨b, off + i, none⟩ = some v := by
  obtain ⟨b, off, spot⟩ := x
  cases spot with
  | none =>
    refine ⟨b, off, rfl, ?_⟩
    unfold Addr.add at h
    split at h
    · rename_i hi; subst hi; exact h
    · exact h
  | some s =>
    simp only [World.cell?, Addr.add, if_true] at h0
    split at h0
    · simp at h0
    · cases h0

theorem read_cells {H : Type} {enc : TypeId × Value → H} {W : World} {fuel : Nat} {v : Value} {x : DataW H × List MemPlace}
    (hf : DataW.trod enc Try.prog W 0 (fun _ => true) true fuel 22 [v] = some x) : ∃ a n cap xs, v = .slice a n cap ∧ RdC W a n xs ∧ n ≤ maxLen := by
  rcases open_ints Try.underlying22 Try.underlying2 Try.cellsI hf with ⟨hcs, _⟩ | ⟨y, l, c, zs, hcs, _, hl, hm, hz, _, hcell, hwz⟩
  · simp only [List.cons.injEq, and_true] at hcs
    exact ⟨none, 0, 0, [], hcs, ⟨rfl, fun i hi => by omega⟩, by omega⟩
  · simp only [List.cons.injEq, and_true] at hcs
    have hz' : zs.length = c := by simpa using hz
    refine ⟨some y, l, c, zs.take l, hcs, ⟨by simp; omega, fun i hi => ?_⟩, by omega⟩
    obtain ⟨b, off, h1, h2⟩ := add_cell (hcell 0 (by omega)) (hcell i (by omega))
    refine ⟨b, off, h1, ?_⟩
    rw [h2]
    simp [nth, List.getElem?_take_of_lt hi]

theorem read_ints {H : Type} {enc : TypeId × Value → H} {W : World} {base : Nat} {v : Value} {d : DataW H} {p : List MemPlace}
    (hv : Value.okWide Try.prog W .any base 22 v) (h : DataW.Trod enc Try.prog W 0 (fun _ => true) true 22 v d p) : ∃ a n cap xs, v = .slice a n cap ∧ RdC W a n xs ∧ n ≤ maxLen := by
  obtain ⟨a0, len0, cap0, rfl⟩ := okWide_slice Try.underlying22 hv
  obtain ⟨fuel, hf⟩ := h
  exact read_cells (by simpa [Value.cells] using hf)

theorem read_space {H : Type} {enc : TypeId × Value → H} {W : World} {base : Nat} {v : Value} {d : DataW H} {p : List MemPlace}
    (hv : Value.okWide Try.prog W .any base 24 v) (h : DataW.Trod enc Try.prog W 0 (fun _ => true) true 24 v d p) : ∃ q a n cap xs, v = .agg #[.int .i64 q, .slice a n cap] ∧ RdC W a n xs ∧ n ≤ maxLen ∧ (Lit.int .i64 q).wf = true := by
  obtain ⟨c0, c1, y0, y1, m, rfl, rfl, rfl, hy0, hy1⟩ := open_agg2 Try.underlying24 (by kernel_rfl) Try.cellsS hv h
  obtain ⟨q, e0, _, wq⟩ := DataW.trod_int Try.underlying2 hy0
  simp only [List.cons.injEq, and_true] at e0
  obtain ⟨a, n, cap, xs, e1, hr, hm⟩ := read_cells hy1
  exact ⟨q, a, n, cap, xs, by rw [e0, e1], hr, hm, wq⟩

end Go.Proofs.Ytnabpmafcflljaa

/-
  What is known of a slice of slices that a law is handed.
  No condition.
-/
namespace Go.Proofs.Ytnabpmafcflljaa
set_option maxRecDepth 100000
open Go.ChangeShapes Go.WideShapes Go.ChangeAt Go.RowKit Go.Joins

theorem read_rows {H : Type} {enc : TypeId × Value → H} {W : World} {base : Nat} {v : Value} {d : DataW H} {p : List MemPlace}
    (hv : Value.okWide Try.prog W .any base 25 v) (h : DataW.Trod enc Try.prog W 0 (fun _ => true) true 25 v d p) : ∃ a n cap rows, v = .slice a n cap ∧ RdR W a n rows ∧ n ≤ maxLen ∧ ∀ i, i < n → (nthR rows i).length ≤ maxLen := by
  obtain ⟨a0, len0, cap0, rfl⟩ := okWide_slice Try.underlying25 hv
  obtain ⟨fuel, hf⟩ := h
  rcases Go.Deep.open_int_rows Try.underlying25 Try.underlying22 Try.underlying2 Try.cellsR Try.cellsI (by simpa [Value.cells] using hf) with ⟨hcs, _⟩ | ⟨y, l, c, A, L, C, Z, hcs, _, hl, hm, _, hr⟩
  · simp only [List.cons.injEq, and_true] at hcs
    exact ⟨none, 0, 0, [], hcs, ⟨rfl, fun i hi => by omega⟩, by omega, fun i hi => by omega⟩
  · simp only [List.cons.injEq, and_true] at hcs
    have e : ∀ i, i < l → nthR ((List.range l).map fun r => (Z r).take (L r)) i = (Z i).take (L i) := fun i hi => by simp [nthR, hi]
    refine ⟨some y, l, c, (List.range l).map fun r => (Z r).take (L r), hcs, ⟨by simp, fun i hi => ?_⟩, by omega, fun i hi => ?_⟩
    · obtain ⟨h1, h2, h3, h4, _, h5, h6⟩ := hr i (by omega)
      obtain ⟨b, off, ha, hc⟩ := add_cell (hr 0 (by omega)).1 h1
      refine ⟨b, off, A i, C i, ha, ?_, ?_⟩
      · rw [hc, e i hi]; simp [h4, h2]
      · rw [e i hi]
        have hlen : ((Z i).take (L i)).length = L i := by simp [h4, h2]
        refine ⟨rfl, fun j hj => ?_⟩
        rw [hlen] at hj
        cases hA : A i with
        | none => have := h5 hA; omega
        | some a' =>
          have h7 := (h6 a' hA).2
          obtain ⟨b1, off1, ha1, hc1⟩ := add_cell (h7 0 (by omega)) (h7 j (by omega))
          refine ⟨b1, off1, ha1, ?_⟩
          rw [hc1]
          simp [nth, List.getElem?_take_of_lt hj]
    · obtain ⟨h1, h2, h3, h4, _⟩ := hr i (by omega)
      rw [e i hi]
      simp; omega
end Go.Proofs.Ytnabpmafcflljaa
