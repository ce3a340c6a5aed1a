/-
  Contracts and plain laws, part 11: Skew, CayT, Read.
  No condition.
-/
import Derived.Test.YtnabpmafcflljaaPart10
import Derived.Test.YtnabpmafcflljaaPart9
import Derived.Test.YtnabpmafcflljaaPart0
import Derived.ProofKit
import Derived.OpenShut
import Derived.ShutString
import Derived.ChangeOld
import Derived.Below
import Derived.Lib.SmallJoins
/-
  Skew matrices, in the program and in the reference.
  No condition.
-/
namespace Go.Proofs.Ytnabpmafcflljaa
set_option maxRecDepth 100000
open Go.RowKit

def skewN (qs : List Int) (rows : List (List Int)) (i k : Nat) : Int := nth qs k * nth (nthR rows k) i + nth qs i * nth (nthR rows i) k
def skewB (p : Int) (qs : List Int) (rows : List (List Int)) (d : Nat) : Bool := decide (∀ i, i < d → ∀ k, k < d → skewN qs rows i k % p = 0)
theorem skewB_yes {p : Int} {qs : List Int} {rows : List (List Int)} {d : Nat} (h : ∀ i, i < d → ∀ k, k < d → skewN qs rows i k % p = 0) : skewB p qs rows d = true := decide_eq_true h
theorem skewB_at {p : Int} {qs : List Int} {rows : List (List Int)} {d i k : Nat} (hi : i < d) (hk : k < d) (h : skewN qs rows i k % p ≠ 0) : skewB p qs rows d = false := decide_eq_false fun ha => h (ha i hi k hk)

set_option maxHeartbeats 16000000 in
set_option maxRecDepth 100000 in
theorem c_skew (p : Int) (a : Option Addr) (d cap : Nat) (qs : List Int) (ax1 : Option Addr) (cx1 : Nat) (xs1 : List (List Int)) (w : World) (hp1 : 3 ≤ p) (hp2 : p ≤ 1000) (hd : d ≤ 6) (hq : RdC w a d qs) (hqb : ∀ i, i < d → 0 ≤ nth qs i ∧ nth qs i < p) (hx1 : RdR w ax1 d xs1) (hg : RowsG p d xs1) :
    Calls Try.prog 55 #[.agg #[.int .i64 p, .slice a d cap], .slice ax1 d cx1] w fun e w' => e = .returned (.bool (skewB p qs xs1 d)) ∧ Ext w w' := by
  have hpz : ¬ p = 0 := by omega
  have HQ := Lib.hid hq
  have HQB := Lib.hid hqb
  have HX := Lib.hid hx1
  have HG := Lib.hid hg
  have HLN := Lib.hid hx1.1
  clear hq hqb hx1 hg
  go_enter Try.func55, Try.ntmps55
  go_wp2_with (fail)
  obtain ⟨W, hW⟩ : ∃ W, W = w.alloc (.cells #[.int .i64 p, .slice a d cap] 30) := ⟨_, rfl⟩
  obtain ⟨O, hO⟩ : ∃ O, O = w.heap.size := ⟨_, rfl⟩
  have GW := Lib.hid (show Ext w W by rw [hW]; exact ext_alloc _ _)
  have S0 := Lib.hid (show W.cell? ⟨O, 0, none⟩ = some (.int .i64 p) by rw [hW, hO]; simp)
  have S1 := Lib.hid (show W.cell? ⟨O, 1, none⟩ = some (.slice a d cap) by rw [hW, hO]; simp)
  rw [← hW, ← hO]
  clear hW hO
  go_loopw [9] (fun x wr => ∃ (i : Nat), i ≤ d ∧ x = .int .i64 i ∧ Hid (∀ i', i' < i → ∀ k, k < d → skewN qs xs1 i' k % p = 0) ∧ Hid (Ext W wr)) (fun x _ => d - (intOf x).toNat)
  case atStart => exact ⟨0, Nat.zero_le _, rfl, Lib.hid (fun i' h => by omega), Lib.hid (Ext.refl _)⟩
  case round =>
    rename World => y
    obtain ⟨i, hi, rfl, HA, HY⟩ := hrel
    by_cases hlt : i < d
    · go_wp2_with (fail)
      go_loopw [14] (fun x wr => ∃ (k : Nat), k ≤ d ∧ x = .int .i64 k ∧ Hid (∀ k', k' < k → skewN qs xs1 i k' % p = 0) ∧ Hid (Ext W wr)) (fun x _ => d - (intOf x).toNat)
      case atStart => exact ⟨0, Nat.zero_le _, rfl, Lib.hid (fun k' h => by omega), HY⟩
      case round =>
        rename World => z
        obtain ⟨k, hk, rfl, HK, HZ⟩ := hrel
        clear HY
        by_cases hlt2 : k < d
        · obtain ⟨bm, om, ai, ci, rfl, hci0, hri⟩ := HX.out.2 i hlt
          obtain ⟨bm', om', ak, ck, he', hck0, hrk⟩ := HX.out.2 k hlt2
          cases he'
          rw [(HG.out i (by rw [HLN.out]; exact hlt)).1] at hci0 hri
          rw [(HG.out k (by rw [HLN.out]; exact hlt2)).1] at hck0 hrk
          have hci := GW.out.cell hci0
          have hck := GW.out.cell hck0
          replace hri := hri.ext GW.out
          replace hrk := hrk.ext GW.out
          obtain ⟨bq, oq, rfl, hqi0⟩ := (HQ.out.ext GW.out).2 i hlt
          obtain ⟨bq', oq', he2, hqk0⟩ := (HQ.out.ext GW.out).2 k hlt2
          cases he2
          have HQI := Lib.hid hqi0
          have HQK := Lib.hid hqk0
          clear hci0 hck0 hqi0 hqk0
          by_cases hik : i = k
          · skip
            subst hik
            clear hck hrk HQK
            obtain ⟨bi, oi, rfl, hvi⟩ := hri.2 i hlt
            have HCI := Lib.hid hci
            have HVI := Lib.hid hvi
            obtain ⟨vik, hvik⟩ : ∃ x, x = nth (nthR xs1 i) i := ⟨_, rfl⟩
            rw [← hvik] at HVI
            obtain ⟨qi, hqi⟩ : ∃ x, x = nth qs i := ⟨_, rfl⟩
            rw [← hqi] at HQI
            have hbv : 0 ≤ vik ∧ vik < p := by rw [hvik]; exact (HG.out i (by rw [HLN.out]; exact hlt)).2 i hlt
            have hbq : 0 ≤ qi ∧ qi < p := by rw [hqi]; exact HQB.out i hlt
            have HSK : Hid (skewN qs xs1 i i = qi * vik + qi * vik) := Lib.hid (by unfold skewN; rw [← hqi, ← hvik])
            have hm2 := mul_bd (x := qi) (y := vik) (p := p) (by omega) hbq.1 hbq.2 hbv.1 hbv.2
            obtain ⟨a2, ha2⟩ : ∃ x, x = qi * vik := ⟨_, rfl⟩
            rw [← ha2] at hm2
            obtain ⟨sm, hsm⟩ : ∃ x, x = a2 + a2 := ⟨_, rfl⟩
            obtain ⟨sr, hsr⟩ : ∃ x, x = sm % p := ⟨_, rfl⟩
            have HM2 := Lib.hid (show IntKind.i64.wrap (qi * vik) = a2 by rw [show qi * vik = a2 by rw [ha2]]; exact IntWalk.i64_in _ (by omega))
            have HAD := Lib.hid (show IntKind.i64.wrap (a2 + a2) = sm by rw [hsm]; exact IntWalk.i64_in _ (by omega))
            have HRM := Lib.hid (show sm.tmod p = sr by rw [hsr]; exact Int.tmod_eq_emod_of_nonneg (by omega))
            have HSR := Lib.hid hsr
            have HSS := Lib.hid (show sr = skewN qs xs1 i i % p by rw [HSK.out, hsr, hsm, ha2])
            clear hvik hqi ha2 hsm hsr hci hri hvi
            go_wp2_with (fail)
            refine wp_region_lex [(1, .val (.int .i64 p)), (29, .val (.int .i64 sr))] (by kernel_rfl) (by kernel_rfl) ?_
            (refine LexW.pure (v := ?_) rfl rfl (fun w1 he => ?_) ?_; rotate_left; ( have EE := ((HZ.out.trans (ext_drew _)).trans he); have q0 := EE.cell S0.out; have q1 := EE.cell S1.out; have r1 := EE.cell HCI.out; have v1 := EE.cell HVI.out; have t1 := EE.cell HQI.out; have m2 := HM2.out; have m3 := HAD.out; go_simp; rfl); simp only [Act.put, List.setIfInBounds_toArray, List.set_cons_zero, List.set_cons_succ])
            (refine LexW.call (f := ?_) (args := ?_) rfl rfl (fun w1 => ?_) (fun w1 he hdep => ?_) ?_; rotate_left 2; (go_simp; refine ⟨?_, ?_⟩ <;> rfl); ( exact c_field p _ w1); simp only [Act.put, List.setIfInBounds_toArray, List.set_cons_zero, List.set_cons_succ])
            (refine LexW.pure (v := ?_) rfl rfl (fun w1 he => ?_) ?_; rotate_left; ( have EE := ((HZ.out.trans (ext_drew _)).trans he); have q0 := EE.cell S0.out; have q1 := EE.cell S1.out; have r1 := EE.cell HCI.out; have v1 := EE.cell HVI.out; have t1 := EE.cell HQI.out; have m2 := HM2.out; have m3 := HAD.out; go_simp; rfl); simp only [Act.put, List.setIfInBounds_toArray, List.set_cons_zero, List.set_cons_succ])
            (refine LexW.pure (v := ?_) rfl rfl (fun w1 he => ?_) ?_; rotate_left; ( have EE := ((HZ.out.trans (ext_drew _)).trans he); have q0 := EE.cell S0.out; have q1 := EE.cell S1.out; have r1 := EE.cell HCI.out; have v1 := EE.cell HVI.out; have t1 := EE.cell HQI.out; have m2 := HM2.out; have m3 := HAD.out; go_simp; rfl); simp only [Act.put, List.setIfInBounds_toArray, List.set_cons_zero, List.set_cons_succ])
            (refine LexW.pure (v := ?_) rfl rfl (fun w1 he => ?_) ?_; rotate_left; ( have EE := ((HZ.out.trans (ext_drew _)).trans he); have q0 := EE.cell S0.out; have q1 := EE.cell S1.out; have r1 := EE.cell HCI.out; have v1 := EE.cell HVI.out; have t1 := EE.cell HQI.out; have m2 := HM2.out; have m3 := HAD.out; go_simp; rfl); simp only [Act.put, List.setIfInBounds_toArray, List.set_cons_zero, List.set_cons_succ])
            (refine LexW.pure (v := ?_) rfl rfl (fun w1 he => ?_) ?_; rotate_left; ( have EE := ((HZ.out.trans (ext_drew _)).trans he); have q0 := EE.cell S0.out; have q1 := EE.cell S1.out; have r1 := EE.cell HCI.out; have v1 := EE.cell HVI.out; have t1 := EE.cell HQI.out; have m2 := HM2.out; have m3 := HAD.out; go_simp; rfl); simp only [Act.put, List.setIfInBounds_toArray, List.set_cons_zero, List.set_cons_succ])
            (refine LexW.pure (v := ?_) rfl rfl (fun w1 he => ?_) ?_; rotate_left; ( have EE := ((HZ.out.trans (ext_drew _)).trans he); have q0 := EE.cell S0.out; have q1 := EE.cell S1.out; have r1 := EE.cell HCI.out; have v1 := EE.cell HVI.out; have t1 := EE.cell HQI.out; have m2 := HM2.out; have m3 := HAD.out; go_simp; rfl); simp only [Act.put, List.setIfInBounds_toArray, List.set_cons_zero, List.set_cons_succ])
            (refine LexW.pure (v := ?_) rfl rfl (fun w1 he => ?_) ?_; rotate_left; ( have EE := ((HZ.out.trans (ext_drew _)).trans he); have q0 := EE.cell S0.out; have q1 := EE.cell S1.out; have r1 := EE.cell HCI.out; have v1 := EE.cell HVI.out; have t1 := EE.cell HQI.out; have m2 := HM2.out; have m3 := HAD.out; go_simp; rfl); simp only [Act.put, List.setIfInBounds_toArray, List.set_cons_zero, List.set_cons_succ])
            (refine LexW.pure (v := ?_) rfl rfl (fun w1 he => ?_) ?_; rotate_left; ( have EE := ((HZ.out.trans (ext_drew _)).trans he); have q0 := EE.cell S0.out; have q1 := EE.cell S1.out; have r1 := EE.cell HCI.out; have v1 := EE.cell HVI.out; have t1 := EE.cell HQI.out; have m2 := HM2.out; have m3 := HAD.out; go_simp; rfl); simp only [Act.put, List.setIfInBounds_toArray, List.set_cons_zero, List.set_cons_succ])
            (refine LexW.pure (v := ?_) rfl rfl (fun w1 he => ?_) ?_; rotate_left; ( have EE := ((HZ.out.trans (ext_drew _)).trans he); have q0 := EE.cell S0.out; have q1 := EE.cell S1.out; have r1 := EE.cell HCI.out; have v1 := EE.cell HVI.out; have t1 := EE.cell HQI.out; have m2 := HM2.out; have m3 := HAD.out; go_simp; rfl); simp only [Act.put, List.setIfInBounds_toArray, List.set_cons_zero, List.set_cons_succ])
            (refine LexW.pure (v := ?_) rfl rfl (fun w1 he => ?_) ?_; rotate_left; ( have EE := ((HZ.out.trans (ext_drew _)).trans he); have q0 := EE.cell S0.out; have q1 := EE.cell S1.out; have r1 := EE.cell HCI.out; have v1 := EE.cell HVI.out; have t1 := EE.cell HQI.out; have m2 := HM2.out; have m3 := HAD.out; go_simp; rfl); simp only [Act.put, List.setIfInBounds_toArray, List.set_cons_zero, List.set_cons_succ])
            (refine LexW.pure (v := ?_) rfl rfl (fun w1 he => ?_) ?_; rotate_left; ( have EE := ((HZ.out.trans (ext_drew _)).trans he); have q0 := EE.cell S0.out; have q1 := EE.cell S1.out; have r1 := EE.cell HCI.out; have v1 := EE.cell HVI.out; have t1 := EE.cell HQI.out; have m2 := HM2.out; have m3 := HAD.out; go_simp; rfl); simp only [Act.put, List.setIfInBounds_toArray, List.set_cons_zero, List.set_cons_succ])
            (refine LexW.pure (v := ?_) rfl rfl (fun w1 he => ?_) ?_; rotate_left; ( have EE := ((HZ.out.trans (ext_drew _)).trans he); have q0 := EE.cell S0.out; have q1 := EE.cell S1.out; have r1 := EE.cell HCI.out; have v1 := EE.cell HVI.out; have t1 := EE.cell HQI.out; have m2 := HM2.out; have m3 := HAD.out; go_simp; rfl); simp only [Act.put, List.setIfInBounds_toArray, List.set_cons_zero, List.set_cons_succ])
            (refine LexW.pure (v := ?_) rfl rfl (fun w1 he => ?_) ?_; rotate_left; ( have EE := ((HZ.out.trans (ext_drew _)).trans he); have q0 := EE.cell S0.out; have q1 := EE.cell S1.out; have r1 := EE.cell HCI.out; have v1 := EE.cell HVI.out; have t1 := EE.cell HQI.out; have m2 := HM2.out; have m3 := HAD.out; go_simp; rfl); simp only [Act.put, List.setIfInBounds_toArray, List.set_cons_zero, List.set_cons_succ])
            (refine LexW.pure (v := ?_) rfl rfl (fun w1 he => ?_) ?_; rotate_left; ( have EE := ((HZ.out.trans (ext_drew _)).trans he); have q0 := EE.cell S0.out; have q1 := EE.cell S1.out; have r1 := EE.cell HCI.out; have v1 := EE.cell HVI.out; have t1 := EE.cell HQI.out; have m2 := HM2.out; have m3 := HAD.out; go_simp; rfl); simp only [Act.put, List.setIfInBounds_toArray, List.set_cons_zero, List.set_cons_succ])
            (refine LexW.pure (v := ?_) rfl rfl (fun w1 he => ?_) ?_; rotate_left; ( have EE := ((HZ.out.trans (ext_drew _)).trans he); have q0 := EE.cell S0.out; have q1 := EE.cell S1.out; have r1 := EE.cell HCI.out; have v1 := EE.cell HVI.out; have t1 := EE.cell HQI.out; have m2 := HM2.out; have m3 := HAD.out; go_simp; rfl); simp only [Act.put, List.setIfInBounds_toArray, List.set_cons_zero, List.set_cons_succ])
            (refine LexW.pure (v := ?_) rfl rfl (fun w1 he => ?_) ?_; rotate_left; ( have EE := ((HZ.out.trans (ext_drew _)).trans he); have q0 := EE.cell S0.out; have q1 := EE.cell S1.out; have r1 := EE.cell HCI.out; have v1 := EE.cell HVI.out; have t1 := EE.cell HQI.out; have m2 := HM2.out; have m3 := HAD.out; go_simp; rfl); simp only [Act.put, List.setIfInBounds_toArray, List.set_cons_zero, List.set_cons_succ])
            (refine LexW.pure (v := ?_) rfl rfl (fun w1 he => ?_) ?_; rotate_left; ( have EE := ((HZ.out.trans (ext_drew _)).trans he); have q0 := EE.cell S0.out; have q1 := EE.cell S1.out; have r1 := EE.cell HCI.out; have v1 := EE.cell HVI.out; have t1 := EE.cell HQI.out; have m2 := HM2.out; have m3 := HAD.out; go_simp; rfl); simp only [Act.put, List.setIfInBounds_toArray, List.set_cons_zero, List.set_cons_succ])
            (refine LexW.pure (v := ?_) rfl rfl (fun w1 he => ?_) ?_; rotate_left; ( have EE := ((HZ.out.trans (ext_drew _)).trans he); have q0 := EE.cell S0.out; have q1 := EE.cell S1.out; have r1 := EE.cell HCI.out; have v1 := EE.cell HVI.out; have t1 := EE.cell HQI.out; have m2 := HM2.out; have m3 := HAD.out; go_simp; rfl); simp only [Act.put, List.setIfInBounds_toArray, List.set_cons_zero, List.set_cons_succ])
            (refine LexW.pure (v := ?_) rfl rfl (fun w1 he => ?_) ?_; rotate_left; ( have EE := ((HZ.out.trans (ext_drew _)).trans he); have q0 := EE.cell S0.out; have q1 := EE.cell S1.out; have r1 := EE.cell HCI.out; have v1 := EE.cell HVI.out; have t1 := EE.cell HQI.out; have m2 := HM2.out; have m3 := HAD.out; go_simp; rfl); simp only [Act.put, List.setIfInBounds_toArray, List.set_cons_zero, List.set_cons_succ])
            (refine LexW.pure (v := ?_) rfl rfl (fun w1 he => ?_) ?_; rotate_left; ( have EE := ((HZ.out.trans (ext_drew _)).trans he); have q0 := EE.cell S0.out; have q1 := EE.cell S1.out; have r1 := EE.cell HCI.out; have v1 := EE.cell HVI.out; have t1 := EE.cell HQI.out; have m2 := HM2.out; have m3 := HAD.out; go_simp; rfl); simp only [Act.put, List.setIfInBounds_toArray, List.set_cons_zero, List.set_cons_succ])
            (refine LexW.pure (v := ?_) rfl rfl (fun w1 he => ?_) ?_; rotate_left; ( have EE := ((HZ.out.trans (ext_drew _)).trans he); have q0 := EE.cell S0.out; have q1 := EE.cell S1.out; have r1 := EE.cell HCI.out; have v1 := EE.cell HVI.out; have t1 := EE.cell HQI.out; have m2 := HM2.out; have m3 := HAD.out; go_simp; rfl); simp only [Act.put, List.setIfInBounds_toArray, List.set_cons_zero, List.set_cons_succ])
            (refine LexW.pure (v := ?_) rfl rfl (fun w1 he => ?_) ?_; rotate_left; ( have EE := ((HZ.out.trans (ext_drew _)).trans he); have q0 := EE.cell S0.out; have q1 := EE.cell S1.out; have r1 := EE.cell HCI.out; have v1 := EE.cell HVI.out; have t1 := EE.cell HQI.out; have m2 := HM2.out; have m3 := HAD.out; go_simp; rfl); simp only [Act.put, List.setIfInBounds_toArray, List.set_cons_zero, List.set_cons_succ])
            (refine LexW.pure (v := ?_) rfl rfl (fun w1 he => ?_) ?_; rotate_left; ( have EE := ((HZ.out.trans (ext_drew _)).trans he); have q0 := EE.cell S0.out; have q1 := EE.cell S1.out; have r1 := EE.cell HCI.out; have v1 := EE.cell HVI.out; have t1 := EE.cell HQI.out; have m2 := HM2.out; have m3 := HAD.out; go_simp; rfl); simp only [Act.put, List.setIfInBounds_toArray, List.set_cons_zero, List.set_cons_succ])
            (refine LexW.pure (v := ?_) rfl rfl (fun w1 he => ?_) ?_; rotate_left; ( have EE := ((HZ.out.trans (ext_drew _)).trans he); have q0 := EE.cell S0.out; have q1 := EE.cell S1.out; have r1 := EE.cell HCI.out; have v1 := EE.cell HVI.out; have t1 := EE.cell HQI.out; have m2 := HM2.out; have m3 := HAD.out; go_simp; rfl); simp only [Act.put, List.setIfInBounds_toArray, List.set_cons_zero, List.set_cons_succ])
            (refine LexW.pure (v := ?_) rfl rfl (fun w1 he => ?_) ?_; rotate_left; ( have EE := ((HZ.out.trans (ext_drew _)).trans he); have q0 := EE.cell S0.out; have q1 := EE.cell S1.out; have r1 := EE.cell HCI.out; have v1 := EE.cell HVI.out; have t1 := EE.cell HQI.out; have m2 := HM2.out; have m3 := HAD.out; go_simp; rfl); simp only [Act.put, List.setIfInBounds_toArray, List.set_cons_zero, List.set_cons_succ])
            (refine LexW.pure (v := ?_) rfl rfl (fun w1 he => ?_) ?_; rotate_left; ( have EE := ((HZ.out.trans (ext_drew _)).trans he); have q0 := EE.cell S0.out; have q1 := EE.cell S1.out; have r1 := EE.cell HCI.out; have v1 := EE.cell HVI.out; have t1 := EE.cell HQI.out; have m2 := HM2.out; have m3 := HAD.out; go_simp; rfl); simp only [Act.put, List.setIfInBounds_toArray, List.set_cons_zero, List.set_cons_succ])
            (refine LexW.pure (v := ?_) rfl rfl (fun w1 he => ?_) ?_; rotate_left; ( have EE := ((HZ.out.trans (ext_drew _)).trans he); have q0 := EE.cell S0.out; have q1 := EE.cell S1.out; have r1 := EE.cell HCI.out; have v1 := EE.cell HVI.out; have t1 := EE.cell HQI.out; have m2 := HM2.out; have m3 := HAD.out; go_simp; rfl); simp only [Act.put, List.setIfInBounds_toArray, List.set_cons_zero, List.set_cons_succ])
            (refine LexW.pure (v := ?_) rfl rfl (fun w1 he => ?_) ?_; rotate_left; ( have EE := ((HZ.out.trans (ext_drew _)).trans he); have q0 := EE.cell S0.out; have q1 := EE.cell S1.out; have r1 := EE.cell HCI.out; have v1 := EE.cell HVI.out; have t1 := EE.cell HQI.out; have m2 := HM2.out; have m3 := HAD.out; go_simp; rfl); simp only [Act.put, List.setIfInBounds_toArray, List.set_cons_zero, List.set_cons_succ])
            (refine LexW.call (f := ?_) (args := ?_) rfl rfl (fun w1 => ?_) (fun w1 he hdep => ?_) ?_; rotate_left 2; (go_simp; refine ⟨?_, ?_⟩ <;> rfl); ( rw [HSR.out]; exact c_num p sm w1 (by omega) (by omega)); simp only [Act.put, List.setIfInBounds_toArray, List.set_cons_zero, List.set_cons_succ])
            (refine LexW.pure (v := ?_) rfl rfl (fun w1 he => ?_) ?_; rotate_left; ( have EE := ((HZ.out.trans (ext_drew _)).trans he); have q0 := EE.cell S0.out; have q1 := EE.cell S1.out; have r1 := EE.cell HCI.out; have v1 := EE.cell HVI.out; have t1 := EE.cell HQI.out; have m2 := HM2.out; have m3 := HAD.out; go_simp; rfl); simp only [Act.put, List.setIfInBounds_toArray, List.set_cons_zero, List.set_cons_succ])
            refine LexW.nil (fun w3 he hkn => ?_)
            have HE := Lib.hid ((HZ.out.trans (ext_drew _)).trans he)
            clear he hkn 
            rename World => z2
            by_cases hz : sr = 0
            · have hzb : (sr != 0) = false := by simp [hz]
              have HOK := Lib.hid (show skewN qs xs1 i i % p = 0 by rw [← HSS.out]; exact hz)
              clear hz
              go_wp2_with (fail)
              go_roundw
              case rel => exact ⟨i + 1, by omega, by go_num, Lib.hid (fun k' h => by
                by_cases hkk : k' = i
                · subst hkk; exact HOK.out
                · exact HK.out k' (by omega)), HE⟩
              case measure => simp [intOf] <;> omega
            · have hzb : (sr != 0) = true := by simp [hz]
              have HB := Lib.hid (skewB_at (p := p) (qs := qs) (rows := xs1) (i := i) (k := i) hlt hlt (by rw [← HSS.out]; exact hz))
              clear hz
              go_wp2_with (fail)
              go_ret
              exact ⟨ret_bool HB.out.symm, GW.out.trans HE.out⟩
          obtain ⟨bi, oi, rfl, hvi⟩ := hri.2 k hlt2
          obtain ⟨bk, ok, rfl, hvk⟩ := hrk.2 i hlt
          have HCI := Lib.hid hci
          have HCK := Lib.hid hck
          have HVI := Lib.hid hvi
          have HVK := Lib.hid hvk
          obtain ⟨vik, hvik⟩ : ∃ x, x = nth (nthR xs1 i) k := ⟨_, rfl⟩
          rw [← hvik] at HVI
          obtain ⟨vki, hvki⟩ : ∃ x, x = nth (nthR xs1 k) i := ⟨_, rfl⟩
          rw [← hvki] at HVK
          obtain ⟨qi, hqi⟩ : ∃ x, x = nth qs i := ⟨_, rfl⟩
          rw [← hqi] at HQI
          obtain ⟨qk, hqk⟩ : ∃ x, x = nth qs k := ⟨_, rfl⟩
          rw [← hqk] at HQK
          have hbv : 0 ≤ vik ∧ vik < p := by rw [hvik]; exact (HG.out i (by rw [HLN.out]; exact hlt)).2 k hlt2
          have hbw : 0 ≤ vki ∧ vki < p := by rw [hvki]; exact (HG.out k (by rw [HLN.out]; exact hlt2)).2 i hlt
          have hbq : 0 ≤ qi ∧ qi < p := by rw [hqi]; exact HQB.out i hlt
          have hbr : 0 ≤ qk ∧ qk < p := by rw [hqk]; exact HQB.out k hlt2
          have HSK : Hid (skewN qs xs1 i k = qk * vki + qi * vik) := Lib.hid (by unfold skewN; rw [← hqi, ← hvik, ← hqk, ← hvki])
          clear hck hrk
          have hm1 := mul_bd (x := qk) (y := vki) (p := p) (by omega) hbr.1 hbr.2 hbw.1 hbw.2
          have hm2 := mul_bd (x := qi) (y := vik) (p := p) (by omega) hbq.1 hbq.2 hbv.1 hbv.2
          obtain ⟨a1, ha1⟩ : ∃ x, x = qk * vki := ⟨_, rfl⟩
          obtain ⟨a2, ha2⟩ : ∃ x, x = qi * vik := ⟨_, rfl⟩
          rw [← ha1] at hm1
          rw [← ha2] at hm2
          obtain ⟨sm, hsm⟩ : ∃ x, x = a1 + a2 := ⟨_, rfl⟩
          obtain ⟨sr, hsr⟩ : ∃ x, x = sm % p := ⟨_, rfl⟩
          have HM1 := Lib.hid (show IntKind.i64.wrap (qk * vki) = a1 by rw [show qk * vki = a1 by rw [ha1]]; exact IntWalk.i64_in _ (by omega))
          have HM2 := Lib.hid (show IntKind.i64.wrap (qi * vik) = a2 by rw [show qi * vik = a2 by rw [ha2]]; exact IntWalk.i64_in _ (by omega))
          have HAD := Lib.hid (show IntKind.i64.wrap (a1 + a2) = sm by rw [hsm]; exact IntWalk.i64_in _ (by omega))
          have HRM := Lib.hid (show sm.tmod p = sr by rw [hsr]; exact Int.tmod_eq_emod_of_nonneg (by omega))
          have HSR := Lib.hid hsr
          have HSS := Lib.hid (show sr = skewN qs xs1 i k % p by rw [HSK.out, hsr, hsm, ha1, ha2])
          clear hvik hqi ha2 hsm hsr hci hri hvi hvk hvki hqk ha1
          go_wp2_with (fail)
          refine wp_region_lex [(1, .val (.int .i64 p)), (29, .val (.int .i64 sr))] (by kernel_rfl) (by kernel_rfl) ?_
          (refine LexW.pure (v := ?_) rfl rfl (fun w1 he => ?_) ?_; rotate_left; ( have EE := ((HZ.out.trans (ext_drew _)).trans he); have q0 := EE.cell S0.out; have q1 := EE.cell S1.out; have r1 := EE.cell HCI.out; have v1 := EE.cell HVI.out; have t1 := EE.cell HQI.out; have m2 := HM2.out; have m3 := HAD.out; have m1 := HM1.out; have r2 := EE.cell HCK.out; have v2 := EE.cell HVK.out; have t2 := EE.cell HQK.out; go_simp; rfl); simp only [Act.put, List.setIfInBounds_toArray, List.set_cons_zero, List.set_cons_succ])
          (refine LexW.call (f := ?_) (args := ?_) rfl rfl (fun w1 => ?_) (fun w1 he hdep => ?_) ?_; rotate_left 2; (go_simp; refine ⟨?_, ?_⟩ <;> rfl); ( exact c_field p _ w1); simp only [Act.put, List.setIfInBounds_toArray, List.set_cons_zero, List.set_cons_succ])
          (refine LexW.pure (v := ?_) rfl rfl (fun w1 he => ?_) ?_; rotate_left; ( have EE := ((HZ.out.trans (ext_drew _)).trans he); have q0 := EE.cell S0.out; have q1 := EE.cell S1.out; have r1 := EE.cell HCI.out; have v1 := EE.cell HVI.out; have t1 := EE.cell HQI.out; have m2 := HM2.out; have m3 := HAD.out; have m1 := HM1.out; have r2 := EE.cell HCK.out; have v2 := EE.cell HVK.out; have t2 := EE.cell HQK.out; go_simp; rfl); simp only [Act.put, List.setIfInBounds_toArray, List.set_cons_zero, List.set_cons_succ])
          (refine LexW.pure (v := ?_) rfl rfl (fun w1 he => ?_) ?_; rotate_left; ( have EE := ((HZ.out.trans (ext_drew _)).trans he); have q0 := EE.cell S0.out; have q1 := EE.cell S1.out; have r1 := EE.cell HCI.out; have v1 := EE.cell HVI.out; have t1 := EE.cell HQI.out; have m2 := HM2.out; have m3 := HAD.out; have m1 := HM1.out; have r2 := EE.cell HCK.out; have v2 := EE.cell HVK.out; have t2 := EE.cell HQK.out; go_simp; rfl); simp only [Act.put, List.setIfInBounds_toArray, List.set_cons_zero, List.set_cons_succ])
          (refine LexW.pure (v := ?_) rfl rfl (fun w1 he => ?_) ?_; rotate_left; ( have EE := ((HZ.out.trans (ext_drew _)).trans he); have q0 := EE.cell S0.out; have q1 := EE.cell S1.out; have r1 := EE.cell HCI.out; have v1 := EE.cell HVI.out; have t1 := EE.cell HQI.out; have m2 := HM2.out; have m3 := HAD.out; have m1 := HM1.out; have r2 := EE.cell HCK.out; have v2 := EE.cell HVK.out; have t2 := EE.cell HQK.out; go_simp; rfl); simp only [Act.put, List.setIfInBounds_toArray, List.set_cons_zero, List.set_cons_succ])
          (refine LexW.pure (v := ?_) rfl rfl (fun w1 he => ?_) ?_; rotate_left; ( have EE := ((HZ.out.trans (ext_drew _)).trans he); have q0 := EE.cell S0.out; have q1 := EE.cell S1.out; have r1 := EE.cell HCI.out; have v1 := EE.cell HVI.out; have t1 := EE.cell HQI.out; have m2 := HM2.out; have m3 := HAD.out; have m1 := HM1.out; have r2 := EE.cell HCK.out; have v2 := EE.cell HVK.out; have t2 := EE.cell HQK.out; go_simp; rfl); simp only [Act.put, List.setIfInBounds_toArray, List.set_cons_zero, List.set_cons_succ])
          (refine LexW.pure (v := ?_) rfl rfl (fun w1 he => ?_) ?_; rotate_left; ( have EE := ((HZ.out.trans (ext_drew _)).trans he); have q0 := EE.cell S0.out; have q1 := EE.cell S1.out; have r1 := EE.cell HCI.out; have v1 := EE.cell HVI.out; have t1 := EE.cell HQI.out; have m2 := HM2.out; have m3 := HAD.out; have m1 := HM1.out; have r2 := EE.cell HCK.out; have v2 := EE.cell HVK.out; have t2 := EE.cell HQK.out; go_simp; rfl); simp only [Act.put, List.setIfInBounds_toArray, List.set_cons_zero, List.set_cons_succ])
          (refine LexW.pure (v := ?_) rfl rfl (fun w1 he => ?_) ?_; rotate_left; ( have EE := ((HZ.out.trans (ext_drew _)).trans he); have q0 := EE.cell S0.out; have q1 := EE.cell S1.out; have r1 := EE.cell HCI.out; have v1 := EE.cell HVI.out; have t1 := EE.cell HQI.out; have m2 := HM2.out; have m3 := HAD.out; have m1 := HM1.out; have r2 := EE.cell HCK.out; have v2 := EE.cell HVK.out; have t2 := EE.cell HQK.out; go_simp; rfl); simp only [Act.put, List.setIfInBounds_toArray, List.set_cons_zero, List.set_cons_succ])
          (refine LexW.pure (v := ?_) rfl rfl (fun w1 he => ?_) ?_; rotate_left; ( have EE := ((HZ.out.trans (ext_drew _)).trans he); have q0 := EE.cell S0.out; have q1 := EE.cell S1.out; have r1 := EE.cell HCI.out; have v1 := EE.cell HVI.out; have t1 := EE.cell HQI.out; have m2 := HM2.out; have m3 := HAD.out; have m1 := HM1.out; have r2 := EE.cell HCK.out; have v2 := EE.cell HVK.out; have t2 := EE.cell HQK.out; go_simp; rfl); simp only [Act.put, List.setIfInBounds_toArray, List.set_cons_zero, List.set_cons_succ])
          (refine LexW.pure (v := ?_) rfl rfl (fun w1 he => ?_) ?_; rotate_left; ( have EE := ((HZ.out.trans (ext_drew _)).trans he); have q0 := EE.cell S0.out; have q1 := EE.cell S1.out; have r1 := EE.cell HCI.out; have v1 := EE.cell HVI.out; have t1 := EE.cell HQI.out; have m2 := HM2.out; have m3 := HAD.out; have m1 := HM1.out; have r2 := EE.cell HCK.out; have v2 := EE.cell HVK.out; have t2 := EE.cell HQK.out; go_simp; rfl); simp only [Act.put, List.setIfInBounds_toArray, List.set_cons_zero, List.set_cons_succ])
          (refine LexW.pure (v := ?_) rfl rfl (fun w1 he => ?_) ?_; rotate_left; ( have EE := ((HZ.out.trans (ext_drew _)).trans he); have q0 := EE.cell S0.out; have q1 := EE.cell S1.out; have r1 := EE.cell HCI.out; have v1 := EE.cell HVI.out; have t1 := EE.cell HQI.out; have m2 := HM2.out; have m3 := HAD.out; have m1 := HM1.out; have r2 := EE.cell HCK.out; have v2 := EE.cell HVK.out; have t2 := EE.cell HQK.out; go_simp; rfl); simp only [Act.put, List.setIfInBounds_toArray, List.set_cons_zero, List.set_cons_succ])
          (refine LexW.pure (v := ?_) rfl rfl (fun w1 he => ?_) ?_; rotate_left; ( have EE := ((HZ.out.trans (ext_drew _)).trans he); have q0 := EE.cell S0.out; have q1 := EE.cell S1.out; have r1 := EE.cell HCI.out; have v1 := EE.cell HVI.out; have t1 := EE.cell HQI.out; have m2 := HM2.out; have m3 := HAD.out; have m1 := HM1.out; have r2 := EE.cell HCK.out; have v2 := EE.cell HVK.out; have t2 := EE.cell HQK.out; go_simp; rfl); simp only [Act.put, List.setIfInBounds_toArray, List.set_cons_zero, List.set_cons_succ])
          (refine LexW.pure (v := ?_) rfl rfl (fun w1 he => ?_) ?_; rotate_left; ( have EE := ((HZ.out.trans (ext_drew _)).trans he); have q0 := EE.cell S0.out; have q1 := EE.cell S1.out; have r1 := EE.cell HCI.out; have v1 := EE.cell HVI.out; have t1 := EE.cell HQI.out; have m2 := HM2.out; have m3 := HAD.out; have m1 := HM1.out; have r2 := EE.cell HCK.out; have v2 := EE.cell HVK.out; have t2 := EE.cell HQK.out; go_simp; rfl); simp only [Act.put, List.setIfInBounds_toArray, List.set_cons_zero, List.set_cons_succ])
          (refine LexW.pure (v := ?_) rfl rfl (fun w1 he => ?_) ?_; rotate_left; ( have EE := ((HZ.out.trans (ext_drew _)).trans he); have q0 := EE.cell S0.out; have q1 := EE.cell S1.out; have r1 := EE.cell HCI.out; have v1 := EE.cell HVI.out; have t1 := EE.cell HQI.out; have m2 := HM2.out; have m3 := HAD.out; have m1 := HM1.out; have r2 := EE.cell HCK.out; have v2 := EE.cell HVK.out; have t2 := EE.cell HQK.out; go_simp; rfl); simp only [Act.put, List.setIfInBounds_toArray, List.set_cons_zero, List.set_cons_succ])
          (refine LexW.pure (v := ?_) rfl rfl (fun w1 he => ?_) ?_; rotate_left; ( have EE := ((HZ.out.trans (ext_drew _)).trans he); have q0 := EE.cell S0.out; have q1 := EE.cell S1.out; have r1 := EE.cell HCI.out; have v1 := EE.cell HVI.out; have t1 := EE.cell HQI.out; have m2 := HM2.out; have m3 := HAD.out; have m1 := HM1.out; have r2 := EE.cell HCK.out; have v2 := EE.cell HVK.out; have t2 := EE.cell HQK.out; go_simp; rfl); simp only [Act.put, List.setIfInBounds_toArray, List.set_cons_zero, List.set_cons_succ])
          (refine LexW.pure (v := ?_) rfl rfl (fun w1 he => ?_) ?_; rotate_left; ( have EE := ((HZ.out.trans (ext_drew _)).trans he); have q0 := EE.cell S0.out; have q1 := EE.cell S1.out; have r1 := EE.cell HCI.out; have v1 := EE.cell HVI.out; have t1 := EE.cell HQI.out; have m2 := HM2.out; have m3 := HAD.out; have m1 := HM1.out; have r2 := EE.cell HCK.out; have v2 := EE.cell HVK.out; have t2 := EE.cell HQK.out; go_simp; rfl); simp only [Act.put, List.setIfInBounds_toArray, List.set_cons_zero, List.set_cons_succ])
          (refine LexW.pure (v := ?_) rfl rfl (fun w1 he => ?_) ?_; rotate_left; ( have EE := ((HZ.out.trans (ext_drew _)).trans he); have q0 := EE.cell S0.out; have q1 := EE.cell S1.out; have r1 := EE.cell HCI.out; have v1 := EE.cell HVI.out; have t1 := EE.cell HQI.out; have m2 := HM2.out; have m3 := HAD.out; have m1 := HM1.out; have r2 := EE.cell HCK.out; have v2 := EE.cell HVK.out; have t2 := EE.cell HQK.out; go_simp; rfl); simp only [Act.put, List.setIfInBounds_toArray, List.set_cons_zero, List.set_cons_succ])
          (refine LexW.pure (v := ?_) rfl rfl (fun w1 he => ?_) ?_; rotate_left; ( have EE := ((HZ.out.trans (ext_drew _)).trans he); have q0 := EE.cell S0.out; have q1 := EE.cell S1.out; have r1 := EE.cell HCI.out; have v1 := EE.cell HVI.out; have t1 := EE.cell HQI.out; have m2 := HM2.out; have m3 := HAD.out; have m1 := HM1.out; have r2 := EE.cell HCK.out; have v2 := EE.cell HVK.out; have t2 := EE.cell HQK.out; go_simp; rfl); simp only [Act.put, List.setIfInBounds_toArray, List.set_cons_zero, List.set_cons_succ])
          (refine LexW.pure (v := ?_) rfl rfl (fun w1 he => ?_) ?_; rotate_left; ( have EE := ((HZ.out.trans (ext_drew _)).trans he); have q0 := EE.cell S0.out; have q1 := EE.cell S1.out; have r1 := EE.cell HCI.out; have v1 := EE.cell HVI.out; have t1 := EE.cell HQI.out; have m2 := HM2.out; have m3 := HAD.out; have m1 := HM1.out; have r2 := EE.cell HCK.out; have v2 := EE.cell HVK.out; have t2 := EE.cell HQK.out; go_simp; rfl); simp only [Act.put, List.setIfInBounds_toArray, List.set_cons_zero, List.set_cons_succ])
          (refine LexW.pure (v := ?_) rfl rfl (fun w1 he => ?_) ?_; rotate_left; ( have EE := ((HZ.out.trans (ext_drew _)).trans he); have q0 := EE.cell S0.out; have q1 := EE.cell S1.out; have r1 := EE.cell HCI.out; have v1 := EE.cell HVI.out; have t1 := EE.cell HQI.out; have m2 := HM2.out; have m3 := HAD.out; have m1 := HM1.out; have r2 := EE.cell HCK.out; have v2 := EE.cell HVK.out; have t2 := EE.cell HQK.out; go_simp; rfl); simp only [Act.put, List.setIfInBounds_toArray, List.set_cons_zero, List.set_cons_succ])
          (refine LexW.pure (v := ?_) rfl rfl (fun w1 he => ?_) ?_; rotate_left; ( have EE := ((HZ.out.trans (ext_drew _)).trans he); have q0 := EE.cell S0.out; have q1 := EE.cell S1.out; have r1 := EE.cell HCI.out; have v1 := EE.cell HVI.out; have t1 := EE.cell HQI.out; have m2 := HM2.out; have m3 := HAD.out; have m1 := HM1.out; have r2 := EE.cell HCK.out; have v2 := EE.cell HVK.out; have t2 := EE.cell HQK.out; go_simp; rfl); simp only [Act.put, List.setIfInBounds_toArray, List.set_cons_zero, List.set_cons_succ])
          (refine LexW.pure (v := ?_) rfl rfl (fun w1 he => ?_) ?_; rotate_left; ( have EE := ((HZ.out.trans (ext_drew _)).trans he); have q0 := EE.cell S0.out; have q1 := EE.cell S1.out; have r1 := EE.cell HCI.out; have v1 := EE.cell HVI.out; have t1 := EE.cell HQI.out; have m2 := HM2.out; have m3 := HAD.out; have m1 := HM1.out; have r2 := EE.cell HCK.out; have v2 := EE.cell HVK.out; have t2 := EE.cell HQK.out; go_simp; rfl); simp only [Act.put, List.setIfInBounds_toArray, List.set_cons_zero, List.set_cons_succ])
          (refine LexW.pure (v := ?_) rfl rfl (fun w1 he => ?_) ?_; rotate_left; ( have EE := ((HZ.out.trans (ext_drew _)).trans he); have q0 := EE.cell S0.out; have q1 := EE.cell S1.out; have r1 := EE.cell HCI.out; have v1 := EE.cell HVI.out; have t1 := EE.cell HQI.out; have m2 := HM2.out; have m3 := HAD.out; have m1 := HM1.out; have r2 := EE.cell HCK.out; have v2 := EE.cell HVK.out; have t2 := EE.cell HQK.out; go_simp; rfl); simp only [Act.put, List.setIfInBounds_toArray, List.set_cons_zero, List.set_cons_succ])
          (refine LexW.pure (v := ?_) rfl rfl (fun w1 he => ?_) ?_; rotate_left; ( have EE := ((HZ.out.trans (ext_drew _)).trans he); have q0 := EE.cell S0.out; have q1 := EE.cell S1.out; have r1 := EE.cell HCI.out; have v1 := EE.cell HVI.out; have t1 := EE.cell HQI.out; have m2 := HM2.out; have m3 := HAD.out; have m1 := HM1.out; have r2 := EE.cell HCK.out; have v2 := EE.cell HVK.out; have t2 := EE.cell HQK.out; go_simp; rfl); simp only [Act.put, List.setIfInBounds_toArray, List.set_cons_zero, List.set_cons_succ])
          (refine LexW.pure (v := ?_) rfl rfl (fun w1 he => ?_) ?_; rotate_left; ( have EE := ((HZ.out.trans (ext_drew _)).trans he); have q0 := EE.cell S0.out; have q1 := EE.cell S1.out; have r1 := EE.cell HCI.out; have v1 := EE.cell HVI.out; have t1 := EE.cell HQI.out; have m2 := HM2.out; have m3 := HAD.out; have m1 := HM1.out; have r2 := EE.cell HCK.out; have v2 := EE.cell HVK.out; have t2 := EE.cell HQK.out; go_simp; rfl); simp only [Act.put, List.setIfInBounds_toArray, List.set_cons_zero, List.set_cons_succ])
          (refine LexW.pure (v := ?_) rfl rfl (fun w1 he => ?_) ?_; rotate_left; ( have EE := ((HZ.out.trans (ext_drew _)).trans he); have q0 := EE.cell S0.out; have q1 := EE.cell S1.out; have r1 := EE.cell HCI.out; have v1 := EE.cell HVI.out; have t1 := EE.cell HQI.out; have m2 := HM2.out; have m3 := HAD.out; have m1 := HM1.out; have r2 := EE.cell HCK.out; have v2 := EE.cell HVK.out; have t2 := EE.cell HQK.out; go_simp; rfl); simp only [Act.put, List.setIfInBounds_toArray, List.set_cons_zero, List.set_cons_succ])
          (refine LexW.pure (v := ?_) rfl rfl (fun w1 he => ?_) ?_; rotate_left; ( have EE := ((HZ.out.trans (ext_drew _)).trans he); have q0 := EE.cell S0.out; have q1 := EE.cell S1.out; have r1 := EE.cell HCI.out; have v1 := EE.cell HVI.out; have t1 := EE.cell HQI.out; have m2 := HM2.out; have m3 := HAD.out; have m1 := HM1.out; have r2 := EE.cell HCK.out; have v2 := EE.cell HVK.out; have t2 := EE.cell HQK.out; go_simp; rfl); simp only [Act.put, List.setIfInBounds_toArray, List.set_cons_zero, List.set_cons_succ])
          (refine LexW.pure (v := ?_) rfl rfl (fun w1 he => ?_) ?_; rotate_left; ( have EE := ((HZ.out.trans (ext_drew _)).trans he); have q0 := EE.cell S0.out; have q1 := EE.cell S1.out; have r1 := EE.cell HCI.out; have v1 := EE.cell HVI.out; have t1 := EE.cell HQI.out; have m2 := HM2.out; have m3 := HAD.out; have m1 := HM1.out; have r2 := EE.cell HCK.out; have v2 := EE.cell HVK.out; have t2 := EE.cell HQK.out; go_simp; rfl); simp only [Act.put, List.setIfInBounds_toArray, List.set_cons_zero, List.set_cons_succ])
          (refine LexW.pure (v := ?_) rfl rfl (fun w1 he => ?_) ?_; rotate_left; ( have EE := ((HZ.out.trans (ext_drew _)).trans he); have q0 := EE.cell S0.out; have q1 := EE.cell S1.out; have r1 := EE.cell HCI.out; have v1 := EE.cell HVI.out; have t1 := EE.cell HQI.out; have m2 := HM2.out; have m3 := HAD.out; have m1 := HM1.out; have r2 := EE.cell HCK.out; have v2 := EE.cell HVK.out; have t2 := EE.cell HQK.out; go_simp; rfl); simp only [Act.put, List.setIfInBounds_toArray, List.set_cons_zero, List.set_cons_succ])
          (refine LexW.call (f := ?_) (args := ?_) rfl rfl (fun w1 => ?_) (fun w1 he hdep => ?_) ?_; rotate_left 2; (go_simp; refine ⟨?_, ?_⟩ <;> rfl); ( rw [HSR.out]; exact c_num p sm w1 (by omega) (by omega)); simp only [Act.put, List.setIfInBounds_toArray, List.set_cons_zero, List.set_cons_succ])
          (refine LexW.pure (v := ?_) rfl rfl (fun w1 he => ?_) ?_; rotate_left; ( have EE := ((HZ.out.trans (ext_drew _)).trans he); have q0 := EE.cell S0.out; have q1 := EE.cell S1.out; have r1 := EE.cell HCI.out; have v1 := EE.cell HVI.out; have t1 := EE.cell HQI.out; have m2 := HM2.out; have m3 := HAD.out; have m1 := HM1.out; have r2 := EE.cell HCK.out; have v2 := EE.cell HVK.out; have t2 := EE.cell HQK.out; go_simp; rfl); simp only [Act.put, List.setIfInBounds_toArray, List.set_cons_zero, List.set_cons_succ])
          refine LexW.nil (fun w3 he hkn => ?_)
          have HE := Lib.hid ((HZ.out.trans (ext_drew _)).trans he)
          clear he hkn 
          rename World => z2
          by_cases hz : sr = 0
          · have hzb : (sr != 0) = false := by simp [hz]
            have HOK := Lib.hid (show skewN qs xs1 i k % p = 0 by rw [← HSS.out]; exact hz)
            clear hz
            go_wp2_with (fail)
            go_roundw
            case rel => exact ⟨k + 1, by omega, by go_num, Lib.hid (fun k' h => by
              by_cases hkk : k' = k
              · subst hkk; exact HOK.out
              · exact HK.out k' (by omega)), HE⟩
            case measure => simp [intOf] <;> omega
          · have hzb : (sr != 0) = true := by simp [hz]
            have HB := Lib.hid (skewB_at (p := p) (qs := qs) (rows := xs1) (i := i) (k := k) hlt hlt2 (by rw [← HSS.out]; exact hz))
            clear hz
            go_wp2_with (fail)
            go_ret
            exact ⟨ret_bool HB.out.symm, GW.out.trans HE.out⟩
        · obtain rfl : k = d := by omega
          go_wp2_with (fail)
          go_roundw
          case rel => exact ⟨i + 1, by omega, by go_num, Lib.hid (fun i' h => by
            by_cases hii : i' = i
            · subst hii; exact HK.out
            · exact HA.out i' (by omega)), HZ⟩
          case measure => simp [intOf]; omega
    · obtain rfl : i = d := by omega
      have HB := Lib.hid (skewB_yes (p := p) (qs := qs) (rows := xs1) HA.out)
      go_wp2_with (fail)
      go_ret
      exact ⟨ret_bool HB.out.symm, GW.out.trans HY.out⟩
set_option maxHeartbeats 16000000 in
set_option maxRecDepth 100000 in
theorem s_skew (p : Int) (a : Option Addr) (d cap : Nat) (qs : List Int) (ax1 : Option Addr) (cx1 : Nat) (xs1 : List (List Int)) (w : World) (hp1 : 3 ≤ p) (hp2 : p ≤ 1000) (hd : d ≤ 6) (hq : RdC w a d qs) (hqb : ∀ i, i < d → 0 ≤ nth qs i ∧ nth qs i < p) (hx1 : RdR w ax1 d xs1) (hg : RowsG p d xs1) :
    Calls Try.prog 51 #[.agg #[.int .i64 p, .slice a d cap], .slice ax1 d cx1] w fun e w' => e = .returned (.bool (skewB p qs xs1 d)) ∧ Ext w w' := by
  have hpz : ¬ p = 0 := by omega
  have HQ := Lib.hid hq
  have HQB := Lib.hid hqb
  have HX := Lib.hid hx1
  have HG := Lib.hid hg
  have HLN := Lib.hid hx1.1
  clear hq hqb hx1 hg
  go_enter Try.func51, Try.ntmps51
  go_wp2_with (fail)
  obtain ⟨W, hW⟩ : ∃ W, W = w.alloc (.cells #[.int .i64 p, .slice a d cap] 30) := ⟨_, rfl⟩
  obtain ⟨O, hO⟩ : ∃ O, O = w.heap.size := ⟨_, rfl⟩
  have GW := Lib.hid (show Ext w W by rw [hW]; exact ext_alloc _ _)
  have S0 := Lib.hid (show W.cell? ⟨O, 0, none⟩ = some (.int .i64 p) by rw [hW, hO]; simp)
  have S1 := Lib.hid (show W.cell? ⟨O, 1, none⟩ = some (.slice a d cap) by rw [hW, hO]; simp)
  rw [← hW, ← hO]
  clear hW hO
  go_loopw [5] (fun x wr => ∃ (i : Nat), i ≤ d ∧ x = .int .i64 i ∧ Hid (∀ i', i' < i → ∀ k, k < d → skewN qs xs1 i' k % p = 0) ∧ Hid (Ext W wr)) (fun x _ => d - (intOf x).toNat)
  case atStart => exact ⟨0, Nat.zero_le _, rfl, Lib.hid (fun i' h => by omega), Lib.hid (Ext.refl _)⟩
  case round =>
    rename World => y
    obtain ⟨i, hi, rfl, HA, HY⟩ := hrel
    by_cases hlt : i < d
    · go_wp2_with (fail)
      go_loopw [6] (fun x wr => ∃ (k : Nat), k ≤ d ∧ x = .int .i64 k ∧ Hid (∀ k', k' < k → skewN qs xs1 i k' % p = 0) ∧ Hid (Ext W wr)) (fun x _ => d - (intOf x).toNat)
      case atStart => exact ⟨0, Nat.zero_le _, rfl, Lib.hid (fun k' h => by omega), HY⟩
      case round =>
        rename World => z
        obtain ⟨k, hk, rfl, HK, HZ⟩ := hrel
        clear HY
        by_cases hlt2 : k < d
        · obtain ⟨bm, om, ai, ci, rfl, hci0, hri⟩ := HX.out.2 i hlt
          obtain ⟨bm', om', ak, ck, he', hck0, hrk⟩ := HX.out.2 k hlt2
          cases he'
          rw [(HG.out i (by rw [HLN.out]; exact hlt)).1] at hci0 hri
          rw [(HG.out k (by rw [HLN.out]; exact hlt2)).1] at hck0 hrk
          have hci := GW.out.cell hci0
          have hck := GW.out.cell hck0
          replace hri := hri.ext GW.out
          replace hrk := hrk.ext GW.out
          obtain ⟨bq, oq, rfl, hqi0⟩ := (HQ.out.ext GW.out).2 i hlt
          obtain ⟨bq', oq', he2, hqk0⟩ := (HQ.out.ext GW.out).2 k hlt2
          cases he2
          have HQI := Lib.hid hqi0
          have HQK := Lib.hid hqk0
          clear hci0 hck0 hqi0 hqk0
          by_cases hik : i = k
          · skip
            subst hik
            clear hck hrk HQK
            obtain ⟨bi, oi, rfl, hvi⟩ := hri.2 i hlt
            have HCI := Lib.hid hci
            have HVI := Lib.hid hvi
            obtain ⟨vik, hvik⟩ : ∃ x, x = nth (nthR xs1 i) i := ⟨_, rfl⟩
            rw [← hvik] at HVI
            obtain ⟨qi, hqi⟩ : ∃ x, x = nth qs i := ⟨_, rfl⟩
            rw [← hqi] at HQI
            have hbv : 0 ≤ vik ∧ vik < p := by rw [hvik]; exact (HG.out i (by rw [HLN.out]; exact hlt)).2 i hlt
            have hbq : 0 ≤ qi ∧ qi < p := by rw [hqi]; exact HQB.out i hlt
            have HSK : Hid (skewN qs xs1 i i = qi * vik + qi * vik) := Lib.hid (by unfold skewN; rw [← hqi, ← hvik])
            have hm2 := mul_bd (x := qi) (y := vik) (p := p) (by omega) hbq.1 hbq.2 hbv.1 hbv.2
            obtain ⟨a2, ha2⟩ : ∃ x, x = qi * vik := ⟨_, rfl⟩
            rw [← ha2] at hm2
            obtain ⟨sm, hsm⟩ : ∃ x, x = a2 + a2 := ⟨_, rfl⟩
            obtain ⟨sr, hsr⟩ : ∃ x, x = sm % p := ⟨_, rfl⟩
            have HM2 := Lib.hid (show IntKind.i64.wrap (vik * qi) = a2 by rw [show vik * qi = a2 by rw [ha2, Int.mul_comm]]; exact IntWalk.i64_in _ (by omega))
            have HAD := Lib.hid (show IntKind.i64.wrap (a2 + a2) = sm by rw [hsm]; exact IntWalk.i64_in _ (by omega))
            have HRM := Lib.hid (show sm.tmod p = sr by rw [hsr]; exact Int.tmod_eq_emod_of_nonneg (by omega))
            have HSR := Lib.hid hsr
            have HSS := Lib.hid (show sr = skewN qs xs1 i i % p by rw [HSK.out, hsr, hsm, ha2])
            clear hvik hqi ha2 hsm hsr hci hri hvi
            go_wp2_with (fail)
            refine wp_region_lex [] (by kernel_rfl) (by kernel_rfl) ?_
            (refine LexW.pure (v := ?_) rfl rfl (fun w1 he => ?_) ?_; rotate_left; ( have EE := ((HZ.out.trans (ext_drew _)).trans he); have q0 := EE.cell S0.out; have q1 := EE.cell S1.out; have r1 := EE.cell HCI.out; have v1 := EE.cell HVI.out; have t1 := EE.cell HQI.out; have m2 := HM2.out; have m3 := HAD.out; have m4 := HRM.out; go_simp; rfl); simp only [Act.put, List.setIfInBounds_toArray, List.set_cons_zero, List.set_cons_succ])
            (refine LexW.pure (v := ?_) rfl rfl (fun w1 he => ?_) ?_; rotate_left; ( have EE := ((HZ.out.trans (ext_drew _)).trans he); have q0 := EE.cell S0.out; have q1 := EE.cell S1.out; have r1 := EE.cell HCI.out; have v1 := EE.cell HVI.out; have t1 := EE.cell HQI.out; have m2 := HM2.out; have m3 := HAD.out; have m4 := HRM.out; go_simp; rfl); simp only [Act.put, List.setIfInBounds_toArray, List.set_cons_zero, List.set_cons_succ])
            (refine LexW.pure (v := ?_) rfl rfl (fun w1 he => ?_) ?_; rotate_left; ( have EE := ((HZ.out.trans (ext_drew _)).trans he); have q0 := EE.cell S0.out; have q1 := EE.cell S1.out; have r1 := EE.cell HCI.out; have v1 := EE.cell HVI.out; have t1 := EE.cell HQI.out; have m2 := HM2.out; have m3 := HAD.out; have m4 := HRM.out; go_simp; rfl); simp only [Act.put, List.setIfInBounds_toArray, List.set_cons_zero, List.set_cons_succ])
            (refine LexW.pure (v := ?_) rfl rfl (fun w1 he => ?_) ?_; rotate_left; ( have EE := ((HZ.out.trans (ext_drew _)).trans he); have q0 := EE.cell S0.out; have q1 := EE.cell S1.out; have r1 := EE.cell HCI.out; have v1 := EE.cell HVI.out; have t1 := EE.cell HQI.out; have m2 := HM2.out; have m3 := HAD.out; have m4 := HRM.out; go_simp; rfl); simp only [Act.put, List.setIfInBounds_toArray, List.set_cons_zero, List.set_cons_succ])
            (refine LexW.pure (v := ?_) rfl rfl (fun w1 he => ?_) ?_; rotate_left; ( have EE := ((HZ.out.trans (ext_drew _)).trans he); have q0 := EE.cell S0.out; have q1 := EE.cell S1.out; have r1 := EE.cell HCI.out; have v1 := EE.cell HVI.out; have t1 := EE.cell HQI.out; have m2 := HM2.out; have m3 := HAD.out; have m4 := HRM.out; go_simp; rfl); simp only [Act.put, List.setIfInBounds_toArray, List.set_cons_zero, List.set_cons_succ])
            (refine LexW.pure (v := ?_) rfl rfl (fun w1 he => ?_) ?_; rotate_left; ( have EE := ((HZ.out.trans (ext_drew _)).trans he); have q0 := EE.cell S0.out; have q1 := EE.cell S1.out; have r1 := EE.cell HCI.out; have v1 := EE.cell HVI.out; have t1 := EE.cell HQI.out; have m2 := HM2.out; have m3 := HAD.out; have m4 := HRM.out; go_simp; rfl); simp only [Act.put, List.setIfInBounds_toArray, List.set_cons_zero, List.set_cons_succ])
            (refine LexW.pure (v := ?_) rfl rfl (fun w1 he => ?_) ?_; rotate_left; ( have EE := ((HZ.out.trans (ext_drew _)).trans he); have q0 := EE.cell S0.out; have q1 := EE.cell S1.out; have r1 := EE.cell HCI.out; have v1 := EE.cell HVI.out; have t1 := EE.cell HQI.out; have m2 := HM2.out; have m3 := HAD.out; have m4 := HRM.out; go_simp; rfl); simp only [Act.put, List.setIfInBounds_toArray, List.set_cons_zero, List.set_cons_succ])
            (refine LexW.pure (v := ?_) rfl rfl (fun w1 he => ?_) ?_; rotate_left; ( have EE := ((HZ.out.trans (ext_drew _)).trans he); have q0 := EE.cell S0.out; have q1 := EE.cell S1.out; have r1 := EE.cell HCI.out; have v1 := EE.cell HVI.out; have t1 := EE.cell HQI.out; have m2 := HM2.out; have m3 := HAD.out; have m4 := HRM.out; go_simp; rfl); simp only [Act.put, List.setIfInBounds_toArray, List.set_cons_zero, List.set_cons_succ])
            (refine LexW.pure (v := ?_) rfl rfl (fun w1 he => ?_) ?_; rotate_left; ( have EE := ((HZ.out.trans (ext_drew _)).trans he); have q0 := EE.cell S0.out; have q1 := EE.cell S1.out; have r1 := EE.cell HCI.out; have v1 := EE.cell HVI.out; have t1 := EE.cell HQI.out; have m2 := HM2.out; have m3 := HAD.out; have m4 := HRM.out; go_simp; rfl); simp only [Act.put, List.setIfInBounds_toArray, List.set_cons_zero, List.set_cons_succ])
            (refine LexW.pure (v := ?_) rfl rfl (fun w1 he => ?_) ?_; rotate_left; ( have EE := ((HZ.out.trans (ext_drew _)).trans he); have q0 := EE.cell S0.out; have q1 := EE.cell S1.out; have r1 := EE.cell HCI.out; have v1 := EE.cell HVI.out; have t1 := EE.cell HQI.out; have m2 := HM2.out; have m3 := HAD.out; have m4 := HRM.out; go_simp; rfl); simp only [Act.put, List.setIfInBounds_toArray, List.set_cons_zero, List.set_cons_succ])
            (refine LexW.pure (v := ?_) rfl rfl (fun w1 he => ?_) ?_; rotate_left; ( have EE := ((HZ.out.trans (ext_drew _)).trans he); have q0 := EE.cell S0.out; have q1 := EE.cell S1.out; have r1 := EE.cell HCI.out; have v1 := EE.cell HVI.out; have t1 := EE.cell HQI.out; have m2 := HM2.out; have m3 := HAD.out; have m4 := HRM.out; go_simp; rfl); simp only [Act.put, List.setIfInBounds_toArray, List.set_cons_zero, List.set_cons_succ])
            (refine LexW.pure (v := ?_) rfl rfl (fun w1 he => ?_) ?_; rotate_left; ( have EE := ((HZ.out.trans (ext_drew _)).trans he); have q0 := EE.cell S0.out; have q1 := EE.cell S1.out; have r1 := EE.cell HCI.out; have v1 := EE.cell HVI.out; have t1 := EE.cell HQI.out; have m2 := HM2.out; have m3 := HAD.out; have m4 := HRM.out; go_simp; rfl); simp only [Act.put, List.setIfInBounds_toArray, List.set_cons_zero, List.set_cons_succ])
            (refine LexW.pure (v := ?_) rfl rfl (fun w1 he => ?_) ?_; rotate_left; ( have EE := ((HZ.out.trans (ext_drew _)).trans he); have q0 := EE.cell S0.out; have q1 := EE.cell S1.out; have r1 := EE.cell HCI.out; have v1 := EE.cell HVI.out; have t1 := EE.cell HQI.out; have m2 := HM2.out; have m3 := HAD.out; have m4 := HRM.out; go_simp; rfl); simp only [Act.put, List.setIfInBounds_toArray, List.set_cons_zero, List.set_cons_succ])
            (refine LexW.pure (v := ?_) rfl rfl (fun w1 he => ?_) ?_; rotate_left; ( have EE := ((HZ.out.trans (ext_drew _)).trans he); have q0 := EE.cell S0.out; have q1 := EE.cell S1.out; have r1 := EE.cell HCI.out; have v1 := EE.cell HVI.out; have t1 := EE.cell HQI.out; have m2 := HM2.out; have m3 := HAD.out; have m4 := HRM.out; go_simp; rfl); simp only [Act.put, List.setIfInBounds_toArray, List.set_cons_zero, List.set_cons_succ])
            (refine LexW.pure (v := ?_) rfl rfl (fun w1 he => ?_) ?_; rotate_left; ( have EE := ((HZ.out.trans (ext_drew _)).trans he); have q0 := EE.cell S0.out; have q1 := EE.cell S1.out; have r1 := EE.cell HCI.out; have v1 := EE.cell HVI.out; have t1 := EE.cell HQI.out; have m2 := HM2.out; have m3 := HAD.out; have m4 := HRM.out; go_simp; rfl); simp only [Act.put, List.setIfInBounds_toArray, List.set_cons_zero, List.set_cons_succ])
            (refine LexW.pure (v := ?_) rfl rfl (fun w1 he => ?_) ?_; rotate_left; ( have EE := ((HZ.out.trans (ext_drew _)).trans he); have q0 := EE.cell S0.out; have q1 := EE.cell S1.out; have r1 := EE.cell HCI.out; have v1 := EE.cell HVI.out; have t1 := EE.cell HQI.out; have m2 := HM2.out; have m3 := HAD.out; have m4 := HRM.out; go_simp; rfl); simp only [Act.put, List.setIfInBounds_toArray, List.set_cons_zero, List.set_cons_succ])
            (refine LexW.pure (v := ?_) rfl rfl (fun w1 he => ?_) ?_; rotate_left; ( have EE := ((HZ.out.trans (ext_drew _)).trans he); have q0 := EE.cell S0.out; have q1 := EE.cell S1.out; have r1 := EE.cell HCI.out; have v1 := EE.cell HVI.out; have t1 := EE.cell HQI.out; have m2 := HM2.out; have m3 := HAD.out; have m4 := HRM.out; go_simp; rfl); simp only [Act.put, List.setIfInBounds_toArray, List.set_cons_zero, List.set_cons_succ])
            (refine LexW.pure (v := ?_) rfl rfl (fun w1 he => ?_) ?_; rotate_left; ( have EE := ((HZ.out.trans (ext_drew _)).trans he); have q0 := EE.cell S0.out; have q1 := EE.cell S1.out; have r1 := EE.cell HCI.out; have v1 := EE.cell HVI.out; have t1 := EE.cell HQI.out; have m2 := HM2.out; have m3 := HAD.out; have m4 := HRM.out; go_simp; rfl); simp only [Act.put, List.setIfInBounds_toArray, List.set_cons_zero, List.set_cons_succ])
            (refine LexW.pure (v := ?_) rfl rfl (fun w1 he => ?_) ?_; rotate_left; ( have EE := ((HZ.out.trans (ext_drew _)).trans he); have q0 := EE.cell S0.out; have q1 := EE.cell S1.out; have r1 := EE.cell HCI.out; have v1 := EE.cell HVI.out; have t1 := EE.cell HQI.out; have m2 := HM2.out; have m3 := HAD.out; have m4 := HRM.out; go_simp; rfl); simp only [Act.put, List.setIfInBounds_toArray, List.set_cons_zero, List.set_cons_succ])
            (refine LexW.pure (v := ?_) rfl rfl (fun w1 he => ?_) ?_; rotate_left; ( have EE := ((HZ.out.trans (ext_drew _)).trans he); have q0 := EE.cell S0.out; have q1 := EE.cell S1.out; have r1 := EE.cell HCI.out; have v1 := EE.cell HVI.out; have t1 := EE.cell HQI.out; have m2 := HM2.out; have m3 := HAD.out; have m4 := HRM.out; go_simp; rfl); simp only [Act.put, List.setIfInBounds_toArray, List.set_cons_zero, List.set_cons_succ])
            (refine LexW.pure (v := ?_) rfl rfl (fun w1 he => ?_) ?_; rotate_left; ( have EE := ((HZ.out.trans (ext_drew _)).trans he); have q0 := EE.cell S0.out; have q1 := EE.cell S1.out; have r1 := EE.cell HCI.out; have v1 := EE.cell HVI.out; have t1 := EE.cell HQI.out; have m2 := HM2.out; have m3 := HAD.out; have m4 := HRM.out; go_simp; rfl); simp only [Act.put, List.setIfInBounds_toArray, List.set_cons_zero, List.set_cons_succ])
            (refine LexW.pure (v := ?_) rfl rfl (fun w1 he => ?_) ?_; rotate_left; ( have EE := ((HZ.out.trans (ext_drew _)).trans he); have q0 := EE.cell S0.out; have q1 := EE.cell S1.out; have r1 := EE.cell HCI.out; have v1 := EE.cell HVI.out; have t1 := EE.cell HQI.out; have m2 := HM2.out; have m3 := HAD.out; have m4 := HRM.out; go_simp; rfl); simp only [Act.put, List.setIfInBounds_toArray, List.set_cons_zero, List.set_cons_succ])
            (refine LexW.pure (v := ?_) rfl rfl (fun w1 he => ?_) ?_; rotate_left; ( have EE := ((HZ.out.trans (ext_drew _)).trans he); have q0 := EE.cell S0.out; have q1 := EE.cell S1.out; have r1 := EE.cell HCI.out; have v1 := EE.cell HVI.out; have t1 := EE.cell HQI.out; have m2 := HM2.out; have m3 := HAD.out; have m4 := HRM.out; go_simp; rfl); simp only [Act.put, List.setIfInBounds_toArray, List.set_cons_zero, List.set_cons_succ])
            (refine LexW.pure (v := ?_) rfl rfl (fun w1 he => ?_) ?_; rotate_left; ( have EE := ((HZ.out.trans (ext_drew _)).trans he); have q0 := EE.cell S0.out; have q1 := EE.cell S1.out; have r1 := EE.cell HCI.out; have v1 := EE.cell HVI.out; have t1 := EE.cell HQI.out; have m2 := HM2.out; have m3 := HAD.out; have m4 := HRM.out; go_simp; rfl); simp only [Act.put, List.setIfInBounds_toArray, List.set_cons_zero, List.set_cons_succ])
            (refine LexW.pure (v := ?_) rfl rfl (fun w1 he => ?_) ?_; rotate_left; ( have EE := ((HZ.out.trans (ext_drew _)).trans he); have q0 := EE.cell S0.out; have q1 := EE.cell S1.out; have r1 := EE.cell HCI.out; have v1 := EE.cell HVI.out; have t1 := EE.cell HQI.out; have m2 := HM2.out; have m3 := HAD.out; have m4 := HRM.out; go_simp; rfl); simp only [Act.put, List.setIfInBounds_toArray, List.set_cons_zero, List.set_cons_succ])
            (refine LexW.pure (v := ?_) rfl rfl (fun w1 he => ?_) ?_; rotate_left; ( have EE := ((HZ.out.trans (ext_drew _)).trans he); have q0 := EE.cell S0.out; have q1 := EE.cell S1.out; have r1 := EE.cell HCI.out; have v1 := EE.cell HVI.out; have t1 := EE.cell HQI.out; have m2 := HM2.out; have m3 := HAD.out; have m4 := HRM.out; go_simp; rfl); simp only [Act.put, List.setIfInBounds_toArray, List.set_cons_zero, List.set_cons_succ])
            (refine LexW.pure (v := ?_) rfl rfl (fun w1 he => ?_) ?_; rotate_left; ( have EE := ((HZ.out.trans (ext_drew _)).trans he); have q0 := EE.cell S0.out; have q1 := EE.cell S1.out; have r1 := EE.cell HCI.out; have v1 := EE.cell HVI.out; have t1 := EE.cell HQI.out; have m2 := HM2.out; have m3 := HAD.out; have m4 := HRM.out; go_simp; rfl); simp only [Act.put, List.setIfInBounds_toArray, List.set_cons_zero, List.set_cons_succ])
            (refine LexW.pure (v := ?_) rfl rfl (fun w1 he => ?_) ?_; rotate_left; ( have EE := ((HZ.out.trans (ext_drew _)).trans he); have q0 := EE.cell S0.out; have q1 := EE.cell S1.out; have r1 := EE.cell HCI.out; have v1 := EE.cell HVI.out; have t1 := EE.cell HQI.out; have m2 := HM2.out; have m3 := HAD.out; have m4 := HRM.out; go_simp; rfl); simp only [Act.put, List.setIfInBounds_toArray, List.set_cons_zero, List.set_cons_succ])
            (refine LexW.pure (v := ?_) rfl rfl (fun w1 he => ?_) ?_; rotate_left; ( have EE := ((HZ.out.trans (ext_drew _)).trans he); have q0 := EE.cell S0.out; have q1 := EE.cell S1.out; have r1 := EE.cell HCI.out; have v1 := EE.cell HVI.out; have t1 := EE.cell HQI.out; have m2 := HM2.out; have m3 := HAD.out; have m4 := HRM.out; go_simp; rfl); simp only [Act.put, List.setIfInBounds_toArray, List.set_cons_zero, List.set_cons_succ])
            (refine LexW.pure (v := ?_) rfl rfl (fun w1 he => ?_) ?_; rotate_left; ( have EE := ((HZ.out.trans (ext_drew _)).trans he); have q0 := EE.cell S0.out; have q1 := EE.cell S1.out; have r1 := EE.cell HCI.out; have v1 := EE.cell HVI.out; have t1 := EE.cell HQI.out; have m2 := HM2.out; have m3 := HAD.out; have m4 := HRM.out; go_simp; rfl); simp only [Act.put, List.setIfInBounds_toArray, List.set_cons_zero, List.set_cons_succ])
            (refine LexW.pure (v := ?_) rfl rfl (fun w1 he => ?_) ?_; rotate_left; ( have EE := ((HZ.out.trans (ext_drew _)).trans he); have q0 := EE.cell S0.out; have q1 := EE.cell S1.out; have r1 := EE.cell HCI.out; have v1 := EE.cell HVI.out; have t1 := EE.cell HQI.out; have m2 := HM2.out; have m3 := HAD.out; have m4 := HRM.out; go_simp; rfl); simp only [Act.put, List.setIfInBounds_toArray, List.set_cons_zero, List.set_cons_succ])
            refine LexW.nil (fun w3 he hkn => ?_)
            have HE := Lib.hid ((HZ.out.trans (ext_drew _)).trans he)
            clear he hkn 
            rename World => z2
            by_cases hz : sr = 0
            · have hzb : (sr != 0) = false := by simp [hz]
              have HOK := Lib.hid (show skewN qs xs1 i i % p = 0 by rw [← HSS.out]; exact hz)
              clear hz
              go_wp2_with (fail)
              go_roundw
              case rel => exact ⟨i + 1, by omega, by go_num, Lib.hid (fun k' h => by
                by_cases hkk : k' = i
                · subst hkk; exact HOK.out
                · exact HK.out k' (by omega)), HE⟩
              case measure => simp [intOf] <;> omega
            · have hzb : (sr != 0) = true := by simp [hz]
              have HB := Lib.hid (skewB_at (p := p) (qs := qs) (rows := xs1) (i := i) (k := i) hlt hlt (by rw [← HSS.out]; exact hz))
              clear hz
              go_wp2_with (fail)
              go_ret
              exact ⟨ret_bool HB.out.symm, GW.out.trans HE.out⟩
          obtain ⟨bi, oi, rfl, hvi⟩ := hri.2 k hlt2
          obtain ⟨bk, ok, rfl, hvk⟩ := hrk.2 i hlt
          have HCI := Lib.hid hci
          have HCK := Lib.hid hck
          have HVI := Lib.hid hvi
          have HVK := Lib.hid hvk
          obtain ⟨vik, hvik⟩ : ∃ x, x = nth (nthR xs1 i) k := ⟨_, rfl⟩
          rw [← hvik] at HVI
          obtain ⟨vki, hvki⟩ : ∃ x, x = nth (nthR xs1 k) i := ⟨_, rfl⟩
          rw [← hvki] at HVK
          obtain ⟨qi, hqi⟩ : ∃ x, x = nth qs i := ⟨_, rfl⟩
          rw [← hqi] at HQI
          obtain ⟨qk, hqk⟩ : ∃ x, x = nth qs k := ⟨_, rfl⟩
          rw [← hqk] at HQK
          have hbv : 0 ≤ vik ∧ vik < p := by rw [hvik]; exact (HG.out i (by rw [HLN.out]; exact hlt)).2 k hlt2
          have hbw : 0 ≤ vki ∧ vki < p := by rw [hvki]; exact (HG.out k (by rw [HLN.out]; exact hlt2)).2 i hlt
          have hbq : 0 ≤ qi ∧ qi < p := by rw [hqi]; exact HQB.out i hlt
          have hbr : 0 ≤ qk ∧ qk < p := by rw [hqk]; exact HQB.out k hlt2
          have HSK : Hid (skewN qs xs1 i k = qk * vki + qi * vik) := Lib.hid (by unfold skewN; rw [← hqi, ← hvik, ← hqk, ← hvki])
          clear hck hrk
          have hm1 := mul_bd (x := qk) (y := vki) (p := p) (by omega) hbr.1 hbr.2 hbw.1 hbw.2
          have hm2 := mul_bd (x := qi) (y := vik) (p := p) (by omega) hbq.1 hbq.2 hbv.1 hbv.2
          obtain ⟨a1, ha1⟩ : ∃ x, x = qk * vki := ⟨_, rfl⟩
          obtain ⟨a2, ha2⟩ : ∃ x, x = qi * vik := ⟨_, rfl⟩
          rw [← ha1] at hm1
          rw [← ha2] at hm2
          obtain ⟨sm, hsm⟩ : ∃ x, x = a1 + a2 := ⟨_, rfl⟩
          obtain ⟨sr, hsr⟩ : ∃ x, x = sm % p := ⟨_, rfl⟩
          have HM1 := Lib.hid (show IntKind.i64.wrap (vki * qk) = a1 by rw [show vki * qk = a1 by rw [ha1, Int.mul_comm]]; exact IntWalk.i64_in _ (by omega))
          have HM2 := Lib.hid (show IntKind.i64.wrap (vik * qi) = a2 by rw [show vik * qi = a2 by rw [ha2, Int.mul_comm]]; exact IntWalk.i64_in _ (by omega))
          have HAD := Lib.hid (show IntKind.i64.wrap (a1 + a2) = sm by rw [hsm]; exact IntWalk.i64_in _ (by omega))
          have HRM := Lib.hid (show sm.tmod p = sr by rw [hsr]; exact Int.tmod_eq_emod_of_nonneg (by omega))
          have HSR := Lib.hid hsr
          have HSS := Lib.hid (show sr = skewN qs xs1 i k % p by rw [HSK.out, hsr, hsm, ha1, ha2])
          clear hvik hqi ha2 hsm hsr hci hri hvi hvk hvki hqk ha1
          go_wp2_with (fail)
          refine wp_region_lex [] (by kernel_rfl) (by kernel_rfl) ?_
          (refine LexW.pure (v := ?_) rfl rfl (fun w1 he => ?_) ?_; rotate_left; ( have EE := ((HZ.out.trans (ext_drew _)).trans he); have q0 := EE.cell S0.out; have q1 := EE.cell S1.out; have r1 := EE.cell HCI.out; have v1 := EE.cell HVI.out; have t1 := EE.cell HQI.out; have m2 := HM2.out; have m3 := HAD.out; have m1 := HM1.out; have r2 := EE.cell HCK.out; have v2 := EE.cell HVK.out; have t2 := EE.cell HQK.out; have m4 := HRM.out; go_simp; rfl); simp only [Act.put, List.setIfInBounds_toArray, List.set_cons_zero, List.set_cons_succ])
          (refine LexW.pure (v := ?_) rfl rfl (fun w1 he => ?_) ?_; rotate_left; ( have EE := ((HZ.out.trans (ext_drew _)).trans he); have q0 := EE.cell S0.out; have q1 := EE.cell S1.out; have r1 := EE.cell HCI.out; have v1 := EE.cell HVI.out; have t1 := EE.cell HQI.out; have m2 := HM2.out; have m3 := HAD.out; have m1 := HM1.out; have r2 := EE.cell HCK.out; have v2 := EE.cell HVK.out; have t2 := EE.cell HQK.out; have m4 := HRM.out; go_simp; rfl); simp only [Act.put, List.setIfInBounds_toArray, List.set_cons_zero, List.set_cons_succ])
          (refine LexW.pure (v := ?_) rfl rfl (fun w1 he => ?_) ?_; rotate_left; ( have EE := ((HZ.out.trans (ext_drew _)).trans he); have q0 := EE.cell S0.out; have q1 := EE.cell S1.out; have r1 := EE.cell HCI.out; have v1 := EE.cell HVI.out; have t1 := EE.cell HQI.out; have m2 := HM2.out; have m3 := HAD.out; have m1 := HM1.out; have r2 := EE.cell HCK.out; have v2 := EE.cell HVK.out; have t2 := EE.cell HQK.out; have m4 := HRM.out; go_simp; rfl); simp only [Act.put, List.setIfInBounds_toArray, List.set_cons_zero, List.set_cons_succ])
          (refine LexW.pure (v := ?_) rfl rfl (fun w1 he => ?_) ?_; rotate_left; ( have EE := ((HZ.out.trans (ext_drew _)).trans he); have q0 := EE.cell S0.out; have q1 := EE.cell S1.out; have r1 := EE.cell HCI.out; have v1 := EE.cell HVI.out; have t1 := EE.cell HQI.out; have m2 := HM2.out; have m3 := HAD.out; have m1 := HM1.out; have r2 := EE.cell HCK.out; have v2 := EE.cell HVK.out; have t2 := EE.cell HQK.out; have m4 := HRM.out; go_simp; rfl); simp only [Act.put, List.setIfInBounds_toArray, List.set_cons_zero, List.set_cons_succ])
          (refine LexW.pure (v := ?_) rfl rfl (fun w1 he => ?_) ?_; rotate_left; ( have EE := ((HZ.out.trans (ext_drew _)).trans he); have q0 := EE.cell S0.out; have q1 := EE.cell S1.out; have r1 := EE.cell HCI.out; have v1 := EE.cell HVI.out; have t1 := EE.cell HQI.out; have m2 := HM2.out; have m3 := HAD.out; have m1 := HM1.out; have r2 := EE.cell HCK.out; have v2 := EE.cell HVK.out; have t2 := EE.cell HQK.out; have m4 := HRM.out; go_simp; rfl); simp only [Act.put, List.setIfInBounds_toArray, List.set_cons_zero, List.set_cons_succ])
          (refine LexW.pure (v := ?_) rfl rfl (fun w1 he => ?_) ?_; rotate_left; ( have EE := ((HZ.out.trans (ext_drew _)).trans he); have q0 := EE.cell S0.out; have q1 := EE.cell S1.out; have r1 := EE.cell HCI.out; have v1 := EE.cell HVI.out; have t1 := EE.cell HQI.out; have m2 := HM2.out; have m3 := HAD.out; have m1 := HM1.out; have r2 := EE.cell HCK.out; have v2 := EE.cell HVK.out; have t2 := EE.cell HQK.out; have m4 := HRM.out; go_simp; rfl); simp only [Act.put, List.setIfInBounds_toArray, List.set_cons_zero, List.set_cons_succ])
          (refine LexW.pure (v := ?_) rfl rfl (fun w1 he => ?_) ?_; rotate_left; ( have EE := ((HZ.out.trans (ext_drew _)).trans he); have q0 := EE.cell S0.out; have q1 := EE.cell S1.out; have r1 := EE.cell HCI.out; have v1 := EE.cell HVI.out; have t1 := EE.cell HQI.out; have m2 := HM2.out; have m3 := HAD.out; have m1 := HM1.out; have r2 := EE.cell HCK.out; have v2 := EE.cell HVK.out; have t2 := EE.cell HQK.out; have m4 := HRM.out; go_simp; rfl); simp only [Act.put, List.setIfInBounds_toArray, List.set_cons_zero, List.set_cons_succ])
          (refine LexW.pure (v := ?_) rfl rfl (fun w1 he => ?_) ?_; rotate_left; ( have EE := ((HZ.out.trans (ext_drew _)).trans he); have q0 := EE.cell S0.out; have q1 := EE.cell S1.out; have r1 := EE.cell HCI.out; have v1 := EE.cell HVI.out; have t1 := EE.cell HQI.out; have m2 := HM2.out; have m3 := HAD.out; have m1 := HM1.out; have r2 := EE.cell HCK.out; have v2 := EE.cell HVK.out; have t2 := EE.cell HQK.out; have m4 := HRM.out; go_simp; rfl); simp only [Act.put, List.setIfInBounds_toArray, List.set_cons_zero, List.set_cons_succ])
          (refine LexW.pure (v := ?_) rfl rfl (fun w1 he => ?_) ?_; rotate_left; ( have EE := ((HZ.out.trans (ext_drew _)).trans he); have q0 := EE.cell S0.out; have q1 := EE.cell S1.out; have r1 := EE.cell HCI.out; have v1 := EE.cell HVI.out; have t1 := EE.cell HQI.out; have m2 := HM2.out; have m3 := HAD.out; have m1 := HM1.out; have r2 := EE.cell HCK.out; have v2 := EE.cell HVK.out; have t2 := EE.cell HQK.out; have m4 := HRM.out; go_simp; rfl); simp only [Act.put, List.setIfInBounds_toArray, List.set_cons_zero, List.set_cons_succ])
          (refine LexW.pure (v := ?_) rfl rfl (fun w1 he => ?_) ?_; rotate_left; ( have EE := ((HZ.out.trans (ext_drew _)).trans he); have q0 := EE.cell S0.out; have q1 := EE.cell S1.out; have r1 := EE.cell HCI.out; have v1 := EE.cell HVI.out; have t1 := EE.cell HQI.out; have m2 := HM2.out; have m3 := HAD.out; have m1 := HM1.out; have r2 := EE.cell HCK.out; have v2 := EE.cell HVK.out; have t2 := EE.cell HQK.out; have m4 := HRM.out; go_simp; rfl); simp only [Act.put, List.setIfInBounds_toArray, List.set_cons_zero, List.set_cons_succ])
          (refine LexW.pure (v := ?_) rfl rfl (fun w1 he => ?_) ?_; rotate_left; ( have EE := ((HZ.out.trans (ext_drew _)).trans he); have q0 := EE.cell S0.out; have q1 := EE.cell S1.out; have r1 := EE.cell HCI.out; have v1 := EE.cell HVI.out; have t1 := EE.cell HQI.out; have m2 := HM2.out; have m3 := HAD.out; have m1 := HM1.out; have r2 := EE.cell HCK.out; have v2 := EE.cell HVK.out; have t2 := EE.cell HQK.out; have m4 := HRM.out; go_simp; rfl); simp only [Act.put, List.setIfInBounds_toArray, List.set_cons_zero, List.set_cons_succ])
          (refine LexW.pure (v := ?_) rfl rfl (fun w1 he => ?_) ?_; rotate_left; ( have EE := ((HZ.out.trans (ext_drew _)).trans he); have q0 := EE.cell S0.out; have q1 := EE.cell S1.out; have r1 := EE.cell HCI.out; have v1 := EE.cell HVI.out; have t1 := EE.cell HQI.out; have m2 := HM2.out; have m3 := HAD.out; have m1 := HM1.out; have r2 := EE.cell HCK.out; have v2 := EE.cell HVK.out; have t2 := EE.cell HQK.out; have m4 := HRM.out; go_simp; rfl); simp only [Act.put, List.setIfInBounds_toArray, List.set_cons_zero, List.set_cons_succ])
          (refine LexW.pure (v := ?_) rfl rfl (fun w1 he => ?_) ?_; rotate_left; ( have EE := ((HZ.out.trans (ext_drew _)).trans he); have q0 := EE.cell S0.out; have q1 := EE.cell S1.out; have r1 := EE.cell HCI.out; have v1 := EE.cell HVI.out; have t1 := EE.cell HQI.out; have m2 := HM2.out; have m3 := HAD.out; have m1 := HM1.out; have r2 := EE.cell HCK.out; have v2 := EE.cell HVK.out; have t2 := EE.cell HQK.out; have m4 := HRM.out; go_simp; rfl); simp only [Act.put, List.setIfInBounds_toArray, List.set_cons_zero, List.set_cons_succ])
          (refine LexW.pure (v := ?_) rfl rfl (fun w1 he => ?_) ?_; rotate_left; ( have EE := ((HZ.out.trans (ext_drew _)).trans he); have q0 := EE.cell S0.out; have q1 := EE.cell S1.out; have r1 := EE.cell HCI.out; have v1 := EE.cell HVI.out; have t1 := EE.cell HQI.out; have m2 := HM2.out; have m3 := HAD.out; have m1 := HM1.out; have r2 := EE.cell HCK.out; have v2 := EE.cell HVK.out; have t2 := EE.cell HQK.out; have m4 := HRM.out; go_simp; rfl); simp only [Act.put, List.setIfInBounds_toArray, List.set_cons_zero, List.set_cons_succ])
          (refine LexW.pure (v := ?_) rfl rfl (fun w1 he => ?_) ?_; rotate_left; ( have EE := ((HZ.out.trans (ext_drew _)).trans he); have q0 := EE.cell S0.out; have q1 := EE.cell S1.out; have r1 := EE.cell HCI.out; have v1 := EE.cell HVI.out; have t1 := EE.cell HQI.out; have m2 := HM2.out; have m3 := HAD.out; have m1 := HM1.out; have r2 := EE.cell HCK.out; have v2 := EE.cell HVK.out; have t2 := EE.cell HQK.out; have m4 := HRM.out; go_simp; rfl); simp only [Act.put, List.setIfInBounds_toArray, List.set_cons_zero, List.set_cons_succ])
          (refine LexW.pure (v := ?_) rfl rfl (fun w1 he => ?_) ?_; rotate_left; ( have EE := ((HZ.out.trans (ext_drew _)).trans he); have q0 := EE.cell S0.out; have q1 := EE.cell S1.out; have r1 := EE.cell HCI.out; have v1 := EE.cell HVI.out; have t1 := EE.cell HQI.out; have m2 := HM2.out; have m3 := HAD.out; have m1 := HM1.out; have r2 := EE.cell HCK.out; have v2 := EE.cell HVK.out; have t2 := EE.cell HQK.out; have m4 := HRM.out; go_simp; rfl); simp only [Act.put, List.setIfInBounds_toArray, List.set_cons_zero, List.set_cons_succ])
          (refine LexW.pure (v := ?_) rfl rfl (fun w1 he => ?_) ?_; rotate_left; ( have EE := ((HZ.out.trans (ext_drew _)).trans he); have q0 := EE.cell S0.out; have q1 := EE.cell S1.out; have r1 := EE.cell HCI.out; have v1 := EE.cell HVI.out; have t1 := EE.cell HQI.out; have m2 := HM2.out; have m3 := HAD.out; have m1 := HM1.out; have r2 := EE.cell HCK.out; have v2 := EE.cell HVK.out; have t2 := EE.cell HQK.out; have m4 := HRM.out; go_simp; rfl); simp only [Act.put, List.setIfInBounds_toArray, List.set_cons_zero, List.set_cons_succ])
          (refine LexW.pure (v := ?_) rfl rfl (fun w1 he => ?_) ?_; rotate_left; ( have EE := ((HZ.out.trans (ext_drew _)).trans he); have q0 := EE.cell S0.out; have q1 := EE.cell S1.out; have r1 := EE.cell HCI.out; have v1 := EE.cell HVI.out; have t1 := EE.cell HQI.out; have m2 := HM2.out; have m3 := HAD.out; have m1 := HM1.out; have r2 := EE.cell HCK.out; have v2 := EE.cell HVK.out; have t2 := EE.cell HQK.out; have m4 := HRM.out; go_simp; rfl); simp only [Act.put, List.setIfInBounds_toArray, List.set_cons_zero, List.set_cons_succ])
          (refine LexW.pure (v := ?_) rfl rfl (fun w1 he => ?_) ?_; rotate_left; ( have EE := ((HZ.out.trans (ext_drew _)).trans he); have q0 := EE.cell S0.out; have q1 := EE.cell S1.out; have r1 := EE.cell HCI.out; have v1 := EE.cell HVI.out; have t1 := EE.cell HQI.out; have m2 := HM2.out; have m3 := HAD.out; have m1 := HM1.out; have r2 := EE.cell HCK.out; have v2 := EE.cell HVK.out; have t2 := EE.cell HQK.out; have m4 := HRM.out; go_simp; rfl); simp only [Act.put, List.setIfInBounds_toArray, List.set_cons_zero, List.set_cons_succ])
          (refine LexW.pure (v := ?_) rfl rfl (fun w1 he => ?_) ?_; rotate_left; ( have EE := ((HZ.out.trans (ext_drew _)).trans he); have q0 := EE.cell S0.out; have q1 := EE.cell S1.out; have r1 := EE.cell HCI.out; have v1 := EE.cell HVI.out; have t1 := EE.cell HQI.out; have m2 := HM2.out; have m3 := HAD.out; have m1 := HM1.out; have r2 := EE.cell HCK.out; have v2 := EE.cell HVK.out; have t2 := EE.cell HQK.out; have m4 := HRM.out; go_simp; rfl); simp only [Act.put, List.setIfInBounds_toArray, List.set_cons_zero, List.set_cons_succ])
          (refine LexW.pure (v := ?_) rfl rfl (fun w1 he => ?_) ?_; rotate_left; ( have EE := ((HZ.out.trans (ext_drew _)).trans he); have q0 := EE.cell S0.out; have q1 := EE.cell S1.out; have r1 := EE.cell HCI.out; have v1 := EE.cell HVI.out; have t1 := EE.cell HQI.out; have m2 := HM2.out; have m3 := HAD.out; have m1 := HM1.out; have r2 := EE.cell HCK.out; have v2 := EE.cell HVK.out; have t2 := EE.cell HQK.out; have m4 := HRM.out; go_simp; rfl); simp only [Act.put, List.setIfInBounds_toArray, List.set_cons_zero, List.set_cons_succ])
          (refine LexW.pure (v := ?_) rfl rfl (fun w1 he => ?_) ?_; rotate_left; ( have EE := ((HZ.out.trans (ext_drew _)).trans he); have q0 := EE.cell S0.out; have q1 := EE.cell S1.out; have r1 := EE.cell HCI.out; have v1 := EE.cell HVI.out; have t1 := EE.cell HQI.out; have m2 := HM2.out; have m3 := HAD.out; have m1 := HM1.out; have r2 := EE.cell HCK.out; have v2 := EE.cell HVK.out; have t2 := EE.cell HQK.out; have m4 := HRM.out; go_simp; rfl); simp only [Act.put, List.setIfInBounds_toArray, List.set_cons_zero, List.set_cons_succ])
          (refine LexW.pure (v := ?_) rfl rfl (fun w1 he => ?_) ?_; rotate_left; ( have EE := ((HZ.out.trans (ext_drew _)).trans he); have q0 := EE.cell S0.out; have q1 := EE.cell S1.out; have r1 := EE.cell HCI.out; have v1 := EE.cell HVI.out; have t1 := EE.cell HQI.out; have m2 := HM2.out; have m3 := HAD.out; have m1 := HM1.out; have r2 := EE.cell HCK.out; have v2 := EE.cell HVK.out; have t2 := EE.cell HQK.out; have m4 := HRM.out; go_simp; rfl); simp only [Act.put, List.setIfInBounds_toArray, List.set_cons_zero, List.set_cons_succ])
          (refine LexW.pure (v := ?_) rfl rfl (fun w1 he => ?_) ?_; rotate_left; ( have EE := ((HZ.out.trans (ext_drew _)).trans he); have q0 := EE.cell S0.out; have q1 := EE.cell S1.out; have r1 := EE.cell HCI.out; have v1 := EE.cell HVI.out; have t1 := EE.cell HQI.out; have m2 := HM2.out; have m3 := HAD.out; have m1 := HM1.out; have r2 := EE.cell HCK.out; have v2 := EE.cell HVK.out; have t2 := EE.cell HQK.out; have m4 := HRM.out; go_simp; rfl); simp only [Act.put, List.setIfInBounds_toArray, List.set_cons_zero, List.set_cons_succ])
          (refine LexW.pure (v := ?_) rfl rfl (fun w1 he => ?_) ?_; rotate_left; ( have EE := ((HZ.out.trans (ext_drew _)).trans he); have q0 := EE.cell S0.out; have q1 := EE.cell S1.out; have r1 := EE.cell HCI.out; have v1 := EE.cell HVI.out; have t1 := EE.cell HQI.out; have m2 := HM2.out; have m3 := HAD.out; have m1 := HM1.out; have r2 := EE.cell HCK.out; have v2 := EE.cell HVK.out; have t2 := EE.cell HQK.out; have m4 := HRM.out; go_simp; rfl); simp only [Act.put, List.setIfInBounds_toArray, List.set_cons_zero, List.set_cons_succ])
          (refine LexW.pure (v := ?_) rfl rfl (fun w1 he => ?_) ?_; rotate_left; ( have EE := ((HZ.out.trans (ext_drew _)).trans he); have q0 := EE.cell S0.out; have q1 := EE.cell S1.out; have r1 := EE.cell HCI.out; have v1 := EE.cell HVI.out; have t1 := EE.cell HQI.out; have m2 := HM2.out; have m3 := HAD.out; have m1 := HM1.out; have r2 := EE.cell HCK.out; have v2 := EE.cell HVK.out; have t2 := EE.cell HQK.out; have m4 := HRM.out; go_simp; rfl); simp only [Act.put, List.setIfInBounds_toArray, List.set_cons_zero, List.set_cons_succ])
          (refine LexW.pure (v := ?_) rfl rfl (fun w1 he => ?_) ?_; rotate_left; ( have EE := ((HZ.out.trans (ext_drew _)).trans he); have q0 := EE.cell S0.out; have q1 := EE.cell S1.out; have r1 := EE.cell HCI.out; have v1 := EE.cell HVI.out; have t1 := EE.cell HQI.out; have m2 := HM2.out; have m3 := HAD.out; have m1 := HM1.out; have r2 := EE.cell HCK.out; have v2 := EE.cell HVK.out; have t2 := EE.cell HQK.out; have m4 := HRM.out; go_simp; rfl); simp only [Act.put, List.setIfInBounds_toArray, List.set_cons_zero, List.set_cons_succ])
          (refine LexW.pure (v := ?_) rfl rfl (fun w1 he => ?_) ?_; rotate_left; ( have EE := ((HZ.out.trans (ext_drew _)).trans he); have q0 := EE.cell S0.out; have q1 := EE.cell S1.out; have r1 := EE.cell HCI.out; have v1 := EE.cell HVI.out; have t1 := EE.cell HQI.out; have m2 := HM2.out; have m3 := HAD.out; have m1 := HM1.out; have r2 := EE.cell HCK.out; have v2 := EE.cell HVK.out; have t2 := EE.cell HQK.out; have m4 := HRM.out; go_simp; rfl); simp only [Act.put, List.setIfInBounds_toArray, List.set_cons_zero, List.set_cons_succ])
          (refine LexW.pure (v := ?_) rfl rfl (fun w1 he => ?_) ?_; rotate_left; ( have EE := ((HZ.out.trans (ext_drew _)).trans he); have q0 := EE.cell S0.out; have q1 := EE.cell S1.out; have r1 := EE.cell HCI.out; have v1 := EE.cell HVI.out; have t1 := EE.cell HQI.out; have m2 := HM2.out; have m3 := HAD.out; have m1 := HM1.out; have r2 := EE.cell HCK.out; have v2 := EE.cell HVK.out; have t2 := EE.cell HQK.out; have m4 := HRM.out; go_simp; rfl); simp only [Act.put, List.setIfInBounds_toArray, List.set_cons_zero, List.set_cons_succ])
          (refine LexW.pure (v := ?_) rfl rfl (fun w1 he => ?_) ?_; rotate_left; ( have EE := ((HZ.out.trans (ext_drew _)).trans he); have q0 := EE.cell S0.out; have q1 := EE.cell S1.out; have r1 := EE.cell HCI.out; have v1 := EE.cell HVI.out; have t1 := EE.cell HQI.out; have m2 := HM2.out; have m3 := HAD.out; have m1 := HM1.out; have r2 := EE.cell HCK.out; have v2 := EE.cell HVK.out; have t2 := EE.cell HQK.out; have m4 := HRM.out; go_simp; rfl); simp only [Act.put, List.setIfInBounds_toArray, List.set_cons_zero, List.set_cons_succ])
          (refine LexW.pure (v := ?_) rfl rfl (fun w1 he => ?_) ?_; rotate_left; ( have EE := ((HZ.out.trans (ext_drew _)).trans he); have q0 := EE.cell S0.out; have q1 := EE.cell S1.out; have r1 := EE.cell HCI.out; have v1 := EE.cell HVI.out; have t1 := EE.cell HQI.out; have m2 := HM2.out; have m3 := HAD.out; have m1 := HM1.out; have r2 := EE.cell HCK.out; have v2 := EE.cell HVK.out; have t2 := EE.cell HQK.out; have m4 := HRM.out; go_simp; rfl); simp only [Act.put, List.setIfInBounds_toArray, List.set_cons_zero, List.set_cons_succ])
          refine LexW.nil (fun w3 he hkn => ?_)
          have HE := Lib.hid ((HZ.out.trans (ext_drew _)).trans he)
          clear he hkn 
          rename World => z2
          by_cases hz : sr = 0
          · have hzb : (sr != 0) = false := by simp [hz]
            have HOK := Lib.hid (show skewN qs xs1 i k % p = 0 by rw [← HSS.out]; exact hz)
            clear hz
            go_wp2_with (fail)
            go_roundw
            case rel => exact ⟨k + 1, by omega, by go_num, Lib.hid (fun k' h => by
              by_cases hkk : k' = k
              · subst hkk; exact HOK.out
              · exact HK.out k' (by omega)), HE⟩
            case measure => simp [intOf] <;> omega
          · have hzb : (sr != 0) = true := by simp [hz]
            have HB := Lib.hid (skewB_at (p := p) (qs := qs) (rows := xs1) (i := i) (k := k) hlt hlt2 (by rw [← HSS.out]; exact hz))
            clear hz
            go_wp2_with (fail)
            go_ret
            exact ⟨ret_bool HB.out.symm, GW.out.trans HE.out⟩
        · obtain rfl : k = d := by omega
          go_wp2_with (fail)
          go_roundw
          case rel => exact ⟨i + 1, by omega, by go_num, Lib.hid (fun i' h => by
            by_cases hii : i' = i
            · subst hii; exact HK.out
            · exact HA.out i' (by omega)), HZ⟩
          case measure => simp [intOf]; omega
    · obtain rfl : i = d := by omega
      have HB := Lib.hid (skewB_yes (p := p) (qs := qs) (rows := xs1) HA.out)
      go_wp2_with (fail)
      go_ret
      exact ⟨ret_bool HB.out.symm, GW.out.trans HY.out⟩
end Go.Proofs.Ytnabpmafcflljaa

/-
  The listed functions CayleyOf and CayleyBack.
  No condition.
-/
namespace Go.Proofs.Ytnabpmafcflljaa
set_option maxRecDepth 100000
open Go.RowKit

/-- the code of a Cayley transform, where 'b' tells whether the matrix is of the kind asked for -/
def codeCY (p : Int) (qs : List Int) (rows : List (List Int)) (b : Bool) : Int := if code10 p qs rows ≠ 0 then code10 p qs rows else if b = true ∧ detL p qs.length (oneM p rows qs.length 1) ≠ 0 then 0 else 5
theorem cy_code {p : Int} {qs : List Int} {rows : List (List Int)} {b : Bool} (h : code10 p qs rows ≠ 0) : codeCY p qs rows b = code10 p qs rows := by unfold codeCY; rw [if_pos h]
theorem cy_det {p : Int} {qs : List Int} {rows : List (List Int)} {b : Bool} (h : code10 p qs rows = 0) (h2 : detL p qs.length (oneM p rows qs.length 1) = 0) : codeCY p qs rows b = 5 := by unfold codeCY; rw [if_neg (fun c => c h), if_neg (fun c => c.2 h2)]
theorem cy_flag {p : Int} {qs : List Int} {rows : List (List Int)} (h : code10 p qs rows = 0) : codeCY p qs rows false = 5 := by unfold codeCY; rw [if_neg (fun c => c h), if_neg (fun c => by cases c.1)]
theorem cy_ok {p : Int} {qs : List Int} {rows : List (List Int)} (h : code10 p qs rows = 0) (h2 : detL p qs.length (oneM p rows qs.length 1) ≠ 0) : codeCY p qs rows true = 0 := by unfold codeCY; rw [if_neg (fun c => c h), if_pos ⟨rfl, h2⟩]
theorem cy_zero {p : Int} {qs : List Int} {rows : List (List Int)} {b : Bool} (h : codeCY p qs rows b = 0) : code10 p qs rows = 0 := Classical.byContradiction fun h2 => h2 (by rw [← cy_code (b := b) h2]; exact h)
theorem ret_pair {x y : Int} {v : Value} (h : x = y) : Ending.returned (.tuple #[v, .int .i64 x]) = Ending.returned (.tuple #[v, .int .i64 y]) := by rw [h]
theorem cay_cnt {p : Int} {rows : List (List Int)} {d : Nat} (hp : 1 ≤ p) (hd : d ≤ 6) : d ≤ 1048576 ∧ cntR (cayM p rows d) d ≤ 1048576 := by
  have hl : (cayM p rows d).length = d := mulL_len ..
  have := cntR_rows (rows := cayM p rows d) (fun i hi => mul_good (p := p) hp i (by rw [hl] at hi; exact hi)) (by omega) d (by omega)
  omega
theorem s_l08Is (p : Int) (a : Option Addr) (d cap : Nat) (qs : List Int) (am : Option Addr) (n cm : Nat) (rows : List (List Int)) (w : World) (hs : spaceB p qs = true) (_hd : d ≤ 4194304) (hl : n ≤ 4194304) (hr : ∀ i, i < n → (nthR rows i).length ≤ 4194304) (hq : RdC w a d qs) (hx : RdR w am n rows) :
    Calls Try.prog 56 #[.agg #[.int .i64 p, .slice a d cap], .slice am n cm] w fun e w' => e = .returned (.bool (isoB p qs rows d)) ∧ Ext w w' := by
  have HQ := Lib.hid hq
  have HX := Lib.hid hx
  have HR := Lib.hid hr
  have HS := Lib.hid hs
  clear hq hx hr hs
  go_enter Try.func56, Try.ntmps56
  go_wp2_with (fail)
  refine Calls.mono (s_isometry p a d cap qs am n cm rows _ HS.out hl HR.out (HQ.out.ext (ext_alloc _ _)) (HX.out.ext (ext_alloc _ _))) ?_
  rintro e w1 ⟨rfl, g1⟩
  go_wp2_with (fail)
  go_ret
  exact ⟨rfl, (ext_alloc _ _).trans g1⟩
set_option maxHeartbeats 8000000 in
set_option maxRecDepth 100000 in
theorem c_CayleyOf_all (p : Int) (a : Option Addr) (d cap : Nat) (qs : List Int) (ax1 : Option Addr) (n1 cx1 : Nat) (xs1 : List (List Int)) (w : World) (hd : d ≤ 4194304) (hn1 : n1 ≤ 4194304) (hr1 : ∀ i, i < n1 → (nthR xs1 i).length ≤ 4194304) (hq : RdC w a d qs) (hx1 : RdR w ax1 n1 xs1) :
    Calls Try.prog 25 #[.agg #[.int .i64 p, .slice a d cap], .slice ax1 n1 cx1] w fun e w' => (codeCY p qs xs1 (skewB p qs xs1 d) ≠ 0 ∧ e = .returned (.tuple #[.slice none 0 0, .int .i64 (codeCY p qs xs1 (skewB p qs xs1 d))]) ∧ Ext w w') ∨
      (codeCY p qs xs1 (skewB p qs xs1 d) = 0 ∧ ∃ ra rc, e = .returned (.tuple #[.slice ra d rc, .int .i64 0]) ∧ OwnR w.heap.size w' ra d rc (cayM p xs1 d) ∧ Ext w w') := by
  have HQ := Lib.hid hq
  have HX := Lib.hid hx1
  have HR := Lib.hid hr1
  have HLN := Lib.hid hx1.1
  have HQD := Lib.hid hq.1
  clear hq hx1 hr1
  go_enter Try.func25, Try.ntmps25
  go_wp2_with (fail)
  refine Calls.mono (c_checkFrame p a d cap qs ax1 n1 cx1 xs1 _ hd hn1 HR.out (HQ.out.ext (ext_alloc _ _)) (HX.out.ext (ext_alloc _ _))) ?_
  rintro e w1 ⟨rfl, g1⟩
  have G := Lib.hid ((ext_alloc w (.cells #[.int .i64 p, .slice a d cap] 30)).trans g1)
  have s0 : w1.cell? ⟨w.heap.size, 0, none⟩ = some (.int .i64 p) := g1.cell (by simp)
  have s1 : w1.cell? ⟨w.heap.size, 1, none⟩ = some (.slice a d cap) := g1.cell (by simp)
  clear g1
  obtain ⟨cc, hcc⟩ : ∃ x, x = code10 p qs xs1 := ⟨_, rfl⟩
  rw [← hcc]
  by_cases hc : cc ≠ 0
  · have hcb : (cc != 0) = true := by simp [hc]
    have hce : (cc == 0) = false := by simp [hc]
    have HC := Lib.hid (cy_code (b := skewB p qs xs1 d) (by rw [← hcc]; exact hc))
    rw [← hcc] at HC
    clear hcc
    have HN := Lib.hid hc
    clear hc
    go_wp2_with (fail)
    go_ret2
    exact .inl ⟨by rw [HC.out]; exact HN.out, ret_pair HC.out.symm, G.out⟩
  obtain rfl : cc = 0 := by omega
  have HC0 := Lib.hid hcc.symm
  obtain ⟨hs, hfr, hrg⟩ := code10_zero hcc.symm
  obtain ⟨hpr, hd1, hd6, hqb⟩ := space_of hs
  have hpb := prime_bd hpr
  replace hqb := (good_isB HQD.out hqb).2
  rw [HQD.out] at hd1 hd6 hfr
  have hfo := frame_of hfr
  obtain rfl : n1 = d := HLN.out.symm.trans hfo.1
  have HS := Lib.hid hs
  have HGR := Lib.hid hfo.2
  have HPR := Lib.hid hpr
  have HQB := Lib.hid hqb
  clear hcc hc hs hpr hqb hfr hrg hfo
  go_wp2_with (fail)
  refine Calls.mono (c_cayley p a n1 cap qs ax1 cx1 xs1 _ HPR.out (by omega) hd6 (HX.out.ext G.out) HGR.out) ?_
  intro e w2 h2
  rcases h2 with ⟨hz, rfl, x2⟩ | ⟨hz, g2, c2, rfl, o2, x2⟩
  · have HC := Lib.hid (cy_det (b := skewB p qs xs1 n1) HC0.out (by rw [HQD.out]; exact hz))
    replace s0 := x2.cell s0
    replace s1 := x2.cell s1
    replace G := Lib.hid (G.out.trans x2)
    clear hz x2
    go_wp2_with (fail)
    refine Calls.mono (c_skew p a _ cap qs ax1 cx1 xs1 _ (by omega) (by omega) hd6 (HQ.out.ext G.out) HQB.out (HX.out.ext G.out) HGR.out) ?_
    rintro e w3 ⟨rfl, x3⟩
    replace G := Lib.hid (G.out.trans x3)
    clear x3
    obtain ⟨bb, hbb⟩ : ∃ x, x = skewB p qs xs1 n1 := ⟨_, rfl⟩
    rw [← hbb]
    have HBB := Lib.hid hbb
    clear hbb
    cases bb
    · go_wp2_with (fail)
      go_ret2
      exact .inl ⟨by rw [HC.out]; decide, ret_pair HC.out.symm, G.out⟩
    · go_wp2_with (fail)
      go_ret2
      exact .inl ⟨by rw [HC.out]; decide, ret_pair HC.out.symm, G.out⟩
  · have HZ := Lib.hid hz
    have HO := Lib.hid (o2.mono G.out.size)
    replace s0 := x2.cell s0
    replace s1 := x2.cell s1
    replace G := Lib.hid (G.out.trans x2)
    clear hz o2 x2
    go_wp2_with (fail)
    refine Calls.mono (c_skew p a _ cap qs ax1 cx1 xs1 _ (by omega) (by omega) hd6 (HQ.out.ext G.out) HQB.out (HX.out.ext G.out) HGR.out) ?_
    rintro e w3 ⟨rfl, x3⟩
    replace G := Lib.hid (G.out.trans x3)
    have HO3 := Lib.hid (HO.out.ext x3)
    clear x3
    obtain ⟨bb, hbb⟩ : ∃ x, x = skewB p qs xs1 n1 := ⟨_, rfl⟩
    rw [← hbb]
    have HBB := Lib.hid hbb
    clear hbb
    cases bb
    · have HC := Lib.hid (show codeCY p qs xs1 (skewB p qs xs1 n1) = 5 by rw [← HBB.out]; exact cy_flag HC0.out)
      go_wp2_with (fail)
      go_ret2
      exact .inl ⟨by rw [HC.out]; decide, ret_pair HC.out.symm, G.out⟩
    · have HC := Lib.hid (show codeCY p qs xs1 (skewB p qs xs1 n1) = 0 by rw [← HBB.out]; exact cy_ok HC0.out (by rw [HQD.out]; exact HZ.out))
      go_wp2_with (fail)
      go_ret2
      exact .inr ⟨HC.out, _, _, rfl, HO3.out, G.out⟩
theorem c_CayleyOf_bad (p : Int) (a : Option Addr) (d cap : Nat) (qs : List Int) (ax1 : Option Addr) (n1 cx1 : Nat) (xs1 : List (List Int)) (w : World) (hd : d ≤ 4194304) (hn1 : n1 ≤ 4194304) (hr1 : ∀ i, i < n1 → (nthR xs1 i).length ≤ 4194304) (hq : RdC w a d qs) (hx1 : RdR w ax1 n1 xs1) (hc : codeCY p qs xs1 (skewB p qs xs1 d) ≠ 0) :
    Calls Try.prog 25 #[.agg #[.int .i64 p, .slice a d cap], .slice ax1 n1 cx1] w fun e w' => ∃ ra rc, e = .returned (.tuple #[.slice ra 0 rc, .int .i64 (codeCY p qs xs1 (skewB p qs xs1 d))]) ∧ OwnR w.heap.size w' ra 0 rc [] ∧ Ext w w' := by
  refine (c_CayleyOf_all p a d cap qs ax1 n1 cx1 xs1 w hd hn1 hr1 hq hx1).mono ?_
  rintro e w' (⟨_, h2, h3⟩ | ⟨h1, _⟩)
  · exact ⟨_, _, h2, OwnR.nil _ _, h3⟩
  · exact absurd h1 hc
theorem c_CayleyOf_ok (p : Int) (a : Option Addr) (d cap : Nat) (qs : List Int) (ax1 : Option Addr) (n1 cx1 : Nat) (xs1 : List (List Int)) (w : World) (hd : d ≤ 4194304) (hn1 : n1 ≤ 4194304) (hr1 : ∀ i, i < n1 → (nthR xs1 i).length ≤ 4194304) (hq : RdC w a d qs) (hx1 : RdR w ax1 n1 xs1) (hc : codeCY p qs xs1 (skewB p qs xs1 d) = 0) :
    Calls Try.prog 25 #[.agg #[.int .i64 p, .slice a d cap], .slice ax1 n1 cx1] w fun e w' => ∃ ra rc, e = .returned (.tuple #[.slice ra d rc, .int .i64 0]) ∧ OwnR w.heap.size w' ra d rc (cayM p xs1 d) ∧ Ext w w' := by
  refine (c_CayleyOf_all p a d cap qs ax1 n1 cx1 xs1 w hd hn1 hr1 hq hx1).mono ?_
  rintro e w' (⟨h1, _, _⟩ | ⟨_, h2⟩)
  · exact absurd hc h1
  · exact h2
set_option maxHeartbeats 8000000 in
set_option maxRecDepth 100000 in
theorem s_CayleyOf_all (p : Int) (a : Option Addr) (d cap : Nat) (qs : List Int) (ax1 : Option Addr) (n1 cx1 : Nat) (xs1 : List (List Int)) (w : World) (hd : d ≤ 4194304) (hn1 : n1 ≤ 4194304) (hr1 : ∀ i, i < n1 → (nthR xs1 i).length ≤ 4194304) (hq : RdC w a d qs) (hx1 : RdR w ax1 n1 xs1) :
    Calls Try.prog 24 #[.agg #[.int .i64 p, .slice a d cap], .slice ax1 n1 cx1] w fun e w' => (codeCY p qs xs1 (skewB p qs xs1 d) ≠ 0 ∧ e = .returned (.tuple #[.slice none 0 0, .int .i64 (codeCY p qs xs1 (skewB p qs xs1 d))]) ∧ Ext w w') ∨
      (codeCY p qs xs1 (skewB p qs xs1 d) = 0 ∧ ∃ ra rc, e = .returned (.tuple #[.slice ra d rc, .int .i64 0]) ∧ OwnR w.heap.size w' ra d rc (cayM p xs1 d) ∧ Ext w w') := by
  have HQ := Lib.hid hq
  have HX := Lib.hid hx1
  have HR := Lib.hid hr1
  have HLN := Lib.hid hx1.1
  have HQD := Lib.hid hq.1
  clear hq hx1 hr1
  go_enter Try.func24, Try.ntmps24
  go_wp2_with (fail)
  refine Calls.mono (s_shape p a d cap qs ax1 n1 cx1 xs1 _ hd hn1 HR.out (HQ.out.ext (ext_alloc _ _)) (HX.out.ext (ext_alloc _ _))) ?_
  rintro e w1 ⟨rfl, g1⟩
  have G := Lib.hid ((ext_alloc w (.cells #[.int .i64 p, .slice a d cap] 30)).trans g1)
  have s0 : w1.cell? ⟨w.heap.size, 0, none⟩ = some (.int .i64 p) := g1.cell (by simp)
  have s1 : w1.cell? ⟨w.heap.size, 1, none⟩ = some (.slice a d cap) := g1.cell (by simp)
  clear g1
  obtain ⟨cc, hcc⟩ : ∃ x, x = code10 p qs xs1 := ⟨_, rfl⟩
  rw [← hcc]
  by_cases hc : cc ≠ 0
  · have hcb : (cc != 0) = true := by simp [hc]
    have hce : (cc == 0) = false := by simp [hc]
    have HC := Lib.hid (cy_code (b := skewB p qs xs1 d) (by rw [← hcc]; exact hc))
    rw [← hcc] at HC
    clear hcc
    have HN := Lib.hid hc
    clear hc
    go_wp2_with (fail)
    go_ret2
    exact .inl ⟨by rw [HC.out]; exact HN.out, ret_pair HC.out.symm, G.out⟩
  obtain rfl : cc = 0 := by omega
  have HC0 := Lib.hid hcc.symm
  obtain ⟨hs, hfr, hrg⟩ := code10_zero hcc.symm
  obtain ⟨hpr, hd1, hd6, hqb⟩ := space_of hs
  have hpb := prime_bd hpr
  replace hqb := (good_isB HQD.out hqb).2
  rw [HQD.out] at hd1 hd6 hfr
  have hfo := frame_of hfr
  obtain rfl : n1 = d := HLN.out.symm.trans hfo.1
  have HS := Lib.hid hs
  have HGR := Lib.hid hfo.2
  have HPR := Lib.hid hpr
  have HQB := Lib.hid hqb
  clear hcc hc hs hpr hqb hfr hrg hfo
  go_wp2_with (fail)
  refine Calls.mono (s_skew p a _ cap qs ax1 cx1 xs1 _ (by omega) (by omega) hd6 (HQ.out.ext G.out) HQB.out (HX.out.ext G.out) HGR.out) ?_
  rintro e w2 ⟨rfl, x2⟩
  replace s0 := x2.cell s0
  replace s1 := x2.cell s1
  replace G := Lib.hid (G.out.trans x2)
  clear x2
  obtain ⟨bb, hbb⟩ : ∃ x, x = skewB p qs xs1 n1 := ⟨_, rfl⟩
  rw [← hbb]
  have HBB := Lib.hid hbb
  clear hbb
  cases bb
  · have HC := Lib.hid (show codeCY p qs xs1 (skewB p qs xs1 n1) = 5 by rw [← HBB.out]; exact cy_flag HC0.out)
    go_wp2_with (fail)
    go_ret2
    exact .inl ⟨by rw [HC.out]; decide, ret_pair HC.out.symm, G.out⟩
  · go_wp2_with (fail)
    refine Calls.mono (s_cayley p ax1 n1 cx1 xs1 _ HPR.out (by omega) hd6 (HX.out.ext G.out) HGR.out) ?_
    intro e w3 h3
    rcases h3 with ⟨hz, rfl, x3⟩ | ⟨hz, g3, c3, rfl, o3, x3⟩
    · have HC := Lib.hid (cy_det (b := skewB p qs xs1 n1) HC0.out (by rw [HQD.out]; exact hz))
      replace G := Lib.hid (G.out.trans x3)
      clear hz x3
      go_wp2_with (fail)
      go_ret2
      exact .inl ⟨by rw [HC.out]; decide, ret_pair HC.out.symm, G.out⟩
    · have HC := Lib.hid (show codeCY p qs xs1 (skewB p qs xs1 n1) = 0 by rw [← HBB.out]; exact cy_ok HC0.out (by rw [HQD.out]; exact hz))
      have HO := Lib.hid (o3.mono G.out.size)
      replace G := Lib.hid (G.out.trans x3)
      clear hz o3 x3
      go_wp2_with (fail)
      go_ret2
      exact .inr ⟨HC.out, _, _, rfl, HO.out, G.out⟩
theorem s_CayleyOf_bad (p : Int) (a : Option Addr) (d cap : Nat) (qs : List Int) (ax1 : Option Addr) (n1 cx1 : Nat) (xs1 : List (List Int)) (w : World) (hd : d ≤ 4194304) (hn1 : n1 ≤ 4194304) (hr1 : ∀ i, i < n1 → (nthR xs1 i).length ≤ 4194304) (hq : RdC w a d qs) (hx1 : RdR w ax1 n1 xs1) (hc : codeCY p qs xs1 (skewB p qs xs1 d) ≠ 0) :
    Calls Try.prog 24 #[.agg #[.int .i64 p, .slice a d cap], .slice ax1 n1 cx1] w fun e w' => ∃ ra rc, e = .returned (.tuple #[.slice ra 0 rc, .int .i64 (codeCY p qs xs1 (skewB p qs xs1 d))]) ∧ OwnR w.heap.size w' ra 0 rc [] ∧ Ext w w' := by
  refine (s_CayleyOf_all p a d cap qs ax1 n1 cx1 xs1 w hd hn1 hr1 hq hx1).mono ?_
  rintro e w' (⟨_, h2, h3⟩ | ⟨h1, _⟩)
  · exact ⟨_, _, h2, OwnR.nil _ _, h3⟩
  · exact absurd h1 hc
theorem s_CayleyOf_ok (p : Int) (a : Option Addr) (d cap : Nat) (qs : List Int) (ax1 : Option Addr) (n1 cx1 : Nat) (xs1 : List (List Int)) (w : World) (hd : d ≤ 4194304) (hn1 : n1 ≤ 4194304) (hr1 : ∀ i, i < n1 → (nthR xs1 i).length ≤ 4194304) (hq : RdC w a d qs) (hx1 : RdR w ax1 n1 xs1) (hc : codeCY p qs xs1 (skewB p qs xs1 d) = 0) :
    Calls Try.prog 24 #[.agg #[.int .i64 p, .slice a d cap], .slice ax1 n1 cx1] w fun e w' => ∃ ra rc, e = .returned (.tuple #[.slice ra d rc, .int .i64 0]) ∧ OwnR w.heap.size w' ra d rc (cayM p xs1 d) ∧ Ext w w' := by
  refine (s_CayleyOf_all p a d cap qs ax1 n1 cx1 xs1 w hd hn1 hr1 hq hx1).mono ?_
  rintro e w' (⟨h1, _, _⟩ | ⟨_, h2⟩)
  · exact absurd hc h1
  · exact h2
set_option maxHeartbeats 8000000 in
set_option maxRecDepth 100000 in
theorem c_CayleyBack_all (p : Int) (a : Option Addr) (d cap : Nat) (qs : List Int) (ax1 : Option Addr) (n1 cx1 : Nat) (xs1 : List (List Int)) (w : World) (hd : d ≤ 4194304) (hn1 : n1 ≤ 4194304) (hr1 : ∀ i, i < n1 → (nthR xs1 i).length ≤ 4194304) (hq : RdC w a d qs) (hx1 : RdR w ax1 n1 xs1) :
    Calls Try.prog 27 #[.agg #[.int .i64 p, .slice a d cap], .slice ax1 n1 cx1] w fun e w' => (codeCY p qs xs1 (isoB p qs xs1 d) ≠ 0 ∧ e = .returned (.tuple #[.slice none 0 0, .int .i64 (codeCY p qs xs1 (isoB p qs xs1 d))]) ∧ Ext w w') ∨
      (codeCY p qs xs1 (isoB p qs xs1 d) = 0 ∧ ∃ ra rc, e = .returned (.tuple #[.slice ra d rc, .int .i64 0]) ∧ OwnR w.heap.size w' ra d rc (cayM p xs1 d) ∧ Ext w w') := by
  have HQ := Lib.hid hq
  have HX := Lib.hid hx1
  have HR := Lib.hid hr1
  have HLN := Lib.hid hx1.1
  have HQD := Lib.hid hq.1
  clear hq hx1 hr1
  go_enter Try.func27, Try.ntmps27
  go_wp2_with (fail)
  refine Calls.mono (c_checkFrame p a d cap qs ax1 n1 cx1 xs1 _ hd hn1 HR.out (HQ.out.ext (ext_alloc _ _)) (HX.out.ext (ext_alloc _ _))) ?_
  rintro e w1 ⟨rfl, g1⟩
  have G := Lib.hid ((ext_alloc w (.cells #[.int .i64 p, .slice a d cap] 30)).trans g1)
  have s0 : w1.cell? ⟨w.heap.size, 0, none⟩ = some (.int .i64 p) := g1.cell (by simp)
  have s1 : w1.cell? ⟨w.heap.size, 1, none⟩ = some (.slice a d cap) := g1.cell (by simp)
  clear g1
  obtain ⟨cc, hcc⟩ : ∃ x, x = code10 p qs xs1 := ⟨_, rfl⟩
  rw [← hcc]
  by_cases hc : cc ≠ 0
  · have hcb : (cc != 0) = true := by simp [hc]
    have hce : (cc == 0) = false := by simp [hc]
    have HC := Lib.hid (cy_code (b := isoB p qs xs1 d) (by rw [← hcc]; exact hc))
    rw [← hcc] at HC
    clear hcc
    have HN := Lib.hid hc
    clear hc
    go_wp2_with (fail)
    go_ret2
    exact .inl ⟨by rw [HC.out]; exact HN.out, ret_pair HC.out.symm, G.out⟩
  obtain rfl : cc = 0 := by omega
  have HC0 := Lib.hid hcc.symm
  obtain ⟨hs, hfr, hrg⟩ := code10_zero hcc.symm
  obtain ⟨hpr, hd1, hd6, hqb⟩ := space_of hs
  have hpb := prime_bd hpr
  replace hqb := (good_isB HQD.out hqb).2
  rw [HQD.out] at hd1 hd6 hfr
  have hfo := frame_of hfr
  obtain rfl : n1 = d := HLN.out.symm.trans hfo.1
  have HS := Lib.hid hs
  have HGR := Lib.hid hfo.2
  have HPR := Lib.hid hpr
  have HQB := Lib.hid hqb
  clear hcc hc hs hpr hqb hfr hrg hfo
  go_wp2_with (fail)
  refine Calls.mono (c_cayley p a n1 cap qs ax1 cx1 xs1 _ HPR.out (by omega) hd6 (HX.out.ext G.out) HGR.out) ?_
  intro e w2 h2
  rcases h2 with ⟨hz, rfl, x2⟩ | ⟨hz, g2, c2, rfl, o2, x2⟩
  · have HC := Lib.hid (cy_det (b := isoB p qs xs1 n1) HC0.out (by rw [HQD.out]; exact hz))
    replace s0 := x2.cell s0
    replace s1 := x2.cell s1
    replace G := Lib.hid (G.out.trans x2)
    clear hz x2
    go_wp2_with (fail)
    refine Calls.mono (c_isometry p a _ cap qs ax1 _ cx1 xs1 _ HS.out hn1 HR.out (HQ.out.ext G.out) (HX.out.ext G.out)) ?_
    rintro e w3 ⟨rfl, x3⟩
    replace G := Lib.hid (G.out.trans x3)
    clear x3
    obtain ⟨bb, hbb⟩ : ∃ x, x = isoB p qs xs1 n1 := ⟨_, rfl⟩
    rw [← hbb]
    have HBB := Lib.hid hbb
    clear hbb
    cases bb
    · go_wp2_with (fail)
      go_ret2
      exact .inl ⟨by rw [HC.out]; decide, ret_pair HC.out.symm, G.out⟩
    · go_wp2_with (fail)
      go_ret2
      exact .inl ⟨by rw [HC.out]; decide, ret_pair HC.out.symm, G.out⟩
  · have HZ := Lib.hid hz
    have HO := Lib.hid (o2.mono G.out.size)
    replace s0 := x2.cell s0
    replace s1 := x2.cell s1
    replace G := Lib.hid (G.out.trans x2)
    clear hz o2 x2
    go_wp2_with (fail)
    refine Calls.mono (c_isometry p a _ cap qs ax1 _ cx1 xs1 _ HS.out hn1 HR.out (HQ.out.ext G.out) (HX.out.ext G.out)) ?_
    rintro e w3 ⟨rfl, x3⟩
    replace G := Lib.hid (G.out.trans x3)
    have HO3 := Lib.hid (HO.out.ext x3)
    clear x3
    obtain ⟨bb, hbb⟩ : ∃ x, x = isoB p qs xs1 n1 := ⟨_, rfl⟩
    rw [← hbb]
    have HBB := Lib.hid hbb
    clear hbb
    cases bb
    · have HC := Lib.hid (show codeCY p qs xs1 (isoB p qs xs1 n1) = 5 by rw [← HBB.out]; exact cy_flag HC0.out)
      go_wp2_with (fail)
      go_ret2
      exact .inl ⟨by rw [HC.out]; decide, ret_pair HC.out.symm, G.out⟩
    · have HC := Lib.hid (show codeCY p qs xs1 (isoB p qs xs1 n1) = 0 by rw [← HBB.out]; exact cy_ok HC0.out (by rw [HQD.out]; exact HZ.out))
      go_wp2_with (fail)
      go_ret2
      exact .inr ⟨HC.out, _, _, rfl, HO3.out, G.out⟩
theorem c_CayleyBack_bad (p : Int) (a : Option Addr) (d cap : Nat) (qs : List Int) (ax1 : Option Addr) (n1 cx1 : Nat) (xs1 : List (List Int)) (w : World) (hd : d ≤ 4194304) (hn1 : n1 ≤ 4194304) (hr1 : ∀ i, i < n1 → (nthR xs1 i).length ≤ 4194304) (hq : RdC w a d qs) (hx1 : RdR w ax1 n1 xs1) (hc : codeCY p qs xs1 (isoB p qs xs1 d) ≠ 0) :
    Calls Try.prog 27 #[.agg #[.int .i64 p, .slice a d cap], .slice ax1 n1 cx1] w fun e w' => ∃ ra rc, e = .returned (.tuple #[.slice ra 0 rc, .int .i64 (codeCY p qs xs1 (isoB p qs xs1 d))]) ∧ OwnR w.heap.size w' ra 0 rc [] ∧ Ext w w' := by
  refine (c_CayleyBack_all p a d cap qs ax1 n1 cx1 xs1 w hd hn1 hr1 hq hx1).mono ?_
  rintro e w' (⟨_, h2, h3⟩ | ⟨h1, _⟩)
  · exact ⟨_, _, h2, OwnR.nil _ _, h3⟩
  · exact absurd h1 hc
theorem c_CayleyBack_ok (p : Int) (a : Option Addr) (d cap : Nat) (qs : List Int) (ax1 : Option Addr) (n1 cx1 : Nat) (xs1 : List (List Int)) (w : World) (hd : d ≤ 4194304) (hn1 : n1 ≤ 4194304) (hr1 : ∀ i, i < n1 → (nthR xs1 i).length ≤ 4194304) (hq : RdC w a d qs) (hx1 : RdR w ax1 n1 xs1) (hc : codeCY p qs xs1 (isoB p qs xs1 d) = 0) :
    Calls Try.prog 27 #[.agg #[.int .i64 p, .slice a d cap], .slice ax1 n1 cx1] w fun e w' => ∃ ra rc, e = .returned (.tuple #[.slice ra d rc, .int .i64 0]) ∧ OwnR w.heap.size w' ra d rc (cayM p xs1 d) ∧ Ext w w' := by
  refine (c_CayleyBack_all p a d cap qs ax1 n1 cx1 xs1 w hd hn1 hr1 hq hx1).mono ?_
  rintro e w' (⟨h1, _, _⟩ | ⟨_, h2⟩)
  · exact absurd hc h1
  · exact h2
set_option maxHeartbeats 8000000 in
set_option maxRecDepth 100000 in
theorem s_CayleyBack_all (p : Int) (a : Option Addr) (d cap : Nat) (qs : List Int) (ax1 : Option Addr) (n1 cx1 : Nat) (xs1 : List (List Int)) (w : World) (hd : d ≤ 4194304) (hn1 : n1 ≤ 4194304) (hr1 : ∀ i, i < n1 → (nthR xs1 i).length ≤ 4194304) (hq : RdC w a d qs) (hx1 : RdR w ax1 n1 xs1) :
    Calls Try.prog 26 #[.agg #[.int .i64 p, .slice a d cap], .slice ax1 n1 cx1] w fun e w' => (codeCY p qs xs1 (isoB p qs xs1 d) ≠ 0 ∧ e = .returned (.tuple #[.slice none 0 0, .int .i64 (codeCY p qs xs1 (isoB p qs xs1 d))]) ∧ Ext w w') ∨
      (codeCY p qs xs1 (isoB p qs xs1 d) = 0 ∧ ∃ ra rc, e = .returned (.tuple #[.slice ra d rc, .int .i64 0]) ∧ OwnR w.heap.size w' ra d rc (cayM p xs1 d) ∧ Ext w w') := by
  have HQ := Lib.hid hq
  have HX := Lib.hid hx1
  have HR := Lib.hid hr1
  have HLN := Lib.hid hx1.1
  have HQD := Lib.hid hq.1
  clear hq hx1 hr1
  go_enter Try.func26, Try.ntmps26
  go_wp2_with (fail)
  refine Calls.mono (s_shape p a d cap qs ax1 n1 cx1 xs1 _ hd hn1 HR.out (HQ.out.ext (ext_alloc _ _)) (HX.out.ext (ext_alloc _ _))) ?_
  rintro e w1 ⟨rfl, g1⟩
  have G := Lib.hid ((ext_alloc w (.cells #[.int .i64 p, .slice a d cap] 30)).trans g1)
  have s0 : w1.cell? ⟨w.heap.size, 0, none⟩ = some (.int .i64 p) := g1.cell (by simp)
  have s1 : w1.cell? ⟨w.heap.size, 1, none⟩ = some (.slice a d cap) := g1.cell (by simp)
  clear g1
  obtain ⟨cc, hcc⟩ : ∃ x, x = code10 p qs xs1 := ⟨_, rfl⟩
  rw [← hcc]
  by_cases hc : cc ≠ 0
  · have hcb : (cc != 0) = true := by simp [hc]
    have hce : (cc == 0) = false := by simp [hc]
    have HC := Lib.hid (cy_code (b := isoB p qs xs1 d) (by rw [← hcc]; exact hc))
    rw [← hcc] at HC
    clear hcc
    have HN := Lib.hid hc
    clear hc
    go_wp2_with (fail)
    go_ret2
    exact .inl ⟨by rw [HC.out]; exact HN.out, ret_pair HC.out.symm, G.out⟩
  obtain rfl : cc = 0 := by omega
  have HC0 := Lib.hid hcc.symm
  obtain ⟨hs, hfr, hrg⟩ := code10_zero hcc.symm
  obtain ⟨hpr, hd1, hd6, hqb⟩ := space_of hs
  have hpb := prime_bd hpr
  replace hqb := (good_isB HQD.out hqb).2
  rw [HQD.out] at hd1 hd6 hfr
  have hfo := frame_of hfr
  obtain rfl : n1 = d := HLN.out.symm.trans hfo.1
  have HS := Lib.hid hs
  have HGR := Lib.hid hfo.2
  have HPR := Lib.hid hpr
  have HQB := Lib.hid hqb
  clear hcc hc hs hpr hqb hfr hrg hfo
  go_wp2_with (fail)
  refine Calls.mono (s_l08Is p a _ cap qs ax1 _ cx1 xs1 _ HS.out hd hn1 HR.out (HQ.out.ext G.out) (HX.out.ext G.out)) ?_
  rintro e w2 ⟨rfl, x2⟩
  replace s0 := x2.cell s0
  replace s1 := x2.cell s1
  replace G := Lib.hid (G.out.trans x2)
  clear x2
  obtain ⟨bb, hbb⟩ : ∃ x, x = isoB p qs xs1 n1 := ⟨_, rfl⟩
  rw [← hbb]
  have HBB := Lib.hid hbb
  clear hbb
  cases bb
  · have HC := Lib.hid (show codeCY p qs xs1 (isoB p qs xs1 n1) = 5 by rw [← HBB.out]; exact cy_flag HC0.out)
    go_wp2_with (fail)
    go_ret2
    exact .inl ⟨by rw [HC.out]; decide, ret_pair HC.out.symm, G.out⟩
  · go_wp2_with (fail)
    refine Calls.mono (s_cayley p ax1 n1 cx1 xs1 _ HPR.out (by omega) hd6 (HX.out.ext G.out) HGR.out) ?_
    intro e w3 h3
    rcases h3 with ⟨hz, rfl, x3⟩ | ⟨hz, g3, c3, rfl, o3, x3⟩
    · have HC := Lib.hid (cy_det (b := isoB p qs xs1 n1) HC0.out (by rw [HQD.out]; exact hz))
      replace G := Lib.hid (G.out.trans x3)
      clear hz x3
      go_wp2_with (fail)
      go_ret2
      exact .inl ⟨by rw [HC.out]; decide, ret_pair HC.out.symm, G.out⟩
    · have HC := Lib.hid (show codeCY p qs xs1 (isoB p qs xs1 n1) = 0 by rw [← HBB.out]; exact cy_ok HC0.out (by rw [HQD.out]; exact hz))
      have HO := Lib.hid (o3.mono G.out.size)
      replace G := Lib.hid (G.out.trans x3)
      clear hz o3 x3
      go_wp2_with (fail)
      go_ret2
      exact .inr ⟨HC.out, _, _, rfl, HO.out, G.out⟩
theorem s_CayleyBack_bad (p : Int) (a : Option Addr) (d cap : Nat) (qs : List Int) (ax1 : Option Addr) (n1 cx1 : Nat) (xs1 : List (List Int)) (w : World) (hd : d ≤ 4194304) (hn1 : n1 ≤ 4194304) (hr1 : ∀ i, i < n1 → (nthR xs1 i).length ≤ 4194304) (hq : RdC w a d qs) (hx1 : RdR w ax1 n1 xs1) (hc : codeCY p qs xs1 (isoB p qs xs1 d) ≠ 0) :
    Calls Try.prog 26 #[.agg #[.int .i64 p, .slice a d cap], .slice ax1 n1 cx1] w fun e w' => ∃ ra rc, e = .returned (.tuple #[.slice ra 0 rc, .int .i64 (codeCY p qs xs1 (isoB p qs xs1 d))]) ∧ OwnR w.heap.size w' ra 0 rc [] ∧ Ext w w' := by
  refine (s_CayleyBack_all p a d cap qs ax1 n1 cx1 xs1 w hd hn1 hr1 hq hx1).mono ?_
  rintro e w' (⟨_, h2, h3⟩ | ⟨h1, _⟩)
  · exact ⟨_, _, h2, OwnR.nil _ _, h3⟩
  · exact absurd h1 hc
theorem s_CayleyBack_ok (p : Int) (a : Option Addr) (d cap : Nat) (qs : List Int) (ax1 : Option Addr) (n1 cx1 : Nat) (xs1 : List (List Int)) (w : World) (hd : d ≤ 4194304) (hn1 : n1 ≤ 4194304) (hr1 : ∀ i, i < n1 → (nthR xs1 i).length ≤ 4194304) (hq : RdC w a d qs) (hx1 : RdR w ax1 n1 xs1) (hc : codeCY p qs xs1 (isoB p qs xs1 d) = 0) :
    Calls Try.prog 26 #[.agg #[.int .i64 p, .slice a d cap], .slice ax1 n1 cx1] w fun e w' => ∃ ra rc, e = .returned (.tuple #[.slice ra d rc, .int .i64 0]) ∧ OwnR w.heap.size w' ra d rc (cayM p xs1 d) ∧ Ext w w' := by
  refine (s_CayleyBack_all p a d cap qs ax1 n1 cx1 xs1 w hd hn1 hr1 hq hx1).mono ?_
  rintro e w' (⟨h1, _, _⟩ | ⟨_, h2⟩)
  · exact absurd hc h1
  · exact h2
end Go.Proofs.Ytnabpmafcflljaa

/-
  What is known of the arguments of a law in memory, read off the form's own words.
  No condition.
-/
namespace Go.Proofs.Ytnabpmafcflljaa
set_option maxRecDepth 100000
open Go.ChangeShapes Go.WideShapes Go.ChangeAt Go.RowKit Go.Joins

theorem own : ownKnob Try.prog.godebug = none := by kernel_rfl
theorem laidOut : laidOutB Try.prog = true := by kernel_rfl
theorem Try.cellsI : Try.prog.cellsOf 2 = 1 := by kernel_rfl
theorem Try.cellsR : Try.prog.cellsOf 22 = 1 := by kernel_rfl
theorem Try.cellsS : Try.prog.cellsOf 24 = 2 := by kernel_rfl

theorem add_cell {w : World} {x : Addr} {i : Nat} {v v0 : Value} (h0 : w.cell? (x.add 0) = some v0) (h : w.cell? (x.add i) = some v) : ∃ b off, some x = some (⟨b, off, none⟩ : Addr) ∧ w.cell? ⟨b, off + i, none⟩ = some v := by
  obtain ⟨b, off, spot⟩ := x
  cases spot with
  | none =>
    refine ⟨b, off, rfl, ?_⟩
    unfold Addr.add at h
    split at h
    · rename_i hi; subst hi; exact h
    · exact h
  | some s =>
    simp only [World.cell?, Addr.add, if_true] at h0
    split at h0
    · simp at h0
    · cases h0

theorem read_cells {H : Type} {enc : TypeId × Value → H} {W : World} {fuel : Nat} {v : Value} {x : DataW H × List MemPlace}
    (hf : DataW.trod enc Try.prog W 0 (fun _ => true) true fuel 22 [v] = some x) : ∃ a n cap xs, v = .slice a n cap ∧ RdC W a n xs ∧ n ≤ maxLen := by
  rcases open_ints Try.underlying22 Try.underlying2 Try.cellsI hf with ⟨hcs, _⟩ | ⟨y, l, c, zs, hcs, _, hl, hm, hz, _, hcell, hwz⟩
  · simp only [List.cons.injEq, and_true] at hcs
    exact ⟨none, 0, 0, [], hcs, ⟨rfl, fun i hi => by omega⟩, by omega⟩
  · simp only [List.cons.injEq, and_true] at hcs
    have hz' : zs.length = c := by simpa using hz
    refine ⟨some y, l, c, zs.take l, hcs, ⟨by simp; omega, fun i hi => ?_⟩, by omega⟩
    obtain ⟨b, off, h1, h2⟩ := add_cell (hcell 0 (by omega)) (hcell i (by omega))
    refine ⟨b, off, h1, ?_⟩
    rw [h2]
    simp [nth, List.getElem?_take_of_lt hi]

theorem read_ints {H : Type} {enc : TypeId × Value → H} {W : World} {base : Nat} {v : Value} {d : DataW H} {p : List MemPlace}
    (hv : Value.okWide Try.prog W .any base 22 v) (h : DataW.Trod enc Try.prog W 0 (fun _ => true) true 22 v d p) : ∃ a n cap xs, v = .slice a n cap ∧ RdC W a n xs ∧ n ≤ maxLen := by
  obtain ⟨a0, len0, cap0, rfl⟩ := okWide_slice Try.underlying22 hv
  obtain ⟨fuel, hf⟩ := h
  exact read_cells (by simpa [Value.cells] using hf)

theorem read_space {H : Type} {enc : TypeId × Value → H} {W : World} {base : Nat} {v : Value} {d : DataW H} {p : List MemPlace}
    (hv : Value.okWide Try.prog W .any base 24 v) (h : DataW.Trod enc Try.prog W 0 (fun _ => true) true 24 v d p) : ∃ q a n cap xs, v = .agg #[.int .i64 q, .slice a n cap] ∧ RdC W a n xs ∧ n ≤ maxLen ∧ (Lit.int .i64 q).wf = true := by
  obtain ⟨c0, c1, y0, y1, m, rfl, rfl, rfl, hy0, hy1⟩ := open_agg2 Try.underlying24 (by kernel_rfl) Try.cellsS hv h
  obtain ⟨q, e0, _, wq⟩ := DataW.trod_int Try.underlying2 hy0
  simp only [List.cons.injEq, and_true] at e0
  obtain ⟨a, n, cap, xs, e1, hr, hm⟩ := read_cells hy1
  exact ⟨q, a, n, cap, xs, by rw [e0, e1], hr, hm, wq⟩

end Go.Proofs.Ytnabpmafcflljaa
