/-
  Contracts and plain laws, part 10: Fixed, Read, ReadR.
  No condition.
-/
import Derived.Test.YtnabpmafcflljaaPart9
import Derived.Test.YtnabpmafcflljaaPart0
import Derived.ProofKit
import Derived.OpenShut
import Derived.ShutString
import Derived.ChangeOld
import Derived.Below
import Derived.Lib.SmallJoins
import Derived.Deep.Matrix
/-
  The listed function FixedVectors.
  No condition.
-/
namespace Go.Proofs.Ytnabpmafcflljaa
set_option maxRecDepth 100000
open Go.RowKit

def lessL (p : Int) (rows : List (List Int)) (d : Nat) : List (List Int) := sumM p rows (unitL d d) (-1) d d
def fixL (p : Int) (rows : List (List Int)) (d : Nat) : List (List Int) := kernL p d (lessL p rows d)
theorem unit_good {p : Int} {d : Nat} (hp : 3 ≤ p) : RowsG p d (unitL d d) := fun i hi => by
  rw [unitL_len] at hi
  rw [unitL_nth hi]; exact blade_good hp
theorem less_good {p : Int} {rows : List (List Int)} {d : Nat} (hp : 1 ≤ p) : RowsG p d (lessL p rows d) := fun i hi => by
  unfold lessL at hi ⊢
  rw [sumM_len] at hi
  rw [sumM_nth hi]; exact plus_good hp
/-- A row of the matrix less the unit matrix, as the reference makes it. -/
theorem less_row {p : Int} {x : List Int} {d i : Nat} {v : Int} (_hp : 3 ≤ p) (hx : Good p d x) (hi : i < d) (hv : v = (nth x i + p - 1) % p) : x.set i v = plusL p x (bladeL d i) (-1) d := by
  refine ext_nth (by rw [List.length_set, plusL_len, hx.1]) fun t ht => ?_
  rw [List.length_set, hx.1] at ht
  rw [plusL_nth ht, plusN, bladeL_nth hi ht, nth_set (by rw [hx.1]; exact hi)]
  by_cases h : i = t
  · subst h
    rw [if_pos rfl, if_pos rfl, hv]
    rw [show nth x i + p - 1 = (nth x i + -1 * 1) + p by omega, Int.add_emod_right]
  · rw [if_neg h, if_neg h]
    have := hx.2 t ht
    rw [show nth x t + -1 * 0 = nth x t by omega, Int.emod_eq_of_lt this.1 this.2]
theorem fix_cnt {p : Int} {rows : List (List Int)} {d : Nat} (hp : primeB p = true) (hd : d ≤ 6) : (fixL p rows d).length ≤ 1048576 ∧ cntR (fixL p rows d) (fixL p rows d).length ≤ 1048576 := by
  have h := kernL_cnt (n := d) (rows := lessL p rows d) hp
  have hl : (fixL p rows d).length ≤ 64 := by have := h.1; unfold fixL; omega
  have := cntR_rows (rows := fixL p rows d) h.2 (by omega) _ (Nat.le_refl _)
  omega

set_option maxHeartbeats 400000 in
theorem c_FixedVectors_bad (p : Int) (a : Option Addr) (d cap : Nat) (qs : List Int) (ax1 : Option Addr) (n1 cx1 : Nat) (xs1 : List (List Int)) (w : World) (hd : d ≤ 4194304) (hn1 : n1 ≤ 4194304) (hr1 : ∀ i, i < n1 → (nthR xs1 i).length ≤ 4194304) (hq : RdC w a d qs) (hx1 : RdR w ax1 n1 xs1) (hc : code8 p qs xs1 ≠ 0) :
    Calls Try.prog 22 #[.agg #[.int .i64 p, .slice a d cap], .slice ax1 n1 cx1] w fun e w' => ∃ ra rc, e = .returned (.tuple #[.slice ra 0 rc, .int .i64 (code8 p qs xs1)]) ∧ OwnR w.heap.size w' ra 0 rc [] ∧ Ext w w' := by
  have hcb : (code8 p qs xs1 != 0) = true := by simp [hc]
  have HQ := Lib.hid hq
  have HX := Lib.hid hx1
  have HR := Lib.hid hr1
  clear hc hq hx1 hr1
  go_enter Try.func22, Try.ntmps22
  go_wp2_with (go_at_call 44; refine (c_checkOrth p a _ cap qs ax1 _ cx1 xs1 _ hd hn1 HR.out (HQ.out.ext (ext_alloc _ _)) (HX.out.ext (ext_alloc _ _))).mono ?_; rintro e w1 ⟨rfl, g1⟩)
  go_ret2
  exact ⟨none, 0, rfl, OwnR.nil _ _, (ext_alloc _ _).trans g1⟩
set_option maxHeartbeats 8000000 in
set_option maxRecDepth 100000 in
theorem c_FixedVectors_ok (p : Int) (a : Option Addr) (d cap : Nat) (qs : List Int) (ax1 : Option Addr) (n1 cx1 : Nat) (xs1 : List (List Int)) (w : World) (hd : d ≤ 4194304) (hn1 : n1 ≤ 4194304) (hr1 : ∀ i, i < n1 → (nthR xs1 i).length ≤ 4194304) (hq : RdC w a d qs) (hx1 : RdR w ax1 n1 xs1) (hc : code8 p qs xs1 = 0) :
    Calls Try.prog 22 #[.agg #[.int .i64 p, .slice a d cap], .slice ax1 n1 cx1] w fun e w' => ∃ ra rc, e = .returned (.tuple #[.slice ra (fixL p xs1 d).length rc, .int .i64 0]) ∧ OwnR w.heap.size w' ra (fixL p xs1 d).length rc (fixL p xs1 d) ∧ Ext w w' := by
  obtain ⟨hs, hrg, hiso⟩ := code8_zero hc
  obtain ⟨hpr, hd1, hd6, hqb⟩ := space_of hs
  have hpb := prime_bd hpr
  have hpz : ¬ p = 0 := by omega
  have hqd := hq.1
  rw [hqd] at hd1 hd6 hiso
  obtain ⟨him, hil, hiw, _, _⟩ := isoB_of hiso
  have hn1d := hx1.1.symm.trans hil
  subst hn1d
  have HGR := Lib.hid (show RowsG p n1 xs1 from mat_good him hiw)
  have HLN := Lib.hid hil
  have HPR := Lib.hid hpr
  have HC := Lib.hid hc
  have HQ := Lib.hid hq
  have HX := Lib.hid hx1
  have HR := Lib.hid hr1
  have hcb : ((0 : Int) != 0) = false := by simp
  clear hc hs hrg hiso hpr hqb him hil hiw hqd hq hx1 hr1
  go_enter Try.func22, Try.ntmps22
  go_wp2_with (go_at_call 44; refine (c_checkOrth p a _ cap qs ax1 _ cx1 xs1 _ hd hn1 HR.out (HQ.out.ext (ext_alloc _ _)) (HX.out.ext (ext_alloc _ _))).mono ?_; rintro e w1 ⟨rfl, g1⟩; rw [HC.out]; have hq0 : w1.cell? ⟨w.heap.size, 0, none⟩ = some (.int .i64 p) := g1.cell (by simp); have hq1 : w1.cell? ⟨w.heap.size, 1, none⟩ = some (.slice a n1 cap) := g1.cell (by simp))
  have HS0 := Lib.hid ((ext_drew _).cell hq0)
  have HS1 := Lib.hid ((ext_drew _).cell hq1)
  have GW := Lib.hid ((((ext_alloc w (.cells #[.int .i64 p, .slice a n1 cap] 30))).trans g1).trans (ext_drew _))
  clear g1 hq0 hq1
  refine wp_region_lex [(1, .val (.int .i64 p)), (3, .val (.int .i64 p)), (6, .val (.int .i64 n1)), (7, .ownR w.heap.size n1 (unitL n1 n1)), (8, .ownR w.heap.size n1 (lessL p xs1 n1)), (10, .val (.int .i64 n1)), (11, .ownR w.heap.size (kernL p n1 (lessL p xs1 n1)).length ((kernL p n1 (lessL p xs1 n1))))] (by kernel_rfl) (by kernel_rfl) ?_
  (refine LexW.pure (v := ?_) rfl rfl (fun w1 he => ?_) ?_; rotate_left; ( have e1 := he.cell HS0.out; have e2 := he.cell HS1.out; go_simp; rfl); simp only [Act.put, List.setIfInBounds_toArray, List.set_cons_zero, List.set_cons_succ])
  (refine LexW.call (f := ?_) (args := ?_) rfl rfl (fun w1 => ?_) (fun w1 he hdep => ?_) ?_; rotate_left 2; (go_simp; refine ⟨?_, ?_⟩ <;> rfl); ( exact c_field p _ w1); simp only [Act.put, List.setIfInBounds_toArray, List.set_cons_zero, List.set_cons_succ])
  (refine LexW.pure (v := ?_) rfl rfl (fun w1 he => ?_) ?_; rotate_left; ( have e1 := he.cell HS0.out; have e2 := he.cell HS1.out; go_simp; rfl); simp only [Act.put, List.setIfInBounds_toArray, List.set_cons_zero, List.set_cons_succ])
  (refine LexW.call (f := ?_) (args := ?_) rfl rfl (fun w1 => ?_) (fun w1 he hdep => ?_) ?_; rotate_left 2; (go_simp; refine ⟨?_, ?_⟩ <;> rfl); ( exact c_field p _ w1); simp only [Act.put, List.setIfInBounds_toArray, List.set_cons_zero, List.set_cons_succ])
  (refine LexW.pure (v := ?_) rfl rfl (fun w1 he => ?_) ?_; rotate_left; ( have e1 := he.cell HS0.out; have e2 := he.cell HS1.out; go_simp; rfl); simp only [Act.put, List.setIfInBounds_toArray, List.set_cons_zero, List.set_cons_succ])
  (refine LexW.pure (v := ?_) rfl rfl (fun w1 he => ?_) ?_; rotate_left; ( have e1 := he.cell HS0.out; have e2 := he.cell HS1.out; go_simp; rfl); simp only [Act.put, List.setIfInBounds_toArray, List.set_cons_zero, List.set_cons_succ])
  (refine LexW.call (f := ?_) (args := ?_) rfl rfl (fun w1 => ?_) (fun w1 he hdep => ?_) ?_; rotate_left 2; (go_simp; refine ⟨?_, ?_⟩ <;> rfl); ( exact c_dim _ _ _ _ _); simp only [Act.put, List.setIfInBounds_toArray, List.set_cons_zero, List.set_cons_succ])
  (refine LexW.callR (f := ?_) (args := ?_) rfl rfl (fun w1 => ?_) (fun w1 he hdep => ?_) (fun v hv => ?_); rotate_left 2; (go_simp; refine ⟨?_, ?_⟩ <;> rfl); ( refine (c_unit n1 w1 (by omega)).mono ?_; rintro e w2 ⟨g, rc, rfl, ho, g2⟩; exact ⟨_, rfl, g2, g, rc, rfl, ho.mono (Nat.le_trans GW.out.size he.size)⟩); simp only [Act.put, List.setIfInBounds_toArray, List.set_cons_zero, List.set_cons_succ])
  obtain ⟨_, g20, c20, rfl, _⟩ := hv
  (refine LexW.callR (f := ?_) (args := ?_) rfl rfl (fun w1 => ?_) (fun w1 he hdep => ?_) (fun v hv => ?_); rotate_left 2; (go_simp; refine ⟨?_, ?_⟩ <;> rfl); ( obtain ⟨_, _, q20, r20⟩ : (SPred.ownR w.heap.size n1 (unitL n1 n1)).holds (.slice (some ⟨g20, 0, none⟩) n1 c20) w1 := hdep (7, 20) (by decide +kernel); cases q20; refine (c_sum p _ _ n1 n1 _ _ xs1 (unitL n1 n1) (-1) w1 (by omega) (by omega) (by omega) (by omega) (by omega) (HX.out.ext (GW.out.trans he)) r20.rd HGR.out (unit_good (by omega))).mono ?_; rintro e w2 ⟨g, rc, rfl, ho, g2⟩; exact ⟨_, rfl, g2, g, rc, rfl, ho.mono (Nat.le_trans GW.out.size he.size)⟩); simp only [Act.put, List.setIfInBounds_toArray, List.set_cons_zero, List.set_cons_succ])
  obtain ⟨_, g21, c21, rfl, _⟩ := hv
  (refine LexW.pure (v := ?_) rfl rfl (fun w1 he => ?_) ?_; rotate_left; ( have e1 := he.cell HS0.out; have e2 := he.cell HS1.out; go_simp; rfl); simp only [Act.put, List.setIfInBounds_toArray, List.set_cons_zero, List.set_cons_succ])
  (refine LexW.call (f := ?_) (args := ?_) rfl rfl (fun w1 => ?_) (fun w1 he hdep => ?_) ?_; rotate_left 2; (go_simp; refine ⟨?_, ?_⟩ <;> rfl); ( exact c_dim _ _ _ _ _); simp only [Act.put, List.setIfInBounds_toArray, List.set_cons_zero, List.set_cons_succ])
  (refine LexW.callR (f := ?_) (args := ?_) rfl rfl (fun w1 => ?_) (fun w1 he hdep => ?_) (fun v hv => ?_); rotate_left 2; (go_simp; refine ⟨?_, ?_⟩ <;> rfl); ( obtain ⟨_, _, q21, r21⟩ : (SPred.ownR w.heap.size n1 (lessL p xs1 n1)).holds (.slice (some ⟨g21, 0, none⟩) n1 c21) w1 := hdep (8, 21) (by decide +kernel); cases q21; refine (c_kernel p _ n1 _ n1 (lessL p xs1 n1) w1 HPR.out (by omega) (by omega) (by omega) r21.rd (less_good (by omega))).mono ?_; rintro e w2 ⟨g, rc, rfl, ho, g2⟩; exact ⟨_, rfl, g2, g, rc, rfl, ho.mono (Nat.le_trans GW.out.size he.size)⟩); simp only [Act.put, List.setIfInBounds_toArray, List.set_cons_zero, List.set_cons_succ])
  obtain ⟨_, g24, c24, rfl, _⟩ := hv
  (refine LexW.pure (v := ?_) rfl rfl (fun w1 he => ?_) ?_; rotate_left; ( have e1 := he.cell HS0.out; have e2 := he.cell HS1.out; go_simp; rfl); simp only [Act.put, List.setIfInBounds_toArray, List.set_cons_zero, List.set_cons_succ])
  (refine LexW.pure (v := ?_) rfl rfl (fun w1 he => ?_) ?_; rotate_left; ( have e1 := he.cell HS0.out; have e2 := he.cell HS1.out; go_simp; rfl); simp only [Act.put, List.setIfInBounds_toArray, List.set_cons_zero, List.set_cons_succ])
  refine LexW.nil (fun w3 he hkn => ?_)
  obtain ⟨_, _, q24, r24⟩ : (SPred.ownR w.heap.size (kernL p n1 (lessL p xs1 n1)).length ((kernL p n1 (lessL p xs1 n1)))).holds (.slice (some ⟨g24, 0, none⟩) (kernL p n1 (lessL p xs1 n1)).length c24) w3 := hkn (11, _) (by simp)
  cases q24
  have R24 := Lib.hid r24
  have HE := Lib.hid (GW.out.trans he)
  clear he hkn r24
  go_wp2_with (fail)
  go_ret2
  exact ⟨_, _, rfl, R24.out, HE.out⟩

set_option maxHeartbeats 400000 in
theorem s_FixedVectors_bad (p : Int) (a : Option Addr) (d cap : Nat) (qs : List Int) (ax1 : Option Addr) (n1 cx1 : Nat) (xs1 : List (List Int)) (w : World) (hd : d ≤ 4194304) (hn1 : n1 ≤ 4194304) (hr1 : ∀ i, i < n1 → (nthR xs1 i).length ≤ 4194304) (hq : RdC w a d qs) (hx1 : RdR w ax1 n1 xs1) (hc : code8 p qs xs1 ≠ 0) :
    Calls Try.prog 21 #[.agg #[.int .i64 p, .slice a d cap], .slice ax1 n1 cx1] w fun e w' => ∃ ra rc, e = .returned (.tuple #[.slice ra 0 rc, .int .i64 (code8 p qs xs1)]) ∧ OwnR w.heap.size w' ra 0 rc [] ∧ Ext w w' := by
  have hcb : (code8 p qs xs1 != 0) = true := by simp [hc]
  have HQ := Lib.hid hq
  have HX := Lib.hid hx1
  have HR := Lib.hid hr1
  clear hc hq hx1 hr1
  go_enter Try.func21, Try.ntmps21
  go_wp2_with (go_at_call 41; refine (s_code8 p a _ cap qs ax1 _ cx1 xs1 _ hd hn1 HR.out (HQ.out.ext (ext_alloc _ _)) (HX.out.ext (ext_alloc _ _))).mono ?_; rintro e w1 ⟨rfl, g1⟩)
  go_ret2
  exact ⟨none, 0, rfl, OwnR.nil _ _, (ext_alloc _ _).trans g1⟩
set_option maxHeartbeats 8000000 in
set_option maxRecDepth 100000 in
theorem s_FixedVectors_ok (p : Int) (a : Option Addr) (d cap : Nat) (qs : List Int) (ax1 : Option Addr) (n1 cx1 : Nat) (xs1 : List (List Int)) (w : World) (hd : d ≤ 4194304) (hn1 : n1 ≤ 4194304) (hr1 : ∀ i, i < n1 → (nthR xs1 i).length ≤ 4194304) (hq : RdC w a d qs) (hx1 : RdR w ax1 n1 xs1) (hc : code8 p qs xs1 = 0) :
    Calls Try.prog 21 #[.agg #[.int .i64 p, .slice a d cap], .slice ax1 n1 cx1] w fun e w' => ∃ ra rc, e = .returned (.tuple #[.slice ra (fixL p xs1 d).length rc, .int .i64 0]) ∧ OwnR w.heap.size w' ra (fixL p xs1 d).length rc (fixL p xs1 d) ∧ Ext w w' := by
  obtain ⟨hs, hrg, hiso⟩ := code8_zero hc
  obtain ⟨hpr, hd1, hd6, hqb⟩ := space_of hs
  have hpb := prime_bd hpr
  have hpz : ¬ p = 0 := by omega
  have hqd := hq.1
  rw [hqd] at hd1 hd6 hiso
  obtain ⟨him, hil, hiw, _, _⟩ := isoB_of hiso
  have hn1d := hx1.1.symm.trans hil
  subst hn1d
  have HGR := Lib.hid (show RowsG p n1 xs1 from mat_good him hiw)
  have HLN := Lib.hid hil
  have HPR := Lib.hid hpr
  have HC := Lib.hid hc
  have HQ := Lib.hid hq
  have HX := Lib.hid hx1
  have HR := Lib.hid hr1
  have hcb : ((0 : Int) != 0) = false := by simp
  clear hc hs hrg hiso hpr hqb him hil hiw hqd hq hx1 hr1
  go_enter Try.func21, Try.ntmps21
  go_wp2_with (go_at_call 41; refine (s_code8 p a _ cap qs ax1 _ cx1 xs1 _ hd hn1 HR.out (HQ.out.ext (ext_alloc _ _)) (HX.out.ext (ext_alloc _ _))).mono ?_; rintro e w1 ⟨rfl, g1⟩; rw [HC.out]; have hq0 : w1.cell? ⟨w.heap.size, 0, none⟩ = some (.int .i64 p) := g1.cell (by simp); have hq1 : w1.cell? ⟨w.heap.size, 1, none⟩ = some (.slice a n1 cap) := g1.cell (by simp))
  have HS0 := Lib.hid hq0
  have GW := Lib.hid (((ext_alloc w (.cells #[.int .i64 p, .slice a n1 cap] 30))).trans g1)
  clear g1 hq0 hq1
  go_loopw [7, 8] (fun v i wr => ∃ (k g rc : Nat), k ≤ n1 ∧ i = .int .i64 k ∧ v = .slice (some ⟨g, 0, none⟩) k rc ∧ Hid (OwnR w1.heap.size wr (some ⟨g, 0, none⟩) k rc (sumM p xs1 (unitL n1 n1) (-1) n1 k)) ∧ Hid (Ext w1 wr)) (fun _ i _ => n1 - (intOf i).toNat)
  case atStart => exact ⟨0, _, _, Nat.zero_le _, rfl, rfl, Lib.hid (ownR_empty w1), Lib.hid (ext_alloc _ _)⟩
  case round =>
    rename World => y
    obtain ⟨k, g, rc, hk, rfl, rfl, HO, HY⟩ := hrel
    by_cases hlt : k < n1
    · obtain ⟨bm, om, ar, cr, rfl, hck, hrk⟩ := HX.out.2 k hlt
      have HGK := Lib.hid (HGR.out k (by rw [HLN.out]; exact hlt))
      rw [HGK.out.1] at hck hrk
      obtain ⟨br, or, rfl, _⟩ := hrk.2 0 (by omega)
      have hcy := (GW.out.trans HY.out).cell hck
      have HRK := Lib.hid (hrk.ext (GW.out.trans HY.out))
      clear hck hrk
      go_wp2_with (fail)
      clear hcy
      refine Calls.mono (s_own br or n1 cr (nthR xs1 k) y (by omega) (by omega) HRK.out) ?_
      rintro e y2 ⟨g2, c2, rfl, ho2, x2⟩
      have HO2 := Lib.hid ho2
      have X2 := Lib.hid x2
      obtain ⟨xv, hxv⟩ : ∃ x, x = nth (nthR xs1 k) k := ⟨_, rfl⟩
      have hxb : 0 ≤ xv ∧ xv < p := by rw [hxv]; exact HGK.out.2 k hlt
      have hgy := Lib.hid (ho2.base_le).1
      have hc2 := (ext_drew y2).cell (ho2.cell hlt)
      rw [← hxv] at hc2
      have HC2 := Lib.hid hc2
      have HXV := Lib.hid hxv
      have HS := Lib.hid (((HY.out.trans x2).trans (ext_drew y2)).cell HS0.out)
      obtain ⟨s1, hs1⟩ : ∃ x, x = xv + p := ⟨_, rfl⟩
      obtain ⟨s2, hs2⟩ : ∃ x, x = s1 - 1 := ⟨_, rfl⟩
      obtain ⟨s3, hs3⟩ : ∃ x, x = s2 % p := ⟨_, rfl⟩
      have W1 := Lib.hid (show IntKind.i64.wrap (xv + p) = s1 by rw [hs1]; exact IntWalk.i64_in _ (by omega))
      have W2 := Lib.hid (show IntKind.i64.wrap (s1 - 1) = s2 by rw [hs2]; exact IntWalk.i64_in _ (by omega))
      have W3 := Lib.hid (show s2.tmod p = s3 by rw [hs3]; exact Int.tmod_eq_emod_of_nonneg (by omega))
      have HV := Lib.hid (show s3 = (nth (nthR xs1 k) k + p - 1) % p by rw [hs3, hs2, hs1, HXV.out])
      clear ho2 x2 hc2 hxv hs1 hs2 hs3
      go_wp2_with (fail)
      refine wp_region_lex_tail 14 [] (by kernel_rfl) (by kernel_rfl) ?_
      simp only [List.take, List.drop]
      (refine LexW.pure (v := ?_) rfl rfl (fun w1 he => ?_) ?_; rotate_left; ( have e1 := he.cell HC2.out; have e2 := he.cell HS.out; have e3 := W1.out; have e4 := W2.out; have e5 := W3.out; go_simp; rfl); simp only [Act.put, List.setIfInBounds_toArray, List.set_cons_zero, List.set_cons_succ])
      (refine LexW.pure (v := ?_) rfl rfl (fun w1 he => ?_) ?_; rotate_left; ( have e1 := he.cell HC2.out; have e2 := he.cell HS.out; have e3 := W1.out; have e4 := W2.out; have e5 := W3.out; go_simp; rfl); simp only [Act.put, List.setIfInBounds_toArray, List.set_cons_zero, List.set_cons_succ])
      (refine LexW.pure (v := ?_) rfl rfl (fun w1 he => ?_) ?_; rotate_left; ( have e1 := he.cell HC2.out; have e2 := he.cell HS.out; have e3 := W1.out; have e4 := W2.out; have e5 := W3.out; go_simp; rfl); simp only [Act.put, List.setIfInBounds_toArray, List.set_cons_zero, List.set_cons_succ])
      (refine LexW.pure (v := ?_) rfl rfl (fun w1 he => ?_) ?_; rotate_left; ( have e1 := he.cell HC2.out; have e2 := he.cell HS.out; have e3 := W1.out; have e4 := W2.out; have e5 := W3.out; go_simp; rfl); simp only [Act.put, List.setIfInBounds_toArray, List.set_cons_zero, List.set_cons_succ])
      (refine LexW.pure (v := ?_) rfl rfl (fun w1 he => ?_) ?_; rotate_left; ( have e1 := he.cell HC2.out; have e2 := he.cell HS.out; have e3 := W1.out; have e4 := W2.out; have e5 := W3.out; go_simp; rfl); simp only [Act.put, List.setIfInBounds_toArray, List.set_cons_zero, List.set_cons_succ])
      (refine LexW.pure (v := ?_) rfl rfl (fun w1 he => ?_) ?_; rotate_left; ( have e1 := he.cell HC2.out; have e2 := he.cell HS.out; have e3 := W1.out; have e4 := W2.out; have e5 := W3.out; go_simp; rfl); simp only [Act.put, List.setIfInBounds_toArray, List.set_cons_zero, List.set_cons_succ])
      (refine LexW.pure (v := ?_) rfl rfl (fun w1 he => ?_) ?_; rotate_left; ( have e1 := he.cell HC2.out; have e2 := he.cell HS.out; have e3 := W1.out; have e4 := W2.out; have e5 := W3.out; go_simp; rfl); simp only [Act.put, List.setIfInBounds_toArray, List.set_cons_zero, List.set_cons_succ])
      (refine LexW.pure (v := ?_) rfl rfl (fun w1 he => ?_) ?_; rotate_left; ( have e1 := he.cell HC2.out; have e2 := he.cell HS.out; have e3 := W1.out; have e4 := W2.out; have e5 := W3.out; go_simp; rfl); simp only [Act.put, List.setIfInBounds_toArray, List.set_cons_zero, List.set_cons_succ])
      (refine LexW.pure (v := ?_) rfl rfl (fun w1 he => ?_) ?_; rotate_left; ( have e1 := he.cell HC2.out; have e2 := he.cell HS.out; have e3 := W1.out; have e4 := W2.out; have e5 := W3.out; go_simp; rfl); simp only [Act.put, List.setIfInBounds_toArray, List.set_cons_zero, List.set_cons_succ])
      (refine LexW.pure (v := ?_) rfl rfl (fun w1 he => ?_) ?_; rotate_left; ( have e1 := he.cell HC2.out; have e2 := he.cell HS.out; have e3 := W1.out; have e4 := W2.out; have e5 := W3.out; go_simp; rfl); simp only [Act.put, List.setIfInBounds_toArray, List.set_cons_zero, List.set_cons_succ])
      (refine LexW.pure (v := ?_) rfl rfl (fun w1 he => ?_) ?_; rotate_left; ( have e1 := he.cell HC2.out; have e2 := he.cell HS.out; have e3 := W1.out; have e4 := W2.out; have e5 := W3.out; go_simp; rfl); simp only [Act.put, List.setIfInBounds_toArray, List.set_cons_zero, List.set_cons_succ])
      (refine LexW.pure (v := ?_) rfl rfl (fun w1 he => ?_) ?_; rotate_left; ( have e1 := he.cell HC2.out; have e2 := he.cell HS.out; have e3 := W1.out; have e4 := W2.out; have e5 := W3.out; go_simp; rfl); simp only [Act.put, List.setIfInBounds_toArray, List.set_cons_zero, List.set_cons_succ])
      (refine LexW.pure (v := ?_) rfl rfl (fun w1 he => ?_) ?_; rotate_left; ( have e1 := he.cell HC2.out; have e2 := he.cell HS.out; have e3 := W1.out; have e4 := W2.out; have e5 := W3.out; go_simp; rfl); simp only [Act.put, List.setIfInBounds_toArray, List.set_cons_zero, List.set_cons_succ])
      (refine LexW.pure (v := ?_) rfl rfl (fun w1 he => ?_) ?_; rotate_left; ( have e1 := he.cell HC2.out; have e2 := he.cell HS.out; have e3 := W1.out; have e4 := W2.out; have e5 := W3.out; go_simp; rfl); simp only [Act.put, List.setIfInBounds_toArray, List.set_cons_zero, List.set_cons_succ])
      refine LexW.nil (fun w3 he hkn => ?_)
      have HE := Lib.hid he
      clear he hkn 
      rename World => y3
      have HO3 := Lib.hid (HO2.out.ext ((ext_drew y2).trans HE.out))
      have X3 := Lib.hid (X2.out.trans ((ext_drew y2).trans HE.out))
      have hcz := HO3.out.cell hlt
      have hfz := HO3.out.frozen k
      go_wp2_with (at_builtin; refine wpList_pushR (w0 := y) rfl (.tmp 42) (.tmp 44) rfl rfl rfl HO.out ((X3.out.setCell hgy.out _).trans (ext_alloc _ _)) (xs := plusL p (nthR xs1 k) (bladeL n1 k) (-1) n1) (by rw [← less_row (by omega) HGK.out hlt HV.out]; exact ((HO3.out.store hlt s3).ext (ext_alloc _ _))) ?hc (by omega) HY.out.size ?hk)
      case hc => exact cell_new _ _ (by simp) _ _
      case hk =>
        intro g' cap' w5 ho5 hg5 he5
        have HO5 := Lib.hid ho5
        have HE5 := Lib.hid (he5 w1 (Nat.le_refl _) ((HY.out.trans (X3.out.setCell hgy.out _)).alloc _))
        clear ho5 hg5 he5
        go_wp2_with (fail)
        go_roundw
        case rel => exact ⟨k + 1, g', cap', by omega, by go_num, rfl, Lib.hid (by rw [sumM_succ, unitL_nth hlt]; exact HO5.out), HE5⟩
        case measure => simp [intOf]; omega
    · obtain rfl : k = n1 := by omega
      have s0 := HY.out.cell HS0.out
      go_wp2_with (fail)
      refine Calls.mono (s_kernel p _ k _ k (lessL p xs1 k) y HPR.out (by omega) (by omega) (by omega) (by omega) HO.out.rd (less_good (by omega))) ?_
      rintro e y2 ⟨g2, c2, rfl, ho2, x2⟩
      have R2 := Lib.hid ho2
      have HE := Lib.hid (GW.out.trans (HY.out.trans x2))
      have hsz := Lib.hid (GW.out.trans HY.out).size
      clear ho2 x2 s0
      go_wp2_with (fail)
      go_ret2
      exact ⟨_, _, rfl, R2.out.mono hsz.out, HE.out⟩

end Go.Proofs.Ytnabpmafcflljaa

/-
  What is known of the arguments of a law in memory, read off the form's own words.
  No condition.
-/
namespace Go.Proofs.Ytnabpmafcflljaa
set_option maxRecDepth 100000
open Go.ChangeShapes Go.WideShapes Go.ChangeAt Go.RowKit Go.Joins

theorem own : ownKnob Try.prog.godebug = none := by kernel_rfl
theorem laidOut : laidOutB Try.prog = true := by kernel_rfl
theorem Try.cellsI : Try.prog.cellsOf 2 = 1 := by kernel_rfl
theorem Try.cellsR : Try.prog.cellsOf 22 = 1 := by kernel_rfl
theorem Try.cellsS : Try.prog.cellsOf 24 = 2 := by kernel_rfl

theorem add_cell {w : World} {x : Addr} {i : Nat} {v v0 : Value} (h0 : w.cell? (x.add 0) = some v0) (h : w.cell? (x.add i) = some v) : ∃ b off, some x = some (⟨b, off, none⟩ : Addr) ∧ w.cell? ⟨b, off + i, none⟩ = some v := by
  obtain ⟨b, off, spot⟩ := x
  cases spot with
  | none =>
    refine ⟨b, off, rfl, ?_⟩
    unfold Addr.add at h
    split at h
    · rename_i hi; subst hi; exact h
    · exact h
  | some s =>
    simp only [World.cell?, Addr.add, if_true] at h0
    split at h0
    · simp at h0
    · cases h0

theorem read_cells {H : Type} {enc : TypeId × Value → H} {W : World} {fuel : Nat} {v : Value} {x : DataW H × List MemPlace}
    (hf : DataW.trod enc Try.prog W 0 (fun _ => true) true fuel 22 [v] = some x) : ∃ a n cap xs, v = .slice a n cap ∧ RdC W a n xs ∧ n ≤ maxLen := by
  rcases open_ints Try.underlying22 Try.underlying2 Try.cellsI hf with ⟨hcs, _⟩ | ⟨y, l, c, zs, hcs, _, hl, hm, hz, _, hcell, hwz⟩
  · simp only [List.cons.injEq, and_true] at hcs
    exact ⟨none, 0, 0, [], hcs, ⟨rfl, fun i hi => by omega⟩, by omega⟩
  · simp only [List.cons.injEq, and_true] at hcs
    have hz' : zs.length = c := by simpa using hz
    refine ⟨some y, l, c, zs.take l, hcs, ⟨by simp; omega, fun i hi => ?_⟩, by omega⟩
    obtain ⟨b, off, h1, h2⟩ := add_cell (hcell 0 (by omega)) (hcell i (by omega))
    refine ⟨b, off, h1, ?_⟩
    rw [h2]
    simp [nth, List.getElem?_take_of_lt hi]

theorem read_ints {H : Type} {enc : TypeId × Value → H} {W : World} {base : Nat} {v : Value} {d : DataW H} {p : List MemPlace}
    (hv : Value.okWide Try.prog W .any base 22 v) (h : DataW.Trod enc Try.prog W 0 (fun _ => true) true 22 v d p) : ∃ a n cap xs, v = .slice a n cap ∧ RdC W a n xs ∧ n ≤ maxLen := by
  obtain ⟨a0, len0, cap0, rfl⟩ := okWide_slice Try.underlying22 hv
  obtain ⟨fuel, hf⟩ := h
  exact read_cells (by simpa [Value.cells] using hf)

theorem read_space {H : Type} {enc : TypeId × Value → H} {W : World} {base : Nat} {v : Value} {d : DataW H} {p : List MemPlace}
    (hv : Value.okWide Try.prog W .any base 24 v) (h : DataW.Trod enc Try.prog W 0 (fun _ => true) true 24 v d p) : ∃ q a n cap xs, v = .agg #[.int .i64 q, .slice a n cap] ∧ RdC W a n xs ∧ n ≤ maxLen ∧ (Lit.int .i64 q).wf = true := by
  obtain ⟨c0, c1, y0, y1, m, rfl, rfl, rfl, hy0, hy1⟩ := open_agg2 Try.underlying24 (by kernel_rfl) Try.cellsS hv h
  obtain ⟨q, e0, _, wq⟩ := DataW.trod_int Try.underlying2 hy0
  simp only [List.cons.injEq, and_true] at e0
  obtain ⟨a, n, cap, xs, e1, hr, hm⟩ := read_cells hy1
  exact ⟨q, a, n, cap, xs, by rw [e0, e1], hr, hm, wq⟩

end Go.Proofs.Ytnabpmafcflljaa

/-
  What is known of a slice of slices that a law is handed.
  No condition.
-/
namespace Go.Proofs.Ytnabpmafcflljaa
set_option maxRecDepth 100000
open Go.ChangeShapes Go.WideShapes Go.ChangeAt Go.RowKit Go.Joins

theorem read_rows {H : Type} {enc : TypeId × Value → H} {W : World} {base : Nat} {v : Value} {d : DataW H} {p : List MemPlace}
    (hv : Value.okWide Try.prog W .any base 25 v) (h : DataW.Trod enc Try.prog W 0 (fun _ => true) true 25 v d p) : ∃ a n cap rows, v = .slice a n cap ∧ RdR W a n rows ∧ n ≤ maxLen ∧ ∀ i, i < n → (nthR rows i).length ≤ maxLen := by
  obtain ⟨a0, len0, cap0, rfl⟩ := okWide_slice Try.underlying25 hv
  obtain ⟨fuel, hf⟩ := h
  rcases Go.Deep.open_int_rows Try.underlying25 Try.underlying22 Try.underlying2 Try.cellsR Try.cellsI (by simpa [Value.cells] using hf) with ⟨hcs, _⟩ | ⟨y, l, c, A, L, C, Z, hcs, _, hl, hm, _, hr⟩
  · simp only [List.cons.injEq, and_true] at hcs
    exact ⟨none, 0, 0, [], hcs, ⟨rfl, fun i hi => by omega⟩, by omega, fun i hi => by omega⟩
  · simp only [List.cons.injEq, and_true] at hcs
    have e : ∀ i, i < l → nthR ((List.range l).map fun r => (Z r).take (L r)) i = (Z i).take (L i) := fun i hi => by simp [nthR, hi]
    refine ⟨some y, l, c, (List.range l).map fun r => (Z r).take (L r), hcs, ⟨by simp, fun i hi => ?_⟩, by omega, fun i hi => ?_⟩
    · obtain ⟨h1, h2, h3, h4, _, h5, h6⟩ := hr i (by omega)
      obtain ⟨b, off, ha, hc⟩ := add_cell (hr 0 (by omega)).1 h1
      refine ⟨b, off, A i, C i, ha, ?_, ?_⟩
      · rw [hc, e i hi]; simp [h4, h2]
      · rw [e i hi]
        have hlen : ((Z i).take (L i)).length = L i := by simp [h4, h2]
        refine ⟨rfl, fun j hj => ?_⟩
        rw [hlen] at hj
        cases hA : A i with
        | none => have := h5 hA; omega
        | some a' =>
          have h7 := (h6 a' hA).2
          obtain ⟨b1, off1, ha1, hc1⟩ := add_cell (h7 0 (by omega)) (h7 j (by omega))
          refine ⟨b1, off1, ha1, ?_⟩
          rw [hc1]
          simp [nth, List.getElem?_take_of_lt hj]
    · obtain ⟨h1, h2, h3, h4, _⟩ := hr i (by omega)
      rw [e i hi]
      simp; omega
end Go.Proofs.Ytnabpmafcflljaa
