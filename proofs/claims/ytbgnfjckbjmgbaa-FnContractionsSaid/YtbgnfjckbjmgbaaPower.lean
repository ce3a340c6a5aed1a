/-
  The listed function PowerOf.
  No condition.
-/
import Derived.Test.YtbgnfjckbjmgbaaOwn
import Derived.Test.YtbgnfjckbjmgbaaKit
import Derived.Test.YtbgnfjckbjmgbaaAlg
import Derived.Test.YtbgnfjckbjmgbaaUndual
namespace Go.Proofs.Ytbgnfjckbjmgbaa
set_option maxRecDepth 100000
open Go.RowKit

def codeP (p : Int) (qs : List Int) (rows : List (List Int)) (v : Int) : Int := if codeM p qs rows = 0 then (if inB v 0 100 = true then 0 else 2) else codeM p qs rows
theorem codeP_zero {p : Int} {qs : List Int} {rows : List (List Int)} {v : Int} (h : codeP p qs rows v = 0) : codeM p qs rows = 0 ∧ inB v 0 100 = true := by
  unfold codeP at h
  split at h
  · rename_i hm
    split at h
    · rename_i hr; exact ⟨hm, hr⟩
    · omega
  · rename_i hm; exact absurd h hm
theorem pow_odd {u t k K : Nat} (h : u + t * k = K) (ho : k % 2 = 1) : u + t + (t + t) * (k / 2) = K := by
  obtain ⟨m, hm⟩ : ∃ m, k = 2 * m + 1 := ⟨k / 2, by omega⟩
  subst hm
  rw [show (2 * m + 1) / 2 = m by omega, Nat.add_mul, ← h, Nat.mul_add, Nat.mul_one, Nat.mul_left_comm]
  omega
theorem pow_even {u t k K : Nat} (h : u + t * k = K) (ho : ¬ k % 2 = 1) : u + (t + t) * (k / 2) = K := by
  obtain ⟨m, hm⟩ : ∃ m, k = 2 * m := ⟨k / 2, by omega⟩
  subst hm
  rw [show 2 * m / 2 = m by omega, Nat.add_mul, ← h, Nat.mul_left_comm]
  omega
theorem in_bd {v l h : Int} (hh : inB v l h = true) : l ≤ v ∧ v ≤ h := by simpa [inB] using hh


set_option maxHeartbeats 400000 in
theorem c_PowerOf_bad (p : Int) (a : Option Addr) (d cap : Nat) (qs : List Int) (ax1 : Option Addr) (n1 cx1 : Nat) (xs1 : List Int) (v2 : Int) (w : World) (hd : d ≤ 4194304) (hn1 : n1 ≤ 4194304) (hq : RdC w a d qs) (hx1 : RdC w ax1 n1 xs1) (hc : codeP p qs [xs1] v2 ≠ 0) :
    Calls Try.prog 32 #[.agg #[.int .i64 p, .slice a d cap], .slice ax1 n1 cx1, .int .i64 v2] w fun e w' => ∃ ra rc, e = .returned (.tuple #[.slice ra 0 rc, .int .i64 (codeP p qs [xs1] v2)]) ∧ OwnC w.heap.size w' ra 0 rc [] ∧ Ext w w' := by
  by_cases hm : codeM p qs [xs1] = 0
  · have hi : inB v2 0 100 = false := by
      cases h : inB v2 0 100
      · rfl
      · exact absurd (by simp [codeP, hm, h]) hc
    have HC := Lib.hid (show codeP p qs [xs1] v2 = 2 by simp [codeP, hm, hi])
    have HI := Lib.hid hi
    have HM := Lib.hid hm
    rw [HC.out]
    clear hc hi hm
    go_enter Try.func32, Try.ntmps32
    go_wp2_with (first | (go_at_call 79; refine (c_checkMultis p a d cap qs _ 1 _ [xs1] _ hd (by omega) (len_one (by rw [hx1.1]; exact hn1)) (hq.ext ((ext_alloc _ _).alloc _)) (rdR_one (a := ax1) (n := _) (cap := cx1) (by simp) (hx1.ext ((ext_alloc _ _).alloc _)))).mono ?_; rintro e w1 ⟨rfl, g1⟩; rw [HM.out]) | (go_at_call 91; refine (c_inRange _ _ _ _).mono ?_; rintro e w2 ⟨rfl, g2⟩; rw [HI.out]))
    go_ret2
    exact ⟨none, 0, rfl, own_nil _ _, ((ext_alloc _ _).alloc _).trans (g1.trans g2)⟩
  · have hcb : (codeM p qs [xs1] != 0) = true := by simp [hm]
    have hcb2 : (codeM p qs [xs1] == 0) = false := by simp [hm]
    have HC := Lib.hid (show codeP p qs [xs1] v2 = codeM p qs [xs1] by simp [codeP, hm])
    rw [HC.out]
    clear hc hm
    go_enter Try.func32, Try.ntmps32
    go_wp2_with (go_at_call 79; refine (c_checkMultis p a d cap qs _ 1 _ [xs1] _ hd (by omega) (len_one (by rw [hx1.1]; exact hn1)) (hq.ext ((ext_alloc _ _).alloc _)) (rdR_one (a := ax1) (n := _) (cap := cx1) (by simp) (hx1.ext ((ext_alloc _ _).alloc _)))).mono ?_; rintro e w1 ⟨rfl, g1⟩)
    go_ret2
    exact ⟨none, 0, rfl, own_nil _ _, ((ext_alloc _ _).alloc _).trans g1⟩

set_option maxHeartbeats 4000000 in
set_option maxRecDepth 100000 in
theorem c_PowerOf_ok (p : Int) (a : Option Addr) (d cap : Nat) (qs : List Int) (ax1 : Option Addr) (n1 cx1 : Nat) (xs1 : List Int) (v2 : Int) (w : World) (hd : d ≤ 4194304) (hn1 : n1 ≤ 4194304) (hq : RdC w a d qs) (hx1 : RdC w ax1 n1 xs1) (hc : codeP p qs [xs1] v2 = 0) :
    Calls Try.prog 32 #[.agg #[.int .i64 p, .slice a d cap], .slice ax1 n1 cx1, .int .i64 v2] w fun e w' => ∃ ra rc, e = .returned (.tuple #[.slice ra n1 rc, .int .i64 0]) ∧ OwnC w.heap.size w' ra n1 rc (powL p qs xs1 v2.toNat) ∧ Ext w w' := by
  obtain ⟨hcm, hin⟩ := codeP_zero hc
  have hvb := in_bd hin
  have HM := Lib.hid hcm
  have HI := Lib.hid hin
  obtain ⟨hs, hxm1⟩ := codeM_one hcm
  obtain ⟨hpr, hd1, hd6, hqb⟩ := space_of hs
  have hpb := prime_bd hpr
  obtain ⟨hxl1, hxb1⟩ := multi_of hxm1
  rw [hq.1] at hxl1 hd6
  have hN : n1 = 2 ^ d := hx1.1.symm.trans hxl1
  have HN := Lib.hid hN
  have HQB := Lib.hid hqb
  have HXB1 := Lib.hid hxb1
  clear hs hxm1 hqb hxb1 hxl1 hpr hd1 hN hcm hin hc
  obtain ⟨K, rfl⟩ := Int.eq_ofNat_of_zero_le hvb.1
  rw [Int.toNat_natCast]
  have hK : K ≤ 100 := by omega
  have hN6 : n1 ≤ 64 := by rw [HN.out]; exact pow_le64 (by omega)
  have hN1 : 1 ≤ n1 := by rw [HN.out]; exact pow_pos' d
  have HGX := Lib.hid (show Good p (2 ^ qs.length) xs1 by rw [hq.1, ← HN.out]; exact good_isB hx1.1 HXB1.out)
  have HQL := Lib.hid (show n1 = 2 ^ qs.length by rw [hq.1, HN.out])
  have HPG := Lib.hid (fun k => (by rw [HQL.out]; exact pow_good (by omega) k : Good p n1 (powL p qs xs1 k)))
  go_enter Try.func32, Try.ntmps32
  go_wp2_with (first | (go_at_call 79; refine (c_checkMultis p a d cap qs _ 1 _ [xs1] _ hd (by omega) (len_one (by rw [hx1.1]; exact hn1)) (hq.ext ((ext_alloc _ _).alloc _)) (rdR_one (a := ax1) (n := _) (cap := cx1) (by simp) (hx1.ext ((ext_alloc _ _).alloc _)))).mono ?_; rintro e w1 ⟨rfl, g1⟩; rw [HM.out]; have hq0 : w1.cell? ⟨w.heap.size, 0, none⟩ = some (.int .i64 p) := g1.cell (by simp); have hq1 : w1.cell? ⟨w.heap.size, 1, none⟩ = some (.slice a d cap) := g1.cell (by simp)) | (go_at_call 91; refine (c_inRange _ _ _ _).mono ?_; rintro e w2 ⟨rfl, g2⟩; rw [HI.out]; have hr0 := g2.cell hq0; have hr1 := g2.cell hq1))
  have G2 := Lib.hid ((((ext_alloc w (.cells #[.int .i64 p, .slice a d cap] 26)).alloc (.cells #[.slice ax1 n1 cx1] 24)).trans g1).trans g2)
  have HR0 := Lib.hid hr0
  have HR1 := Lib.hid hr1
  clear g1 g2 hq0 hq1 hr0 hr1
  refine (c_oneN HN.out p a cap w2 (by omega)).mono ?_
  rintro e w3 ⟨g, rfl, ho, g3⟩
  have HO := Lib.hid ho
  have G3 := Lib.hid g3
  clear ho g3
  go_wp2_with (fail)
  go_loopw [9, 23] (fun v i wr => ∃ (k g : Nat), k ≤ K ∧ i = .int .i64 k ∧ v = .slice (some ⟨g, 0, none⟩) n1 n1 ∧ OwnC w.heap.size wr (some ⟨g, 0, none⟩) n1 n1 (powL p qs xs1 k) ∧ Ext w2 wr) (fun _ i _ => K - (intOf i).toNat)
  case atStart => exact ⟨0, g, Nat.zero_le _, rfl, rfl, by show OwnC _ _ _ _ _ (bladeL (2 ^ qs.length) 0); rw [← HQL.out]; exact HO.out.mono G2.out.size, G3.out⟩
  case round =>
    obtain ⟨k, g', hk, rfl, rfl, hown, hext⟩ := hrel
    have HOwn := Lib.hid hown
    have HExt := Lib.hid hext
    clear hown hext
    by_cases hlt : k < K
    · have hs0 := HExt.out.cell HR0.out
      have hs1 := HExt.out.cell HR1.out
      go_wp2_with (fail)
      clear hs0 hs1
      refine (c_timesN HN.out p a cap qs _ 2 _ [powL p qs xs1 k, xs1] (wr.alloc (.cells #[.slice (some ⟨g', 0, none⟩) n1 n1, .slice ax1 n1 cx1] 24)) (by omega) (by omega) (by omega) (by omega) (hq.ext ((G2.out.trans HExt.out).alloc _)) HQB.out (rdR_two (a := some ⟨g', 0, none⟩) (b := ax1) (n := n1) (m := n1) (ca := n1) (cb := cx1) (by simp) (by simp) (HOwn.out.rd.ext (ext_alloc _ _)) (hx1.ext ((G2.out.trans HExt.out).alloc _))) (good_pair (HPG.out k) (by rw [HQL.out]; exact HGX.out))).mono ?_
      rintro e w4 ⟨g4, rfl, ho4, x4⟩
      rw [prod_two HQL.out (by omega) (HPG.out k)] at ho4
      have HO4 := Lib.hid (ho4.mono (B' := w.heap.size) (by have := (G2.out.trans HExt.out).size'; simp; omega))
      have X4 := Lib.hid (HExt.out.trans ((ext_alloc _ _).trans x4))
      clear ho4 x4
      go_wp2_with (fail)
      go_roundw
      case rel => exact ⟨k + 1, g4, by omega, by go_num, rfl, HO4.out, X4.out⟩
      case measure => simp [intOf]; omega
    · go_wp2_with (fail)
      go_ret2
      obtain rfl : k = K := by omega
      exact ⟨_, _, rfl, HOwn.out, G2.out.trans HExt.out⟩


end Go.Proofs.Ytbgnfjckbjmgbaa
