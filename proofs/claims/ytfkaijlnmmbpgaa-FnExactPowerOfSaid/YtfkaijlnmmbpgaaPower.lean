/-
  The listed function PowerOf.
  No condition.
-/
import Derived.Test.YtfkaijlnmmbpgaaKit
import Derived.Test.YtfkaijlnmmbpgaaAlg
import Derived.Test.YtfkaijlnmmbpgaaUndual
namespace Go.Proofs.Ytfkaijlnmmbpgaa
open Go.RowKit

def codeP (p : Int) (qs : List Int) (rows : List (List Int)) (v : Int) : Int := if codeM p qs rows = 0 then (if inB v 0 100 = true then 0 else 2) else codeM p qs rows
theorem codeP_zero {p : Int} {qs : List Int} {rows : List (List Int)} {v : Int} (h : codeP p qs rows v = 0) : codeM p qs rows = 0 ∧ inB v 0 100 = true := by
  unfold codeP at h
  split at h
  · rename_i hm
    split at h
    · rename_i hr; exact ⟨hm, hr⟩
    · omega
  · rename_i hm; exact absurd h hm
theorem pow_odd {u t k K : Nat} (h : u + t * k = K) (ho : k % 2 = 1) : u + t + (t + t) * (k / 2) = K := by
  obtain ⟨m, hm⟩ : ∃ m, k = 2 * m + 1 := ⟨k / 2, by omega⟩
  subst hm
  rw [show (2 * m + 1) / 2 = m by omega, Nat.add_mul, ← h, Nat.mul_add, Nat.mul_one, Nat.mul_left_comm]
  omega
theorem pow_even {u t k K : Nat} (h : u + t * k = K) (ho : ¬ k % 2 = 1) : u + (t + t) * (k / 2) = K := by
  obtain ⟨m, hm⟩ : ∃ m, k = 2 * m := ⟨k / 2, by omega⟩
  subst hm
  rw [show 2 * m / 2 = m by omega, Nat.add_mul, ← h, Nat.mul_left_comm]
  omega
theorem in_bd {v l h : Int} (hh : inB v l h = true) : l ≤ v ∧ v ≤ h := by simpa [inB] using hh
set_option maxHeartbeats 400000 in
theorem s_own (b off n cap : Nat) (xs : List Int) (w : World) (hn : 0 < n) (hl : n ≤ 4194303) (hx : RdC w (some ⟨b, off, none⟩) n xs) :
    Calls Try.prog 75 #[.slice (some ⟨b, off, none⟩) n cap] w fun e w' => ∃ g rc, e = .returned (.slice (some ⟨g, 0, none⟩) n rc) ∧ OwnC w.heap.size w' (some ⟨g, 0, none⟩) n rc xs ∧ Ext w w' := by
  go_enter Try.func75, Try.ntmps75
  go_wp2_with (at_builtin; refine wpList_appendAll rfl (.tmp 3) (.tmp 4) rfl rfl rfl (own_empty w) (hx.ext (ext_alloc _ _)) hn (by omega) (by omega) ?hB ?hk)
  case hB => simp
  case hk =>
    intro g' cap' w3 ho3 hg3 he3
    have HO3 := Lib.hid ho3
    have HE3 := Lib.hid (he3 w (Nat.le_refl _) (ext_alloc _ _))
    clear ho3 hg3 he3
    go_wp2_with (fail)
    go_ret
    exact ⟨g', cap', rfl, HO3.out, HE3.out⟩

set_option maxHeartbeats 400000 in
theorem s_PowerOf_bad (p : Int) (a : Option Addr) (d cap : Nat) (qs : List Int) (ax1 : Option Addr) (n1 cx1 : Nat) (xs1 : List Int) (v2 : Int) (w : World) (hd : d ≤ 4194304) (hn1 : n1 ≤ 4194304) (hq : RdC w a d qs) (hx1 : RdC w ax1 n1 xs1) (hc : codeP p qs [xs1] v2 ≠ 0) :
    Calls Try.prog 41 #[.agg #[.int .i64 p, .slice a d cap], .slice ax1 n1 cx1, .int .i64 v2] w fun e w' => ∃ ra rc, e = .returned (.tuple #[.slice ra 0 rc, .int .i64 (codeP p qs [xs1] v2)]) ∧ OwnC w.heap.size w' ra 0 rc [] ∧ Ext w w' := by
  by_cases hm : codeM p qs [xs1] = 0
  · have hi : inB v2 0 100 = false := by
      cases h : inB v2 0 100
      · rfl
      · exact absurd (by simp [codeP, hm, h]) hc
    have HC := Lib.hid (show codeP p qs [xs1] v2 = 2 by simp [codeP, hm, hi])
    have HI := Lib.hid hi
    have HM := Lib.hid hm
    rw [HC.out]
    clear hc hi hm
    go_enter Try.func41, Try.ntmps41
    go_wp2_with (first | (go_at_call 48; refine (s_code p a d cap qs _ 1 _ [xs1] _ hd (by omega) (len_one (by rw [hx1.1]; exact hn1)) (hq.ext ((ext_alloc _ _).alloc _)) (rdR_one (a := ax1) (n := _) (cap := cx1) (by simp) (hx1.ext ((ext_alloc _ _).alloc _)))).mono ?_; rintro e w1 ⟨rfl, g1⟩; rw [HM.out]) | (go_at_call 73; refine (s_in _ _ _ _).mono ?_; rintro e w2 ⟨rfl, g2⟩; rw [HI.out]))
    go_ret2
    exact ⟨none, 0, rfl, own_nil _ _, ((ext_alloc _ _).alloc _).trans (g1.trans g2)⟩
  · have hcb : (codeM p qs [xs1] != 0) = true := by simp [hm]
    have hcb2 : (codeM p qs [xs1] == 0) = false := by simp [hm]
    have HC := Lib.hid (show codeP p qs [xs1] v2 = codeM p qs [xs1] by simp [codeP, hm])
    rw [HC.out]
    clear hc hm
    go_enter Try.func41, Try.ntmps41
    go_wp2_with (go_at_call 48; refine (s_code p a d cap qs _ 1 _ [xs1] _ hd (by omega) (len_one (by rw [hx1.1]; exact hn1)) (hq.ext ((ext_alloc _ _).alloc _)) (rdR_one (a := ax1) (n := _) (cap := cx1) (by simp) (hx1.ext ((ext_alloc _ _).alloc _)))).mono ?_; rintro e w1 ⟨rfl, g1⟩)
    go_ret2
    exact ⟨none, 0, rfl, own_nil _ _, ((ext_alloc _ _).alloc _).trans g1⟩

set_option maxHeartbeats 400000 in
theorem c_PowerOf_bad (p : Int) (a : Option Addr) (d cap : Nat) (qs : List Int) (ax1 : Option Addr) (n1 cx1 : Nat) (xs1 : List Int) (v2 : Int) (w : World) (hd : d ≤ 4194304) (hn1 : n1 ≤ 4194304) (hq : RdC w a d qs) (hx1 : RdC w ax1 n1 xs1) (hc : codeP p qs [xs1] v2 ≠ 0) :
    Calls Try.prog 42 #[.agg #[.int .i64 p, .slice a d cap], .slice ax1 n1 cx1, .int .i64 v2] w fun e w' => ∃ ra rc, e = .returned (.tuple #[.slice ra 0 rc, .int .i64 (codeP p qs [xs1] v2)]) ∧ OwnC w.heap.size w' ra 0 rc [] ∧ Ext w w' := by
  by_cases hm : codeM p qs [xs1] = 0
  · have hi : inB v2 0 100 = false := by
      cases h : inB v2 0 100
      · rfl
      · exact absurd (by simp [codeP, hm, h]) hc
    have HC := Lib.hid (show codeP p qs [xs1] v2 = 2 by simp [codeP, hm, hi])
    have HI := Lib.hid hi
    have HM := Lib.hid hm
    rw [HC.out]
    clear hc hi hm
    go_enter Try.func42, Try.ntmps42
    go_wp2_with (first | (go_at_call 49; refine (c_checkMultis p a d cap qs _ 1 _ [xs1] _ hd (by omega) (len_one (by rw [hx1.1]; exact hn1)) (hq.ext ((ext_alloc _ _).alloc _)) (rdR_one (a := ax1) (n := _) (cap := cx1) (by simp) (hx1.ext ((ext_alloc _ _).alloc _)))).mono ?_; rintro e w1 ⟨rfl, g1⟩; rw [HM.out]) | (go_at_call 76; refine (c_inRange _ _ _ _).mono ?_; rintro e w2 ⟨rfl, g2⟩; rw [HI.out]))
    go_ret2
    exact ⟨none, 0, rfl, own_nil _ _, ((ext_alloc _ _).alloc _).trans (g1.trans g2)⟩
  · have hcb : (codeM p qs [xs1] != 0) = true := by simp [hm]
    have hcb2 : (codeM p qs [xs1] == 0) = false := by simp [hm]
    have HC := Lib.hid (show codeP p qs [xs1] v2 = codeM p qs [xs1] by simp [codeP, hm])
    rw [HC.out]
    clear hc hm
    go_enter Try.func42, Try.ntmps42
    go_wp2_with (go_at_call 49; refine (c_checkMultis p a d cap qs _ 1 _ [xs1] _ hd (by omega) (len_one (by rw [hx1.1]; exact hn1)) (hq.ext ((ext_alloc _ _).alloc _)) (rdR_one (a := ax1) (n := _) (cap := cx1) (by simp) (hx1.ext ((ext_alloc _ _).alloc _)))).mono ?_; rintro e w1 ⟨rfl, g1⟩)
    go_ret2
    exact ⟨none, 0, rfl, own_nil _ _, ((ext_alloc _ _).alloc _).trans g1⟩

set_option maxHeartbeats 4000000 in
set_option maxRecDepth 100000 in
theorem c_PowerOf_ok (p : Int) (a : Option Addr) (d cap : Nat) (qs : List Int) (ax1 : Option Addr) (n1 cx1 : Nat) (xs1 : List Int) (v2 : Int) (w : World) (hd : d ≤ 4194304) (hn1 : n1 ≤ 4194304) (hq : RdC w a d qs) (hx1 : RdC w ax1 n1 xs1) (hc : codeP p qs [xs1] v2 = 0) :
    Calls Try.prog 42 #[.agg #[.int .i64 p, .slice a d cap], .slice ax1 n1 cx1, .int .i64 v2] w fun e w' => ∃ ra rc, e = .returned (.tuple #[.slice ra n1 rc, .int .i64 0]) ∧ OwnC w.heap.size w' ra n1 rc (powL p qs xs1 v2.toNat) ∧ Ext w w' := by
  obtain ⟨hcm, hin⟩ := codeP_zero hc
  have hvb := in_bd hin
  have HM := Lib.hid hcm
  have HI := Lib.hid hin
  obtain ⟨hs, hxm1⟩ := codeM_one hcm
  obtain ⟨hpr, hd1, hd6, hqb⟩ := space_of hs
  have hpb := prime_bd hpr
  obtain ⟨hxl1, hxb1⟩ := multi_of hxm1
  rw [hq.1] at hxl1 hd6
  have hN : n1 = 2 ^ d := hx1.1.symm.trans hxl1
  have HN := Lib.hid hN
  have HQB := Lib.hid hqb
  have HXB1 := Lib.hid hxb1
  clear hs hxm1 hqb hxb1 hxl1 hpr hd1 hN hcm hin hc
  obtain ⟨K, rfl⟩ := Int.eq_ofNat_of_zero_le hvb.1
  rw [Int.toNat_natCast]
  have hK : K ≤ 100 := by omega
  have hN6 : n1 ≤ 64 := by rw [HN.out]; exact pow_le64 (by omega)
  have hN1 : 1 ≤ n1 := by rw [HN.out]; exact pow_pos' d
  have HGX := Lib.hid (show Good p (2 ^ qs.length) xs1 by rw [hq.1, ← HN.out]; exact good_isB hx1.1 HXB1.out)
  have HQL := Lib.hid (show n1 = 2 ^ qs.length by rw [hq.1, HN.out])
  have HPG := Lib.hid (fun k => (by rw [HQL.out]; exact pow_good (by omega) k : Good p n1 (powL p qs xs1 k)))
  go_enter Try.func42, Try.ntmps42
  go_wp2_with (first | (go_at_call 49; refine (c_checkMultis p a d cap qs _ 1 _ [xs1] _ hd (by omega) (len_one (by rw [hx1.1]; exact hn1)) (hq.ext ((ext_alloc _ _).alloc _)) (rdR_one (a := ax1) (n := _) (cap := cx1) (by simp) (hx1.ext ((ext_alloc _ _).alloc _)))).mono ?_; rintro e w1 ⟨rfl, g1⟩; rw [HM.out]; have hq0 : w1.cell? ⟨w.heap.size, 0, none⟩ = some (.int .i64 p) := g1.cell (by simp); have hq1 : w1.cell? ⟨w.heap.size, 1, none⟩ = some (.slice a d cap) := g1.cell (by simp)) | (go_at_call 76; refine (c_inRange _ _ _ _).mono ?_; rintro e w2 ⟨rfl, g2⟩; rw [HI.out]; have hr0 := g2.cell hq0; have hr1 := g2.cell hq1))
  have G2 := Lib.hid ((((ext_alloc w (.cells #[.int .i64 p, .slice a d cap] 28)).alloc (.cells #[.slice ax1 n1 cx1] 22)).trans g1).trans g2)
  have HR0 := Lib.hid hr0
  have HR1 := Lib.hid hr1
  clear g1 g2 hq0 hq1 hr0 hr1
  refine (c_oneN HN.out p a cap w2 (by omega)).mono ?_
  rintro e w3 ⟨g, rfl, ho, g3⟩
  have HO := Lib.hid ho
  have G3 := Lib.hid g3
  clear ho g3
  go_wp2_with (fail)
  go_loopw [9, 23] (fun v i wr => ∃ (k g : Nat), k ≤ K ∧ i = .int .i64 k ∧ v = .slice (some ⟨g, 0, none⟩) n1 n1 ∧ OwnC w.heap.size wr (some ⟨g, 0, none⟩) n1 n1 (powL p qs xs1 k) ∧ Ext w2 wr) (fun _ i _ => K - (intOf i).toNat)
  case atStart => exact ⟨0, g, Nat.zero_le _, rfl, rfl, by show OwnC _ _ _ _ _ (bladeL (2 ^ qs.length) 0); rw [← HQL.out]; exact HO.out.mono G2.out.size, G3.out⟩
  case round =>
    obtain ⟨k, g', hk, rfl, rfl, hown, hext⟩ := hrel
    have HOwn := Lib.hid hown
    have HExt := Lib.hid hext
    clear hown hext
    by_cases hlt : k < K
    · have hs0 := HExt.out.cell HR0.out
      have hs1 := HExt.out.cell HR1.out
      go_wp2_with (fail)
      clear hs0 hs1
      refine (c_timesN HN.out p a cap qs _ 2 _ [powL p qs xs1 k, xs1] (wr.alloc (.cells #[.slice (some ⟨g', 0, none⟩) n1 n1, .slice ax1 n1 cx1] 22)) (by omega) (by omega) (by omega) (by omega) (hq.ext ((G2.out.trans HExt.out).alloc _)) HQB.out (rdR_two (a := some ⟨g', 0, none⟩) (b := ax1) (n := n1) (m := n1) (ca := n1) (cb := cx1) (by simp) (by simp) (HOwn.out.rd.ext (ext_alloc _ _)) (hx1.ext ((G2.out.trans HExt.out).alloc _))) (good_pair (HPG.out k) (by rw [HQL.out]; exact HGX.out))).mono ?_
      rintro e w4 ⟨g4, rfl, ho4, x4⟩
      rw [prod_two HQL.out (by omega) (HPG.out k)] at ho4
      have HO4 := Lib.hid (ho4.mono (B' := w.heap.size) (by have := (G2.out.trans HExt.out).size'; simp; omega))
      have X4 := Lib.hid (HExt.out.trans ((ext_alloc _ _).trans x4))
      clear ho4 x4
      go_wp2_with (fail)
      go_roundw
      case rel => exact ⟨k + 1, g4, by omega, by go_num, rfl, HO4.out, X4.out⟩
      case measure => simp [intOf]; omega
    · go_wp2_with (fail)
      go_ret2
      obtain rfl : k = K := by omega
      exact ⟨_, _, rfl, HOwn.out, G2.out.trans HExt.out⟩

set_option maxHeartbeats 4000000 in
set_option maxRecDepth 100000 in
theorem s_PowerOf_ok (p : Int) (a : Option Addr) (d cap : Nat) (qs : List Int) (ax1 : Option Addr) (n1 cx1 : Nat) (xs1 : List Int) (v2 : Int) (w : World) (hd : d ≤ 4194304) (hn1 : n1 ≤ 4194304) (hq : RdC w a d qs) (hx1 : RdC w ax1 n1 xs1) (hc : codeP p qs [xs1] v2 = 0) :
    Calls Try.prog 41 #[.agg #[.int .i64 p, .slice a d cap], .slice ax1 n1 cx1, .int .i64 v2] w fun e w' => ∃ ra rc, e = .returned (.tuple #[.slice ra n1 rc, .int .i64 0]) ∧ OwnC w.heap.size w' ra n1 rc (powL p qs xs1 v2.toNat) ∧ Ext w w' := by
  obtain ⟨hcm, hin⟩ := codeP_zero hc
  have hvb := in_bd hin
  have HM := Lib.hid hcm
  have HI := Lib.hid hin
  obtain ⟨hs, hxm1⟩ := codeM_one hcm
  obtain ⟨hpr, hd1, hd6, hqb⟩ := space_of hs
  have hpb := prime_bd hpr
  obtain ⟨hxl1, hxb1⟩ := multi_of hxm1
  rw [hq.1] at hxl1 hd6
  have hN : n1 = 2 ^ d := hx1.1.symm.trans hxl1
  have HN := Lib.hid hN
  have HQB := Lib.hid hqb
  have HXB1 := Lib.hid hxb1
  clear hs hxm1 hqb hxb1 hxl1 hpr hd1 hN hcm hin hc
  obtain ⟨K, rfl⟩ := Int.eq_ofNat_of_zero_le hvb.1
  rw [Int.toNat_natCast]
  have hK : K ≤ 100 := by omega
  have hN6 : n1 ≤ 64 := by rw [HN.out]; exact pow_le64 (by omega)
  have hN1 : 1 ≤ n1 := by rw [HN.out]; exact pow_pos' d
  have HGX := Lib.hid (show Good p (2 ^ qs.length) xs1 by rw [hq.1, ← HN.out]; exact good_isB hx1.1 HXB1.out)
  have HQL := Lib.hid (show n1 = 2 ^ qs.length by rw [hq.1, HN.out])
  have HPG := Lib.hid (fun k => (by rw [HQL.out]; exact pow_good (by omega) k : Good p n1 (powL p qs xs1 k)))
  have HPA := Lib.hid (fun m n => pow_add (x := xs1) (show 3 ≤ p by omega) (show qs.length ≤ 6 by rw [hq.1]; omega) m n)
  have hcb : ((0 : Int) != 0) = false := by simp
  obtain ⟨b1, o1, hax, _⟩ := hx1.2 0 (by omega)
  subst hax
  go_enter Try.func41, Try.ntmps41
  go_wp2_with (first | (go_at_call 48; refine (s_code p a d cap qs _ 1 _ [xs1] _ hd (by omega) (len_one (by rw [hx1.1]; exact hn1)) (hq.ext ((ext_alloc _ _).alloc _)) (rdR_one (a := some ⟨b1, o1, none⟩) (n := _) (cap := cx1) (by simp) (hx1.ext ((ext_alloc _ _).alloc _)))).mono ?_; rintro e w1 ⟨rfl, g1⟩; rw [HM.out]; have hq0 : w1.cell? ⟨w.heap.size, 0, none⟩ = some (.int .i64 p) := g1.cell (by simp); have hq1 : w1.cell? ⟨w.heap.size, 1, none⟩ = some (.slice a d cap) := g1.cell (by simp)) | (go_at_call 73; refine (s_in _ _ _ _).mono ?_; rintro e w2 ⟨rfl, g2⟩; rw [HI.out]; have hr0 := g2.cell hq0; have hr1 := g2.cell hq1))
  have G2 := Lib.hid ((((ext_alloc w (.cells #[.int .i64 p, .slice a d cap] 28)).alloc (.cells #[.slice (some ⟨b1, o1, none⟩) n1 cx1] 22)).trans g1).trans g2)
  have HR0 := Lib.hid hr0
  have HR1 := Lib.hid hr1
  clear g1 g2 hq0 hq1 hr0 hr1
  refine (s_oneN HN.out p a cap w2 (by omega)).mono ?_
  rintro e w3 ⟨g, rfl, ho, g3⟩
  have HO := Lib.hid (ho.mono G2.out.size)
  have G3 := Lib.hid g3
  clear ho g3
  go_wp2_with (fail)
  refine (s_own b1 o1 n1 cx1 xs1 w3 (by omega) (by omega) (hx1.ext (G2.out.trans G3.out))).mono ?_
  rintro e w4 ⟨g4, c4, rfl, ho4, x4⟩
  have HO4 := Lib.hid (ho4.mono (G2.out.trans G3.out).size)
  have HO' := Lib.hid (HO.out.ext x4)
  have G4 := Lib.hid (G3.out.trans x4)
  clear ho4 x4
  go_wp2_with (fail)
  go_loopw [9, 10, 2] (fun v s i wr => ∃ (k u t g h c : Nat), k ≤ 100 ∧ Hid (u + t * k = K) ∧ i = .int .i64 k ∧ v = .slice (some ⟨g, 0, none⟩) n1 n1 ∧ s = .slice (some ⟨h, 0, none⟩) n1 c ∧ OwnC w.heap.size wr (some ⟨g, 0, none⟩) n1 n1 (powL p qs xs1 u) ∧ OwnC w.heap.size wr (some ⟨h, 0, none⟩) n1 c (powL p qs xs1 t) ∧ Ext w2 wr) (fun _ _ i _ => (intOf i).toNat)
  case atStart => exact ⟨K, 0, 1, g, g4, c4, hK, Lib.hid (by omega), rfl, rfl, rfl, by show OwnC _ _ _ _ _ (bladeL (2 ^ qs.length) 0); rw [← HQL.out]; exact HO'.out, by rw [pow_one (by omega) HGX.out]; exact HO4.out, G4.out⟩
  case round =>
    obtain ⟨k, u, t, g1, h1, c1, hk, HS, rfl, rfl, rfl, hown, hstep, hext⟩ := hrel
    have HOwn := Lib.hid hown
    have HStep := Lib.hid hstep
    have HExt := Lib.hid hext
    clear hown hext hstep
    by_cases hlt : 0 < k
    · have hs0 := HExt.out.cell HR0.out
      have hs1 := HExt.out.cell HR1.out
      have hki : (0 : Int) < k := by omega
      have hkm : (k : Int).tmod 2 = ((k % 2 : Nat) : Int) := by rw [Int.tmod_eq_emod_of_nonneg (by omega)]; omega
      have hkd : (k : Int).tdiv 2 = ((k / 2 : Nat) : Int) := by rw [Int.tdiv_eq_ediv_of_nonneg (by omega)]; omega
      by_cases hodd : k % 2 = 1
      · have hob : (((k % 2 : Nat) : Int) == 1) = true := by simp; omega
        go_wp2_with (fail)
        refine (s_timesN HN.out p a cap qs _ _ n1 c1 (powL p qs xs1 u) (powL p qs xs1 t) wr (by omega) (by omega) (by omega) (hq.ext (G2.out.trans HExt.out)) HQB.out HOwn.out.rd HStep.out.rd (HPG.out u).isB (HPG.out t).isB).mono ?_
        rintro e w5 ⟨g5, rfl, ho5, x5⟩
        rw [HPA.out] at ho5
        have HO5 := Lib.hid (ho5.mono (B' := w.heap.size) (G2.out.trans HExt.out).size)
        have X5 := Lib.hid x5
        have ht0 := x5.cell hs0
        have ht1 := x5.cell hs1
        clear ho5 x5 hs0 hs1
        go_wp2_with (fail)
        refine (s_timesN HN.out p a cap qs _ _ c1 c1 (powL p qs xs1 t) (powL p qs xs1 t) w5 (by omega) (by omega) (by omega) (hq.ext ((G2.out.trans HExt.out).trans X5.out)) HQB.out (HStep.out.rd.ext X5.out) (HStep.out.rd.ext X5.out) (HPG.out t).isB (HPG.out t).isB).mono ?_
        rintro e w6 ⟨g6, rfl, ho6, x6⟩
        rw [HPA.out] at ho6
        have HO6 := Lib.hid (ho6.mono (B' := w.heap.size) ((G2.out.trans HExt.out).trans X5.out).size)
        have X6 := Lib.hid x6
        clear ho6 x6 ht0 ht1
        go_wp2_with (fail)
        go_roundw
        case rel => exact ⟨k / 2, u + t, t + t, g5, g6, n1, by omega, Lib.hid (pow_odd HS.out hodd), rfl, rfl, rfl, HO5.out.ext X6.out, HO6.out, HExt.out.trans (X5.out.trans X6.out)⟩
        case measure => simp [intOf]; omega
      · have hob : (((k % 2 : Nat) : Int) == 1) = false := by simp; omega
        go_wp2_with (fail)
        refine (s_timesN HN.out p a cap qs _ _ c1 c1 (powL p qs xs1 t) (powL p qs xs1 t) wr (by omega) (by omega) (by omega) (hq.ext (G2.out.trans HExt.out)) HQB.out HStep.out.rd HStep.out.rd (HPG.out t).isB (HPG.out t).isB).mono ?_
        rintro e w6 ⟨g6, rfl, ho6, x6⟩
        rw [HPA.out] at ho6
        have HO6 := Lib.hid (ho6.mono (B' := w.heap.size) (G2.out.trans HExt.out).size)
        have X6 := Lib.hid x6
        clear ho6 x6 hs0 hs1
        go_wp2_with (fail)
        go_roundw
        case rel => exact ⟨k / 2, u, t + t, g1, g6, n1, by omega, Lib.hid (pow_even HS.out hodd), rfl, rfl, rfl, HOwn.out.ext X6.out, HO6.out, HExt.out.trans X6.out⟩
        case measure => simp [intOf]; omega
    · go_wp2_with (fail)
      go_ret2
      obtain rfl : k = 0 := by omega
      have hS := HS.out
      rw [Nat.mul_zero, Nat.add_zero] at hS
      exact ⟨_, _, rfl, by rw [← hS]; exact HOwn.out, G2.out.trans HExt.out⟩

end Go.Proofs.Ytfkaijlnmmbpgaa
