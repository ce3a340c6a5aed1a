/-
  The listed function WedgeOfPoints.
  No condition.
-/
import Derived.Test.YthimjfnmpicbiaaPoint
import Derived.Test.YthimjfnmpicbiaaCode18
import Derived.Test.YthimjfnmpicbiaaVecs
import Derived.Test.YthimjfnmpicbiaaRows3
namespace Go.Proofs.Ythimjfnmpicbiaa
set_option maxRecDepth 100000
open Go.RowKit

def pointsL (p : Int) (qs : List Int) (vs : List (List Int)) (k : Nat) : List (List Int) := (List.range k).map fun i => pointL p qs (nthR vs i)
theorem pointsL_succ (p : Int) (qs : List Int) (vs : List (List Int)) (k : Nat) : pointsL p qs vs (k + 1) = pointsL p qs vs k ++ [pointL p qs (nthR vs k)] := by simp [pointsL, List.range_succ]
theorem pointsL_len (p : Int) (qs : List Int) (vs : List (List Int)) (k : Nat) : (pointsL p qs vs k).length = k := by simp [pointsL]
theorem pointsL_nth {p : Int} {qs : List Int} {vs : List (List Int)} {k i : Nat} (h : i < k) : nthR (pointsL p qs vs k) i = pointL p qs (nthR vs i) := by
  unfold pointsL; rw [nthR_map (by simpa using h)]; simp
theorem pointsL_good {p : Int} {qs : List Int} {vs : List (List Int)} {k d : Nat} (hp : 1 ≤ p) (hd : qs.length = d) : RowsG p (d + 2) (pointsL p qs vs k) := fun i hi => by
  rw [pointsL_len] at hi
  rw [pointsL_nth hi]
  exact pointL_good hp hd
def wpL (p : Int) (qs : List Int) (vs : List (List Int)) (n : Nat) : List Int := prodS p (extL p qs) tkW (pointsL p qs vs n) n
theorem prodS_cut {p : Int} {qs : List Int} {tk : Nat → Nat → Bool} {r1 r2 : List (List Int)} : ∀ k, (∀ i, i < k → nthR r1 i = nthR r2 i) → prodS p qs tk r1 k = prodS p qs tk r2 k
  | 0, _ => rfl
  | k + 1, h => by
    unfold prodS
    rw [prodS_cut k (fun i hi => h i (by omega)), h k (by omega)]
theorem wpL_succ (p : Int) (qs : List Int) (vs : List (List Int)) (k : Nat) : wpL p qs vs (k + 1) = prodL p (extL p qs) tkW (wpL p qs vs k) (vecL (2 ^ (extL p qs).length) (pointL p qs (nthR vs k))) := by
  unfold wpL
  show prodL p (extL p qs) tkW (prodS p (extL p qs) tkW (pointsL p qs vs (k + 1)) k) (vecL _ (nthR (pointsL p qs vs (k + 1)) k)) = _
  rw [pointsL_nth (by omega), prodS_cut k (fun i hi => (pointsL_nth (show i < k + 1 by omega)).trans (pointsL_nth hi).symm)]

set_option maxHeartbeats 400000 in
theorem c_WedgeOfPoints_bad (p : Int) (a : Option Addr) (d cap : Nat) (qs : List Int) (ax1 : Option Addr) (n1 cx1 : Nat) (xs1 : List (List Int)) (w : World) (hd : d ≤ 4194304) (hn1 : n1 ≤ 4194304) (hr1 : ∀ i, i < n1 → (nthR xs1 i).length ≤ 4194304) (hq : RdC w a d qs) (hx1 : RdR w ax1 n1 xs1) (hc : code18L p qs xs1 ≠ 0) :
    Calls Try.prog 20 #[.agg #[.int .i64 p, .slice a d cap], .slice ax1 n1 cx1] w fun e w' => ∃ ra rc, e = .returned (.tuple #[.slice ra 0 rc, .int .i64 (code18L p qs xs1)]) ∧ OwnC w.heap.size w' ra 0 rc [] ∧ Ext w w' := by
  have Hr := Lib.hid hr1
  have hcb : (code18L p qs xs1 != 0) = true := by simp [hc]
  clear hc hr1
  go_enter Try.func20, Try.ntmps20
  go_wp2_with (go_at_call 83; refine (c_checkSome p a d cap qs ax1 n1 cx1 xs1 _ hd hn1 Hr.out (hq.ext (ext_alloc _ _)) (hx1.ext (ext_alloc _ _))).mono ?_; rintro e w1 ⟨rfl, g1⟩)
  go_ret2
  exact ⟨none, 0, rfl, own_nil _ _, (ext_alloc _ _).trans g1⟩
set_option maxHeartbeats 4000000 in
set_option maxRecDepth 100000 in
theorem c_WedgeOfPoints_ok (p : Int) (a : Option Addr) (d cap : Nat) (qs : List Int) (ax1 : Option Addr) (n1 cx1 : Nat) (xs1 : List (List Int)) (w : World) (hd : d ≤ 4194304) (hn1 : n1 ≤ 4194304) (hr1 : ∀ i, i < n1 → (nthR xs1 i).length ≤ 4194304) (hq : RdC w a d qs) (hx1 : RdR w ax1 n1 xs1) (hc : code18L p qs xs1 = 0) :
    Calls Try.prog 20 #[.agg #[.int .i64 p, .slice a d cap], .slice ax1 n1 cx1] w fun e w' => ∃ ra rc, e = .returned (.tuple #[.slice ra (2 ^ (d + 2)) rc, .int .i64 0]) ∧ OwnC w.heap.size w' ra (2 ^ (d + 2)) rc (wpL p qs xs1 n1) ∧ Ext w w' := by
  obtain ⟨hc0, h16⟩ := code18L_zero hc
  obtain ⟨hs, h4, ha⟩ := code18_zero hc0
  obtain ⟨hpr, hd1, hd6, hqb⟩ := space_of hs
  have hpb := prime_bd hpr
  have hql := hq.1
  rw [hql] at h4 ha hd1
  obtain ⟨N, hN⟩ : ∃ N, N = 2 ^ (d + 2) := ⟨_, rfl⟩
  rw [← hN]
  have HN := Lib.hid hN
  have hN6 : N ≤ 64 := by rw [hN]; exact pow_le64 (by omega)
  have HPR := Lib.hid hpr
  have HQB := Lib.hid hqb
  have HEB := Lib.hid (extL_isB (p := p) (by omega) hqb)
  have HEL := Lib.hid (show (extL p qs).length = d + 2 by rw [extL_len, hql])
  have HQL := Lib.hid hql
  have HG := Lib.hid (rows_good ha)
  have HXL := Lib.hid hx1.1
  have HLen := Lib.hid (show ∀ i, i < n1 → (nthR xs1 i).length = d from fun i hi => (HG.out i (by rw [hx1.1]; exact hi)).1)
  have HQ := Lib.hid hq
  have HX := Lib.hid hx1
  have HC := Lib.hid hc
  have Hr := Lib.hid hr1
  have hcb : ((0 : Int) != 0) = false := by simp
  clear hc hc0 hs ha hpr hqb hq hx1 hr1 hN hql hd6 h16
  go_enter Try.func20, Try.ntmps20
  go_wp2_with (go_at_call 83; refine (c_checkSome p a d cap qs ax1 n1 cx1 xs1 _ hd hn1 Hr.out (HQ.out.ext (ext_alloc _ _)) (HX.out.ext (ext_alloc _ _))).mono ?_; rintro e w1 ⟨rfl, g1⟩; rw [HC.out]; have hq0 : w1.cell? ⟨w.heap.size, 0, none⟩ = some (.int .i64 p) := g1.cell (by simp); have hq1 : w1.cell? ⟨w.heap.size, 1, none⟩ = some (.slice a d cap) := g1.cell (by simp); have Q0 := Lib.hid hq0; have Q1 := Lib.hid hq1; have G1 := Lib.hid ((ext_alloc w (.cells #[.int .i64 p, .slice a d cap] 30)).trans g1); clear g1)
  clear hq0 hq1
  go_loopw [7, 19] (fun v i wr => ∃ (k g rc : Nat), k ≤ n1 ∧ i = .int .i64 k ∧ v = .slice (some ⟨g, 0, none⟩) k rc ∧ OwnW w1.heap.size wr (some ⟨g, 0, none⟩) k rc (pointsL p qs xs1 k) ∧ Ext w1 wr) (fun _ i _ => n1 - (intOf i).toNat)
  case atStart => exact ⟨0, _, _, Nat.zero_le _, rfl, rfl, OwnW.start _ _ _, ext_alloc _ _⟩
  case round =>
    obtain ⟨k, g, rc, hk, rfl, rfl, hown, hext⟩ := hrel
    have HOwn := Lib.hid hown
    have HExt := Lib.hid hext
    have hs0 := hext.cell Q0.out
    have hs1 := hext.cell Q1.out
    clear hown hext
    by_cases hlt : k < n1
    · obtain ⟨b, off, ak, ck, rfl, hc0, hrk⟩ := HX.out.2 k hlt
      rw [HLen.out k hlt] at hc0 hrk
      have hc0' := (G1.out.trans HExt.out).cell hc0
      have HRk := Lib.hid (hrk.ext (G1.out.trans HExt.out))
      have HGk := Lib.hid (HG.out k (by rw [HXL.out]; exact hlt))
      clear hc0 hrk
      go_wp2_with (first
        | (go_at_call 84; refine (c_point p a d cap qs ak ck (nthR xs1 k) _ hd1 h4 HPR.out (HQ.out.ext (G1.out.trans HExt.out)) HQB.out HRk.out HGk.out).mono ?_; rintro e w4 ⟨g4, r4, rfl, ho4, x4⟩; have HO4 := Lib.hid ho4; have X4 := Lib.hid x4; clear ho4 x4)
        | (at_builtin; refine wpList_pushRW (w0 := wr) rfl (.tmp 23) (.tmp 27) rfl rfl rfl HOwn.out (X4.out.trans (ext_alloc _ _)) (HO4.out.ext (ext_alloc _ _)) ?hc (by omega) HExt.out.size ?hk))
      case hc => exact cell_new _ _ rfl _ _
      case hk =>
        intro g' cap' w3 ho3 he3
        have HO3 := Lib.hid ho3
        have HE3 := Lib.hid (he3 w1 (Nat.le_refl _) ((HExt.out.trans X4.out).alloc _))
        clear ho3 he3 hs0 hs1 hc0'
        go_wp2_with (fail)
        go_roundw
        case rel => exact ⟨k + 1, g', cap', by omega, by go_num, rfl, by rw [pointsL_succ]; exact .inr HO3.out, HE3.out⟩
        case measure => simp [intOf]; omega
    · obtain rfl : k = n1 := by omega
      have HPG := Lib.hid (pointsL_good (p := p) (vs := xs1) (k := k) (show 1 ≤ p by omega) HQL.out)
      go_wp2_with (first
        | (go_at_call 85; refine (c_extended p a d cap qs _ hd1 (by omega) (by omega) (by omega) (HQ.out.ext (G1.out.trans HExt.out))).mono ?_; rintro e w4 ⟨g4, r4, rfl, ho4, x4⟩; have HO4 := Lib.hid ho4; have X4 := Lib.hid x4; clear ho4 x4)
        | (go_at_call 86; refine (c_wedgeAll HN.out p _ r4 (extL p qs) _ k rc (pointsL p qs xs1 k) _ (by omega) (by omega) (by omega) (by omega) HO4.out.rd HEB.out (HOwn.out.rd.ext X4.out) HPG.out).mono ?_; rintro e w5 ⟨g5, rfl, ho5, x5⟩; have HO5 := Lib.hid ho5; have X5 := Lib.hid x5; clear ho5 x5))
      go_ret2
      exact ⟨_, _, rfl, HO5.out.mono ((G1.out.trans HExt.out).trans X4.out).size, (G1.out.trans HExt.out).trans (X4.out.trans X5.out)⟩

set_option maxHeartbeats 400000 in
theorem s_WedgeOfPoints_bad (p : Int) (a : Option Addr) (d cap : Nat) (qs : List Int) (ax1 : Option Addr) (n1 cx1 : Nat) (xs1 : List (List Int)) (w : World) (hd : d ≤ 4194304) (hn1 : n1 ≤ 4194304) (hr1 : ∀ i, i < n1 → (nthR xs1 i).length ≤ 4194304) (hq : RdC w a d qs) (hx1 : RdR w ax1 n1 xs1) (hc : code18L p qs xs1 ≠ 0) :
    Calls Try.prog 17 #[.agg #[.int .i64 p, .slice a d cap], .slice ax1 n1 cx1] w fun e w' => ∃ ra rc, e = .returned (.tuple #[.slice ra 0 rc, .int .i64 (code18L p qs xs1)]) ∧ OwnC w.heap.size w' ra 0 rc [] ∧ Ext w w' := by
  have Hr := Lib.hid hr1
  have hcb : (code18L p qs xs1 != 0) = true := by simp [hc]
  clear hc hr1
  go_enter Try.func17, Try.ntmps17
  go_wp2_with (go_at_call 77; refine (s_code18L p a d cap qs ax1 n1 cx1 xs1 _ hd hn1 Hr.out (hq.ext (ext_alloc _ _)) (hx1.ext (ext_alloc _ _))).mono ?_; rintro e w1 ⟨rfl, g1⟩)
  go_ret2
  exact ⟨none, 0, rfl, own_nil _ _, (ext_alloc _ _).trans g1⟩
set_option maxHeartbeats 4000000 in
set_option maxRecDepth 100000 in
theorem s_WedgeOfPoints_ok (p : Int) (a : Option Addr) (d cap : Nat) (qs : List Int) (ax1 : Option Addr) (n1 cx1 : Nat) (xs1 : List (List Int)) (w : World) (hd : d ≤ 4194304) (hn1 : n1 ≤ 4194304) (hr1 : ∀ i, i < n1 → (nthR xs1 i).length ≤ 4194304) (hq : RdC w a d qs) (hx1 : RdR w ax1 n1 xs1) (hc : code18L p qs xs1 = 0) :
    Calls Try.prog 17 #[.agg #[.int .i64 p, .slice a d cap], .slice ax1 n1 cx1] w fun e w' => ∃ ra rc, e = .returned (.tuple #[.slice ra (2 ^ (d + 2)) rc, .int .i64 0]) ∧ OwnC w.heap.size w' ra (2 ^ (d + 2)) rc (wpL p qs xs1 n1) ∧ Ext w w' := by
  obtain ⟨hc0, h16⟩ := code18L_zero hc
  obtain ⟨hs, h4, ha⟩ := code18_zero hc0
  obtain ⟨hpr, hd1, hd6, hqb⟩ := space_of hs
  have hpb := prime_bd hpr
  have hql := hq.1
  rw [hql] at h4 ha hd1
  obtain ⟨N, hN⟩ : ∃ N, N = 2 ^ (d + 2) := ⟨_, rfl⟩
  rw [← hN]
  have HN := Lib.hid hN
  have hN6 : N ≤ 64 := by rw [hN]; exact pow_le64 (by omega)
  have HPR := Lib.hid hpr
  have HQB := Lib.hid hqb
  have HEB := Lib.hid (extL_isB (p := p) (by omega) hqb)
  have HEL := Lib.hid (show (extL p qs).length = d + 2 by rw [extL_len, hql])
  have HQL := Lib.hid hql
  have HG := Lib.hid (rows_good ha)
  have HXL := Lib.hid hx1.1
  have HLen := Lib.hid (show ∀ i, i < n1 → (nthR xs1 i).length = d from fun i hi => (HG.out i (by rw [hx1.1]; exact hi)).1)
  have HQ := Lib.hid hq
  have HX := Lib.hid hx1
  have HC := Lib.hid hc
  have Hr := Lib.hid hr1
  have hcb : ((0 : Int) != 0) = false := by simp
  clear hc hc0 hs ha hpr hqb hq hx1 hr1 hN hql hd6 h16
  go_enter Try.func17, Try.ntmps17
  go_wp2_with (first | (go_at_call 77; refine (s_code18L p a d cap qs ax1 n1 cx1 xs1 _ hd hn1 Hr.out (HQ.out.ext (ext_alloc _ _)) (HX.out.ext (ext_alloc _ _))).mono ?_; rintro e w1 ⟨rfl, g1⟩; rw [HC.out]; have hq0 : w1.cell? ⟨w.heap.size, 0, none⟩ = some (.int .i64 p) := g1.cell (by simp); have hq1 : w1.cell? ⟨w.heap.size, 1, none⟩ = some (.slice a d cap) := g1.cell (by simp); have Q0 := Lib.hid hq0; have Q1 := Lib.hid hq1; have G1 := Lib.hid ((ext_alloc w (.cells #[.int .i64 p, .slice a d cap] 30)).trans g1); clear g1) | (go_at_call 78; refine (s_extended p a d cap qs _ hd1 (by omega) (by omega) (by omega) (HQ.out.ext G1.out)).mono ?_; rintro e w2 ⟨g2, r2, rfl, ho2, x2⟩; have HO2 := Lib.hid ho2; have X2 := Lib.hid x2; clear ho2 x2))
  obtain ⟨W, hW⟩ : ∃ W, W = w2.alloc (.cells #[.int .i64 p, .slice (some ⟨g2, 0, none⟩) (d + 2) r2] 30) := ⟨_, rfl⟩
  have gW : Ext w2 W := by rw [hW]; exact ext_alloc _ _
  have ho0 : W.cell? ⟨w2.heap.size, 0, none⟩ = some (.int .i64 p) := by rw [hW]; simp
  have ho1 : W.cell? ⟨w2.heap.size, 1, none⟩ = some (.slice (some ⟨g2, 0, none⟩) (d + 2) r2) := by rw [hW]; simp
  have O0 := Lib.hid ho0
  have O1 := Lib.hid ho1
  have S0 := Lib.hid ((X2.out.trans gW).cell Q0.out)
  have S1 := Lib.hid ((X2.out.trans gW).cell Q1.out)
  have HE2 := Lib.hid (HO2.out.ext gW)
  have GW := Lib.hid ((G1.out.trans X2.out).trans gW)
  rw [← hW]
  clear hq0 hq1 gW hW
  refine (s_oneN HN.out p _ r2 W (by omega)).mono ?_
  rintro e w3 ⟨g3, rfl, ho3, x3⟩
  have HO3 := Lib.hid (ho3.mono GW.out.size)
  have X3 := Lib.hid x3
  clear ho3 x3 ho0 ho1
  go_wp2_with (fail)
  have HD := Lib.hid (show N = 2 ^ (extL p qs).length by rw [HEL.out]; exact HN.out)
  go_loopw [8, 9] (fun v i wr => ∃ (k g : Nat), k ≤ n1 ∧ i = .int .i64 k ∧ v = .slice (some ⟨g, 0, none⟩) N N ∧ OwnC w.heap.size wr (some ⟨g, 0, none⟩) N N (wpL p qs xs1 k) ∧ Ext W wr) (fun _ i _ => n1 - (intOf i).toNat)
  case atStart => exact ⟨0, g3, Nat.zero_le _, rfl, rfl, by show OwnC _ _ _ _ _ (bladeL (2 ^ (extL p qs).length) 0); rw [← HD.out]; exact HO3.out, X3.out⟩
  case round =>
    obtain ⟨k, g, hk, rfl, rfl, hown, hext⟩ := hrel
    have HOwn := Lib.hid hown
    have HExt := Lib.hid hext
    clear hown hext
    by_cases hlt : k < n1
    · obtain ⟨b, off, ak, ck, rfl, hc0, hrk⟩ := HX.out.2 k hlt
      rw [HLen.out k hlt] at hc0 hrk
      have GX := Lib.hid (GW.out.trans (HExt.out.trans (ext_drew wr)))
      have HCk := Lib.hid (GX.out.cell hc0)
      have HRk := Lib.hid hrk
      have HGk := Lib.hid (HG.out k (by rw [HXL.out]; exact hlt))
      have HPk := Lib.hid (pointL_good (p := p) (v := nthR xs1 k) (show 1 ≤ p by omega) HQL.out)
      have HVk : Hid (Good p N (vecL N (pointL p qs (nthR xs1 k)))) := Lib.hid (vec_good (by omega) HPk.out)
      have HPS : Hid (Good p N (wpL p qs xs1 k)) := Lib.hid (by rw [HD.out]; exact prodS_good (by omega) k)
      have E0 := Lib.hid (HExt.out.trans (ext_drew wr))
      have T0 := Lib.hid (E0.out.cell S0.out)
      have T1 := Lib.hid (E0.out.cell S1.out)
      have U0 := Lib.hid (E0.out.cell O0.out)
      have U1 := Lib.hid (E0.out.cell O1.out)
      have HE3 := Lib.hid (HE2.out.ext E0.out)
      have HO8 := Lib.hid (HOwn.out.ext (ext_drew wr))
      clear hc0 hrk
      go_wp2_with (fail)
      refine wp_region_lex [(8, .ownS w.heap.size (d + 2) (pointL p qs (nthR xs1 k))), (9, .ownG w.heap.size N (vecL N (pointL p qs (nthR xs1 k)))), (10, .ownG w.heap.size N (prodL p (extL p qs) tkW (wpL p qs xs1 k) (vecL N (pointL p qs (nthR xs1 k)))))] (by kernel_rfl) (by kernel_rfl) ?_
      (refine LexW.pure (v := ?_) rfl rfl (fun w1 he => ?_) ?_; rotate_left; ( have e1 := he.cell T0.out; have e2 := he.cell T1.out; have e3 := he.cell U0.out; have e4 := he.cell U1.out; have e5 := he.cell HCk.out; go_simp; rfl); simp only [Act.put, List.setIfInBounds_toArray, List.set_cons_zero, List.set_cons_succ])
      (refine LexW.pure (v := ?_) rfl rfl (fun w1 he => ?_) ?_; rotate_left; ( have e1 := he.cell T0.out; have e2 := he.cell T1.out; have e3 := he.cell U0.out; have e4 := he.cell U1.out; have e5 := he.cell HCk.out; go_simp; rfl); simp only [Act.put, List.setIfInBounds_toArray, List.set_cons_zero, List.set_cons_succ])
      (refine LexW.pure (v := ?_) rfl rfl (fun w1 he => ?_) ?_; rotate_left; ( have e1 := he.cell T0.out; have e2 := he.cell T1.out; have e3 := he.cell U0.out; have e4 := he.cell U1.out; have e5 := he.cell HCk.out; go_simp; rfl); simp only [Act.put, List.setIfInBounds_toArray, List.set_cons_zero, List.set_cons_succ])
      (refine LexW.pure (v := ?_) rfl rfl (fun w1 he => ?_) ?_; rotate_left; ( have e1 := he.cell T0.out; have e2 := he.cell T1.out; have e3 := he.cell U0.out; have e4 := he.cell U1.out; have e5 := he.cell HCk.out; go_simp; rfl); simp only [Act.put, List.setIfInBounds_toArray, List.set_cons_zero, List.set_cons_succ])
      (refine LexW.pure (v := ?_) rfl rfl (fun w1 he => ?_) ?_; rotate_left; ( have e1 := he.cell T0.out; have e2 := he.cell T1.out; have e3 := he.cell U0.out; have e4 := he.cell U1.out; have e5 := he.cell HCk.out; go_simp; rfl); simp only [Act.put, List.setIfInBounds_toArray, List.set_cons_zero, List.set_cons_succ])
      (refine LexW.pure (v := ?_) rfl rfl (fun w1 he => ?_) ?_; rotate_left; ( have e1 := he.cell T0.out; have e2 := he.cell T1.out; have e3 := he.cell U0.out; have e4 := he.cell U1.out; have e5 := he.cell HCk.out; go_simp; rfl); simp only [Act.put, List.setIfInBounds_toArray, List.set_cons_zero, List.set_cons_succ])
      (refine LexW.pure (v := ?_) rfl rfl (fun w1 he => ?_) ?_; rotate_left; ( have e1 := he.cell T0.out; have e2 := he.cell T1.out; have e3 := he.cell U0.out; have e4 := he.cell U1.out; have e5 := he.cell HCk.out; go_simp; rfl); simp only [Act.put, List.setIfInBounds_toArray, List.set_cons_zero, List.set_cons_succ])
      (refine LexW.pure (v := ?_) rfl rfl (fun w1 he => ?_) ?_; rotate_left; ( have e1 := he.cell T0.out; have e2 := he.cell T1.out; have e3 := he.cell U0.out; have e4 := he.cell U1.out; have e5 := he.cell HCk.out; go_simp; rfl); simp only [Act.put, List.setIfInBounds_toArray, List.set_cons_zero, List.set_cons_succ])
      (refine LexW.callR (f := ?_) (args := ?_) rfl rfl (fun w1 => ?_) (fun w1 he hdep => ?_) (fun v hv => ?_); rotate_left 2; (go_simp; refine ⟨?_, ?_⟩ <;> rfl); ( refine (s_point p a d cap qs ak ck (nthR xs1 k) w1 hd1 h4 HPR.out (HQ.out.ext (GX.out.trans he)) HQB.out (HRk.out.ext (GX.out.trans he)) HGk.out).mono ?_; rintro e w2 ⟨g, rc, rfl, ho, g2⟩; exact ⟨_, rfl, g2, g, rc, rfl, ho.mono (Nat.le_trans GX.out.size he.size)⟩); simp only [Act.put, List.setIfInBounds_toArray, List.set_cons_zero, List.set_cons_succ])
      obtain ⟨_, g34, c34, rfl, _⟩ := hv
      (refine LexW.callR (f := ?_) (args := ?_) rfl rfl (fun w1 => ?_) (fun w1 he hdep => ?_) (fun v hv => ?_); rotate_left 2; (go_simp; refine ⟨?_, ?_⟩ <;> rfl); ( obtain ⟨_, _, q34, r34⟩ : (SPred.ownS w.heap.size (d + 2) (pointL p qs (nthR xs1 k))).holds (.slice (some ⟨g34, 0, none⟩) (d + 2) c34) w1 := hdep (8, 34) (by decide +kernel); cases q34; refine (s_vector HN.out p _ r2 _ c34 (pointL p qs (nthR xs1 k)) w1 (by omega) r34.rd).mono ?_; rintro e w2 ⟨g, rfl, ho, g2⟩; exact ⟨_, rfl, g2, g, rfl, ho.mono (Nat.le_trans GX.out.size he.size)⟩); simp only [Act.put, List.setIfInBounds_toArray, List.set_cons_zero, List.set_cons_succ])
      obtain ⟨_, g35, rfl, _⟩ := hv
      (refine LexW.callR (f := ?_) (args := ?_) rfl rfl (fun w1 => ?_) (fun w1 he hdep => ?_) (fun v hv => ?_); rotate_left 2; (go_simp; refine ⟨?_, ?_⟩ <;> rfl); ( obtain ⟨_, q35, r35⟩ : (SPred.ownG w.heap.size N (vecL N (pointL p qs (nthR xs1 k)))).holds (.slice (some ⟨g35, 0, none⟩) N N) w1 := hdep (9, 35) (by decide +kernel); cases q35; refine (s_wedgeN HN.out p _ r2 (extL p qs) _ _ N N (wpL p qs xs1 k) (vecL N (pointL p qs (nthR xs1 k))) w1 (by omega) (by omega) (by omega) (HE3.out.rd.ext he) HEB.out (HO8.out.rd.ext he) r35.rd HPS.out.isB HVk.out.isB).mono ?_; rintro e w2 ⟨g, rfl, ho, g2⟩; exact ⟨_, rfl, g2, g, rfl, ho.mono (Nat.le_trans GX.out.size he.size)⟩); simp only [Act.put, List.setIfInBounds_toArray, List.set_cons_zero, List.set_cons_succ])
      obtain ⟨_, g36, rfl, _⟩ := hv
      (refine LexW.pure (v := ?_) rfl rfl (fun w1 he => ?_) ?_; rotate_left; ( have e1 := he.cell T0.out; have e2 := he.cell T1.out; have e3 := he.cell U0.out; have e4 := he.cell U1.out; have e5 := he.cell HCk.out; go_simp; rfl); simp only [Act.put, List.setIfInBounds_toArray, List.set_cons_zero, List.set_cons_succ])
      refine LexW.nil (fun w3 he hkn => ?_)
      obtain ⟨_, q36, r36⟩ : (SPred.ownG w.heap.size N (prodL p (extL p qs) tkW (wpL p qs xs1 k) (vecL N (pointL p qs (nthR xs1 k))))).holds (.slice (some ⟨g36, 0, none⟩) N N) w3 := hkn (10, _) (by simp)
      cases q36
      have R36 := Lib.hid r36
      have HE := Lib.hid (GX.out.trans he)
      have X4 := Lib.hid (E0.out.trans he)
      clear he hkn r36
      go_wp2_with (fail)
      go_roundw
      case rel => exact ⟨k + 1, g36, by omega, by go_num, rfl, by rw [wpL_succ, ← HD.out]; exact R36.out, X4.out⟩
      case measure => simp [intOf]; omega
    · go_wp2_with (fail)
      go_ret2
      obtain rfl : k = n1 := by omega
      exact ⟨_, _, rfl, HOwn.out, GW.out.trans HExt.out⟩

end Go.Proofs.Ythimjfnmpicbiaa
