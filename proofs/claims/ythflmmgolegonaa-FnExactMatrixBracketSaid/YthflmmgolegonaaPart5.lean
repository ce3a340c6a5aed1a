/-
  Contracts and plain laws, part 5: Brk, BrkT, Read, ReadR, ReadD.
  No condition.
-/
import Derived.Test.YthflmmgolegonaaPart4
import Derived.Test.YthflmmgolegonaaPart1
import Derived.Test.YthflmmgolegonaaPart0
import Derived.ProofKit
import Derived.OpenShut
import Derived.ShutString
import Derived.ChangeOld
import Derived.Below
import Derived.Lib.SmallJoins
import Derived.Deep.Matrix
/-
  Brackets of matrices, in the program and in the reference.
  No condition.
-/
namespace Go.Proofs.Ythflmmgolegonaa
set_option maxRecDepth 100000
open Go.RowKit

def brkM (p : Int) (a b : List (List Int)) (n : Nat) : List (List Int) := sumM p (mulL p a b n n n) (mulL p b a n n n) (-1) n n
theorem mulM_goodB {p : Int} {a b : List (List Int)} {n : Nat} (hp : 1 ≤ p) : RowsG p n (mulL p a b n n n) := fun i hi => mul_good hp i (by rw [mulL_len] at hi; exact hi)
theorem dotS_comm (x y : List Int) : ∀ n, dotS x y n = dotS y x n
  | 0 => rfl
  | n + 1 => by unfold dotS; rw [dotS_comm x y n, Int.mul_comm]
theorem dotL_comm {p : Int} {x y : List Int} {n : Nat} : dotL p x y n = dotL p y x n := by unfold dotL; rw [dotS_comm]
def bcolsM (p : Int) (a b : List (List Int)) (n k : Nat) : List (List Int) := (List.range k).map fun j => appL p a (colL b j n) n n
theorem bcolsM_succ (p : Int) (a b : List (List Int)) (n k : Nat) : bcolsM p a b n (k + 1) = bcolsM p a b n k ++ [appL p a (colL b k n) n n] := by simp [bcolsM, List.range_succ]
theorem bcolsM_len (p : Int) (a b : List (List Int)) (n k : Nat) : (bcolsM p a b n k).length = k := by simp [bcolsM]
theorem bcolsM_nth {p : Int} {a b : List (List Int)} {n k i : Nat} (h : i < k) : nthR (bcolsM p a b n k) i = appL p a (colL b i n) n n := by
  unfold bcolsM; rw [nthR_map (by simpa using h)]; simp
theorem bcolsM_mul {p : Int} {a b : List (List Int)} {n : Nat} : turnL (bcolsM p a b n n) n n = mulL p a b n n n := by
  refine ext_rows (by rw [turnL_len, mulL_len]) fun i hi => ?_
  rw [turnL_len] at hi
  rw [turnL_nth hi, mulL_nth hi]
  refine ext_nth (by rw [colL_len, appL_len]) fun j hj => ?_
  rw [colL_len] at hj
  rw [colL_nth hj, bcolsM_nth hj, appL_nth hi, appL_nth hj, turnL_nth hj, dotL_comm]

set_option maxHeartbeats 1000000 in
theorem c_bracket (p : Int) (aa : Option Addr) (n ca : Nat) (A : List (List Int)) (ab : Option Addr) (cb : Nat) (B : List (List Int)) (w : World) (hp1 : 3 ≤ p) (hp2 : p ≤ 1000) (hn0 : 0 < n) (hn : n ≤ 64) (hA : RdR w aa n A) (hB : RdR w ab n B) (hGA : RowsG p n A) (hGB : RowsG p n B) :
    Calls Try.prog 34 #[.int .i64 p, .slice aa n ca, .slice ab n cb] w fun e w' => ∃ g rc, e = .returned (.slice (some ⟨g, 0, none⟩) n rc) ∧ OwnR w.heap.size w' (some ⟨g, 0, none⟩) n rc (brkM p A B n) ∧ Ext w w' := by
  have HA := Lib.hid hA
  have HB := Lib.hid hB
  have HGA := Lib.hid (show ∀ i, i < n → Good p n (nthR A i) from fun i hi => hGA i (by rw [hA.1]; exact hi))
  have HGB := Lib.hid (show ∀ i, i < n → Good p n (nthR B i) from fun i hi => hGB i (by rw [hB.1]; exact hi))
  clear hA hB hGA hGB
  go_enter Try.func34, Try.ntmps34
  go_wp2_with (fail)
  refine Calls.mono (c_mtimes p aa n ca A ab n cb B n w (by omega) hp2 (by omega) hn0 (by omega) (by omega) HA.out HGA.out HB.out HGB.out) ?_
  rintro e w1 ⟨g1, c1, rfl, o1, x1⟩
  have O1 := Lib.hid (o1 hn0)
  have X1 := Lib.hid x1
  clear o1 x1
  go_wp2_with (fail)
  refine Calls.mono (c_mtimes p ab n cb B aa n ca A n _ (by omega) hp2 (by omega) hn0 (by omega) (by omega) (HB.out.ext X1.out) HGB.out (HA.out.ext X1.out) HGA.out) ?_
  rintro e w2 ⟨g2, c2, rfl, o2, x2⟩
  have O2 := Lib.hid (o2 hn0)
  have X2 := Lib.hid x2
  clear o2 x2
  go_wp2_with (fail)
  refine Calls.mono (c_sum p _ _ n n c1 c2 (mulL p A B n n n) (mulL p B A n n n) (-1) _ hp1 hp2 (by omega) (by omega) (by omega) (O1.out.rd.ext X2.out) O2.out.rd (mulM_goodB (by omega)) (mulM_goodB (by omega))) ?_
  rintro e w3 ⟨g3, c3, rfl, o3, x3⟩
  have O3 := Lib.hid (o3.mono (X1.out.trans X2.out).size)
  have X3 := Lib.hid ((X1.out.trans X2.out).trans x3)
  clear o3 x3
  go_wp2_with (fail)
  go_ret
  exact ⟨_, _, rfl, O3.out, X3.out⟩

set_option maxHeartbeats 2000000 in
theorem s_column14 (a : Option Addr) (n cap m k : Nat) (rows : List (List Int)) (w : World) (hn : n ≤ 64) (hk : k < m) (hrl : ∀ i, i < n → (nthR rows i).length = m) (hx : RdR w a n rows) :
    Calls Try.prog 69 #[.slice a n cap, .int .i64 k] w fun e w' => ∃ g rc, e = .returned (.slice (some ⟨g, 0, none⟩) n rc) ∧ OwnC w.heap.size w' (some ⟨g, 0, none⟩) n rc (colL rows k n) ∧ Ext w w' := by
  have HX := Lib.hid hx
  have HRL := Lib.hid hrl
  clear hx hrl
  go_enter Try.func69, Try.ntmps69
  go_wp2_with (fail)
  go_loopw [5, 6] (fun v i wr => ∃ (j g rc : Nat), j ≤ n ∧ i = .int .i64 j ∧ v = .slice (some ⟨g, 0, none⟩) j rc ∧ Hid (OwnC w.heap.size wr (some ⟨g, 0, none⟩) j rc (colL rows k j)) ∧ Hid (Ext w wr)) (fun _ i _ => n - (intOf i).toNat)
  case atStart => exact ⟨0, _, _, Nat.zero_le _, rfl, rfl, Lib.hid (own_empty w), Lib.hid (ext_alloc _ _)⟩
  case round =>
    obtain ⟨j, g, rc, hj, rfl, rfl, HO, HE⟩ := hrel
    rename World => wr
    by_cases hlt : j < n
    · obtain ⟨b, off, ai, ci, rfl, hc, hri⟩ := HX.out.2 j hlt
      rw [HRL.out j hlt] at hc hri
      obtain ⟨bi, oi, rfl, hcb⟩ := hri.2 k hk
      have hc' := HE.out.cell hc
      have hcb' := HE.out.cell hcb
      obtain ⟨u, hu⟩ : ∃ u, u = nth (nthR rows j) k := ⟨_, rfl⟩
      rw [← hu] at hcb'
      have HS : Hid (colL rows k (j + 1) = colL rows k j ++ [u]) := Lib.hid (by rw [colL_succ, hu])
      clear hc hri hcb hu
      go_wp2_with (at_builtin; refine wpList_push rfl (.tmp 14) (.tmp 22) rfl rfl rfl (v := u) (HO.out.ext (ext_alloc _ _)) ?hc (by omega) ?hB ?hk)
      case hc => simp
      case hB => have := HE.out.size'; simp; omega
      case hk =>
        intro g' cap' w3 ho3 hg3 he3
        have HO3 := Lib.hid ho3
        have HE3 := Lib.hid (he3 w (Nat.le_refl _) (HE.out.alloc _))
        clear ho3 hg3 he3 hc' hcb'
        go_wp2_with (fail)
        go_roundw
        case rel => exact ⟨j + 1, g', cap', by omega, by go_num, rfl, Lib.hid (by rw [HS.out]; exact HO3.out), HE3⟩
        case measure => simp [intOf]; omega
    · obtain rfl : j = n := by omega
      go_wp2_with (fail)
      go_ret
      exact ⟨_, _, rfl, HO.out, HE.out⟩

set_option maxHeartbeats 4000000 in
set_option maxRecDepth 100000 in
theorem s_apply14 (p : Int) (a : Option Addr) (n cap m : Nat) (rows : List (List Int)) (av : Option Addr) (cv : Nat) (v : List Int) (w : World) (hp1 : 3 ≤ p) (hp2 : p ≤ 1000) (hm : m ≤ 64) (hn : n ≤ 64) (hx : RdR w a n rows) (hg : ∀ i, i < n → Good p m (nthR rows i)) (hv : RdC w av m v) (hgv : Good p m v) :
    Calls Try.prog 68 #[.int .i64 p, .slice a n cap, .slice av m cv] w fun e w' => ∃ g rc, e = .returned (.slice (some ⟨g, 0, none⟩) n rc) ∧ OwnC w.heap.size w' (some ⟨g, 0, none⟩) n rc (appL p rows v m n) ∧ Ext w w' := by
  have HX := Lib.hid hx
  have HG := Lib.hid hg
  have HV := Lib.hid hv
  have HGV := Lib.hid hgv
  clear hx hg hv hgv
  go_enter Try.func68, Try.ntmps68
  go_wp2_with (fail)
  go_loopw [7, 8] (fun v1 i wr => ∃ (k g rc : Nat), k ≤ n ∧ i = .int .i64 k ∧ v1 = .slice (some ⟨g, 0, none⟩) k rc ∧ Hid (OwnC w.heap.size wr (some ⟨g, 0, none⟩) k rc (appL p rows v m k)) ∧ Hid (Ext w wr)) (fun _ i _ => n - (intOf i).toNat)
  case atStart => exact ⟨0, _, _, Nat.zero_le _, rfl, rfl, Lib.hid (own_empty w), Lib.hid (ext_alloc _ _)⟩
  case round =>
    rename World => y
    obtain ⟨k, g, rc, hk, rfl, rfl, HO, HE⟩ := hrel
    by_cases hlt : k < n
    · obtain ⟨b, off, ai, ci, rfl, hc, hri⟩ := HX.out.2 k hlt
      have HGk := Lib.hid (HG.out k hlt)
      rw [HGk.out.1] at hc hri
      have HC := Lib.hid (HE.out.cell hc)
      have HRi := Lib.hid (hri.ext HE.out)
      have HVy := Lib.hid (HV.out.ext HE.out)
      clear hc hri
      go_wp2_with (fail)
      go_loopw [9, 10] (fun s j wz => ∃ (j0 : Nat) (S : Int), j0 ≤ m ∧ j = .int .i64 j0 ∧ s = .int .i64 S ∧ Hid (S = dotS (nthR rows k) v j0) ∧ Hid (Ext y wz)) (fun _ j _ => m - (intOf j).toNat)
      case atStart => exact ⟨0, 0, Nat.zero_le _, rfl, rfl, Lib.hid rfl, Lib.hid (Ext.refl _)⟩
      case round =>
        rename World => z
        obtain ⟨j, S, hj, rfl, rfl, HS, HZ⟩ := hrel
        by_cases hlj : j < m
        · obtain ⟨bi, oi, hai, hc1⟩ := HRi.out.2 j hlj
          obtain ⟨bv, ov, hav, hc2⟩ := HVy.out.2 j hlj
          subst hai hav
          have C0 := Lib.hid ((HZ.out.trans (ext_drew z)).cell HC.out)
          have C1 := Lib.hid ((HZ.out.trans (ext_drew z)).cell hc1)
          have C2 := Lib.hid ((HZ.out.trans (ext_drew z)).cell hc2)
          have hb1 := HGk.out.2 j hlj
          have hb2 := HGV.out.2 j hlj
          have hsb := dotS_bd hp2 HGk.out HGV.out j (by omega)
          rw [← HS.out] at hsb
          obtain ⟨u, hu⟩ : ∃ u, u = nth (nthR rows k) j := ⟨_, rfl⟩
          obtain ⟨t, ht⟩ : ∃ t, t = nth v j := ⟨_, rfl⟩
          rw [← hu] at C1 hb1
          rw [← ht] at C2 hb2
          have hmb : 0 ≤ u * t ∧ u * t ≤ 1000000 := ⟨Int.mul_nonneg hb1.1 hb2.1, Int.le_trans (Int.mul_le_mul (show u ≤ 1000 by omega) (show t ≤ 1000 by omega) hb2.1 (by omega)) (by omega)⟩
          obtain ⟨M, hM⟩ : ∃ M, M = u * t := ⟨_, rfl⟩
          rw [← hM] at hmb
          obtain ⟨S2, hS2⟩ : ∃ s, s = S + M := ⟨_, rfl⟩
          have W1 : Hid (IntKind.i64.wrap (u * t) = M) := Lib.hid (by rw [← hM]; exact IntWalk.i64_in _ (by omega))
          have W2 : Hid (IntKind.i64.wrap (S + M) = S2) := Lib.hid (by rw [hS2]; exact IntWalk.i64_in _ (by omega))
          have HS2 : Hid (S2 = dotS (nthR rows k) v (j + 1)) := Lib.hid (by rw [hS2, HS.out, hM, hu, ht]; rfl)
          clear hc1 hc2 hb1 hb2 hsb hmb hu ht hM hS2
          go_wp2_with (fail)
          refine wp_region_lex [] (by kernel_rfl) (by kernel_rfl) ?_
          repeat' first | (refine LexW.pure (v := ?_) rfl rfl (fun w1 he => ?_) ?_; rotate_left; ( have e0 := he.cell C0.out; have e1 := he.cell C1.out; have e2 := he.cell C2.out; have e3 := W1.out; have e4 := W2.out; go_simp; rfl); simp only [Act.put, List.setIfInBounds_toArray, List.set_cons_zero, List.set_cons_succ])
          refine LexW.nil (fun w3 he hkn => ?_)
          have X3 := Lib.hid (HZ.out.trans ((ext_drew z).trans he))
          clear he hkn
          go_wp2_with (fail)
          go_roundw
          case rel => exact ⟨j + 1, S2, by omega, by go_num, rfl, HS2, X3⟩
          case measure => simp [intOf]; omega
        · obtain rfl : j = m := by omega
          obtain ⟨Z, hZ⟩ : ∃ Z, Z = S % p := ⟨_, rfl⟩
          have HAS : Hid (appL p rows v j (k + 1) = appL p rows v j k ++ [Z]) := Lib.hid (by rw [appL_succ, dotL, ← HS.out, hZ])
          have HMd : Hid (∀ w1, Calls Try.prog 86 #[.int .i64 p, .int .i64 S] w1 fun e w' => e = .returned (.int .i64 Z) ∧ Ext w1 w') := Lib.hid (fun w1 => by rw [hZ]; exact s_mod p S w1 (by omega) (by omega))
          clear hZ
          go_wp2_with (fail)
          refine Calls.mono (HMd.out _) ?_
          rintro e w4 ⟨rfl, x4⟩
          have X4 := Lib.hid (HZ.out.trans x4)
          clear x4
          go_wp2_with (at_builtin; refine wpList_push rfl (.tmp 38) (.tmp 42) rfl rfl rfl (v := Z) (HO.out.ext (X4.out.trans (ext_alloc _ _))) ?hc (by omega) ?hB ?hk)
          case hc => simp
          case hB => have := (HE.out.trans X4.out).size'; simp; omega
          case hk =>
            intro g' cap' w5 ho5 hg5 he5
            have HO5 := Lib.hid ho5
            have HE5 := Lib.hid (he5 w (Nat.le_refl _) ((HE.out.trans X4.out).alloc _))
            clear ho5 hg5 he5
            go_wp2_with (fail)
            go_roundw
            case rel => exact ⟨k + 1, g', cap', by omega, by go_num, rfl, Lib.hid (by rw [HAS.out]; exact HO5.out), HE5⟩
            case measure => simp [intOf]; omega
    · obtain rfl : k = n := by omega
      go_wp2_with (fail)
      go_ret
      exact ⟨_, _, rfl, HO.out, HE.out⟩

set_option maxHeartbeats 4000000 in
set_option maxRecDepth 100000 in
theorem s_columns11 (a : Option Addr) (n cap : Nat) (cols : List (List Int)) (w : World) (hn : n ≤ 64) (hrl : ∀ i, i < n → (nthR cols i).length = n) (hx : RdR w a n cols) :
    Calls Try.prog 70 #[.slice a n cap] w fun e w' => ∃ g rc, e = .returned (.slice (some ⟨g, 0, none⟩) n rc) ∧ OwnR w.heap.size w' (some ⟨g, 0, none⟩) n rc (turnL cols n n) ∧ Ext w w' := by
  have HX := Lib.hid hx
  have HRL := Lib.hid hrl
  clear hx hrl
  go_enter Try.func70, Try.ntmps70
  go_wp2_with (fail)
  go_loopw [3, 4] (fun v i wr => ∃ (k g rc : Nat), k ≤ n ∧ i = .int .i64 k ∧ v = .slice (some ⟨g, 0, none⟩) k rc ∧ Hid (OwnR w.heap.size wr (some ⟨g, 0, none⟩) k rc (turnL cols n k)) ∧ Hid (Ext w wr)) (fun _ i _ => n - (intOf i).toNat)
  case atStart => exact ⟨0, _, _, Nat.zero_le _, rfl, rfl, Lib.hid (ownR_empty w), Lib.hid (ext_alloc _ _)⟩
  case round =>
    rename World => y
    obtain ⟨k, g, rc, hk, rfl, rfl, HO, HE⟩ := hrel
    by_cases hlt : k < n
    · go_wp2_with (fail)
      go_loopw [5, 6] (fun v i wz => ∃ (j g1 rc1 : Nat), j ≤ n ∧ i = .int .i64 j ∧ v = .slice (some ⟨g1, 0, none⟩) j rc1 ∧ Hid (OwnC y.heap.size wz (some ⟨g1, 0, none⟩) j rc1 (colL cols k j)) ∧ Hid (Ext y wz)) (fun _ i _ => n - (intOf i).toNat)
      case atStart => exact ⟨0, _, _, Nat.zero_le _, rfl, rfl, Lib.hid (own_empty y), Lib.hid (ext_alloc _ _)⟩
      case round =>
        rename World => z
        obtain ⟨j, g1, rc1, hj, rfl, rfl, HR, HZ⟩ := hrel
        by_cases hlj : j < n
        · obtain ⟨b, off, ai, ci, hab, hc, hri⟩ := HX.out.2 j hlj
          subst hab
          rw [HRL.out j hlj] at hc hri
          obtain ⟨bi, oi, hai, hcb⟩ := hri.2 k hlt
          subst hai
          have hc' := (HE.out.trans HZ.out).cell hc
          have hcb' := (HE.out.trans HZ.out).cell hcb
          obtain ⟨u, hu⟩ : ∃ u, u = nth (nthR cols j) k := ⟨_, rfl⟩
          rw [← hu] at hcb'
          have HS : Hid (colL cols k (j + 1) = colL cols k j ++ [u]) := Lib.hid (by rw [colL_succ, hu])
          clear hc hri hcb hu
          go_wp2_with (at_builtin; refine wpList_push rfl (.tmp 21) (.tmp 29) rfl rfl rfl (v := u) (HR.out.ext (ext_alloc _ _)) ?hc (by omega) ?hB ?hk)
          case hc => simp
          case hB => have := HZ.out.size'; simp; omega
          case hk =>
            intro g' cap' w3 ho3 hg3 he3
            have HO3 := Lib.hid ho3
            have HE3 := Lib.hid (he3 y (Nat.le_refl _) (HZ.out.alloc _))
            clear ho3 hg3 he3 hc' hcb'
            go_wp2_with (fail)
            go_roundw
            case rel => exact ⟨j + 1, g', cap', by omega, by go_num, rfl, Lib.hid (by rw [HS.out]; exact HO3.out), HE3⟩
            case measure => simp [intOf]; omega
        · obtain rfl : j = n := by omega
          go_wp2_with (at_builtin; refine wpList_pushR (w0 := y) rfl (.tmp 31) (.tmp 33) rfl rfl rfl HO.out (HZ.out.trans (ext_alloc _ _)) (HR.out.ext (ext_alloc _ _)) ?hc (by omega) HE.out.size ?hk)
          case hc => exact cell_new _ _ rfl _ _
          case hk =>
            intro g5 c5 w5 ho5 hg5 he5
            have HO5 := Lib.hid ho5
            have HE5 := Lib.hid (he5 w (Nat.le_refl _) ((HE.out.trans HZ.out).alloc _))
            clear ho5 hg5 he5
            go_wp2_with (fail)
            go_roundw
            case rel => exact ⟨k + 1, g5, c5, by omega, by go_num, rfl, Lib.hid (by rw [turnL_succ]; exact HO5.out), HE5⟩
            case measure => simp [intOf]; omega
    · obtain rfl : k = n := by omega
      go_wp2_with (fail)
      go_ret
      exact ⟨_, _, rfl, HO.out, HE.out⟩

set_option maxHeartbeats 4000000 in
set_option maxRecDepth 100000 in
theorem s_times14 (p : Int) (aa : Option Addr) (n ca : Nat) (A : List (List Int)) (ab : Option Addr) (cb : Nat) (B : List (List Int)) (w : World) (hp1 : 3 ≤ p) (hp2 : p ≤ 1000) (hn : n ≤ 64) (hA : RdR w aa n A) (hB : RdR w ab n B) (hGA : RowsG p n A) (hGB : RowsG p n B) :
    Calls Try.prog 47 #[.int .i64 p, .slice aa n ca, .slice ab n cb] w fun e w' => ∃ g rc, e = .returned (.slice (some ⟨g, 0, none⟩) n rc) ∧ OwnR w.heap.size w' (some ⟨g, 0, none⟩) n rc (mulL p A B n n n) ∧ Ext w w' := by
  have HA := Lib.hid hA
  have HB := Lib.hid hB
  have HGA := Lib.hid (show ∀ i, i < n → Good p n (nthR A i) from fun i hi => hGA i (by rw [hA.1]; exact hi))
  have HGB := Lib.hid (show ∀ i, i < n → Good p n (nthR B i) from fun i hi => hGB i (by rw [hB.1]; exact hi))
  have HGC := Lib.hid (show ∀ k, k < n → Good p n (colL B k n) from fun k hk => ⟨colL_len .., fun t ht => by rw [colL_nth ht]; exact (hGB t (by rw [hB.1]; exact ht)).2 k hk⟩)
  clear hA hB hGA hGB
  go_enter Try.func47, Try.ntmps47
  go_wp2_with (fail)
  go_loopw [7, 8] (fun v i wr => ∃ (k g rc : Nat), k ≤ n ∧ i = .int .i64 k ∧ v = .slice (some ⟨g, 0, none⟩) k rc ∧ Hid (OwnR w.heap.size wr (some ⟨g, 0, none⟩) k rc (bcolsM p A B n k)) ∧ Hid (Ext w wr)) (fun _ i _ => n - (intOf i).toNat)
  case atStart => exact ⟨0, _, _, Nat.zero_le _, rfl, rfl, Lib.hid (ownR_empty w), Lib.hid (ext_alloc _ _)⟩
  case round =>
    rename World => y
    obtain ⟨k, g, rc, hk, rfl, rfl, HO, HE⟩ := hrel
    by_cases hlt : k < n
    · have HGk := Lib.hid (HGC.out k hlt)
      go_wp2_with (fail)
      refine Calls.mono (s_column14 ab n cb n k B _ (by omega) hlt (fun i hi => (HGB.out i hi).1) (HB.out.ext HE.out)) ?_
      rintro e w1 ⟨g1, c1, rfl, o1, x1⟩
      have O1 := Lib.hid o1
      have X1 := Lib.hid x1
      clear o1 x1
      go_wp2_with (fail)
      refine Calls.mono (s_apply14 p aa n ca n A _ c1 (colL B k n) _ hp1 hp2 (by omega) (by omega) (HA.out.ext (HE.out.trans X1.out)) HGA.out O1.out.rd HGk.out) ?_
      rintro e w2 ⟨g2, c2, rfl, o2, x2⟩
      have O2 := Lib.hid (o2.mono X1.out.size)
      have X2 := Lib.hid (X1.out.trans x2)
      clear o2 x2
      go_wp2_with (at_builtin; refine wpList_pushR (w0 := y) rfl (.tmp 16) (.tmp 23) rfl rfl rfl HO.out (X2.out.trans (ext_alloc _ _)) (O2.out.ext (ext_alloc _ _)) ?hc (by omega) HE.out.size ?hk)
      case hc => exact cell_new _ _ rfl _ _
      case hk =>
        intro g5 c5 w5 ho5 hg5 he5
        have HO5 := Lib.hid ho5
        have HE5 := Lib.hid (he5 w (Nat.le_refl _) ((HE.out.trans X2.out).alloc _))
        clear ho5 hg5 he5
        go_wp2_with (fail)
        go_roundw
        case rel => exact ⟨k + 1, g5, c5, by omega, by go_num, rfl, Lib.hid (by rw [bcolsM_succ]; exact HO5.out), HE5⟩
        case measure => simp [intOf]; omega
    · obtain rfl : k = n := by omega
      go_wp2_with (fail)
      refine Calls.mono (s_columns11 _ k rc (bcolsM p A B k k) _ (by omega) (fun i hi => by rw [bcolsM_nth hi, appL_len]) HO.out.rd) ?_
      rintro e w6 ⟨g6, c6, rfl, o6, x6⟩
      rw [bcolsM_mul] at o6
      have O6 := Lib.hid (o6.mono HE.out.size)
      have X6 := Lib.hid (HE.out.trans x6)
      clear o6 x6
      go_wp2_with (fail)
      go_ret
      exact ⟨_, _, rfl, O6.out, X6.out⟩

set_option maxHeartbeats 4000000 in
set_option maxRecDepth 100000 in
theorem s_bracket (p : Int) (aa : Option Addr) (n ca : Nat) (A : List (List Int)) (ab : Option Addr) (cb : Nat) (B : List (List Int)) (w : World) (hp1 : 3 ≤ p) (hp2 : p ≤ 1000) (hn0 : 0 < n) (hn : n ≤ 64) (hA : RdR w aa n A) (hB : RdR w ab n B) (hGA : RowsG p n A) (hGB : RowsG p n B) :
    Calls Try.prog 31 #[.int .i64 p, .slice aa n ca, .slice ab n cb] w fun e w' => ∃ g rc, e = .returned (.slice (some ⟨g, 0, none⟩) n rc) ∧ OwnR w.heap.size w' (some ⟨g, 0, none⟩) n rc (brkM p A B n) ∧ Ext w w' := by
  have HA := Lib.hid hA
  have HB := Lib.hid hB
  have HGA := Lib.hid hGA
  have HGB := Lib.hid hGB
  clear hA hB hGA hGB
  go_enter Try.func31, Try.ntmps31
  go_wp2_with (fail)
  refine Calls.mono (s_times14 p aa n ca A ab cb B w hp1 hp2 hn HA.out HB.out HGA.out HGB.out) ?_
  rintro e w1 ⟨gx, cx, rfl, o1, x1⟩
  have O1 := Lib.hid o1
  have X1 := Lib.hid x1
  clear o1 x1
  go_wp2_with (fail)
  refine Calls.mono (s_times14 p ab n cb B aa ca A _ hp1 hp2 hn (HB.out.ext X1.out) (HA.out.ext X1.out) HGB.out HGA.out) ?_
  rintro e w2 ⟨gy, cy, rfl, o2, x2⟩
  have HXr := Lib.hid (O1.out.ext x2)
  have HYr := Lib.hid o2
  have X2 := Lib.hid (X1.out.trans x2)
  obtain ⟨X, hX⟩ : ∃ X, X = mulL p A B n n n := ⟨_, rfl⟩
  obtain ⟨Y, hY⟩ : ∃ Y, Y = mulL p B A n n n := ⟨_, rfl⟩
  have HGX : Hid (∀ i, i < n → Good p n (nthR X i)) := Lib.hid (fun i hi => by rw [hX]; exact mul_good (by omega) i hi)
  have HGY : Hid (∀ i, i < n → Good p n (nthR Y i)) := Lib.hid (fun i hi => by rw [hY]; exact mul_good (by omega) i hi)
  have HBK : Hid (brkM p A B n = sumM p X Y (-1) n n) := Lib.hid (by rw [hX, hY]; rfl)
  rw [← hX] at HXr
  rw [← hY] at HYr
  clear o2 x2 hX hY O1
  go_wp2_with (fail)
  go_loopw [9, 10] (fun s i wr => ∃ (k g rc : Nat), k ≤ n ∧ i = .int .i64 k ∧ s = .slice (some ⟨g, 0, none⟩) k rc ∧ Hid (OwnR w2.heap.size wr (some ⟨g, 0, none⟩) k rc (sumM p X Y (-1) n k)) ∧ Hid (Ext w2 wr)) (fun _ i _ => n - (intOf i).toNat)
  case atStart => exact ⟨0, _, _, Nat.zero_le _, rfl, rfl, Lib.hid (ownR_empty w2), Lib.hid (ext_alloc _ _)⟩
  case round =>
    rename World => wr
    obtain ⟨k, g, rc, hk, rfl, rfl, HOwn, HExt⟩ := hrel
    by_cases hlt : k < n
    · obtain ⟨ai, ci, hc, hri⟩ := HXr.out.at hlt
      obtain ⟨bi, di, hd, hrj⟩ := HYr.out.at hlt
      rw [(HGX.out k hlt).1] at hc hri
      rw [(HGY.out k hlt).1] at hd hrj
      have HCa := Lib.hid ((HExt.out.trans (ext_drew wr)).cell hc)
      have HCb := Lib.hid ((HExt.out.trans (ext_drew wr)).cell hd)
      have HRa := Lib.hid (hri.rd.ext (HExt.out.trans (ext_drew wr)))
      have HRb := Lib.hid (hrj.rd.ext (HExt.out.trans (ext_drew wr)))
      have HGa := Lib.hid (HGX.out k hlt)
      have HGb := Lib.hid (HGY.out k hlt)
      clear hc hri hd hrj
      go_wp2_with (fail)
      refine wp_region_lex_tail1 11 [(10, .ownS wr.heap.size n (plusL p (nthR X k) (nthR Y k) (-1) n))] (.slice (some ⟨g, 0, none⟩) k rc) (by kernel_rfl) (by kernel_rfl) rfl rfl (fun w1 => by go_simp) ?_
      simp only [List.take, List.drop]
      simp only [Act.put, List.setIfInBounds_toArray, List.set_cons_zero, List.set_cons_succ]
      (refine LexW.pure (v := ?_) rfl rfl (fun w1 he => ?_) ?_; rotate_left; ( have e1 := he.cell HCa.out; have e2 := he.cell HCb.out; go_simp; rfl); simp only [Act.put, List.setIfInBounds_toArray, List.set_cons_zero, List.set_cons_succ])
      (refine LexW.pure (v := ?_) rfl rfl (fun w1 he => ?_) ?_; rotate_left; ( have e1 := he.cell HCa.out; have e2 := he.cell HCb.out; go_simp; rfl); simp only [Act.put, List.setIfInBounds_toArray, List.set_cons_zero, List.set_cons_succ])
      (refine LexW.pure (v := ?_) rfl rfl (fun w1 he => ?_) ?_; rotate_left; ( have e1 := he.cell HCa.out; have e2 := he.cell HCb.out; go_simp; rfl); simp only [Act.put, List.setIfInBounds_toArray, List.set_cons_zero, List.set_cons_succ])
      (refine LexW.pure (v := ?_) rfl rfl (fun w1 he => ?_) ?_; rotate_left; ( have e1 := he.cell HCa.out; have e2 := he.cell HCb.out; go_simp; rfl); simp only [Act.put, List.setIfInBounds_toArray, List.set_cons_zero, List.set_cons_succ])
      (refine LexW.pure (v := ?_) rfl rfl (fun w1 he => ?_) ?_; rotate_left; ( have e1 := he.cell HCa.out; have e2 := he.cell HCb.out; go_simp; rfl); simp only [Act.put, List.setIfInBounds_toArray, List.set_cons_zero, List.set_cons_succ])
      (refine LexW.pure (v := ?_) rfl rfl (fun w1 he => ?_) ?_; rotate_left; ( have e1 := he.cell HCa.out; have e2 := he.cell HCb.out; go_simp; rfl); simp only [Act.put, List.setIfInBounds_toArray, List.set_cons_zero, List.set_cons_succ])
      (refine LexW.pure (v := ?_) rfl rfl (fun w1 he => ?_) ?_; rotate_left; ( have e1 := he.cell HCa.out; have e2 := he.cell HCb.out; go_simp; rfl); simp only [Act.put, List.setIfInBounds_toArray, List.set_cons_zero, List.set_cons_succ])
      (refine LexW.pure (v := ?_) rfl rfl (fun w1 he => ?_) ?_; rotate_left; ( have e1 := he.cell HCa.out; have e2 := he.cell HCb.out; go_simp; rfl); simp only [Act.put, List.setIfInBounds_toArray, List.set_cons_zero, List.set_cons_succ])
      (refine LexW.pure (v := ?_) rfl rfl (fun w1 he => ?_) ?_; rotate_left; ( have e1 := he.cell HCa.out; have e2 := he.cell HCb.out; go_simp; rfl); simp only [Act.put, List.setIfInBounds_toArray, List.set_cons_zero, List.set_cons_succ])
      (refine LexW.callR (f := ?_) (args := ?_) rfl rfl (fun w1 => ?_) (fun w1 he hdep => ?_) (fun v hv => ?_); rotate_left 2; (go_simp; refine ⟨?_, ?_⟩ <;> rfl); ( refine (s_minus11 p _ _ n _ _ (nthR X k) (nthR Y k) w1 hp1 hp2 (by omega) (HRa.out.ext he) (HRb.out.ext he) (fun i hi => by have := HGa.out.2 i hi; omega) HGb.out).mono ?_; rintro e w2 ⟨g, rc, rfl, ho, g2⟩; exact ⟨_, rfl, g2, g, rc, rfl, ho.mono (Nat.le_trans (ext_drew wr).size he.size)⟩); simp only [Act.put, List.setIfInBounds_toArray, List.set_cons_zero, List.set_cons_succ])
      obtain ⟨_, g28, c28, rfl, _⟩ := hv
      refine LexW.nil (fun w3 he hkn => ?_)
      obtain ⟨_, _, q28, r28⟩ : (SPred.ownS wr.heap.size n (plusL p (nthR X k) (nthR Y k) (-1) n)).holds (.slice (some ⟨g28, 0, none⟩) n c28) w3 := hkn (10, _) (by simp)
      cases q28
      have R28 := Lib.hid r28
      have HE := Lib.hid ((ext_drew wr).trans he)
      clear he hkn r28
      go_wp2_with (at_builtin; refine wpList_pushR (w0 := wr) rfl (.tmp 26) (.tmp 37) rfl rfl rfl HOwn.out (HE.out.trans (ext_alloc _ _)) (R28.out.ext (ext_alloc _ _)) ?hc (by omega) HExt.out.size ?hk)
      case hc => exact cell_new _ _ rfl _ _
      case hk =>
        intro g5 c5 w5 ho5 hg5 he5
        have HO5 := Lib.hid ho5
        have HE5 := Lib.hid (he5 w2 (Nat.le_refl _) ((HExt.out.trans HE.out).alloc _))
        clear ho5 hg5 he5
        go_wp2_with (fail)
        refine strictQ_normal ?_
        go_wp2_with (fail)
        go_roundw
        case rel => exact ⟨k + 1, g5, c5, by omega, by go_num, rfl, Lib.hid (by rw [sumM_succ]; exact HO5.out), HE5⟩
        case measure => simp [intOf]; omega
    · obtain rfl : k = n := by omega
      go_wp2_with (fail)
      go_ret
      exact ⟨_, _, rfl, by rw [HBK.out]; exact HOwn.out.mono X2.out.size, X2.out.trans HExt.out⟩
end Go.Proofs.Ythflmmgolegonaa

/-
  The listed function MatrixBracket.
  No condition.
-/
namespace Go.Proofs.Ythflmmgolegonaa
set_option maxRecDepth 100000
open Go.RowKit

theorem RdR.nilN (w : World) (a : Option Addr) : RdR w a 0 [] := ⟨rfl, fun _ hi => absurd hi (Nat.not_lt_zero _)⟩
theorem rdM_two {W : World} {g n m ca cb : Nat} {a b : Option Addr} {xs ys : List (List Int)} (h0 : W.cell? ⟨g, 0, none⟩ = some (.slice a n ca)) (h1 : W.cell? ⟨g, 1, none⟩ = some (.slice b m cb)) (hx : RdR W a n xs) (hy : RdR W b m ys) : RdM W (some ⟨g, 0, none⟩) 2 [xs, ys] := by
  refine ⟨rfl, fun i hi => ?_⟩
  have hi2 : i = 0 ∨ i = 1 := by omega
  rcases hi2 with rfl | rfl
  · exact ⟨g, 0, a, ca, rfl, by show W.cell? _ = some (.slice a xs.length ca); rw [hx.1]; exact h0, by show RdR W a xs.length xs; rw [hx.1]; exact hx⟩
  · exact ⟨g, 0, b, cb, rfl, by show W.cell? _ = some (.slice b ys.length cb); rw [hy.1]; exact h1, by show RdR W b ys.length ys; rw [hy.1]; exact hy⟩
theorem two_len {xs ys : List (List Int)} {n m B : Nat} (hx : xs.length = n) (hy : ys.length = m) (h1 : n ≤ B) (h2 : m ≤ B) : ∀ i, i < 2 → (nthM [xs, ys] i).length ≤ B := fun i hi => by
  have hi2 : i = 0 ∨ i = 1 := by omega
  rcases hi2 with rfl | rfl
  · show xs.length ≤ B; omega
  · show ys.length ≤ B; omega
theorem two_row {xs ys : List (List Int)} {n m B : Nat} (hx : xs.length = n) (hy : ys.length = m) (h1 : ∀ i, i < n → (nthR xs i).length ≤ B) (h2 : ∀ i, i < m → (nthR ys i).length ≤ B) : ∀ i, i < 2 → ∀ j, j < (nthM [xs, ys] i).length → (nthR (nthM [xs, ys] i) j).length ≤ B := fun i hi j hj => by
  have hi2 : i = 0 ∨ i = 1 := by omega
  rcases hi2 with rfl | rfl
  · exact h1 j (by rw [← hx]; exact hj)
  · exact h2 j (by rw [← hy]; exact hj)
theorem brk_good {p : Int} {a b : List (List Int)} {n : Nat} (hp : 1 ≤ p) : RowsG p n (brkM p a b n) := sumM_good hp
theorem brk_len (p : Int) (a b : List (List Int)) (n : Nat) : (brkM p a b n).length = n := sumM_len ..
theorem cntR_rowsB {p : Int} {N : Nat} {rows : List (List Int)} (hg : RowsG p N rows) (hN : N ≤ 64) : ∀ k, k ≤ rows.length → cntR rows k ≤ 64 * k
  | 0, _ => by simp [cntR]
  | k + 1, hk => by
    have h1 := cntR_rowsB hg hN k (by omega)
    have h2 := (hg k (by omega)).1
    unfold cntR
    omega
theorem brk_cnt {p : Int} {a b : List (List Int)} {d : Nat} (hp : 1 ≤ p) (hd : d ≤ 6) : 2 ^ d ≤ 1048576 ∧ cntR (brkM p a b (2 ^ d)) (2 ^ d) ≤ 1048576 := by
  have h64 := pow_le64 hd
  have := cntR_rowsB (rows := brkM p a b (2 ^ d)) (brk_good hp) (by omega) (2 ^ d) (by rw [brk_len]; exact Nat.le_refl _)
  omega

set_option maxHeartbeats 2000000 in
theorem c_MatrixBracket_bad (p : Int) (a : Option Addr) (d cap : Nat) (qs : List Int) (ax1 : Option Addr) (n1 cx1 : Nat) (xs1 : List (List Int)) (ax2 : Option Addr) (n2 cx2 : Nat) (xs2 : List (List Int)) (w : World) (hd : d ≤ 4194304) (hn1 : n1 ≤ 4194303) (hr1 : ∀ i, i < n1 → (nthR xs1 i).length ≤ 4194303) (hn2 : n2 ≤ 4194303) (hr2 : ∀ i, i < n2 → (nthR xs2 i).length ≤ 4194303) (hq : RdC w a d qs) (hx1 : RdR w ax1 n1 xs1) (hx2 : RdR w ax2 n2 xs2) (hc : code14 p qs [xs1, xs2] ≠ 0) :
    Calls Try.prog 11 #[.agg #[.int .i64 p, .slice a d cap], .slice ax1 n1 cx1, .slice ax2 n2 cx2] w fun e w' => ∃ ra rc, e = .returned (.tuple #[.slice ra 0 rc, .int .i64 (code14 p qs [xs1, xs2])]) ∧ OwnR w.heap.size w' ra 0 rc [] ∧ Ext w w' := by
  have HQ := Lib.hid hq
  have HQL := Lib.hid hq.1
  have HX1 := Lib.hid hx1
  have HX2 := Lib.hid hx2
  have HL1 := Lib.hid hx1.1
  have HL2 := Lib.hid hx2.1
  have HR1 := Lib.hid hr1
  have HR2 := Lib.hid hr2
  clear hq hx1 hx2 hr1 hr2
  have hcb : (code14 p qs [xs1, xs2] != 0) = true := by simp [hc]
  clear hc
  go_enter Try.func11, Try.ntmps11
  go_wp2_with (fail)
  refine Calls.mono (c_checkThree p a d cap qs none 0 0 [] _ 2 _ [xs1, xs2] _ hd (by omega) (fun _ hi => absurd hi (Nat.not_lt_zero _)) (by omega) (two_len HL1.out HL2.out hn1 hn2) (two_row HL1.out HL2.out HR1.out HR2.out) (HQ.out.ext ((ext_alloc _ _).alloc _)) (RdR.nilN _ _) (rdM_two (g := w.heap.size + 1) (ca := cx1) (cb := cx2) (by simp) (by simp) (HX1.out.ext ((ext_alloc _ _).alloc _)) (HX2.out.ext ((ext_alloc _ _).alloc _)))) ?_
  rintro e w1 ⟨rfl, g1⟩
  rw [code3_mats]
  have G1 := Lib.hid (((ext_alloc w (.cells #[.int .i64 p, .slice a d cap] 30)).alloc (.cells #[.slice ax1 n1 cx1, .slice ax2 n2 cx2] 25)).trans g1)
  clear g1
  go_wp2_with (fail)
  go_ret2
  exact ⟨none, 0, rfl, OwnR.nil _ _, G1.out⟩
set_option maxHeartbeats 4000000 in
theorem c_MatrixBracket_ok (p : Int) (a : Option Addr) (d cap : Nat) (qs : List Int) (ax1 : Option Addr) (n1 cx1 : Nat) (xs1 : List (List Int)) (ax2 : Option Addr) (n2 cx2 : Nat) (xs2 : List (List Int)) (w : World) (hd : d ≤ 4194304) (hn1 : n1 ≤ 4194303) (hr1 : ∀ i, i < n1 → (nthR xs1 i).length ≤ 4194303) (hn2 : n2 ≤ 4194303) (hr2 : ∀ i, i < n2 → (nthR xs2 i).length ≤ 4194303) (hq : RdC w a d qs) (hx1 : RdR w ax1 n1 xs1) (hx2 : RdR w ax2 n2 xs2) (hc : code14 p qs [xs1, xs2] = 0) :
    Calls Try.prog 11 #[.agg #[.int .i64 p, .slice a d cap], .slice ax1 n1 cx1, .slice ax2 n2 cx2] w fun e w' => ∃ ra rc, e = .returned (.tuple #[.slice ra (2 ^ d) rc, .int .i64 0]) ∧ OwnR w.heap.size w' ra (2 ^ d) rc (brkM p xs1 xs2 (2 ^ d)) ∧ Ext w w' := by
  have HQ := Lib.hid hq
  have HQL := Lib.hid hq.1
  have HX1 := Lib.hid hx1
  have HX2 := Lib.hid hx2
  have HL1 := Lib.hid hx1.1
  have HL2 := Lib.hid hx2.1
  have HR1 := Lib.hid hr1
  have HR2 := Lib.hid hr2
  clear hq hx1 hx2 hr1 hr2
  obtain ⟨hcd, hma⟩ := code14_zero hc
  obtain ⟨hs, h3⟩ := codeD_zero hcd
  obtain ⟨hpr, _, _, _⟩ := doub_of hs
  have hpb := prime_bd hpr
  rw [HQL.out] at h3 hma
  have hm1 := matE_of (all_nthM.1 hma 0 (by simp))
  have hm2 := matE_of (all_nthM.1 hma 1 (by simp))
  have hN8 : 2 ^ d ≤ 64 := pow_le64 (by omega)
  have hN1 : 0 < 2 ^ d := Nat.pow_pos (by omega)
  have he1 : n1 = 2 ^ d := HL1.out.symm.trans hm1.2
  have he2 : n2 = 2 ^ d := HL2.out.symm.trans hm2.2
  have HG1 := Lib.hid hm1.1
  have HG2 := Lib.hid hm2.1
  rw [← he1] at HG1 HG2 hN8 hN1 ⊢
  obtain rfl : n2 = n1 := he2.trans he1.symm
  have HC := Lib.hid hc
  have hcb : ((0 : Int) != 0) = false := by simp
  clear hc hcd hs h3 hma hpr hm1 hm2 he1 he2
  go_enter Try.func11, Try.ntmps11
  go_wp2_with (fail)
  refine Calls.mono (c_checkThree p a d cap qs none 0 0 [] _ 2 _ [xs1, xs2] _ hd (by omega) (fun _ hi => absurd hi (Nat.not_lt_zero _)) (by omega) (two_len HL1.out HL2.out hn2 hn2) (two_row HL1.out HL2.out HR1.out HR2.out) (HQ.out.ext ((ext_alloc _ _).alloc _)) (RdR.nilN _ _) (rdM_two (g := w.heap.size + 1) (ca := cx1) (cb := cx2) (by simp) (by simp) (HX1.out.ext ((ext_alloc _ _).alloc _)) (HX2.out.ext ((ext_alloc _ _).alloc _)))) ?_
  rintro e w1 ⟨rfl, g1⟩
  rw [code3_mats]
  rw [HC.out]
  have q0 : w1.cell? ⟨w.heap.size, 0, none⟩ = some (.int .i64 p) := g1.cell (by simp)
  have q1 : w1.cell? ⟨w.heap.size, 1, none⟩ = some (.slice a d cap) := g1.cell (by simp)
  have G1 := Lib.hid (((ext_alloc w (.cells #[.int .i64 p, .slice a d cap] 30)).alloc (.cells #[.slice ax1 n2 cx1, .slice ax2 n2 cx2] 25)).trans g1)
  clear g1
  go_wp2_with (fail)

  refine Calls.mono (c_dfield p _ _) ?_
  rintro e w2 ⟨rfl, g2⟩
  replace G1 := Lib.hid (G1.out.trans g2)
  clear g2 q0 q1
  go_wp2_with (fail)

  refine Calls.mono (c_bracket p ax1 n2 cx1 xs1 ax2 cx2 xs2 _ (by omega) (by omega) hN1 hN8 (HX1.out.ext G1.out) (HX2.out.ext G1.out) HG1.out HG2.out) ?_
  rintro e w3 ⟨g3, c3, rfl, o3, x3⟩
  have O3 := Lib.hid (o3.mono G1.out.size)
  have X3 := Lib.hid (G1.out.trans x3)
  clear o3 x3
  go_wp2_with (fail)
  go_ret2
  exact ⟨_, _, rfl, O3.out, X3.out⟩

set_option maxHeartbeats 2000000 in
theorem s_MatrixBracket_bad (p : Int) (a : Option Addr) (d cap : Nat) (qs : List Int) (ax1 : Option Addr) (n1 cx1 : Nat) (xs1 : List (List Int)) (ax2 : Option Addr) (n2 cx2 : Nat) (xs2 : List (List Int)) (w : World) (hd : d ≤ 4194304) (hn1 : n1 ≤ 4194303) (hr1 : ∀ i, i < n1 → (nthR xs1 i).length ≤ 4194303) (hn2 : n2 ≤ 4194303) (hr2 : ∀ i, i < n2 → (nthR xs2 i).length ≤ 4194303) (hq : RdC w a d qs) (hx1 : RdR w ax1 n1 xs1) (hx2 : RdR w ax2 n2 xs2) (hc : code14 p qs [xs1, xs2] ≠ 0) :
    Calls Try.prog 8 #[.agg #[.int .i64 p, .slice a d cap], .slice ax1 n1 cx1, .slice ax2 n2 cx2] w fun e w' => ∃ ra rc, e = .returned (.tuple #[.slice ra 0 rc, .int .i64 (code14 p qs [xs1, xs2])]) ∧ OwnR w.heap.size w' ra 0 rc [] ∧ Ext w w' := by
  have HQ := Lib.hid hq
  have HQL := Lib.hid hq.1
  have HX1 := Lib.hid hx1
  have HX2 := Lib.hid hx2
  have HL1 := Lib.hid hx1.1
  have HL2 := Lib.hid hx2.1
  have HR1 := Lib.hid hr1
  have HR2 := Lib.hid hr2
  clear hq hx1 hx2 hr1 hr2
  have hcb : (code14 p qs [xs1, xs2] != 0) = true := by simp [hc]
  clear hc
  go_enter Try.func8, Try.ntmps8
  go_wp2_with (fail)
  refine Calls.mono (s_two14 p a d cap qs _ 2 _ [xs1, xs2] _ hd (by omega) (two_len HL1.out HL2.out hn1 hn2) (two_row HL1.out HL2.out HR1.out HR2.out) (HQ.out.ext ((ext_alloc _ _).alloc _)) (rdM_two (g := w.heap.size + 1) (ca := cx1) (cb := cx2) (by simp) (by simp) (HX1.out.ext ((ext_alloc _ _).alloc _)) (HX2.out.ext ((ext_alloc _ _).alloc _)))) ?_
  rintro e w1 ⟨rfl, g1⟩
  skip
  have G1 := Lib.hid (((ext_alloc w (.cells #[.int .i64 p, .slice a d cap] 30)).alloc (.cells #[.slice ax1 n1 cx1, .slice ax2 n2 cx2] 25)).trans g1)
  clear g1
  go_wp2_with (fail)
  go_ret2
  exact ⟨none, 0, rfl, OwnR.nil _ _, G1.out⟩
set_option maxHeartbeats 4000000 in
theorem s_MatrixBracket_ok (p : Int) (a : Option Addr) (d cap : Nat) (qs : List Int) (ax1 : Option Addr) (n1 cx1 : Nat) (xs1 : List (List Int)) (ax2 : Option Addr) (n2 cx2 : Nat) (xs2 : List (List Int)) (w : World) (hd : d ≤ 4194304) (hn1 : n1 ≤ 4194303) (hr1 : ∀ i, i < n1 → (nthR xs1 i).length ≤ 4194303) (hn2 : n2 ≤ 4194303) (hr2 : ∀ i, i < n2 → (nthR xs2 i).length ≤ 4194303) (hq : RdC w a d qs) (hx1 : RdR w ax1 n1 xs1) (hx2 : RdR w ax2 n2 xs2) (hc : code14 p qs [xs1, xs2] = 0) :
    Calls Try.prog 8 #[.agg #[.int .i64 p, .slice a d cap], .slice ax1 n1 cx1, .slice ax2 n2 cx2] w fun e w' => ∃ ra rc, e = .returned (.tuple #[.slice ra (2 ^ d) rc, .int .i64 0]) ∧ OwnR w.heap.size w' ra (2 ^ d) rc (brkM p xs1 xs2 (2 ^ d)) ∧ Ext w w' := by
  have HQ := Lib.hid hq
  have HQL := Lib.hid hq.1
  have HX1 := Lib.hid hx1
  have HX2 := Lib.hid hx2
  have HL1 := Lib.hid hx1.1
  have HL2 := Lib.hid hx2.1
  have HR1 := Lib.hid hr1
  have HR2 := Lib.hid hr2
  clear hq hx1 hx2 hr1 hr2
  obtain ⟨hcd, hma⟩ := code14_zero hc
  obtain ⟨hs, h3⟩ := codeD_zero hcd
  obtain ⟨hpr, _, _, _⟩ := doub_of hs
  have hpb := prime_bd hpr
  rw [HQL.out] at h3 hma
  have hm1 := matE_of (all_nthM.1 hma 0 (by simp))
  have hm2 := matE_of (all_nthM.1 hma 1 (by simp))
  have hN8 : 2 ^ d ≤ 64 := pow_le64 (by omega)
  have hN1 : 0 < 2 ^ d := Nat.pow_pos (by omega)
  have he1 : n1 = 2 ^ d := HL1.out.symm.trans hm1.2
  have he2 : n2 = 2 ^ d := HL2.out.symm.trans hm2.2
  have HG1 := Lib.hid hm1.1
  have HG2 := Lib.hid hm2.1
  rw [← he1] at HG1 HG2 hN8 hN1 ⊢
  obtain rfl : n2 = n1 := he2.trans he1.symm
  have HC := Lib.hid hc
  have hcb : ((0 : Int) != 0) = false := by simp
  clear hc hcd hs h3 hma hpr hm1 hm2 he1 he2
  go_enter Try.func8, Try.ntmps8
  go_wp2_with (fail)
  refine Calls.mono (s_two14 p a d cap qs _ 2 _ [xs1, xs2] _ hd (by omega) (two_len HL1.out HL2.out hn2 hn2) (two_row HL1.out HL2.out HR1.out HR2.out) (HQ.out.ext ((ext_alloc _ _).alloc _)) (rdM_two (g := w.heap.size + 1) (ca := cx1) (cb := cx2) (by simp) (by simp) (HX1.out.ext ((ext_alloc _ _).alloc _)) (HX2.out.ext ((ext_alloc _ _).alloc _)))) ?_
  rintro e w1 ⟨rfl, g1⟩
  skip
  rw [HC.out]
  have q0 : w1.cell? ⟨w.heap.size, 0, none⟩ = some (.int .i64 p) := g1.cell (by simp)
  have q1 : w1.cell? ⟨w.heap.size, 1, none⟩ = some (.slice a d cap) := g1.cell (by simp)
  have G1 := Lib.hid (((ext_alloc w (.cells #[.int .i64 p, .slice a d cap] 30)).alloc (.cells #[.slice ax1 n2 cx1, .slice ax2 n2 cx2] 25)).trans g1)
  clear g1
  go_wp2_with (fail)

  refine Calls.mono (s_bracket p ax1 n2 cx1 xs1 ax2 cx2 xs2 _ (by omega) (by omega) hN1 hN8 (HX1.out.ext G1.out) (HX2.out.ext G1.out) HG1.out HG2.out) ?_
  rintro e w3 ⟨g3, c3, rfl, o3, x3⟩
  have O3 := Lib.hid (o3.mono G1.out.size)
  have X3 := Lib.hid (G1.out.trans x3)
  clear o3 x3
  go_wp2_with (fail)
  go_ret2
  exact ⟨_, _, rfl, O3.out, X3.out⟩

end Go.Proofs.Ythflmmgolegonaa

/-
  What is known of the arguments of a law in memory, read off the form's own words.
  No condition.
-/
namespace Go.Proofs.Ythflmmgolegonaa
set_option maxRecDepth 100000
open Go.ChangeShapes Go.WideShapes Go.ChangeAt Go.RowKit Go.Joins

theorem own : ownKnob Try.prog.godebug = none := by kernel_rfl
theorem laidOut : laidOutB Try.prog = true := by kernel_rfl
theorem Try.cellsI : Try.prog.cellsOf 2 = 1 := by kernel_rfl
theorem Try.cellsR : Try.prog.cellsOf 22 = 1 := by kernel_rfl

theorem add_cell {w : World} {x : Addr} {i : Nat} {v v0 : Value} (h0 : w.cell? (x.add 0) = some v0) (h : w.cell? (x.add i) = some v) : ∃ b off, some x = some (⟨b, off, none⟩ : Addr) ∧ w.cell? ⟨b, off + i, none⟩ = some v := by
  obtain ⟨b, off, spot⟩ := x
  cases spot with
  | none =>
    refine ⟨b, off, rfl, ?_⟩
    unfold Addr.add at h
    split at h
    · rename_i hi; subst hi; exact h
    · exact h
  | some s =>
    simp only [World.cell?, Addr.add, if_true] at h0
    split at h0
    · simp at h0
    · cases h0

theorem read_cells {H : Type} {enc : TypeId × Value → H} {W : World} {fuel : Nat} {v : Value} {x : DataW H × List MemPlace}
    (hf : DataW.trod enc Try.prog W 0 (fun _ => true) true fuel 22 [v] = some x) : ∃ a n cap xs, v = .slice a n cap ∧ RdC W a n xs ∧ n ≤ maxLen := by
  rcases open_ints Try.underlying22 Try.underlying2 Try.cellsI hf with ⟨hcs, _⟩ | ⟨y, l, c, zs, hcs, _, hl, hm, hz, _, hcell, hwz⟩
  · simp only [List.cons.injEq, and_true] at hcs
    exact ⟨none, 0, 0, [], hcs, ⟨rfl, fun i hi => by omega⟩, by omega⟩
  · simp only [List.cons.injEq, and_true] at hcs
    have hz' : zs.length = c := by simpa using hz
    refine ⟨some y, l, c, zs.take l, hcs, ⟨by simp; omega, fun i hi => ?_⟩, by omega⟩
    obtain ⟨b, off, h1, h2⟩ := add_cell (hcell 0 (by omega)) (hcell i (by omega))
    refine ⟨b, off, h1, ?_⟩
    rw [h2]
    simp [nth, List.getElem?_take_of_lt hi]

theorem read_ints {H : Type} {enc : TypeId × Value → H} {W : World} {base : Nat} {v : Value} {d : DataW H} {p : List MemPlace}
    (hv : Value.okWide Try.prog W .any base 22 v) (h : DataW.Trod enc Try.prog W 0 (fun _ => true) true 22 v d p) : ∃ a n cap xs, v = .slice a n cap ∧ RdC W a n xs ∧ n ≤ maxLen := by
  obtain ⟨a0, len0, cap0, rfl⟩ := okWide_slice Try.underlying22 hv
  obtain ⟨fuel, hf⟩ := h
  exact read_cells (by simpa [Value.cells] using hf)


end Go.Proofs.Ythflmmgolegonaa

/-
  What is known of a slice of slices that a law is handed.
  No condition.
-/
namespace Go.Proofs.Ythflmmgolegonaa
set_option maxRecDepth 100000
open Go.ChangeShapes Go.WideShapes Go.ChangeAt Go.RowKit Go.Joins

theorem read_rows {H : Type} {enc : TypeId × Value → H} {W : World} {base : Nat} {v : Value} {d : DataW H} {p : List MemPlace}
    (hv : Value.okWide Try.prog W .any base 25 v) (h : DataW.Trod enc Try.prog W 0 (fun _ => true) true 25 v d p) : ∃ a n cap rows, v = .slice a n cap ∧ RdR W a n rows ∧ n ≤ maxLen ∧ ∀ i, i < n → (nthR rows i).length ≤ maxLen := by
  obtain ⟨a0, len0, cap0, rfl⟩ := okWide_slice Try.underlying25 hv
  obtain ⟨fuel, hf⟩ := h
  rcases Go.Deep.open_int_rows Try.underlying25 Try.underlying22 Try.underlying2 Try.cellsR Try.cellsI (by simpa [Value.cells] using hf) with ⟨hcs, _⟩ | ⟨y, l, c, A, L, C, Z, hcs, _, hl, hm, _, hr⟩
  · simp only [List.cons.injEq, and_true] at hcs
    exact ⟨none, 0, 0, [], hcs, ⟨rfl, fun i hi => by omega⟩, by omega, fun i hi => by omega⟩
  · simp only [List.cons.injEq, and_true] at hcs
    have e : ∀ i, i < l → nthR ((List.range l).map fun r => (Z r).take (L r)) i = (Z i).take (L i) := fun i hi => by simp [nthR, hi]
    refine ⟨some y, l, c, (List.range l).map fun r => (Z r).take (L r), hcs, ⟨by simp, fun i hi => ?_⟩, by omega, fun i hi => ?_⟩
    · obtain ⟨h1, h2, h3, h4, _, h5, h6⟩ := hr i (by omega)
      obtain ⟨b, off, ha, hc⟩ := add_cell (hr 0 (by omega)).1 h1
      refine ⟨b, off, A i, C i, ha, ?_, ?_⟩
      · rw [hc, e i hi]; simp [h4, h2]
      · rw [e i hi]
        have hlen : ((Z i).take (L i)).length = L i := by simp [h4, h2]
        refine ⟨rfl, fun j hj => ?_⟩
        rw [hlen] at hj
        cases hA : A i with
        | none => have := h5 hA; omega
        | some a' =>
          have h7 := (h6 a' hA).2
          obtain ⟨b1, off1, ha1, hc1⟩ := add_cell (h7 0 (by omega)) (h7 j (by omega))
          refine ⟨b1, off1, ha1, ?_⟩
          rw [hc1]
          simp [nth, List.getElem?_take_of_lt hj]
    · obtain ⟨h1, h2, h3, h4, _⟩ := hr i (by omega)
      rw [e i hi]
      simp; omega
end Go.Proofs.Ythflmmgolegonaa

/-
  What is known of doublings in memory, read off the form's own words.
  No condition.
-/
namespace Go.Proofs.Ythflmmgolegonaa
set_option maxRecDepth 100000
open Go.ChangeShapes Go.WideShapes Go.ChangeAt Go.RowKit Go.Joins

theorem Try.cellsD : Try.prog.cellsOf 24 = 2 := by kernel_rfl
theorem read_doubling {H : Type} {enc : TypeId × Value → H} {W : World} {base : Nat} {v : Value} {d : DataW H} {p : List MemPlace}
    (hv : Value.okWide Try.prog W .any base 24 v) (h : DataW.Trod enc Try.prog W 0 (fun _ => true) true 24 v d p) : ∃ q a n cap xs, v = .agg #[.int .i64 q, .slice a n cap] ∧ RdC W a n xs ∧ n ≤ maxLen ∧ (Lit.int .i64 q).wf = true := by
  obtain ⟨c0, c1, y0, y1, m, rfl, rfl, rfl, hy0, hy1⟩ := open_agg2 Try.underlying24 (by kernel_rfl) Try.cellsD hv h
  obtain ⟨q, e0, _, wq⟩ := DataW.trod_int Try.underlying2 hy0
  simp only [List.cons.injEq, and_true] at e0
  obtain ⟨a, n, cap, xs, e1, hr, hm⟩ := read_cells hy1
  exact ⟨q, a, n, cap, xs, by rw [e0, e1], hr, hm, wq⟩
end Go.Proofs.Ythflmmgolegonaa
