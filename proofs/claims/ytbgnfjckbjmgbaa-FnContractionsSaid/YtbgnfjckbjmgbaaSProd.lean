/-
  Contracts of the reference's products of multivectors.
  No condition.
-/
import Derived.Test.YtbgnfjckbjmgbaaProd
import Derived.Test.YtbgnfjckbjmgbaaBlades
namespace Go.Proofs.Ytbgnfjckbjmgbaa
set_option maxRecDepth 100000
open Go.RowKit

def tkA (_ _ : Nat) : Bool := true
def tkW (i j : Nat) : Bool := i &&& j == 0
def tkL (i j : Nat) : Bool := i &&& j == i
def tkR (i j : Nat) : Bool := i &&& j == j
theorem and_ab (a b : Nat) (ha : a < 64) (hb : b < 64) : bits BinOp.and IntKind.i64 (a : Int) (b : Int) = ((a &&& b : Nat) : Int) := by
  have : ∀ a : Nat, a < 64 → ∀ b : Nat, b < 64 → bits BinOp.and IntKind.i64 (a : Int) (b : Int) = ((a &&& b : Nat) : Int) := by decide +kernel
  exact this a ha b hb
theorem ne_nat (a b : Nat) : ((a : Int) != (b : Int)) = !(a == b) := by
  rw [Bool.eq_iff_iff]; simp; omega
theorem ne_zero' (a : Nat) : ((a : Int) != 0) = !(a == 0) := by
  rw [Bool.eq_iff_iff]; simp
theorem step_ref {p o m f : Int} : (o + m % p * f) % p = (o + m * f) % p := by
  rw [Int.add_emod, Int.mul_emod (m % p), Int.emod_emod, ← Int.mul_emod, ← Int.add_emod]
theorem ref_bd {p m f : Int} (hp : 3 ≤ p) (hp2 : p ≤ 1000) (hf0 : 0 ≤ f) (hf1 : f < p) : 0 ≤ m % p * f ∧ m % p * f ≤ 1000000 :=
  mul_bd hp2 (Int.emod_nonneg _ (by omega)) (Int.emod_lt_of_pos _ (by omega)) hf0 hf1

set_option maxHeartbeats 4000000 in
set_option maxRecDepth 100000 in
theorem s_kind0 (p : Int) (a : Option Addr) (d cap : Nat) (qs : List Int) (ax ay : Option Addr) (cx cy : Nat) (x y : List Int) (w : World) (hd : d ≤ 6) (hp1 : 3 ≤ p) (hp2 : p ≤ 1000) (hq : RdC w a d qs) (hqb : isB p qs = true)
    (hx : RdC w ax (2 ^ d) x) (hy : RdC w ay (2 ^ d) y) (hxb : isB p x = true) (hyb : isB p y = true) :
    Calls Try.prog 157 #[.agg #[.int .i64 p, .slice a d cap], .slice ax (2 ^ d) cx, .slice ay (2 ^ d) cy, .int .i64 0] w fun e w' =>
      ∃ g, e = .returned (.slice (some ⟨g, 0, none⟩) (2 ^ d) (2 ^ d)) ∧ OwnC w.heap.size w' (some ⟨g, 0, none⟩) (2 ^ d) (2 ^ d) (prodL p qs tkW x y) ∧ Ext w w' := by
  have hN := pow_le64 hd
  have hpz : ¬ p = 0 := by omega
  obtain ⟨N, hN'⟩ : ∃ N, N = 2 ^ d := ⟨_, rfl⟩
  have HPr := Lib.hid (show prodL p qs tkW x y = outP p (fac p qs) tkW x y N N by unfold prodL; rw [hq.1, hN'])
  have HN := Lib.hid hN'
  rw [← hN'] at hN hx hy ⊢
  clear hN'
  have HX := Lib.hid hx
  have HY := Lib.hid hy
  have HXB := Lib.hid hxb
  have HYB := Lib.hid hyb
  have HQB := Lib.hid hqb
  have HQ := Lib.hid hq
  clear hx hy hxb hyb hqb hq
  obtain ⟨W, hW⟩ : ∃ W, W = w.alloc (.cells #[.int .i64 p, .slice a d cap] 26) := ⟨_, rfl⟩
  have gW : Ext w W := by rw [hW]; exact ext_alloc _ _
  have hs0 : W.cell? ⟨w.heap.size, 0, none⟩ = some (.int .i64 p) := by rw [hW]; simp
  have hs1 : W.cell? ⟨w.heap.size, 1, none⟩ = some (.slice a d cap) := by rw [hW]; simp
  have HS0 := Lib.hid hs0
  have HS1 := Lib.hid hs1
  have GW := Lib.hid gW
  obtain ⟨w1, hmk, ho, g1⟩ := make_ints W N (by omega)
  obtain ⟨g, hg⟩ : ∃ g, g = W.heap.size := ⟨_, rfl⟩
  rw [← hg] at hmk
  have HO : Hid (OwnC W.heap.size w1 (some ⟨g, 0, none⟩) N N (List.replicate N 0)) := by rw [← hg] at ho ⊢; exact ho
  have G1 := Lib.hid g1
  rw [hW] at hmk
  clear ho g1 gW hs0 hs1 hg hW
  go_enter Try.func157, Try.ntmps157
  go_wp2_with (fail)
  go_loopw [10] (fun i wr => ∃ k : Nat, k ≤ N ∧ i = .int .i64 k ∧ OwnC W.heap.size wr (some ⟨g, 0, none⟩) N N (outP p (fac p qs) tkW x y N k) ∧ Ext W wr) (fun i _ => N - (intOf i).toNat)
  case atStart => exact ⟨0, Nat.zero_le _, rfl, HO.out, G1.out⟩
  case round =>
    obtain ⟨k, hk, rfl, hown, hext⟩ := hrel
    have HOwn := Lib.hid hown
    have HExt := Lib.hid hext
    clear hown hext hmk
    by_cases hlt : k < N
    · obtain ⟨bx, ox, rfl, hcx⟩ := HX.out.2 k hlt
      have Hcx := Lib.hid (GW.out.cell hcx)
      clear hcx
      have hgood := Lib.hid (outP_good (f := fac p qs) (tk := tkW) (x := x) (y := y) (N := N) (show 1 ≤ p by omega) k)
      have hxk := isB_nth HXB.out (i := k) (by rw [HX.out.1]; exact hlt)
      go_wp2_with (fail)
      obtain ⟨wo, hwo⟩ : ∃ wo : World, wo = wr := ⟨_, rfl⟩
      clear hwo
      go_loopw [11] (fun i wr => ∃ j : Nat, j ≤ N ∧ i = .int .i64 j ∧ OwnC W.heap.size wr (some ⟨g, 0, none⟩) N N (inP p (fac p qs) tkW x y k j (outP p (fac p qs) tkW x y N k)) ∧ Ext W wr) (fun i _ => N - (intOf i).toNat)
      case atStart => exact ⟨0, Nat.zero_le _, rfl, HOwn.out, HExt.out⟩
      case round =>
        obtain ⟨j, hj, rfl, hown, hext⟩ := hrel
        have HOwn2 := Lib.hid hown
        have HExt2 := Lib.hid hext
        clear hown hext
        by_cases hlj : j < N
        · obtain ⟨by', oy, rfl, hcy⟩ := HY.out.2 j hlj
          have Hcy := Lib.hid (GW.out.cell hcy)
          clear hcy
          have hin := Lib.hid (inP_good (f := fac p qs) (tk := tkW) (x := x) (y := y) (a := k) (show 1 ≤ p by omega) hgood.out j)
          have hc : k ^^^ j < N := by rw [HN.out] at hlt hlj ⊢; exact Nat.xor_lt_two_pow hlt hlj
          have hand := and_ab k j (by omega) (by omega)
          have htst : (((k &&& j : Nat) : Int) != 0) = !tkW k j := ne_zero' _
          cases ht : tkW k j
          · have HZ := Lib.hid (stepP_not (p := p) (f := fac p qs) (x := x) (y := y) (out := inP p (fac p qs) tkW x y k j (outP p (fac p qs) tkW x y N k)) ht)
            rw [ht] at htst
            clear ht
            simp only [Bool.not_false] at htst
            go_wp2_with (fail)
            go_roundw
            case rel => exact ⟨j + 1, by omega, by go_num, by unfold inP; rw [HZ.out]; exact HOwn2.out, HExt2.out⟩
            case measure => simp [intOf]; omega
          · have HZ := Lib.hid (stepP_yes (p := p) (f := fac p qs) (x := x) (y := y) (out := inP p (fac p qs) tkW x y k j (outP p (fac p qs) tkW x y N k)) ht)
            rw [ht] at htst
            clear ht
            simp only [Bool.not_true] at htst
            go_wp2_with (fail)
            have X2 := Lib.hid (ext_drew wr)
            have Y2 := Lib.hid (HExt2.out.trans X2.out)
            obtain ⟨Z, hZ⟩ : ∃ Z, Z = inP p (fac p qs) tkW x y k j (outP p (fac p qs) tkW x y N k) := ⟨_, rfl⟩
            rw [← hZ] at hin HOwn2 HZ
            have HZZ := Lib.hid hZ
            clear hZ
            have HO2 := Lib.hid (HOwn2.out.ext X2.out)
            have Hc := Lib.hid (HO2.out.cell hc)
            have hzc := hin.out.2 _ hc
            have hyj := isB_nth HYB.out (i := j) (by rw [HY.out.1]; exact hlj)
            have hfb := fac_bd (qs := qs) (b := j) hp1 (show k < 64 by omega)
            have hxor := xor_ab k j (by omega) (by omega)
            obtain ⟨Fk, hFk⟩ : ∃ Fk, Fk = fac p qs k j := ⟨_, rfl⟩
            rw [← hFk] at hfb HZ
            obtain ⟨c, hcc⟩ : ∃ c, c = k ^^^ j := ⟨_, rfl⟩
            rw [← hcc] at hc HZ hzc hxor
            rw [← hcc] at Hc
            obtain ⟨zc, hzc'⟩ : ∃ zc, zc = nth Z c := ⟨_, rfl⟩
            rw [← hzc'] at hzc HZ
            rw [← hzc'] at Hc
            obtain ⟨hm1, hm2⟩ := mul_bd hp2 hxk.1 hxk.2 hyj.1 hyj.2
            obtain ⟨hm3, hm4⟩ := ref_bd (m := nth x k * nth y j) hp1 hp2 hfb.1 hfb.2
            have hw1 : IntKind.i64.wrap (nth x k * nth y j) = nth x k * nth y j := IntWalk.i64_in _ (by omega)
            have hw1t : (nth x k * nth y j).tmod p = nth x k * nth y j % p := Int.tmod_eq_emod_of_nonneg hm1
            obtain ⟨MM, hMM⟩ : ∃ MM, nth x k * nth y j % p = MM := ⟨_, rfl⟩
            have hST := step_ref (p := p) (o := zc) (m := nth x k * nth y j) (f := Fk)
            rw [hMM] at hw1t hm3 hm4 hST
            have hw2 : IntKind.i64.wrap (MM * Fk) = MM * Fk := IntWalk.i64_in _ (by omega)
            have hw3 : IntKind.i64.wrap (zc + MM * Fk) = zc + MM * Fk := IntWalk.i64_in _ (by omega)
            have hw4 : (zc + MM * Fk).tmod p = (zc + MM * Fk) % p := Int.tmod_eq_emod_of_nonneg (by omega)
            obtain ⟨RR, hRR⟩ : ∃ RR, (zc + MM * Fk) % p = RR := ⟨_, rfl⟩
            rw [hRR] at hw4 hST
            have HST := Lib.hid hST
            have hcn : (c : Int) < N := by omega
            have hc0 : (0 : Int) ≤ c := by omega
            have HFk := Lib.hid hFk
            have Hcc := Lib.hid hcc
            have Hzc := Lib.hid hzc'
            clear hFk hcc hzc' hzc hMM hRR hST
            refine wp_region_lex_tail 32 [(25, .val (.int .i64 Fk))] (by kernel_rfl) (by kernel_rfl) ?_
            simp only [List.take, List.drop]
            repeat' first | (refine LexW.pure (v := ?_) rfl rfl (fun w1 he => ?_) ?_; rotate_left; ( have e1 := (Y2.out.trans he).cell HS0.out; have e2 := (Y2.out.trans he).cell HS1.out; have e3 := he.cell Hc.out; have e4 := (Y2.out.trans he).cell Hcx.out; have e5 := (Y2.out.trans he).cell Hcy.out; go_simp; rfl); simp only [Act.put, List.setIfInBounds_toArray, List.set_cons_zero, List.set_cons_succ]) | (refine LexW.call (f := ?_) (args := ?_) rfl rfl (fun w1 => ?_) (fun w1 he hdep => ?_) ?_; rotate_left 2; (go_simp; refine ⟨?_, ?_⟩ <;> rfl); ( rw [HFk.out]; exact s_blades _ _ _ _ _ _ _ _ hd hp1 hp2 (by omega) (by omega) (HQ.out.ext (GW.out.trans (Y2.out.trans he))) HQB.out); simp only [Act.put, List.setIfInBounds_toArray, List.set_cons_zero, List.set_cons_succ])
            refine LexW.nil (fun w3 he hk => ?_)
            have HO3 := Lib.hid (HO2.out.ext he)
            have ec := HO3.out.cell hc
            have ef := HO3.out.frozen c
            have hgb := HO3.out.base_le
            go_wp2_with (fail)
            go_roundw
            case rel => exact ⟨j + 1, by omega, by go_num, by unfold inP; rw [← HZZ.out, HZ.out, ← HST.out]; exact HO3.out.store hc _, (Y2.out.trans he).setCell hgb.1 _⟩
            case measure => simp [intOf]; omega
        · go_wp2_with (fail)
          go_roundw
          case rel => exact ⟨k + 1, by omega, by go_num, by
            have hjn : j = N := by omega
            have := HOwn2.out; rw [hjn] at this; exact this, HExt2.out⟩
          case measure => simp [intOf]; omega
    · go_wp2_with (fail)
      go_ret
      have hkn : k = N := by omega
      refine ⟨g, rfl, ?_, GW.out.trans HExt.out⟩
      rw [HPr.out]
      have := HOwn.out
      rw [hkn] at this
      exact this.mono GW.out.size

set_option maxHeartbeats 4000000 in
set_option maxRecDepth 100000 in
theorem s_kind1 (p : Int) (a : Option Addr) (d cap : Nat) (qs : List Int) (ax ay : Option Addr) (cx cy : Nat) (x y : List Int) (w : World) (hd : d ≤ 6) (hp1 : 3 ≤ p) (hp2 : p ≤ 1000) (hq : RdC w a d qs) (hqb : isB p qs = true)
    (hx : RdC w ax (2 ^ d) x) (hy : RdC w ay (2 ^ d) y) (hxb : isB p x = true) (hyb : isB p y = true) :
    Calls Try.prog 157 #[.agg #[.int .i64 p, .slice a d cap], .slice ax (2 ^ d) cx, .slice ay (2 ^ d) cy, .int .i64 1] w fun e w' =>
      ∃ g, e = .returned (.slice (some ⟨g, 0, none⟩) (2 ^ d) (2 ^ d)) ∧ OwnC w.heap.size w' (some ⟨g, 0, none⟩) (2 ^ d) (2 ^ d) (prodL p qs tkL x y) ∧ Ext w w' := by
  have hN := pow_le64 hd
  have hpz : ¬ p = 0 := by omega
  obtain ⟨N, hN'⟩ : ∃ N, N = 2 ^ d := ⟨_, rfl⟩
  have HPr := Lib.hid (show prodL p qs tkL x y = outP p (fac p qs) tkL x y N N by unfold prodL; rw [hq.1, hN'])
  have HN := Lib.hid hN'
  rw [← hN'] at hN hx hy ⊢
  clear hN'
  have HX := Lib.hid hx
  have HY := Lib.hid hy
  have HXB := Lib.hid hxb
  have HYB := Lib.hid hyb
  have HQB := Lib.hid hqb
  have HQ := Lib.hid hq
  clear hx hy hxb hyb hqb hq
  obtain ⟨W, hW⟩ : ∃ W, W = w.alloc (.cells #[.int .i64 p, .slice a d cap] 26) := ⟨_, rfl⟩
  have gW : Ext w W := by rw [hW]; exact ext_alloc _ _
  have hs0 : W.cell? ⟨w.heap.size, 0, none⟩ = some (.int .i64 p) := by rw [hW]; simp
  have hs1 : W.cell? ⟨w.heap.size, 1, none⟩ = some (.slice a d cap) := by rw [hW]; simp
  have HS0 := Lib.hid hs0
  have HS1 := Lib.hid hs1
  have GW := Lib.hid gW
  obtain ⟨w1, hmk, ho, g1⟩ := make_ints W N (by omega)
  obtain ⟨g, hg⟩ : ∃ g, g = W.heap.size := ⟨_, rfl⟩
  rw [← hg] at hmk
  have HO : Hid (OwnC W.heap.size w1 (some ⟨g, 0, none⟩) N N (List.replicate N 0)) := by rw [← hg] at ho ⊢; exact ho
  have G1 := Lib.hid g1
  rw [hW] at hmk
  clear ho g1 gW hs0 hs1 hg hW
  go_enter Try.func157, Try.ntmps157
  go_wp2_with (fail)
  go_loopw [10] (fun i wr => ∃ k : Nat, k ≤ N ∧ i = .int .i64 k ∧ OwnC W.heap.size wr (some ⟨g, 0, none⟩) N N (outP p (fac p qs) tkL x y N k) ∧ Ext W wr) (fun i _ => N - (intOf i).toNat)
  case atStart => exact ⟨0, Nat.zero_le _, rfl, HO.out, G1.out⟩
  case round =>
    obtain ⟨k, hk, rfl, hown, hext⟩ := hrel
    have HOwn := Lib.hid hown
    have HExt := Lib.hid hext
    clear hown hext hmk
    by_cases hlt : k < N
    · obtain ⟨bx, ox, rfl, hcx⟩ := HX.out.2 k hlt
      have Hcx := Lib.hid (GW.out.cell hcx)
      clear hcx
      have hgood := Lib.hid (outP_good (f := fac p qs) (tk := tkL) (x := x) (y := y) (N := N) (show 1 ≤ p by omega) k)
      have hxk := isB_nth HXB.out (i := k) (by rw [HX.out.1]; exact hlt)
      go_wp2_with (fail)
      obtain ⟨wo, hwo⟩ : ∃ wo : World, wo = wr := ⟨_, rfl⟩
      clear hwo
      go_loopw [11] (fun i wr => ∃ j : Nat, j ≤ N ∧ i = .int .i64 j ∧ OwnC W.heap.size wr (some ⟨g, 0, none⟩) N N (inP p (fac p qs) tkL x y k j (outP p (fac p qs) tkL x y N k)) ∧ Ext W wr) (fun i _ => N - (intOf i).toNat)
      case atStart => exact ⟨0, Nat.zero_le _, rfl, HOwn.out, HExt.out⟩
      case round =>
        obtain ⟨j, hj, rfl, hown, hext⟩ := hrel
        have HOwn2 := Lib.hid hown
        have HExt2 := Lib.hid hext
        clear hown hext
        by_cases hlj : j < N
        · obtain ⟨by', oy, rfl, hcy⟩ := HY.out.2 j hlj
          have Hcy := Lib.hid (GW.out.cell hcy)
          clear hcy
          have hin := Lib.hid (inP_good (f := fac p qs) (tk := tkL) (x := x) (y := y) (a := k) (show 1 ≤ p by omega) hgood.out j)
          have hc : k ^^^ j < N := by rw [HN.out] at hlt hlj ⊢; exact Nat.xor_lt_two_pow hlt hlj
          have hand := and_ab k j (by omega) (by omega)
          have htst : (((k &&& j : Nat) : Int) != (k : Int)) = !tkL k j := ne_nat _ _
          cases ht : tkL k j
          · have HZ := Lib.hid (stepP_not (p := p) (f := fac p qs) (x := x) (y := y) (out := inP p (fac p qs) tkL x y k j (outP p (fac p qs) tkL x y N k)) ht)
            rw [ht] at htst
            clear ht
            simp only [Bool.not_false] at htst
            go_wp2_with (fail)
            go_roundw
            case rel => exact ⟨j + 1, by omega, by go_num, by unfold inP; rw [HZ.out]; exact HOwn2.out, HExt2.out⟩
            case measure => simp [intOf]; omega
          · have HZ := Lib.hid (stepP_yes (p := p) (f := fac p qs) (x := x) (y := y) (out := inP p (fac p qs) tkL x y k j (outP p (fac p qs) tkL x y N k)) ht)
            rw [ht] at htst
            clear ht
            simp only [Bool.not_true] at htst
            go_wp2_with (fail)
            have X2 := Lib.hid (ext_drew wr)
            have Y2 := Lib.hid (HExt2.out.trans X2.out)
            obtain ⟨Z, hZ⟩ : ∃ Z, Z = inP p (fac p qs) tkL x y k j (outP p (fac p qs) tkL x y N k) := ⟨_, rfl⟩
            rw [← hZ] at hin HOwn2 HZ
            have HZZ := Lib.hid hZ
            clear hZ
            have HO2 := Lib.hid (HOwn2.out.ext X2.out)
            have Hc := Lib.hid (HO2.out.cell hc)
            have hzc := hin.out.2 _ hc
            have hyj := isB_nth HYB.out (i := j) (by rw [HY.out.1]; exact hlj)
            have hfb := fac_bd (qs := qs) (b := j) hp1 (show k < 64 by omega)
            have hxor := xor_ab k j (by omega) (by omega)
            obtain ⟨Fk, hFk⟩ : ∃ Fk, Fk = fac p qs k j := ⟨_, rfl⟩
            rw [← hFk] at hfb HZ
            obtain ⟨c, hcc⟩ : ∃ c, c = k ^^^ j := ⟨_, rfl⟩
            rw [← hcc] at hc HZ hzc hxor
            rw [← hcc] at Hc
            obtain ⟨zc, hzc'⟩ : ∃ zc, zc = nth Z c := ⟨_, rfl⟩
            rw [← hzc'] at hzc HZ
            rw [← hzc'] at Hc
            obtain ⟨hm1, hm2⟩ := mul_bd hp2 hxk.1 hxk.2 hyj.1 hyj.2
            obtain ⟨hm3, hm4⟩ := ref_bd (m := nth x k * nth y j) hp1 hp2 hfb.1 hfb.2
            have hw1 : IntKind.i64.wrap (nth x k * nth y j) = nth x k * nth y j := IntWalk.i64_in _ (by omega)
            have hw1t : (nth x k * nth y j).tmod p = nth x k * nth y j % p := Int.tmod_eq_emod_of_nonneg hm1
            obtain ⟨MM, hMM⟩ : ∃ MM, nth x k * nth y j % p = MM := ⟨_, rfl⟩
            have hST := step_ref (p := p) (o := zc) (m := nth x k * nth y j) (f := Fk)
            rw [hMM] at hw1t hm3 hm4 hST
            have hw2 : IntKind.i64.wrap (MM * Fk) = MM * Fk := IntWalk.i64_in _ (by omega)
            have hw3 : IntKind.i64.wrap (zc + MM * Fk) = zc + MM * Fk := IntWalk.i64_in _ (by omega)
            have hw4 : (zc + MM * Fk).tmod p = (zc + MM * Fk) % p := Int.tmod_eq_emod_of_nonneg (by omega)
            obtain ⟨RR, hRR⟩ : ∃ RR, (zc + MM * Fk) % p = RR := ⟨_, rfl⟩
            rw [hRR] at hw4 hST
            have HST := Lib.hid hST
            have hcn : (c : Int) < N := by omega
            have hc0 : (0 : Int) ≤ c := by omega
            have HFk := Lib.hid hFk
            have Hcc := Lib.hid hcc
            have Hzc := Lib.hid hzc'
            clear hFk hcc hzc' hzc hMM hRR hST
            refine wp_region_lex_tail 32 [(25, .val (.int .i64 Fk))] (by kernel_rfl) (by kernel_rfl) ?_
            simp only [List.take, List.drop]
            repeat' first | (refine LexW.pure (v := ?_) rfl rfl (fun w1 he => ?_) ?_; rotate_left; ( have e1 := (Y2.out.trans he).cell HS0.out; have e2 := (Y2.out.trans he).cell HS1.out; have e3 := he.cell Hc.out; have e4 := (Y2.out.trans he).cell Hcx.out; have e5 := (Y2.out.trans he).cell Hcy.out; go_simp; rfl); simp only [Act.put, List.setIfInBounds_toArray, List.set_cons_zero, List.set_cons_succ]) | (refine LexW.call (f := ?_) (args := ?_) rfl rfl (fun w1 => ?_) (fun w1 he hdep => ?_) ?_; rotate_left 2; (go_simp; refine ⟨?_, ?_⟩ <;> rfl); ( rw [HFk.out]; exact s_blades _ _ _ _ _ _ _ _ hd hp1 hp2 (by omega) (by omega) (HQ.out.ext (GW.out.trans (Y2.out.trans he))) HQB.out); simp only [Act.put, List.setIfInBounds_toArray, List.set_cons_zero, List.set_cons_succ])
            refine LexW.nil (fun w3 he hk => ?_)
            have HO3 := Lib.hid (HO2.out.ext he)
            have ec := HO3.out.cell hc
            have ef := HO3.out.frozen c
            have hgb := HO3.out.base_le
            go_wp2_with (fail)
            go_roundw
            case rel => exact ⟨j + 1, by omega, by go_num, by unfold inP; rw [← HZZ.out, HZ.out, ← HST.out]; exact HO3.out.store hc _, (Y2.out.trans he).setCell hgb.1 _⟩
            case measure => simp [intOf]; omega
        · go_wp2_with (fail)
          go_roundw
          case rel => exact ⟨k + 1, by omega, by go_num, by
            have hjn : j = N := by omega
            have := HOwn2.out; rw [hjn] at this; exact this, HExt2.out⟩
          case measure => simp [intOf]; omega
    · go_wp2_with (fail)
      go_ret
      have hkn : k = N := by omega
      refine ⟨g, rfl, ?_, GW.out.trans HExt.out⟩
      rw [HPr.out]
      have := HOwn.out
      rw [hkn] at this
      exact this.mono GW.out.size

set_option maxHeartbeats 4000000 in
set_option maxRecDepth 100000 in
theorem s_kind2 (p : Int) (a : Option Addr) (d cap : Nat) (qs : List Int) (ax ay : Option Addr) (cx cy : Nat) (x y : List Int) (w : World) (hd : d ≤ 6) (hp1 : 3 ≤ p) (hp2 : p ≤ 1000) (hq : RdC w a d qs) (hqb : isB p qs = true)
    (hx : RdC w ax (2 ^ d) x) (hy : RdC w ay (2 ^ d) y) (hxb : isB p x = true) (hyb : isB p y = true) :
    Calls Try.prog 157 #[.agg #[.int .i64 p, .slice a d cap], .slice ax (2 ^ d) cx, .slice ay (2 ^ d) cy, .int .i64 2] w fun e w' =>
      ∃ g, e = .returned (.slice (some ⟨g, 0, none⟩) (2 ^ d) (2 ^ d)) ∧ OwnC w.heap.size w' (some ⟨g, 0, none⟩) (2 ^ d) (2 ^ d) (prodL p qs tkR x y) ∧ Ext w w' := by
  have hN := pow_le64 hd
  have hpz : ¬ p = 0 := by omega
  obtain ⟨N, hN'⟩ : ∃ N, N = 2 ^ d := ⟨_, rfl⟩
  have HPr := Lib.hid (show prodL p qs tkR x y = outP p (fac p qs) tkR x y N N by unfold prodL; rw [hq.1, hN'])
  have HN := Lib.hid hN'
  rw [← hN'] at hN hx hy ⊢
  clear hN'
  have HX := Lib.hid hx
  have HY := Lib.hid hy
  have HXB := Lib.hid hxb
  have HYB := Lib.hid hyb
  have HQB := Lib.hid hqb
  have HQ := Lib.hid hq
  clear hx hy hxb hyb hqb hq
  obtain ⟨W, hW⟩ : ∃ W, W = w.alloc (.cells #[.int .i64 p, .slice a d cap] 26) := ⟨_, rfl⟩
  have gW : Ext w W := by rw [hW]; exact ext_alloc _ _
  have hs0 : W.cell? ⟨w.heap.size, 0, none⟩ = some (.int .i64 p) := by rw [hW]; simp
  have hs1 : W.cell? ⟨w.heap.size, 1, none⟩ = some (.slice a d cap) := by rw [hW]; simp
  have HS0 := Lib.hid hs0
  have HS1 := Lib.hid hs1
  have GW := Lib.hid gW
  obtain ⟨w1, hmk, ho, g1⟩ := make_ints W N (by omega)
  obtain ⟨g, hg⟩ : ∃ g, g = W.heap.size := ⟨_, rfl⟩
  rw [← hg] at hmk
  have HO : Hid (OwnC W.heap.size w1 (some ⟨g, 0, none⟩) N N (List.replicate N 0)) := by rw [← hg] at ho ⊢; exact ho
  have G1 := Lib.hid g1
  rw [hW] at hmk
  clear ho g1 gW hs0 hs1 hg hW
  go_enter Try.func157, Try.ntmps157
  go_wp2_with (fail)
  go_loopw [10] (fun i wr => ∃ k : Nat, k ≤ N ∧ i = .int .i64 k ∧ OwnC W.heap.size wr (some ⟨g, 0, none⟩) N N (outP p (fac p qs) tkR x y N k) ∧ Ext W wr) (fun i _ => N - (intOf i).toNat)
  case atStart => exact ⟨0, Nat.zero_le _, rfl, HO.out, G1.out⟩
  case round =>
    obtain ⟨k, hk, rfl, hown, hext⟩ := hrel
    have HOwn := Lib.hid hown
    have HExt := Lib.hid hext
    clear hown hext hmk
    by_cases hlt : k < N
    · obtain ⟨bx, ox, rfl, hcx⟩ := HX.out.2 k hlt
      have Hcx := Lib.hid (GW.out.cell hcx)
      clear hcx
      have hgood := Lib.hid (outP_good (f := fac p qs) (tk := tkR) (x := x) (y := y) (N := N) (show 1 ≤ p by omega) k)
      have hxk := isB_nth HXB.out (i := k) (by rw [HX.out.1]; exact hlt)
      go_wp2_with (fail)
      obtain ⟨wo, hwo⟩ : ∃ wo : World, wo = wr := ⟨_, rfl⟩
      clear hwo
      go_loopw [11] (fun i wr => ∃ j : Nat, j ≤ N ∧ i = .int .i64 j ∧ OwnC W.heap.size wr (some ⟨g, 0, none⟩) N N (inP p (fac p qs) tkR x y k j (outP p (fac p qs) tkR x y N k)) ∧ Ext W wr) (fun i _ => N - (intOf i).toNat)
      case atStart => exact ⟨0, Nat.zero_le _, rfl, HOwn.out, HExt.out⟩
      case round =>
        obtain ⟨j, hj, rfl, hown, hext⟩ := hrel
        have HOwn2 := Lib.hid hown
        have HExt2 := Lib.hid hext
        clear hown hext
        by_cases hlj : j < N
        · obtain ⟨by', oy, rfl, hcy⟩ := HY.out.2 j hlj
          have Hcy := Lib.hid (GW.out.cell hcy)
          clear hcy
          have hin := Lib.hid (inP_good (f := fac p qs) (tk := tkR) (x := x) (y := y) (a := k) (show 1 ≤ p by omega) hgood.out j)
          have hc : k ^^^ j < N := by rw [HN.out] at hlt hlj ⊢; exact Nat.xor_lt_two_pow hlt hlj
          have hand := and_ab k j (by omega) (by omega)
          have htst : (((k &&& j : Nat) : Int) != (j : Int)) = !tkR k j := ne_nat _ _
          cases ht : tkR k j
          · have HZ := Lib.hid (stepP_not (p := p) (f := fac p qs) (x := x) (y := y) (out := inP p (fac p qs) tkR x y k j (outP p (fac p qs) tkR x y N k)) ht)
            rw [ht] at htst
            clear ht
            simp only [Bool.not_false] at htst
            go_wp2_with (fail)
            go_roundw
            case rel => exact ⟨j + 1, by omega, by go_num, by unfold inP; rw [HZ.out]; exact HOwn2.out, HExt2.out⟩
            case measure => simp [intOf]; omega
          · have HZ := Lib.hid (stepP_yes (p := p) (f := fac p qs) (x := x) (y := y) (out := inP p (fac p qs) tkR x y k j (outP p (fac p qs) tkR x y N k)) ht)
            rw [ht] at htst
            clear ht
            simp only [Bool.not_true] at htst
            go_wp2_with (fail)
            have X2 := Lib.hid (ext_drew wr)
            have Y2 := Lib.hid (HExt2.out.trans X2.out)
            obtain ⟨Z, hZ⟩ : ∃ Z, Z = inP p (fac p qs) tkR x y k j (outP p (fac p qs) tkR x y N k) := ⟨_, rfl⟩
            rw [← hZ] at hin HOwn2 HZ
            have HZZ := Lib.hid hZ
            clear hZ
            have HO2 := Lib.hid (HOwn2.out.ext X2.out)
            have Hc := Lib.hid (HO2.out.cell hc)
            have hzc := hin.out.2 _ hc
            have hyj := isB_nth HYB.out (i := j) (by rw [HY.out.1]; exact hlj)
            have hfb := fac_bd (qs := qs) (b := j) hp1 (show k < 64 by omega)
            have hxor := xor_ab k j (by omega) (by omega)
            obtain ⟨Fk, hFk⟩ : ∃ Fk, Fk = fac p qs k j := ⟨_, rfl⟩
            rw [← hFk] at hfb HZ
            obtain ⟨c, hcc⟩ : ∃ c, c = k ^^^ j := ⟨_, rfl⟩
            rw [← hcc] at hc HZ hzc hxor
            rw [← hcc] at Hc
            obtain ⟨zc, hzc'⟩ : ∃ zc, zc = nth Z c := ⟨_, rfl⟩
            rw [← hzc'] at hzc HZ
            rw [← hzc'] at Hc
            obtain ⟨hm1, hm2⟩ := mul_bd hp2 hxk.1 hxk.2 hyj.1 hyj.2
            obtain ⟨hm3, hm4⟩ := ref_bd (m := nth x k * nth y j) hp1 hp2 hfb.1 hfb.2
            have hw1 : IntKind.i64.wrap (nth x k * nth y j) = nth x k * nth y j := IntWalk.i64_in _ (by omega)
            have hw1t : (nth x k * nth y j).tmod p = nth x k * nth y j % p := Int.tmod_eq_emod_of_nonneg hm1
            obtain ⟨MM, hMM⟩ : ∃ MM, nth x k * nth y j % p = MM := ⟨_, rfl⟩
            have hST := step_ref (p := p) (o := zc) (m := nth x k * nth y j) (f := Fk)
            rw [hMM] at hw1t hm3 hm4 hST
            have hw2 : IntKind.i64.wrap (MM * Fk) = MM * Fk := IntWalk.i64_in _ (by omega)
            have hw3 : IntKind.i64.wrap (zc + MM * Fk) = zc + MM * Fk := IntWalk.i64_in _ (by omega)
            have hw4 : (zc + MM * Fk).tmod p = (zc + MM * Fk) % p := Int.tmod_eq_emod_of_nonneg (by omega)
            obtain ⟨RR, hRR⟩ : ∃ RR, (zc + MM * Fk) % p = RR := ⟨_, rfl⟩
            rw [hRR] at hw4 hST
            have HST := Lib.hid hST
            have hcn : (c : Int) < N := by omega
            have hc0 : (0 : Int) ≤ c := by omega
            have HFk := Lib.hid hFk
            have Hcc := Lib.hid hcc
            have Hzc := Lib.hid hzc'
            clear hFk hcc hzc' hzc hMM hRR hST
            refine wp_region_lex_tail 32 [(25, .val (.int .i64 Fk))] (by kernel_rfl) (by kernel_rfl) ?_
            simp only [List.take, List.drop]
            repeat' first | (refine LexW.pure (v := ?_) rfl rfl (fun w1 he => ?_) ?_; rotate_left; ( have e1 := (Y2.out.trans he).cell HS0.out; have e2 := (Y2.out.trans he).cell HS1.out; have e3 := he.cell Hc.out; have e4 := (Y2.out.trans he).cell Hcx.out; have e5 := (Y2.out.trans he).cell Hcy.out; go_simp; rfl); simp only [Act.put, List.setIfInBounds_toArray, List.set_cons_zero, List.set_cons_succ]) | (refine LexW.call (f := ?_) (args := ?_) rfl rfl (fun w1 => ?_) (fun w1 he hdep => ?_) ?_; rotate_left 2; (go_simp; refine ⟨?_, ?_⟩ <;> rfl); ( rw [HFk.out]; exact s_blades _ _ _ _ _ _ _ _ hd hp1 hp2 (by omega) (by omega) (HQ.out.ext (GW.out.trans (Y2.out.trans he))) HQB.out); simp only [Act.put, List.setIfInBounds_toArray, List.set_cons_zero, List.set_cons_succ])
            refine LexW.nil (fun w3 he hk => ?_)
            have HO3 := Lib.hid (HO2.out.ext he)
            have ec := HO3.out.cell hc
            have ef := HO3.out.frozen c
            have hgb := HO3.out.base_le
            go_wp2_with (fail)
            go_roundw
            case rel => exact ⟨j + 1, by omega, by go_num, by unfold inP; rw [← HZZ.out, HZ.out, ← HST.out]; exact HO3.out.store hc _, (Y2.out.trans he).setCell hgb.1 _⟩
            case measure => simp [intOf]; omega
        · go_wp2_with (fail)
          go_roundw
          case rel => exact ⟨k + 1, by omega, by go_num, by
            have hjn : j = N := by omega
            have := HOwn2.out; rw [hjn] at this; exact this, HExt2.out⟩
          case measure => simp [intOf]; omega
    · go_wp2_with (fail)
      go_ret
      have hkn : k = N := by omega
      refine ⟨g, rfl, ?_, GW.out.trans HExt.out⟩
      rw [HPr.out]
      have := HOwn.out
      rw [hkn] at this
      exact this.mono GW.out.size

set_option maxHeartbeats 4000000 in
set_option maxRecDepth 100000 in
theorem s_times (p : Int) (a : Option Addr) (d cap : Nat) (qs : List Int) (ax ay : Option Addr) (cx cy : Nat) (x y : List Int) (w : World) (hd : d ≤ 6) (hp1 : 3 ≤ p) (hp2 : p ≤ 1000) (hq : RdC w a d qs) (hqb : isB p qs = true)
    (hx : RdC w ax (2 ^ d) x) (hy : RdC w ay (2 ^ d) y) (hxb : isB p x = true) (hyb : isB p y = true) :
    Calls Try.prog 85 #[.agg #[.int .i64 p, .slice a d cap], .slice ax (2 ^ d) cx, .slice ay (2 ^ d) cy] w fun e w' =>
      ∃ g, e = .returned (.slice (some ⟨g, 0, none⟩) (2 ^ d) (2 ^ d)) ∧ OwnC w.heap.size w' (some ⟨g, 0, none⟩) (2 ^ d) (2 ^ d) (prodL p qs tkA x y) ∧ Ext w w' := by
  have hN := pow_le64 hd
  have hpz : ¬ p = 0 := by omega
  obtain ⟨N, hN'⟩ : ∃ N, N = 2 ^ d := ⟨_, rfl⟩
  have HPr := Lib.hid (show prodL p qs tkA x y = outP p (fac p qs) tkA x y N N by unfold prodL; rw [hq.1, hN'])
  have HN := Lib.hid hN'
  rw [← hN'] at hN hx hy ⊢
  clear hN'
  have HX := Lib.hid hx
  have HY := Lib.hid hy
  have HXB := Lib.hid hxb
  have HYB := Lib.hid hyb
  have HQB := Lib.hid hqb
  have HQ := Lib.hid hq
  clear hx hy hxb hyb hqb hq
  obtain ⟨W, hW⟩ : ∃ W, W = w.alloc (.cells #[.int .i64 p, .slice a d cap] 26) := ⟨_, rfl⟩
  have gW : Ext w W := by rw [hW]; exact ext_alloc _ _
  have hs0 : W.cell? ⟨w.heap.size, 0, none⟩ = some (.int .i64 p) := by rw [hW]; simp
  have hs1 : W.cell? ⟨w.heap.size, 1, none⟩ = some (.slice a d cap) := by rw [hW]; simp
  have HS0 := Lib.hid hs0
  have HS1 := Lib.hid hs1
  have GW := Lib.hid gW
  obtain ⟨w1, hmk, ho, g1⟩ := make_ints W N (by omega)
  obtain ⟨g, hg⟩ : ∃ g, g = W.heap.size := ⟨_, rfl⟩
  rw [← hg] at hmk
  have HO : Hid (OwnC W.heap.size w1 (some ⟨g, 0, none⟩) N N (List.replicate N 0)) := by rw [← hg] at ho ⊢; exact ho
  have G1 := Lib.hid g1
  rw [hW] at hmk
  clear ho g1 gW hs0 hs1 hg hW
  go_enter Try.func85, Try.ntmps85
  go_wp2_with (fail)
  go_loopw [8] (fun i wr => ∃ k : Nat, k ≤ N ∧ i = .int .i64 k ∧ OwnC W.heap.size wr (some ⟨g, 0, none⟩) N N (outP p (fac p qs) tkA x y N k) ∧ Ext W wr) (fun i _ => N - (intOf i).toNat)
  case atStart => exact ⟨0, Nat.zero_le _, rfl, HO.out, G1.out⟩
  case round =>
    obtain ⟨k, hk, rfl, hown, hext⟩ := hrel
    have HOwn := Lib.hid hown
    have HExt := Lib.hid hext
    clear hown hext hmk
    by_cases hlt : k < N
    · obtain ⟨bx, ox, rfl, hcx⟩ := HX.out.2 k hlt
      have Hcx := Lib.hid (GW.out.cell hcx)
      clear hcx
      have hgood := Lib.hid (outP_good (f := fac p qs) (tk := tkA) (x := x) (y := y) (N := N) (show 1 ≤ p by omega) k)
      have hxk := isB_nth HXB.out (i := k) (by rw [HX.out.1]; exact hlt)
      go_wp2_with (fail)
      obtain ⟨wo, hwo⟩ : ∃ wo : World, wo = wr := ⟨_, rfl⟩
      clear hwo
      go_loopw [9] (fun i wr => ∃ j : Nat, j ≤ N ∧ i = .int .i64 j ∧ OwnC W.heap.size wr (some ⟨g, 0, none⟩) N N (inP p (fac p qs) tkA x y k j (outP p (fac p qs) tkA x y N k)) ∧ Ext W wr) (fun i _ => N - (intOf i).toNat)
      case atStart => exact ⟨0, Nat.zero_le _, rfl, HOwn.out, HExt.out⟩
      case round =>
        obtain ⟨j, hj, rfl, hown, hext⟩ := hrel
        have HOwn2 := Lib.hid hown
        have HExt2 := Lib.hid hext
        clear hown hext
        by_cases hlj : j < N
        · obtain ⟨by', oy, rfl, hcy⟩ := HY.out.2 j hlj
          have Hcy := Lib.hid (GW.out.cell hcy)
          clear hcy
          have hin := Lib.hid (inP_good (f := fac p qs) (tk := tkA) (x := x) (y := y) (a := k) (show 1 ≤ p by omega) hgood.out j)
          have hc : k ^^^ j < N := by rw [HN.out] at hlt hlj ⊢; exact Nat.xor_lt_two_pow hlt hlj
          have hcx' := HExt2.out.cell Hcx.out
          have hcy' := HExt2.out.cell Hcy.out
          by_cases hzx : nth x k = 0
          · have hzb : (nth x k != 0) = false := by simp [hzx]
            have HZ := Lib.hid (inP_zero (f := fac p qs) (tk := tkA) (y := y) (d := d) (show 1 ≤ p by omega) HN.out hlt hgood.out hzx)
            clear hzx
            go_wp2_with (fail)
            go_roundw
            case rel => exact ⟨k + 1, by omega, by go_num, by unfold outP; rw [HZ.out N (Nat.le_refl _)]; have := HOwn2.out; rw [HZ.out j hj] at this; exact this, HExt2.out⟩
            case measure => simp [intOf]; omega
          · have hzb : (nth x k != 0) = true := by simp [hzx]
            clear hzx
            by_cases hzj : nth y j = 0
            · have hzb2 : (nth y j != 0) = false := by simp [hzj]
              have HZ := Lib.hid (stepP_zero (f := fac p qs) (tk := tkA) (x := x) (y := y) (a := k) (b := j) hin.out hc (.inr hzj))
              clear hzj
              go_wp2_with (fail)
              go_roundw
              case rel => exact ⟨j + 1, by omega, by go_num, by unfold inP; rw [HZ.out]; exact HOwn2.out, HExt2.out⟩
              case measure => simp [intOf]; omega
            · have hzb2 : (nth y j != 0) = true := by simp [hzj]
              have HZ := Lib.hid (stepP_yes (p := p) (f := fac p qs) (tk := tkA) (x := x) (y := y) (a := k) (b := j) (out := inP p (fac p qs) tkA x y k j (outP p (fac p qs) tkA x y N k)) rfl)
              clear hzj
              go_wp2_with (fail)
              clear hcx' hcy'
              have X2 := Lib.hid (ext_drew wr)
              have Y2 := Lib.hid (HExt2.out.trans X2.out)
              obtain ⟨Z, hZ⟩ : ∃ Z, Z = inP p (fac p qs) tkA x y k j (outP p (fac p qs) tkA x y N k) := ⟨_, rfl⟩
              rw [← hZ] at hin HOwn2 HZ
              have HZZ := Lib.hid hZ
              clear hZ
              have HO2 := Lib.hid (HOwn2.out.ext X2.out)
              have Hc := Lib.hid (HO2.out.cell hc)
              have hzc := hin.out.2 _ hc
              have hyj := isB_nth HYB.out (i := j) (by rw [HY.out.1]; exact hlj)
              have hfb := fac_bd (qs := qs) (b := j) hp1 (show k < 64 by omega)
              have hxor := xor_ab k j (by omega) (by omega)
              obtain ⟨Fk, hFk⟩ : ∃ Fk, Fk = fac p qs k j := ⟨_, rfl⟩
              rw [← hFk] at hfb HZ
              obtain ⟨c, hcc⟩ : ∃ c, c = k ^^^ j := ⟨_, rfl⟩
              rw [← hcc] at hc HZ hzc hxor
              rw [← hcc] at Hc
              obtain ⟨zc, hzc'⟩ : ∃ zc, zc = nth Z c := ⟨_, rfl⟩
              rw [← hzc'] at hzc HZ
              rw [← hzc'] at Hc
              obtain ⟨hm1, hm2⟩ := mul_bd hp2 hxk.1 hxk.2 hyj.1 hyj.2
              obtain ⟨hm3, hm4⟩ := ref_bd (m := nth x k * nth y j) hp1 hp2 hfb.1 hfb.2
              have hw1 : IntKind.i64.wrap (nth x k * nth y j) = nth x k * nth y j := IntWalk.i64_in _ (by omega)
              have hw1t : (nth x k * nth y j).tmod p = nth x k * nth y j % p := Int.tmod_eq_emod_of_nonneg hm1
              obtain ⟨MM, hMM⟩ : ∃ MM, nth x k * nth y j % p = MM := ⟨_, rfl⟩
              have hST := step_ref (p := p) (o := zc) (m := nth x k * nth y j) (f := Fk)
              rw [hMM] at hw1t hm3 hm4 hST
              have hw2 : IntKind.i64.wrap (MM * Fk) = MM * Fk := IntWalk.i64_in _ (by omega)
              have hw3 : IntKind.i64.wrap (zc + MM * Fk) = zc + MM * Fk := IntWalk.i64_in _ (by omega)
              have hw4 : (zc + MM * Fk).tmod p = (zc + MM * Fk) % p := Int.tmod_eq_emod_of_nonneg (by omega)
              obtain ⟨RR, hRR⟩ : ∃ RR, (zc + MM * Fk) % p = RR := ⟨_, rfl⟩
              rw [hRR] at hw4 hST
              have HST := Lib.hid hST
              have hcn : (c : Int) < N := by omega
              have hc0 : (0 : Int) ≤ c := by omega
              have HFk := Lib.hid hFk
              have Hcc := Lib.hid hcc
              have Hzc := Lib.hid hzc'
              clear hFk hcc hzc' hzc hMM hRR hST
              refine wp_region_lex_tail 32 [(25, .val (.int .i64 Fk))] (by kernel_rfl) (by kernel_rfl) ?_
              simp only [List.take, List.drop]
              repeat' first | (refine LexW.pure (v := ?_) rfl rfl (fun w1 he => ?_) ?_; rotate_left; ( have e1 := (Y2.out.trans he).cell HS0.out; have e2 := (Y2.out.trans he).cell HS1.out; have e3 := he.cell Hc.out; have e4 := (Y2.out.trans he).cell Hcx.out; have e5 := (Y2.out.trans he).cell Hcy.out; go_simp; rfl); simp only [Act.put, List.setIfInBounds_toArray, List.set_cons_zero, List.set_cons_succ]) | (refine LexW.call (f := ?_) (args := ?_) rfl rfl (fun w1 => ?_) (fun w1 he hdep => ?_) ?_; rotate_left 2; (go_simp; refine ⟨?_, ?_⟩ <;> rfl); ( rw [HFk.out]; exact s_blades _ _ _ _ _ _ _ _ hd hp1 hp2 (by omega) (by omega) (HQ.out.ext (GW.out.trans (Y2.out.trans he))) HQB.out); simp only [Act.put, List.setIfInBounds_toArray, List.set_cons_zero, List.set_cons_succ])
              refine LexW.nil (fun w3 he hk => ?_)
              have HO3 := Lib.hid (HO2.out.ext he)
              have ec := HO3.out.cell hc
              have ef := HO3.out.frozen c
              have hgb := HO3.out.base_le
              go_wp2_with (fail)
              go_roundw
              case rel => exact ⟨j + 1, by omega, by go_num, by unfold inP; rw [← HZZ.out, HZ.out, ← HST.out]; exact HO3.out.store hc _, (Y2.out.trans he).setCell hgb.1 _⟩
              case measure => simp [intOf]; omega
        · go_wp2_with (fail)
          go_roundw
          case rel => exact ⟨k + 1, by omega, by go_num, by
            have hjn : j = N := by omega
            have := HOwn2.out; rw [hjn] at this; exact this, HExt2.out⟩
          case measure => simp [intOf]; omega
    · go_wp2_with (fail)
      go_ret
      have hkn : k = N := by omega
      refine ⟨g, rfl, ?_, GW.out.trans HExt.out⟩
      rw [HPr.out]
      have := HOwn.out
      rw [hkn] at this
      exact this.mono GW.out.size

end Go.Proofs.Ytbgnfjckbjmgbaa
