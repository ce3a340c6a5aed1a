/-
  Contract of the reference's function that computes the factor of a product of two blades.
  No condition.
-/
import Derived.Test.YtbgnfjckbjmgbaaFac
namespace Go.Proofs.Ytbgnfjckbjmgbaa
set_option maxRecDepth 100000
open Go.RowKit

set_option maxHeartbeats 2000000 in
theorem s_blades (p : Int) (a : Option Addr) (d cap : Nat) (qs : List Int) (x y : Nat) (w : World) (hd : d ≤ 6) (hp1 : 3 ≤ p) (hp2 : p ≤ 1000) (hx : x < 64) (hy : y < 64) (hq : RdC w a d qs) (hqb : isB p qs = true) :
    Calls Try.prog 150 #[.agg #[.int .i64 p, .slice a d cap], .int .i64 x, .int .i64 y] w fun e w' => e = .returned (.int .i64 (fac p qs x y)) ∧ Ext w w' := by
  have HQ := Lib.hid hq.2
  have HN := Lib.hid hq.1
  have HB := Lib.hid hqb
  have hpz : ¬ p = 0 := by omega
  clear hq hqb
  go_enter Try.func150, Try.ntmps150
  go_wp2_with (fail)
  obtain ⟨w1, hw1⟩ : ∃ w1, w1 = w.alloc (.cells #[.int .i64 p, .slice a d cap] 26) := ⟨_, rfl⟩
  have g1 : Ext w w1 := by rw [hw1]; exact ext_alloc _ _
  have hs0 : w1.cell? ⟨w.heap.size, 0, none⟩ = some (.int .i64 p) := by rw [hw1]; simp
  have hs1 : w1.cell? ⟨w.heap.size, 1, none⟩ = some (.slice a d cap) := by rw [hw1]; simp
  rw [← hw1]
  have HS0 := Lib.hid hs0
  have HS1 := Lib.hid hs1
  have G1 := Lib.hid g1
  clear g1 hs0 hs1 hw1
  go_loopw [1, 7, 8] (fun m o i wr => ∃ k : Nat, k ≤ d ∧ i = .int .i64 k ∧ m = .int .i64 (aS x y k) ∧ o = .int .i64 (sgn p (facS p qs x y k).1 (facS p qs x y k).2) ∧ Ext w1 wr) (fun _ _ i _ => d - (intOf i).toNat)
  case atStart => exact ⟨0, Nat.zero_le _, rfl, rfl, rfl, Ext.refl _⟩
  case round =>
    obtain ⟨k, hk, rfl, rfl, rfl, hext⟩ := hrel
    have e1 := hext.cell HS0.out
    have e2 := hext.cell HS1.out
    obtain ⟨hf1, hf2, hf3⟩ := facS_bd (qs := qs) (b := y) hp1 hx k
    have HF2 := Lib.hid hf2
    have HF3 := Lib.hid hf3
    obtain ⟨hr2, hr3⟩ := sgn_bd (s := (facS p qs x y k).1) hp1 hf2 hf3
    obtain ⟨R, hR⟩ : ∃ R, R = sgn p (facS p qs x y k).1 (facS p qs x y k).2 := ⟨_, rfl⟩
    rw [← hR] at hr2 hr3 ⊢
    have HR := Lib.hid hR
    clear hR hf1 hf2 hf3
    by_cases hlt : k < d
    · have hy1 := bit_z y k hy (by omega)
      obtain ⟨hA1, hA2, hA3⟩ := aS_all x y k hx hy (by omega)
      obtain ⟨A, hA⟩ : ∃ A, A = aS x y k := ⟨_, rfl⟩
      rw [← hA] at hA1 hA2 hA3 ⊢
      have hx1 := bit_i A k hA1 (by omega)
      have hsh := shr_i A k
      have hxor := xor_i A k hA1 (by omega)
      have hxor' := xor_i' A k hA1 (by omega)
      rw [hA2] at hsh
      rw [hA3] at hx1
      have HA := Lib.hid hA
      clear hA hA2 hA3
      have hpl := popc_le (shr_lt (k + 1) hx)
      obtain ⟨G, hG⟩ : ∃ G, G = popc (x >>> (k + 1)) := ⟨_, rfl⟩
      rw [← hG] at hpl
      have HG := Lib.hid hG
      clear hG
      obtain ⟨b, off, ha, hc⟩ := HQ.out k hlt
      have Hc := Lib.hid ((G1.out.trans (hext)).cell hc)
      have hqk := isB_nth HB.out (i := k) (by rw [HN.out]; exact hlt)
      clear hc
      subst ha
      cases hyb : y.testBit k
      · have HYB := Lib.hid hyb
        rw [hyb] at hy1
        clear hyb hx1 hsh hxor hxor'
        go_wp2_with (fail)
        go_roundw
        case rel => exact ⟨k + 1, by omega, by go_num, by rw [aS_no HYB.out, HA.out], by rw [facS_no HYB.out, HR.out], hext⟩
        case measure => simp [intOf]; omega
      · have HYB := Lib.hid hyb
        rw [hyb] at hy1
        clear hyb
        have haa := aS_yes (a := x) HYB.out
        rw [← HA.out] at haa
        have HAA := Lib.hid haa
        clear haa
        obtain ⟨R1, hR1⟩ : ∃ R1, (p - R) % p = R1 := ⟨_, rfl⟩
        have hR2 : -R % p = R1 := by rw [← hR1, Int.sub_eq_add_neg, Int.add_emod_left]
        have h0 := Int.emod_nonneg (p - R) (show p ≠ 0 by omega)
        have h1 := Int.emod_lt_of_pos (p - R) (show 0 < p by omega)
        rw [hR1] at h0 h1
        have HR1 := Lib.hid hR1
        by_cases hodd : G % 2 = 1
        · have ht : (((G : Int) % 2) == 1) = true := by simp; omega
          obtain ⟨hm0, hm1⟩ := mul_bd (x := R1) (y := nth qs k) hp2 h0 h1 hqk.1 hqk.2
          have hw : IntKind.i64.wrap (R1 * nth qs k) = R1 * nth qs k := IntWalk.i64_in _ (by omega)
          have hmd : (R1 * nth qs k).tmod p = R1 * nth qs k % p := Int.tmod_eq_emod_of_nonneg hm0
          have HS : Hid (R1 = sgn p ((facS p qs x y k).1 + popc (x >>> (k + 1))) (facS p qs x y k).2) := by
            show R1 = _
            rw [sgn_odd (by rw [← HG.out]; exact hodd) HF2.out HF3.out, ← HR.out, HR1.out]
          clear hodd
          cases hxb : x.testBit k
          · have HXB := Lib.hid hxb
            rw [hxb] at hx1
            clear hxb hm0 hm1 hw hmd
            go_wp2_with (go_at_call 190; refine (s_grade (x >>> (k + 1)) _ (shr_lt _ hx)).mono ?_; rintro e w2 ⟨rfl, g2⟩; rw [← HG.out]; have e3 := (hext.trans g2).cell HS0.out; have e4 := (hext.trans g2).cell HS1.out)
            go_roundw
            case rel => exact ⟨k + 1, by omega, by go_num, by rw [HAA.out], by have e := HR1.out; rw [facS_one HYB.out HXB.out, ← HS.out]; try rw [e], hext.trans g2⟩
            case measure => simp [intOf]; omega
          · have HXB := Lib.hid hxb
            rw [hxb] at hx1
            clear hxb
            go_wp2_with (go_at_call 190; refine (s_grade (x >>> (k + 1)) _ (shr_lt _ hx)).mono ?_; rintro e w2 ⟨rfl, g2⟩; rw [← HG.out]; have e3 := (hext.trans g2).cell HS0.out; have e4 := (hext.trans g2).cell HS1.out)
            have X2 := Lib.hid (g2.trans (ext_drew _))
            have Y2 := Lib.hid (hext.trans X2.out)
            refine wp_region_lex [] (by kernel_rfl) (by kernel_rfl) ?_
            repeat' first | (refine LexW.pure (v := ?_) rfl rfl (fun w1 he => ?_) ?_; rotate_left; ( have e1 := (Y2.out.trans he).cell HS0.out; have e2 := (Y2.out.trans he).cell HS1.out; have e3 := (X2.out.trans he).cell Hc.out; go_simp; rfl); simp only [Act.put, List.setIfInBounds_toArray, List.set_cons_zero, List.set_cons_succ])
            refine LexW.nil (fun w3 he hk => ?_)
            have e5 := (Y2.out.trans he).cell HS0.out
            go_wp2_with (fail)
            go_roundw
            case rel => exact ⟨k + 1, by omega, by go_num, by rw [HAA.out], by have e := HR1.out; rw [facS_two HYB.out HXB.out, sgn_mul, ← HS.out]; try rw [e], Y2.out.trans he⟩
            case measure => simp [intOf]; omega
        · have ht : (((G : Int) % 2) == 1) = false := by simp; omega
          obtain ⟨hm0, hm1⟩ := mul_bd (x := R) (y := nth qs k) hp2 hr2 hr3 hqk.1 hqk.2
          have hw : IntKind.i64.wrap (R * nth qs k) = R * nth qs k := IntWalk.i64_in _ (by omega)
          have hmd : (R * nth qs k).tmod p = R * nth qs k % p := Int.tmod_eq_emod_of_nonneg hm0
          have HS : Hid (R = sgn p ((facS p qs x y k).1 + popc (x >>> (k + 1))) (facS p qs x y k).2) := by
            show R = _
            rw [sgn_even (by rw [← HG.out]; exact hodd), ← HR.out]
          clear hodd
          cases hxb : x.testBit k
          · have HXB := Lib.hid hxb
            rw [hxb] at hx1
            clear hxb hm0 hm1 hw hmd
            go_wp2_with (go_at_call 190; refine (s_grade (x >>> (k + 1)) _ (shr_lt _ hx)).mono ?_; rintro e w2 ⟨rfl, g2⟩; rw [← HG.out]; have e3 := (hext.trans g2).cell HS0.out; have e4 := (hext.trans g2).cell HS1.out)
            go_roundw
            case rel => exact ⟨k + 1, by omega, by go_num, by rw [HAA.out], by have e := HR1.out; rw [facS_one HYB.out HXB.out, ← HS.out]; try rw [e], hext.trans g2⟩
            case measure => simp [intOf]; omega
          · have HXB := Lib.hid hxb
            rw [hxb] at hx1
            clear hxb
            go_wp2_with (go_at_call 190; refine (s_grade (x >>> (k + 1)) _ (shr_lt _ hx)).mono ?_; rintro e w2 ⟨rfl, g2⟩; rw [← HG.out]; have e3 := (hext.trans g2).cell HS0.out; have e4 := (hext.trans g2).cell HS1.out)
            have X2 := Lib.hid (g2.trans (ext_drew _))
            have Y2 := Lib.hid (hext.trans X2.out)
            refine wp_region_lex [] (by kernel_rfl) (by kernel_rfl) ?_
            repeat' first | (refine LexW.pure (v := ?_) rfl rfl (fun w1 he => ?_) ?_; rotate_left; ( have e1 := (Y2.out.trans he).cell HS0.out; have e2 := (Y2.out.trans he).cell HS1.out; have e3 := (X2.out.trans he).cell Hc.out; go_simp; rfl); simp only [Act.put, List.setIfInBounds_toArray, List.set_cons_zero, List.set_cons_succ])
            refine LexW.nil (fun w3 he hk => ?_)
            have e5 := (Y2.out.trans he).cell HS0.out
            go_wp2_with (fail)
            go_roundw
            case rel => exact ⟨k + 1, by omega, by go_num, by rw [HAA.out], by have e := HR1.out; rw [facS_two HYB.out HXB.out, sgn_mul, ← HS.out]; try rw [e], Y2.out.trans he⟩
            case measure => simp [intOf]; omega
    · have hkd : k = d := by omega
      have HF := Lib.hid (show fac p qs x y = R by simp only [fac]; rw [HN.out, ← hkd, ← HR.out])
      go_wp2_with (fail)
      go_ret
      exact ⟨ret_int HF.out.symm, G1.out.trans hext⟩

end Go.Proofs.Ytbgnfjckbjmgbaa
