/-
  Contracts and plain laws, part 8: LawGeometricProducts, DrawM, Psq, Meet, Top5C, Read, ReadB.
  No condition.
-/
import Derived.Test.YtbgnfjckbjmgbaaPart5
import Derived.Test.YtbgnfjckbjmgbaaPart6
import Derived.Test.YtbgnfjckbjmgbaaPart7
import Derived.Test.YtbgnfjckbjmgbaaPart2
import Derived.Test.YtbgnfjckbjmgbaaPart0
import Derived.ProofKit
import Derived.OpenShut
import Derived.ShutString
import Derived.ChangeOld
import Derived.Below
import Derived.Lib.SmallJoins
/-
  The law FnGeometricProducts returns true.
  No condition.
-/
namespace Go.Proofs.Ytbgnfjckbjmgbaa
set_option maxRecDepth 100000
open Go.RowKit

theorem sum_comm0 {p : Int} {qs x y : List Int} (hp : 1 ≤ p) : nth (prodL p qs tkA x y) 0 = nth (prodL p qs tkA y x) 0 := by
  have h0 : 0 < 2 ^ qs.length := pow_pos' _
  rw [prodA_nth hp h0, prodA_nth hp h0]
  congr 1
  refine sumN_congr fun i _ => ?_
  rw [Nat.xor_zero]
  congr 1
  exact Int.mul_comm _ _
theorem codeM_of2 {p : Int} {qs x y : List Int} (h : codeM p qs [x, y] = 0) : spaceB p qs = true ∧ Good p (2 ^ qs.length) x ∧ Good p (2 ^ qs.length) y := by
  obtain ⟨h1, h2, h3⟩ := codeM_two h
  exact ⟨h1, good_isB (multi_of h2).1 (multi_of h2).2, good_isB (multi_of h3).1 (multi_of h3).2⟩

set_option maxHeartbeats 8000000 in
set_option maxRecDepth 100000 in
theorem law_GeometricProducts (w : World) (ac : Option Addr) (nc cc : Nat) (hb : RdY w ac nc) :
    Calls Try.prog 4 #[.slice ac nc cc] w fun e w' => e = .returned (.bool true) ∧ Ext w w' := by
  have HB := Lib.hid hb
  clear hb
  go_enter Try.func4, Try.ntmps4
  go_wp2_with (fail)
  refine Calls.mono (l_big ac nc cc w) ?_
  rintro e w1 ⟨rfl, g0⟩
  have E := Lib.hid g0
  by_cases hbig : 4096 < nc
  · have hbb : decide (4096 < nc) = true := by simp [hbig]
    rw [hbb]
    go_wp2_with (fail)
    go_ret
    exact ⟨rfl, E.out⟩
  have hbb : decide (4096 < nc) = false := by simp [hbig]
  rw [hbb]
  clear g0 hbb
  go_wp2_with (fail)
  refine Calls.mono (s_drawGeometricProduct ac nc cc w1 (by omega) (HB.out.ext E.out)) ?_
  rintro e w2 ⟨p, a, d, cap, qs, ax, nx, cx, x, ay, ny, cy, y, rfl, hp0, hp1, hd, hnx, hny, hq, hx, hy, g1⟩
  have E1 := Lib.hid g1
  replace E := Lib.hid (E.out.trans g1)
  have HQ := Lib.hid hq.rd
  have HX := Lib.hid hx.rd
  have HY := Lib.hid hy.rd
  clear hq hx hy g1
  go_wp2_with (fail)
  obtain ⟨O, hO⟩ : ∃ O, O = w2.heap.size := ⟨_, rfl⟩
  obtain ⟨W, hW⟩ : ∃ W, W = w2.alloc (.cells #[.int .i64 p, .slice a d cap] 26) := ⟨_, rfl⟩
  have C0 := Lib.hid (show W.cell? ⟨O, 0, none⟩ = some (.int .i64 p) by rw [hW, hO]; simp)
  have C1 := Lib.hid (show W.cell? ⟨O, 1, none⟩ = some (.slice a d cap) by rw [hW, hO]; simp)
  have gg : Ext w2 W := by rw [hW]; exact ext_alloc _ _
  rw [← hO, ← hW]
  clear hO hW E1
  replace E := Lib.hid (E.out.trans gg)
  replace HQ := Lib.hid (HQ.out.ext gg)
  replace HX := Lib.hid (HX.out.ext gg)
  replace HY := Lib.hid (HY.out.ext gg)
  clear gg
  by_cases hc : codeM p qs [x, y] ≠ 0
  · skip
    have x00 := C0.out
    have x01 := C1.out
    go_wp2_with (fail)
    clear x00 x01
    refine Calls.mono (c_GeometricProduct_bad p a d cap qs ax nx cx x ay ny cy y W (by omega) (by omega) (by omega) HQ.out HX.out HY.out hc) ?_
    rintro e v1 ⟨rZ, kZ, rfl, ho, gg⟩
    have RZ := Lib.hid (ho.mono (Nat.zero_le _))
    clear ho
    replace E := Lib.hid (E.out.trans gg)
    replace HQ := Lib.hid (HQ.out.ext gg)
    replace HX := Lib.hid (HX.out.ext gg)
    replace HY := Lib.hid (HY.out.ext gg)
    replace C0 := Lib.hid (gg.cell (p := ⟨O, 0, none⟩) C0.out)
    replace C1 := Lib.hid (gg.cell (p := ⟨O, 1, none⟩) C1.out)
    clear gg
    have x00 := C0.out
    have x01 := C1.out
    go_wp2_with (fail)
    clear x00 x01
    refine Calls.mono (s_GeometricProduct_bad p a d cap qs ax nx cx x ay ny cy y v1 (by omega) (by omega) (by omega) HQ.out HX.out HY.out hc) ?_
    rintro e v2 ⟨rT, kT, rfl, ho, gg⟩
    have RT := Lib.hid (ho.mono (Nat.zero_le _))
    clear ho
    replace E := Lib.hid (E.out.trans gg)
    replace HQ := Lib.hid (HQ.out.ext gg)
    replace HX := Lib.hid (HX.out.ext gg)
    replace HY := Lib.hid (HY.out.ext gg)
    replace RZ := Lib.hid (RZ.out.ext gg)
    replace C0 := Lib.hid (gg.cell (p := ⟨O, 0, none⟩) C0.out)
    replace C1 := Lib.hid (gg.cell (p := ⟨O, 1, none⟩) C1.out)
    clear gg
    have hcb : (codeM p qs [x, y] != 0) = true := by simp [hc]
    clear hc
    have x00 := C0.out
    have x01 := C1.out
    go_wp2_with (fail)
    clear x00 x01
    replace E := Lib.hid (E.out.trans (ext_drew v2))
    replace HQ := Lib.hid (HQ.out.ext (ext_drew v2))
    replace HX := Lib.hid (HX.out.ext (ext_drew v2))
    replace HY := Lib.hid (HY.out.ext (ext_drew v2))
    replace RZ := Lib.hid (RZ.out.ext (ext_drew v2))
    replace RT := Lib.hid (RT.out.ext (ext_drew v2))
    replace C0 := Lib.hid ((ext_drew v2).cell (p := ⟨O, 0, none⟩) C0.out)
    replace C1 := Lib.hid ((ext_drew v2).cell (p := ⟨O, 1, none⟩) C1.out)
    refine wp_region_lex [(6, .val (.bool true)), (12, .val (.bool (spaceB p qs && multiB p d x))), (15, .val (.bool (spaceB p qs && multiB p d x)))] (by kernel_rfl) (by kernel_rfl) ?_
    (refine LexW.pure (v := ?_) rfl rfl (fun w1 he => ?_) ?_; rotate_left; ( have x00 := (he.cell (p := ⟨O, 0, none⟩) C0.out); have x01 := (he.cell (p := ⟨O, 1, none⟩) C1.out); go_simp; rfl); simp only [Act.put, List.setIfInBounds_toArray, List.set_cons_zero, List.set_cons_succ])
    (refine LexW.pure (v := ?_) rfl rfl (fun w1 he => ?_) ?_; rotate_left; ( have x00 := (he.cell (p := ⟨O, 0, none⟩) C0.out); have x01 := (he.cell (p := ⟨O, 1, none⟩) C1.out); go_simp; rfl); simp only [Act.put, List.setIfInBounds_toArray, List.set_cons_zero, List.set_cons_succ])
    (refine LexW.pure (v := ?_) rfl rfl (fun w1 he => ?_) ?_; rotate_left; ( have x00 := (he.cell (p := ⟨O, 0, none⟩) C0.out); have x01 := (he.cell (p := ⟨O, 1, none⟩) C1.out); go_simp; rfl); simp only [Act.put, List.setIfInBounds_toArray, List.set_cons_zero, List.set_cons_succ])
    (refine LexW.pure (v := ?_) rfl rfl (fun w1 he => ?_) ?_; rotate_left; ( have x00 := (he.cell (p := ⟨O, 0, none⟩) C0.out); have x01 := (he.cell (p := ⟨O, 1, none⟩) C1.out); go_simp; rfl); simp only [Act.put, List.setIfInBounds_toArray, List.set_cons_zero, List.set_cons_succ])
    (refine LexW.pure (v := ?_) rfl rfl (fun w1 he => ?_) ?_; rotate_left; ( have x00 := (he.cell (p := ⟨O, 0, none⟩) C0.out); have x01 := (he.cell (p := ⟨O, 1, none⟩) C1.out); go_simp; rfl); simp only [Act.put, List.setIfInBounds_toArray, List.set_cons_zero, List.set_cons_succ])
    (refine LexW.pure (v := ?_) rfl rfl (fun w1 he => ?_) ?_; rotate_left; ( have x00 := (he.cell (p := ⟨O, 0, none⟩) C0.out); have x01 := (he.cell (p := ⟨O, 1, none⟩) C1.out); go_simp; rfl); simp only [Act.put, List.setIfInBounds_toArray, List.set_cons_zero, List.set_cons_succ])
    (refine LexW.call (f := ?_) (args := ?_) rfl rfl (fun w1 => ?_) (fun w1 he hdep => ?_) ?_; rotate_left 2; (go_simp; refine ⟨?_, ?_⟩ <;> rfl); ( have H := l_like rZ rT 0 0 kZ kT _ _ w1 (by omega) (by omega) (RZ.out.rd.ext he) (RT.out.rd.ext he); rw [eqB_self] at H; exact H); simp only [Act.put, List.setIfInBounds_toArray, List.set_cons_zero, List.set_cons_succ])
    (refine LexW.pure (v := ?_) rfl rfl (fun w1 he => ?_) ?_; rotate_left; ( have x00 := (he.cell (p := ⟨O, 0, none⟩) C0.out); have x01 := (he.cell (p := ⟨O, 1, none⟩) C1.out); go_simp; rfl); simp only [Act.put, List.setIfInBounds_toArray, List.set_cons_zero, List.set_cons_succ])
    (refine LexW.pure (v := ?_) rfl rfl (fun w1 he => ?_) ?_; rotate_left; ( have x00 := (he.cell (p := ⟨O, 0, none⟩) C0.out); have x01 := (he.cell (p := ⟨O, 1, none⟩) C1.out); go_simp; rfl); simp only [Act.put, List.setIfInBounds_toArray, List.set_cons_zero, List.set_cons_succ])
    (refine LexW.pure (v := ?_) rfl rfl (fun w1 he => ?_) ?_; rotate_left; ( have x00 := (he.cell (p := ⟨O, 0, none⟩) C0.out); have x01 := (he.cell (p := ⟨O, 1, none⟩) C1.out); go_simp; rfl); simp only [Act.put, List.setIfInBounds_toArray, List.set_cons_zero, List.set_cons_succ])
    (refine LexW.pure (v := ?_) rfl rfl (fun w1 he => ?_) ?_; rotate_left; ( have x00 := (he.cell (p := ⟨O, 0, none⟩) C0.out); have x01 := (he.cell (p := ⟨O, 1, none⟩) C1.out); go_simp; rfl); simp only [Act.put, List.setIfInBounds_toArray, List.set_cons_zero, List.set_cons_succ])
    (refine LexW.pure (v := ?_) rfl rfl (fun w1 he => ?_) ?_; rotate_left; ( have x00 := (he.cell (p := ⟨O, 0, none⟩) C0.out); have x01 := (he.cell (p := ⟨O, 1, none⟩) C1.out); go_simp; rfl); simp only [Act.put, List.setIfInBounds_toArray, List.set_cons_zero, List.set_cons_succ])
    (refine LexW.call (f := ?_) (args := ?_) rfl rfl (fun w1 => ?_) (fun w1 he hdep => ?_) ?_; rotate_left 2; (go_simp; refine ⟨?_, ?_⟩ <;> rfl); ( exact c_IsMultivector p a d cap qs ax nx cx x w1 (by omega) (by omega) (HQ.out.ext he) (HX.out.ext he)); simp only [Act.put, List.setIfInBounds_toArray, List.set_cons_zero, List.set_cons_succ])
    (refine LexW.pure (v := ?_) rfl rfl (fun w1 he => ?_) ?_; rotate_left; ( have x00 := (he.cell (p := ⟨O, 0, none⟩) C0.out); have x01 := (he.cell (p := ⟨O, 1, none⟩) C1.out); go_simp; rfl); simp only [Act.put, List.setIfInBounds_toArray, List.set_cons_zero, List.set_cons_succ])
    (refine LexW.pure (v := ?_) rfl rfl (fun w1 he => ?_) ?_; rotate_left; ( have x00 := (he.cell (p := ⟨O, 0, none⟩) C0.out); have x01 := (he.cell (p := ⟨O, 1, none⟩) C1.out); go_simp; rfl); simp only [Act.put, List.setIfInBounds_toArray, List.set_cons_zero, List.set_cons_succ])
    (refine LexW.call (f := ?_) (args := ?_) rfl rfl (fun w1 => ?_) (fun w1 he hdep => ?_) ?_; rotate_left 2; (go_simp; refine ⟨?_, ?_⟩ <;> rfl); ( exact s_IsMultivector p a d cap qs ax nx cx x w1 (by omega) (by omega) (HQ.out.ext he) (HX.out.ext he)); simp only [Act.put, List.setIfInBounds_toArray, List.set_cons_zero, List.set_cons_succ])
    (refine LexW.pure (v := ?_) rfl rfl (fun w1 he => ?_) ?_; rotate_left; ( have x00 := (he.cell (p := ⟨O, 0, none⟩) C0.out); have x01 := (he.cell (p := ⟨O, 1, none⟩) C1.out); go_simp; rfl); simp only [Act.put, List.setIfInBounds_toArray, List.set_cons_zero, List.set_cons_succ])
    (refine LexW.pure (v := ?_) rfl rfl (fun w1 he => ?_) ?_; rotate_left; ( have x00 := (he.cell (p := ⟨O, 0, none⟩) C0.out); have x01 := (he.cell (p := ⟨O, 1, none⟩) C1.out); go_simp; rfl); simp only [Act.put, List.setIfInBounds_toArray, List.set_cons_zero, List.set_cons_succ])
    refine LexW.nil (fun w3 he hkn => ?_)
    have HE := Lib.hid he
    clear he hkn 
    rename World => v3
    replace E := Lib.hid (E.out.trans HE.out)
    replace HQ := Lib.hid (HQ.out.ext HE.out)
    replace HX := Lib.hid (HX.out.ext HE.out)
    replace HY := Lib.hid (HY.out.ext HE.out)
    replace RZ := Lib.hid (RZ.out.ext HE.out)
    replace RT := Lib.hid (RT.out.ext HE.out)
    replace C0 := Lib.hid (HE.out.cell (p := ⟨O, 0, none⟩) C0.out)
    replace C1 := Lib.hid (HE.out.cell (p := ⟨O, 1, none⟩) C1.out)
    clear HE
    go_wp2_with (fail)
    go_ret
    exact ⟨rfl, E.out⟩
  replace hc : codeM p qs [x, y] = 0 := by simpa using hc
  have x00 := C0.out
  have x01 := C1.out
  go_wp2_with (fail)
  clear x00 x01
  refine Calls.mono (c_GeometricProduct_ok p a d cap qs ax nx cx x ay ny cy y W (by omega) (by omega) (by omega) HQ.out HX.out HY.out hc) ?_
  rintro e v1 ⟨rZ, kZ, rfl, ho, gg⟩
  have RZ := Lib.hid (ho.mono (Nat.zero_le _))
  clear ho
  replace E := Lib.hid (E.out.trans gg)
  replace HQ := Lib.hid (HQ.out.ext gg)
  replace HX := Lib.hid (HX.out.ext gg)
  replace HY := Lib.hid (HY.out.ext gg)
  replace C0 := Lib.hid (gg.cell (p := ⟨O, 0, none⟩) C0.out)
  replace C1 := Lib.hid (gg.cell (p := ⟨O, 1, none⟩) C1.out)
  clear gg
  have x00 := C0.out
  have x01 := C1.out
  go_wp2_with (fail)
  clear x00 x01
  refine Calls.mono (s_GeometricProduct_ok p a d cap qs ax nx cx x ay ny cy y v1 (by omega) (by omega) (by omega) HQ.out HX.out HY.out hc) ?_
  rintro e v2 ⟨rT, kT, rfl, ho, gg⟩
  have RT := Lib.hid (ho.mono (Nat.zero_le _))
  clear ho
  replace E := Lib.hid (E.out.trans gg)
  replace HQ := Lib.hid (HQ.out.ext gg)
  replace HX := Lib.hid (HX.out.ext gg)
  replace HY := Lib.hid (HY.out.ext gg)
  replace RZ := Lib.hid (RZ.out.ext gg)
  replace C0 := Lib.hid (gg.cell (p := ⟨O, 0, none⟩) C0.out)
  replace C1 := Lib.hid (gg.cell (p := ⟨O, 1, none⟩) C1.out)
  clear gg
  obtain ⟨hs, hgx, hgy⟩ := codeM_of2 hc
  clear hc
  have HSP := Lib.hid (hs)
  obtain ⟨hpr, hd1, hd6, hqb⟩ := space_of HSP.out
  have hpb := prime_bd hpr
  have HPR := Lib.hid hpr
  have HQB := Lib.hid hqb
  have HD := Lib.hid HQ.out.1
  rw [HD.out] at hd6 hd1
  obtain ⟨N, hN⟩ : ∃ N, N = 2 ^ d := ⟨_, rfl⟩
  have HN := Lib.hid hN
  have hN6 : N ≤ 64 := by rw [hN]; exact pow_le64 hd6
  have hN1 : 1 ≤ N := by rw [hN]; exact pow_pos' d
  have HPG := fun (tk : Nat → Nat → Bool) (x y : List Int) => Lib.hid (show Good p N (prodL p qs tk x y) by rw [hN, ← HD.out]; exact prod_good (by omega))
  have HNQ := Lib.hid (show N = 2 ^ qs.length by rw [hN, HD.out])
  clear hN hqb hpr
  obtain rfl : N = nx := by rw [← HX.out.1, HNQ.out]; exact hgx.1.symm
  obtain rfl : N = ny := by rw [← HY.out.1, HNQ.out]; exact hgy.1.symm
  have HGX := Lib.hid (show Good p N x by rw [HNQ.out]; exact hgx)
  clear hgx
  have HGY := Lib.hid (show Good p N y by rw [HNQ.out]; exact hgy)
  clear hgy
  clear hs
  have HZ := Lib.hid (show Good p N (prodL p qs tkA x y) from (HPG tkA x y).out)
  obtain ⟨gZ, rfl⟩ := RZ.out.addr (by omega)
  obtain ⟨gT, rfl⟩ := RT.out.addr (by omega)
  have x00 := C0.out
  have x01 := C1.out
  go_wp2_with (fail)
  clear x00 x01
  replace E := Lib.hid (E.out.trans (ext_drew v2))
  replace HQ := Lib.hid (HQ.out.ext (ext_drew v2))
  replace HX := Lib.hid (HX.out.ext (ext_drew v2))
  replace HY := Lib.hid (HY.out.ext (ext_drew v2))
  replace RZ := Lib.hid (RZ.out.ext (ext_drew v2))
  replace RT := Lib.hid (RT.out.ext (ext_drew v2))
  replace C0 := Lib.hid ((ext_drew v2).cell (p := ⟨O, 0, none⟩) C0.out)
  replace C1 := Lib.hid ((ext_drew v2).cell (p := ⟨O, 1, none⟩) C1.out)
  refine wp_region_lex [(6, .val (.bool true)), (12, .val (.bool (spaceB p qs && multiB p d x))), (15, .val (.bool (spaceB p qs && multiB p d x)))] (by kernel_rfl) (by kernel_rfl) ?_
  (refine LexW.pure (v := ?_) rfl rfl (fun w1 he => ?_) ?_; rotate_left; ( have x00 := (he.cell (p := ⟨O, 0, none⟩) C0.out); have x01 := (he.cell (p := ⟨O, 1, none⟩) C1.out); go_simp; rfl); simp only [Act.put, List.setIfInBounds_toArray, List.set_cons_zero, List.set_cons_succ])
  (refine LexW.pure (v := ?_) rfl rfl (fun w1 he => ?_) ?_; rotate_left; ( have x00 := (he.cell (p := ⟨O, 0, none⟩) C0.out); have x01 := (he.cell (p := ⟨O, 1, none⟩) C1.out); go_simp; rfl); simp only [Act.put, List.setIfInBounds_toArray, List.set_cons_zero, List.set_cons_succ])
  (refine LexW.pure (v := ?_) rfl rfl (fun w1 he => ?_) ?_; rotate_left; ( have x00 := (he.cell (p := ⟨O, 0, none⟩) C0.out); have x01 := (he.cell (p := ⟨O, 1, none⟩) C1.out); go_simp; rfl); simp only [Act.put, List.setIfInBounds_toArray, List.set_cons_zero, List.set_cons_succ])
  (refine LexW.pure (v := ?_) rfl rfl (fun w1 he => ?_) ?_; rotate_left; ( have x00 := (he.cell (p := ⟨O, 0, none⟩) C0.out); have x01 := (he.cell (p := ⟨O, 1, none⟩) C1.out); go_simp; rfl); simp only [Act.put, List.setIfInBounds_toArray, List.set_cons_zero, List.set_cons_succ])
  (refine LexW.pure (v := ?_) rfl rfl (fun w1 he => ?_) ?_; rotate_left; ( have x00 := (he.cell (p := ⟨O, 0, none⟩) C0.out); have x01 := (he.cell (p := ⟨O, 1, none⟩) C1.out); go_simp; rfl); simp only [Act.put, List.setIfInBounds_toArray, List.set_cons_zero, List.set_cons_succ])
  (refine LexW.pure (v := ?_) rfl rfl (fun w1 he => ?_) ?_; rotate_left; ( have x00 := (he.cell (p := ⟨O, 0, none⟩) C0.out); have x01 := (he.cell (p := ⟨O, 1, none⟩) C1.out); go_simp; rfl); simp only [Act.put, List.setIfInBounds_toArray, List.set_cons_zero, List.set_cons_succ])
  (refine LexW.call (f := ?_) (args := ?_) rfl rfl (fun w1 => ?_) (fun w1 he hdep => ?_) ?_; rotate_left 2; (go_simp; refine ⟨?_, ?_⟩ <;> rfl); ( have H := l_like (some ⟨gZ, 0, none⟩) (some ⟨gT, 0, none⟩) N N kZ kT _ _ w1 (by omega) (by omega) (RZ.out.rd.ext he) (RT.out.rd.ext he); rw [eqB_self] at H; exact H); simp only [Act.put, List.setIfInBounds_toArray, List.set_cons_zero, List.set_cons_succ])
  (refine LexW.pure (v := ?_) rfl rfl (fun w1 he => ?_) ?_; rotate_left; ( have x00 := (he.cell (p := ⟨O, 0, none⟩) C0.out); have x01 := (he.cell (p := ⟨O, 1, none⟩) C1.out); go_simp; rfl); simp only [Act.put, List.setIfInBounds_toArray, List.set_cons_zero, List.set_cons_succ])
  (refine LexW.pure (v := ?_) rfl rfl (fun w1 he => ?_) ?_; rotate_left; ( have x00 := (he.cell (p := ⟨O, 0, none⟩) C0.out); have x01 := (he.cell (p := ⟨O, 1, none⟩) C1.out); go_simp; rfl); simp only [Act.put, List.setIfInBounds_toArray, List.set_cons_zero, List.set_cons_succ])
  (refine LexW.pure (v := ?_) rfl rfl (fun w1 he => ?_) ?_; rotate_left; ( have x00 := (he.cell (p := ⟨O, 0, none⟩) C0.out); have x01 := (he.cell (p := ⟨O, 1, none⟩) C1.out); go_simp; rfl); simp only [Act.put, List.setIfInBounds_toArray, List.set_cons_zero, List.set_cons_succ])
  (refine LexW.pure (v := ?_) rfl rfl (fun w1 he => ?_) ?_; rotate_left; ( have x00 := (he.cell (p := ⟨O, 0, none⟩) C0.out); have x01 := (he.cell (p := ⟨O, 1, none⟩) C1.out); go_simp; rfl); simp only [Act.put, List.setIfInBounds_toArray, List.set_cons_zero, List.set_cons_succ])
  (refine LexW.pure (v := ?_) rfl rfl (fun w1 he => ?_) ?_; rotate_left; ( have x00 := (he.cell (p := ⟨O, 0, none⟩) C0.out); have x01 := (he.cell (p := ⟨O, 1, none⟩) C1.out); go_simp; rfl); simp only [Act.put, List.setIfInBounds_toArray, List.set_cons_zero, List.set_cons_succ])
  (refine LexW.call (f := ?_) (args := ?_) rfl rfl (fun w1 => ?_) (fun w1 he hdep => ?_) ?_; rotate_left 2; (go_simp; refine ⟨?_, ?_⟩ <;> rfl); ( exact c_IsMultivector p a d cap qs ax N cx x w1 (by omega) (by omega) (HQ.out.ext he) (HX.out.ext he)); simp only [Act.put, List.setIfInBounds_toArray, List.set_cons_zero, List.set_cons_succ])
  (refine LexW.pure (v := ?_) rfl rfl (fun w1 he => ?_) ?_; rotate_left; ( have x00 := (he.cell (p := ⟨O, 0, none⟩) C0.out); have x01 := (he.cell (p := ⟨O, 1, none⟩) C1.out); go_simp; rfl); simp only [Act.put, List.setIfInBounds_toArray, List.set_cons_zero, List.set_cons_succ])
  (refine LexW.pure (v := ?_) rfl rfl (fun w1 he => ?_) ?_; rotate_left; ( have x00 := (he.cell (p := ⟨O, 0, none⟩) C0.out); have x01 := (he.cell (p := ⟨O, 1, none⟩) C1.out); go_simp; rfl); simp only [Act.put, List.setIfInBounds_toArray, List.set_cons_zero, List.set_cons_succ])
  (refine LexW.call (f := ?_) (args := ?_) rfl rfl (fun w1 => ?_) (fun w1 he hdep => ?_) ?_; rotate_left 2; (go_simp; refine ⟨?_, ?_⟩ <;> rfl); ( exact s_IsMultivector p a d cap qs ax N cx x w1 (by omega) (by omega) (HQ.out.ext he) (HX.out.ext he)); simp only [Act.put, List.setIfInBounds_toArray, List.set_cons_zero, List.set_cons_succ])
  (refine LexW.pure (v := ?_) rfl rfl (fun w1 he => ?_) ?_; rotate_left; ( have x00 := (he.cell (p := ⟨O, 0, none⟩) C0.out); have x01 := (he.cell (p := ⟨O, 1, none⟩) C1.out); go_simp; rfl); simp only [Act.put, List.setIfInBounds_toArray, List.set_cons_zero, List.set_cons_succ])
  (refine LexW.pure (v := ?_) rfl rfl (fun w1 he => ?_) ?_; rotate_left; ( have x00 := (he.cell (p := ⟨O, 0, none⟩) C0.out); have x01 := (he.cell (p := ⟨O, 1, none⟩) C1.out); go_simp; rfl); simp only [Act.put, List.setIfInBounds_toArray, List.set_cons_zero, List.set_cons_succ])
  refine LexW.nil (fun w3 he hkn => ?_)
  have HE := Lib.hid he
  clear he hkn 
  rename World => v3
  replace E := Lib.hid (E.out.trans HE.out)
  replace HQ := Lib.hid (HQ.out.ext HE.out)
  replace HX := Lib.hid (HX.out.ext HE.out)
  replace HY := Lib.hid (HY.out.ext HE.out)
  replace RZ := Lib.hid (RZ.out.ext HE.out)
  replace RT := Lib.hid (RT.out.ext HE.out)
  replace C0 := Lib.hid (HE.out.cell (p := ⟨O, 0, none⟩) C0.out)
  replace C1 := Lib.hid (HE.out.cell (p := ⟨O, 1, none⟩) C1.out)
  clear HE
  clear RT
  have x00 := C0.out
  have x01 := C1.out
  go_wp2_with (fail)
  clear x00 x01
  refine Calls.mono (l_roll ac nc cc 836 v3 (by omega) (HB.out.ext E.out)) ?_
  rintro e v4 ⟨g, rfl, hg, hS, gg⟩
  obtain ⟨S, hSe⟩ : ∃ S : SrcP, S = ⟨g, ac, nc, cc⟩ := ⟨_, rfl⟩
  obtain rfl : g = S.g := by rw [hSe]
  rw [← hSe] at hS
  have HS := Lib.hid hS
  have E0 := Lib.hid gg
  have hgB : v3.heap.size ≤ S.g := hg
  have hgO : O ≠ S.g := by have := lt_of_cell C0.out; dsimp only at this; omega
  clear hSe hS gg hg
  have x00 := (E0.out.cell (p := ⟨O, 0, none⟩) C0.out)
  have x01 := (E0.out.cell (p := ⟨O, 1, none⟩) C1.out)
  go_wp2_with (fail)
  clear x00 x01
  replace E0 := Lib.hid (E0.out.trans (ext_drew v4))
  replace HS := Lib.hid ((Drw.of_ext (S := S) (ext_drew v4)).src HS.out)
  refine Chg.wp_region_lex (E := Drw.rel S) [(2, .val (.int .i64 N)), (5, .ownP S (S.g + 1) N (Good p N) (Nat.lt_succ_self _))] (by kernel_rfl) (by kernel_rfl) ?_
  (refine Chg.LexW.pure (v := ?_) rfl rfl (fun w1 he => ?_) ?_; rotate_left; ( have he' : Drw S _ _ := he; have x00 := (he'.cell (p := ⟨O, 0, none⟩) hgO (E0.out.cell (p := ⟨O, 0, none⟩) C0.out)); have x01 := (he'.cell (p := ⟨O, 1, none⟩) hgO (E0.out.cell (p := ⟨O, 1, none⟩) C1.out)); go_simp; rfl); simp only [Act.put, List.setIfInBounds_toArray, List.set_cons_zero, List.set_cons_succ])
  (refine Chg.LexW.pure (v := ?_) rfl rfl (fun w1 he => ?_) ?_; rotate_left; ( have he' : Drw S _ _ := he; have x00 := (he'.cell (p := ⟨O, 0, none⟩) hgO (E0.out.cell (p := ⟨O, 0, none⟩) C0.out)); have x01 := (he'.cell (p := ⟨O, 1, none⟩) hgO (E0.out.cell (p := ⟨O, 1, none⟩) C1.out)); go_simp; rfl); simp only [Act.put, List.setIfInBounds_toArray, List.set_cons_zero, List.set_cons_succ])
  (refine Chg.LexW.call (f := ?_) (args := ?_) rfl rfl (fun w1 => ?_) (fun w1 he hdep => ?_) ?_; rotate_left 2; (go_simp; refine ⟨?_, ?_⟩ <;> rfl); ( have he' : Drw S _ _ := he; have H := l_size5 p a d cap w1 hd6 HN.out; exact H.mono fun e w' h => ⟨h.1, Drw.of_ext h.2⟩); simp only [Act.put, List.setIfInBounds_toArray, List.set_cons_zero, List.set_cons_succ])
  (refine Chg.LexW.pure (v := ?_) rfl rfl (fun w1 he => ?_) ?_; rotate_left; ( have he' : Drw S _ _ := he; have x00 := (he'.cell (p := ⟨O, 0, none⟩) hgO (E0.out.cell (p := ⟨O, 0, none⟩) C0.out)); have x01 := (he'.cell (p := ⟨O, 1, none⟩) hgO (E0.out.cell (p := ⟨O, 1, none⟩) C1.out)); go_simp; rfl); simp only [Act.put, List.setIfInBounds_toArray, List.set_cons_zero, List.set_cons_succ])
  (refine Chg.LexW.pure (v := ?_) rfl rfl (fun w1 he => ?_) ?_; rotate_left; ( have he' : Drw S _ _ := he; have x00 := (he'.cell (p := ⟨O, 0, none⟩) hgO (E0.out.cell (p := ⟨O, 0, none⟩) C0.out)); have x01 := (he'.cell (p := ⟨O, 1, none⟩) hgO (E0.out.cell (p := ⟨O, 1, none⟩) C1.out)); go_simp; rfl); simp only [Act.put, List.setIfInBounds_toArray, List.set_cons_zero, List.set_cons_succ])
  (refine Chg.LexW.callR (f := ?_) (args := ?_) rfl rfl (fun w1 => ?_) (fun w1 he hdep => ?_) (fun v hv => ?_); rotate_left 2; (go_simp; refine ⟨?_, ?_⟩ <;> rfl); ( have he' : Drw S _ _ := he; (refine Calls.mono (l_list5 S p N _ (he'.src HS.out) (by omega) (by omega)) ?_; rintro e w9 ⟨a9, c9, x9, rfl, ho9, hb9, g9⟩; obtain ⟨g8, _, rfl, _⟩ := ho9.row (by omega); exact ⟨_, rfl, g9, g8, c9, x9, rfl, isB_Good ho9.1 (hb9 (by omega)), ho9.mono (Nat.le_trans HS.out.lt he'.size)⟩)); simp only [Act.put, List.setIfInBounds_toArray, List.set_cons_zero, List.set_cons_succ])
  obtain ⟨_, gU, cU, _, rfl, _⟩ := hv
  (refine Chg.LexW.pure (v := ?_) rfl rfl (fun w1 he => ?_) ?_; rotate_left; ( have he' : Drw S _ _ := he; have x00 := (he'.cell (p := ⟨O, 0, none⟩) hgO (E0.out.cell (p := ⟨O, 0, none⟩) C0.out)); have x01 := (he'.cell (p := ⟨O, 1, none⟩) hgO (E0.out.cell (p := ⟨O, 1, none⟩) C1.out)); go_simp; rfl); simp only [Act.put, List.setIfInBounds_toArray, List.set_cons_zero, List.set_cons_succ])
  refine Chg.LexW.nil (fun v5 he hkn => ?_)
  have gg : Drw S v4.drew v5 := he
  obtain ⟨_, _, u, qU, pU, rU⟩ : (Chg.SPred.ownP S (S.g + 1) N (Good p N) (Nat.lt_succ_self _)).holds (.slice (some ⟨gU, 0, none⟩) N cU) _ := hkn (5, _) (by simp)
  cases qU
  have RU := Lib.hid rU
  have HGU := Lib.hid pU
  clear rU pU
  replace E0 := Lib.hid (gg.toExt E0.out hgB)
  replace HS := Lib.hid (gg.src HS.out)
  clear gg he hkn
  have x00 := (E0.out.cell (p := ⟨O, 0, none⟩) C0.out)
  have x01 := (E0.out.cell (p := ⟨O, 1, none⟩) C1.out)
  go_wp2_with (fail)
  clear x00 x01
  refine Calls.mono (c_AddMultivectors_ok p a d cap qs _ _ y _ _ u v5 HN.out HSP.out (HQ.out.ext E0.out) (HY.out.ext E0.out) RU.out.rd HGY.out HGU.out) ?_
  rintro e v6 ⟨gA, cA, rfl, ho, gg⟩
  have RA := Lib.hid (ho.mono (show S.g + 1 ≤ _ from HS.out.lt))
  clear ho
  replace E0 := Lib.hid (E0.out.trans gg)
  replace HS := Lib.hid ((Drw.of_ext (S := S) gg).src HS.out)
  replace RU := Lib.hid (RU.out.ext gg)
  clear gg
  have x00 := (E0.out.cell (p := ⟨O, 0, none⟩) C0.out)
  have x01 := (E0.out.cell (p := ⟨O, 1, none⟩) C1.out)
  go_wp2_with (fail)
  clear x00 x01
  refine Calls.mono (c_ScalarOf_ok p a d cap qs _ _ (prodL p qs tkA x y) v6 HN.out HSP.out (HQ.out.ext E0.out) (RZ.out.rd.ext E0.out) HZ.out) ?_
  rintro e v7 ⟨rfl, gg⟩
  replace E0 := Lib.hid (E0.out.trans gg)
  replace HS := Lib.hid ((Drw.of_ext (S := S) gg).src HS.out)
  replace RU := Lib.hid (RU.out.ext gg)
  replace RA := Lib.hid (RA.out.ext gg)
  clear gg
  have x00 := (E0.out.cell (p := ⟨O, 0, none⟩) C0.out)
  have x01 := (E0.out.cell (p := ⟨O, 1, none⟩) C1.out)
  go_wp2_with (fail)
  clear x00 x01
  replace E0 := Lib.hid (E0.out.trans (ext_drew v7))
  replace HS := Lib.hid ((Drw.of_ext (S := S) (ext_drew v7)).src HS.out)
  replace RU := Lib.hid (RU.out.ext (ext_drew v7))
  replace RA := Lib.hid (RA.out.ext (ext_drew v7))
  refine wp_region_lex [(4, .ownS (S.g + 1) N (prodL p qs tkA y x)), (5, .val (.tuple #[.int .i64 (nth (prodL p qs tkA y x) 0), .int .i64 0]))] (by kernel_rfl) (by kernel_rfl) ?_
  (refine LexW.pure (v := ?_) rfl rfl (fun w1 he => ?_) ?_; rotate_left; ( have x00 := (he.cell (p := ⟨O, 0, none⟩) (E0.out.cell (p := ⟨O, 0, none⟩) C0.out)); have x01 := (he.cell (p := ⟨O, 1, none⟩) (E0.out.cell (p := ⟨O, 1, none⟩) C1.out)); go_simp; rfl); simp only [Act.put, List.setIfInBounds_toArray, List.set_cons_zero, List.set_cons_succ])
  (refine LexW.pure (v := ?_) rfl rfl (fun w1 he => ?_) ?_; rotate_left; ( have x00 := (he.cell (p := ⟨O, 0, none⟩) (E0.out.cell (p := ⟨O, 0, none⟩) C0.out)); have x01 := (he.cell (p := ⟨O, 1, none⟩) (E0.out.cell (p := ⟨O, 1, none⟩) C1.out)); go_simp; rfl); simp only [Act.put, List.setIfInBounds_toArray, List.set_cons_zero, List.set_cons_succ])
  (refine LexW.pure (v := ?_) rfl rfl (fun w1 he => ?_) ?_; rotate_left; ( have x00 := (he.cell (p := ⟨O, 0, none⟩) (E0.out.cell (p := ⟨O, 0, none⟩) C0.out)); have x01 := (he.cell (p := ⟨O, 1, none⟩) (E0.out.cell (p := ⟨O, 1, none⟩) C1.out)); go_simp; rfl); simp only [Act.put, List.setIfInBounds_toArray, List.set_cons_zero, List.set_cons_succ])
  (refine LexW.pure (v := ?_) rfl rfl (fun w1 he => ?_) ?_; rotate_left; ( have x00 := (he.cell (p := ⟨O, 0, none⟩) (E0.out.cell (p := ⟨O, 0, none⟩) C0.out)); have x01 := (he.cell (p := ⟨O, 1, none⟩) (E0.out.cell (p := ⟨O, 1, none⟩) C1.out)); go_simp; rfl); simp only [Act.put, List.setIfInBounds_toArray, List.set_cons_zero, List.set_cons_succ])
  (refine LexW.callR (f := ?_) (args := ?_) rfl rfl (fun w1 => ?_) (fun w1 he hdep => ?_) (fun v hv => ?_); rotate_left 2; (go_simp; refine ⟨?_, ?_⟩ <;> rfl); ( refine (l_times5 p a d cap qs _ _ y _ _ x w1 HN.out HSP.out (HQ.out.ext (E0.out.trans he)) (HY.out.ext (E0.out.trans he)) (HX.out.ext (E0.out.trans he)) HGY.out HGX.out).mono ?_; rintro e w2 ⟨g, rc, rfl, ho, g2⟩; exact ⟨_, rfl, g2, g, rc, rfl, ho.mono (Nat.le_trans HS.out.lt he.size)⟩); simp only [Act.put, List.setIfInBounds_toArray, List.set_cons_zero, List.set_cons_succ])
  obtain ⟨_, g94, c94, rfl, _⟩ := hv
  (refine LexW.call (f := ?_) (args := ?_) rfl rfl (fun w1 => ?_) (fun w1 he hdep => ?_) ?_; rotate_left 2; (go_simp; refine ⟨?_, ?_⟩ <;> rfl); ( obtain ⟨_, _, q94, r94⟩ : (SPred.ownS (S.g + 1) N (prodL p qs tkA y x)).holds (.slice (some ⟨g94, 0, none⟩) N c94) w1 := hdep (4, 94) (by decide +kernel); cases q94; exact c_ScalarOf_ok p a d cap qs _ _ (prodL p qs tkA y x) w1 HN.out HSP.out (HQ.out.ext (E0.out.trans he)) r94.rd (HPG tkA y x).out); simp only [Act.put, List.setIfInBounds_toArray, List.set_cons_zero, List.set_cons_succ])
  (refine LexW.pure (v := ?_) rfl rfl (fun w1 he => ?_) ?_; rotate_left; ( have x00 := (he.cell (p := ⟨O, 0, none⟩) (E0.out.cell (p := ⟨O, 0, none⟩) C0.out)); have x01 := (he.cell (p := ⟨O, 1, none⟩) (E0.out.cell (p := ⟨O, 1, none⟩) C1.out)); go_simp; rfl); simp only [Act.put, List.setIfInBounds_toArray, List.set_cons_zero, List.set_cons_succ])
  (refine LexW.pure (v := ?_) rfl rfl (fun w1 he => ?_) ?_; rotate_left; ( have x00 := (he.cell (p := ⟨O, 0, none⟩) (E0.out.cell (p := ⟨O, 0, none⟩) C0.out)); have x01 := (he.cell (p := ⟨O, 1, none⟩) (E0.out.cell (p := ⟨O, 1, none⟩) C1.out)); go_simp; rfl); simp only [Act.put, List.setIfInBounds_toArray, List.set_cons_zero, List.set_cons_succ])
  (refine LexW.pure (v := ?_) rfl rfl (fun w1 he => ?_) ?_; rotate_left; ( have x00 := (he.cell (p := ⟨O, 0, none⟩) (E0.out.cell (p := ⟨O, 0, none⟩) C0.out)); have x01 := (he.cell (p := ⟨O, 1, none⟩) (E0.out.cell (p := ⟨O, 1, none⟩) C1.out)); go_simp; rfl); simp only [Act.put, List.setIfInBounds_toArray, List.set_cons_zero, List.set_cons_succ])
  (refine LexW.pure (v := ?_) rfl rfl (fun w1 he => ?_) ?_; rotate_left; ( have x00 := (he.cell (p := ⟨O, 0, none⟩) (E0.out.cell (p := ⟨O, 0, none⟩) C0.out)); have x01 := (he.cell (p := ⟨O, 1, none⟩) (E0.out.cell (p := ⟨O, 1, none⟩) C1.out)); go_simp; rfl); simp only [Act.put, List.setIfInBounds_toArray, List.set_cons_zero, List.set_cons_succ])
  (refine LexW.pure (v := ?_) rfl rfl (fun w1 he => ?_) ?_; rotate_left; ( have x00 := (he.cell (p := ⟨O, 0, none⟩) (E0.out.cell (p := ⟨O, 0, none⟩) C0.out)); have x01 := (he.cell (p := ⟨O, 1, none⟩) (E0.out.cell (p := ⟨O, 1, none⟩) C1.out)); go_simp; rfl); simp only [Act.put, List.setIfInBounds_toArray, List.set_cons_zero, List.set_cons_succ])
  refine LexW.nil (fun w3 he hkn => ?_)
  have HE := Lib.hid he
  clear he hkn 
  rename World => v8
  replace E0 := Lib.hid (E0.out.trans HE.out)
  replace HS := Lib.hid ((Drw.of_ext (S := S) HE.out).src HS.out)
  replace RU := Lib.hid (RU.out.ext HE.out)
  replace RA := Lib.hid (RA.out.ext HE.out)
  clear HE
  have x00 := (E0.out.cell (p := ⟨O, 0, none⟩) C0.out)
  have x01 := (E0.out.cell (p := ⟨O, 1, none⟩) C1.out)
  go_wp2_with (fail)
  clear x00 x01
  refine Calls.mono (l_below S 8 v8 HS.out (by decide)) ?_
  rintro e v9 ⟨m0, rfl, hm, gg⟩
  obtain ⟨m, rfl⟩ : ∃ m : Nat, m0 = (m : Int) := ⟨m0.toNat, by have := hm.2 (by decide); omega⟩
  have hm8 : m < 8 := by have := hm.2 (by decide); omega
  clear hm
  replace E0 := Lib.hid (gg.toExt E0.out hgB)
  replace HS := Lib.hid (gg.src HS.out)
  replace RU := Lib.hid (gg.own RU.out (Nat.lt_succ_self _))
  replace RA := Lib.hid (gg.own RA.out (Nat.lt_succ_self _))
  clear gg
  have x00 := (E0.out.cell (p := ⟨O, 0, none⟩) C0.out)
  have x01 := (E0.out.cell (p := ⟨O, 1, none⟩) C1.out)
  go_wp2_with (fail)
  clear x00 x01
  refine Calls.mono (l_below S 8 v9 HS.out (by decide)) ?_
  rintro e v10 ⟨n0, rfl, hn, gg⟩
  obtain ⟨n, rfl⟩ : ∃ n : Nat, n0 = (n : Int) := ⟨n0.toNat, by have := hn.2 (by decide); omega⟩
  have hn8 : n < 8 := by have := hn.2 (by decide); omega
  clear hn
  replace E0 := Lib.hid (gg.toExt E0.out hgB)
  replace HS := Lib.hid (gg.src HS.out)
  replace RU := Lib.hid (gg.own RU.out (Nat.lt_succ_self _))
  replace RA := Lib.hid (gg.own RA.out (Nat.lt_succ_self _))
  clear gg
  replace E := Lib.hid (E.out.trans E0.out)
  replace HQ := Lib.hid (HQ.out.ext E0.out)
  replace HX := Lib.hid (HX.out.ext E0.out)
  replace HY := Lib.hid (HY.out.ext E0.out)
  replace RZ := Lib.hid (RZ.out.ext E0.out)
  replace C0 := Lib.hid (E0.out.cell (p := ⟨O, 0, none⟩) C0.out)
  replace C1 := Lib.hid (E0.out.cell (p := ⟨O, 1, none⟩) C1.out)
  clear E0 HS hgB hgO
  replace RU := Lib.hid (RU.out.mono (Nat.zero_le _))
  replace RA := Lib.hid (RA.out.mono (Nat.zero_le _))
  have x00 := C0.out
  have x01 := C1.out
  go_wp2_with (fail)
  clear x00 x01
  refine Calls.mono (c_PowerOf_ok p a d cap qs _ N _ x (m : Int) v10 (by omega) (by omega) HQ.out HX.out (by unfold codeP; rw [codeM_one0 HSP.out (by rw [← HNQ.out]; exact HGX.out), if_pos rfl, if_pos]; simp [inB]; omega)) ?_
  rintro e v11 ⟨rP1, kP1, rfl, ho, gg⟩
  obtain ⟨gP1, rfl⟩ := ho.addr (by omega)
  have RP1 := Lib.hid (ho.mono (Nat.zero_le _))
  clear ho
  replace E := Lib.hid (E.out.trans gg)
  replace HQ := Lib.hid (HQ.out.ext gg)
  replace HX := Lib.hid (HX.out.ext gg)
  replace HY := Lib.hid (HY.out.ext gg)
  replace RZ := Lib.hid (RZ.out.ext gg)
  replace RU := Lib.hid (RU.out.ext gg)
  replace RA := Lib.hid (RA.out.ext gg)
  replace C0 := Lib.hid (gg.cell (p := ⟨O, 0, none⟩) C0.out)
  replace C1 := Lib.hid (gg.cell (p := ⟨O, 1, none⟩) C1.out)
  clear gg
  have HGP1 := Lib.hid (show Good p N (powL p qs x ((m : Int)).toNat) by rw [HNQ.out]; exact pow_good hpb.1 _)
  have x00 := C0.out
  have x01 := C1.out
  go_wp2_with (fail)
  clear x00 x01
  refine Calls.mono (c_PowerOf_ok p a d cap qs _ N _ x (n : Int) v11 (by omega) (by omega) HQ.out HX.out (by unfold codeP; rw [codeM_one0 HSP.out (by rw [← HNQ.out]; exact HGX.out), if_pos rfl, if_pos]; simp [inB]; omega)) ?_
  rintro e v12 ⟨rP2, kP2, rfl, ho, gg⟩
  obtain ⟨gP2, rfl⟩ := ho.addr (by omega)
  have RP2 := Lib.hid (ho.mono (Nat.zero_le _))
  clear ho
  replace E := Lib.hid (E.out.trans gg)
  replace HQ := Lib.hid (HQ.out.ext gg)
  replace HX := Lib.hid (HX.out.ext gg)
  replace HY := Lib.hid (HY.out.ext gg)
  replace RZ := Lib.hid (RZ.out.ext gg)
  replace RU := Lib.hid (RU.out.ext gg)
  replace RA := Lib.hid (RA.out.ext gg)
  replace RP1 := Lib.hid (RP1.out.ext gg)
  replace C0 := Lib.hid (gg.cell (p := ⟨O, 0, none⟩) C0.out)
  replace C1 := Lib.hid (gg.cell (p := ⟨O, 1, none⟩) C1.out)
  clear gg
  have HGP2 := Lib.hid (show Good p N (powL p qs x ((n : Int)).toNat) by rw [HNQ.out]; exact pow_good hpb.1 _)
  have hwmn : wrap64 ((m : Int) + (n : Int)) = (m : Int) + (n : Int) := by unfold wrap64; omega
  have x00 := C0.out
  have x01 := C1.out
  go_wp2_with (fail)
  clear x00 x01
  refine Calls.mono (c_PowerOf_ok p a d cap qs _ N _ x ((m : Int) + (n : Int)) v12 (by omega) (by omega) HQ.out HX.out (by unfold codeP; rw [codeM_one0 HSP.out (by rw [← HNQ.out]; exact HGX.out), if_pos rfl, if_pos]; simp [inB]; omega)) ?_
  rintro e v13 ⟨rP3, kP3, rfl, ho, gg⟩
  obtain ⟨gP3, rfl⟩ := ho.addr (by omega)
  have RP3 := Lib.hid (ho.mono (Nat.zero_le _))
  clear ho
  replace E := Lib.hid (E.out.trans gg)
  replace HQ := Lib.hid (HQ.out.ext gg)
  replace HX := Lib.hid (HX.out.ext gg)
  replace HY := Lib.hid (HY.out.ext gg)
  replace RZ := Lib.hid (RZ.out.ext gg)
  replace RU := Lib.hid (RU.out.ext gg)
  replace RA := Lib.hid (RA.out.ext gg)
  replace RP1 := Lib.hid (RP1.out.ext gg)
  replace RP2 := Lib.hid (RP2.out.ext gg)
  replace C0 := Lib.hid (gg.cell (p := ⟨O, 0, none⟩) C0.out)
  replace C1 := Lib.hid (gg.cell (p := ⟨O, 1, none⟩) C1.out)
  clear gg
  have HGP3 := Lib.hid (show Good p N (powL p qs x (((m : Int) + (n : Int))).toNat) by rw [HNQ.out]; exact pow_good hpb.1 _)
  have hsc : (nth (prodL p qs tkA x y) 0 != nth (prodL p qs tkA y x) 0) = false := by rw [sum_comm0 (by omega)]; simp
  have x00 := C0.out
  have x01 := C1.out
  go_wp2_with (fail)
  clear x00 x01
  have HAS := Lib.hid (show prodL p qs tkA (prodL p qs tkA x y) u = prodL p qs tkA x (prodL p qs tkA y u) from prod_assoc (by omega) (by rw [HD.out]; exact hd6))
  have HDI := Lib.hid (show prodL p qs tkA x (plusL p y u 1 N) = plusL p (prodL p qs tkA x y) (prodL p qs tkA x u) 1 N by rw [HNQ.out]; exact prod_plus_right (by omega))
  have HPW := Lib.hid (show prodL p qs tkA (powL p qs x (m : Int).toNat) (powL p qs x (n : Int).toNat) = powL p qs x ((m : Int) + (n : Int)).toNat by rw [pow_add hpb.1 (by rw [HD.out]; exact hd6)]; congr 1)
  have HGA := Lib.hid (show Good p N (plusL p y u 1 N) from plus_good (by omega))
  replace E := Lib.hid (E.out.trans (ext_drew v13))
  replace HQ := Lib.hid (HQ.out.ext (ext_drew v13))
  replace HX := Lib.hid (HX.out.ext (ext_drew v13))
  replace HY := Lib.hid (HY.out.ext (ext_drew v13))
  replace RZ := Lib.hid (RZ.out.ext (ext_drew v13))
  replace RU := Lib.hid (RU.out.ext (ext_drew v13))
  replace RA := Lib.hid (RA.out.ext (ext_drew v13))
  replace RP1 := Lib.hid (RP1.out.ext (ext_drew v13))
  replace RP2 := Lib.hid (RP2.out.ext (ext_drew v13))
  replace RP3 := Lib.hid (RP3.out.ext (ext_drew v13))
  replace C0 := Lib.hid ((ext_drew v13).cell (p := ⟨O, 0, none⟩) C0.out)
  replace C1 := Lib.hid ((ext_drew v13).cell (p := ⟨O, 1, none⟩) C1.out)
  refine wp_region_lex [(3, .ownS 0 N (prodL p qs tkA (prodL p qs tkA (x) (y)) (u))), (9, .ownS 0 N (prodL p qs tkA (y) (u))), (10, .ownS 0 N (prodL p qs tkA (x) (prodL p qs tkA (y) (u)))), (11, .val (.bool true)), (16, .ownS 0 N (prodL p qs tkA (x) (plusL p y u 1 N))), (23, .ownS 0 N (prodL p qs tkA (x) (u))), (24, .ownS 0 N (plusL p (prodL p qs tkA x y) (prodL p qs tkA x u) 1 N)), (25, .val (.bool true)), (31, .ownS 0 N (prodL p qs tkA (powL p qs x (m : Int).toNat) (powL p qs x (n : Int).toNat))), (33, .val (.bool true))] (by kernel_rfl) (by kernel_rfl) ?_
  (refine LexW.pure (v := ?_) rfl rfl (fun w1 he => ?_) ?_; rotate_left; ( have x00 := (he.cell (p := ⟨O, 0, none⟩) C0.out); have x01 := (he.cell (p := ⟨O, 1, none⟩) C1.out); go_simp; rfl); simp only [Act.put, List.setIfInBounds_toArray, List.set_cons_zero, List.set_cons_succ])
  (refine LexW.pure (v := ?_) rfl rfl (fun w1 he => ?_) ?_; rotate_left; ( have x00 := (he.cell (p := ⟨O, 0, none⟩) C0.out); have x01 := (he.cell (p := ⟨O, 1, none⟩) C1.out); go_simp; rfl); simp only [Act.put, List.setIfInBounds_toArray, List.set_cons_zero, List.set_cons_succ])
  (refine LexW.pure (v := ?_) rfl rfl (fun w1 he => ?_) ?_; rotate_left; ( have x00 := (he.cell (p := ⟨O, 0, none⟩) C0.out); have x01 := (he.cell (p := ⟨O, 1, none⟩) C1.out); go_simp; rfl); simp only [Act.put, List.setIfInBounds_toArray, List.set_cons_zero, List.set_cons_succ])
  (refine LexW.callR (f := ?_) (args := ?_) rfl rfl (fun w1 => ?_) (fun w1 he hdep => ?_) (fun v hv => ?_); rotate_left 2; (go_simp; refine ⟨?_, ?_⟩ <;> rfl); ( refine (l_times5 p a d cap qs _ _ (prodL p qs tkA (x) (y)) _ _ (u) w1 HN.out HSP.out (HQ.out.ext he) (RZ.out.rd.ext he) (RU.out.rd.ext he) HZ.out HGU.out).mono ?_; rintro e w2 ⟨g, rc, rfl, ho, g2⟩; exact ⟨_, rfl, g2, g, rc, rfl, ho.mono (Nat.zero_le _)⟩); simp only [Act.put, List.setIfInBounds_toArray, List.set_cons_zero, List.set_cons_succ])
  obtain ⟨_, g155, c155, rfl, _⟩ := hv
  (refine LexW.pure (v := ?_) rfl rfl (fun w1 he => ?_) ?_; rotate_left; ( have x00 := (he.cell (p := ⟨O, 0, none⟩) C0.out); have x01 := (he.cell (p := ⟨O, 1, none⟩) C1.out); go_simp; rfl); simp only [Act.put, List.setIfInBounds_toArray, List.set_cons_zero, List.set_cons_succ])
  (refine LexW.pure (v := ?_) rfl rfl (fun w1 he => ?_) ?_; rotate_left; ( have x00 := (he.cell (p := ⟨O, 0, none⟩) C0.out); have x01 := (he.cell (p := ⟨O, 1, none⟩) C1.out); go_simp; rfl); simp only [Act.put, List.setIfInBounds_toArray, List.set_cons_zero, List.set_cons_succ])
  (refine LexW.pure (v := ?_) rfl rfl (fun w1 he => ?_) ?_; rotate_left; ( have x00 := (he.cell (p := ⟨O, 0, none⟩) C0.out); have x01 := (he.cell (p := ⟨O, 1, none⟩) C1.out); go_simp; rfl); simp only [Act.put, List.setIfInBounds_toArray, List.set_cons_zero, List.set_cons_succ])
  (refine LexW.pure (v := ?_) rfl rfl (fun w1 he => ?_) ?_; rotate_left; ( have x00 := (he.cell (p := ⟨O, 0, none⟩) C0.out); have x01 := (he.cell (p := ⟨O, 1, none⟩) C1.out); go_simp; rfl); simp only [Act.put, List.setIfInBounds_toArray, List.set_cons_zero, List.set_cons_succ])
  (refine LexW.pure (v := ?_) rfl rfl (fun w1 he => ?_) ?_; rotate_left; ( have x00 := (he.cell (p := ⟨O, 0, none⟩) C0.out); have x01 := (he.cell (p := ⟨O, 1, none⟩) C1.out); go_simp; rfl); simp only [Act.put, List.setIfInBounds_toArray, List.set_cons_zero, List.set_cons_succ])
  (refine LexW.callR (f := ?_) (args := ?_) rfl rfl (fun w1 => ?_) (fun w1 he hdep => ?_) (fun v hv => ?_); rotate_left 2; (go_simp; refine ⟨?_, ?_⟩ <;> rfl); ( refine (l_times5 p a d cap qs _ _ (y) _ _ (u) w1 HN.out HSP.out (HQ.out.ext he) (HY.out.ext he) (RU.out.rd.ext he) HGY.out HGU.out).mono ?_; rintro e w2 ⟨g, rc, rfl, ho, g2⟩; exact ⟨_, rfl, g2, g, rc, rfl, ho.mono (Nat.zero_le _)⟩); simp only [Act.put, List.setIfInBounds_toArray, List.set_cons_zero, List.set_cons_succ])
  obtain ⟨_, g161, c161, rfl, _⟩ := hv
  (refine LexW.callR (f := ?_) (args := ?_) rfl rfl (fun w1 => ?_) (fun w1 he hdep => ?_) (fun v hv => ?_); rotate_left 2; (go_simp; refine ⟨?_, ?_⟩ <;> rfl); ( obtain ⟨_, _, q161, r161⟩ : (SPred.ownS 0 N (prodL p qs tkA (y) (u))).holds (.slice (some ⟨g161, 0, none⟩) N c161) w1 := hdep (9, 161) (by decide +kernel); cases q161; refine (l_times5 p a d cap qs _ _ (x) _ _ (prodL p qs tkA (y) (u)) w1 HN.out HSP.out (HQ.out.ext he) (HX.out.ext he) r161.rd HGX.out (HPG tkA y u).out).mono ?_; rintro e w2 ⟨g, rc, rfl, ho, g2⟩; exact ⟨_, rfl, g2, g, rc, rfl, ho.mono (Nat.zero_le _)⟩); simp only [Act.put, List.setIfInBounds_toArray, List.set_cons_zero, List.set_cons_succ])
  obtain ⟨_, g162, c162, rfl, _⟩ := hv
  (refine LexW.call (f := ?_) (args := ?_) rfl rfl (fun w1 => ?_) (fun w1 he hdep => ?_) ?_; rotate_left 2; (go_simp; refine ⟨?_, ?_⟩ <;> rfl); ( obtain ⟨_, _, q155, r155⟩ : (SPred.ownS 0 N (prodL p qs tkA (prodL p qs tkA (x) (y)) (u))).holds (.slice (some ⟨g155, 0, none⟩) N c155) w1 := hdep (3, 155) (by decide +kernel); cases q155; obtain ⟨_, _, q162, r162⟩ : (SPred.ownS 0 N (prodL p qs tkA (x) (prodL p qs tkA (y) (u)))).holds (.slice (some ⟨g162, 0, none⟩) N c162) w1 := hdep (10, 162) (by decide +kernel); cases q162; have H := l_like (some ⟨g155, 0, none⟩) (some ⟨g162, 0, none⟩) N N c155 c162 _ _ w1 (by omega) (by omega) r155.rd r162.rd; rw [HAS.out, eqB_self] at H; exact H); simp only [Act.put, List.setIfInBounds_toArray, List.set_cons_zero, List.set_cons_succ])
  (refine LexW.pure (v := ?_) rfl rfl (fun w1 he => ?_) ?_; rotate_left; ( have x00 := (he.cell (p := ⟨O, 0, none⟩) C0.out); have x01 := (he.cell (p := ⟨O, 1, none⟩) C1.out); go_simp; rfl); simp only [Act.put, List.setIfInBounds_toArray, List.set_cons_zero, List.set_cons_succ])
  (refine LexW.pure (v := ?_) rfl rfl (fun w1 he => ?_) ?_; rotate_left; ( have x00 := (he.cell (p := ⟨O, 0, none⟩) C0.out); have x01 := (he.cell (p := ⟨O, 1, none⟩) C1.out); go_simp; rfl); simp only [Act.put, List.setIfInBounds_toArray, List.set_cons_zero, List.set_cons_succ])
  (refine LexW.pure (v := ?_) rfl rfl (fun w1 he => ?_) ?_; rotate_left; ( have x00 := (he.cell (p := ⟨O, 0, none⟩) C0.out); have x01 := (he.cell (p := ⟨O, 1, none⟩) C1.out); go_simp; rfl); simp only [Act.put, List.setIfInBounds_toArray, List.set_cons_zero, List.set_cons_succ])
  (refine LexW.pure (v := ?_) rfl rfl (fun w1 he => ?_) ?_; rotate_left; ( have x00 := (he.cell (p := ⟨O, 0, none⟩) C0.out); have x01 := (he.cell (p := ⟨O, 1, none⟩) C1.out); go_simp; rfl); simp only [Act.put, List.setIfInBounds_toArray, List.set_cons_zero, List.set_cons_succ])
  (refine LexW.callR (f := ?_) (args := ?_) rfl rfl (fun w1 => ?_) (fun w1 he hdep => ?_) (fun v hv => ?_); rotate_left 2; (go_simp; refine ⟨?_, ?_⟩ <;> rfl); ( refine (l_times5 p a d cap qs _ _ (x) _ _ (plusL p y u 1 N) w1 HN.out HSP.out (HQ.out.ext he) (HX.out.ext he) (RA.out.rd.ext he) HGX.out HGA.out).mono ?_; rintro e w2 ⟨g, rc, rfl, ho, g2⟩; exact ⟨_, rfl, g2, g, rc, rfl, ho.mono (Nat.zero_le _)⟩); simp only [Act.put, List.setIfInBounds_toArray, List.set_cons_zero, List.set_cons_succ])
  obtain ⟨_, g168, c168, rfl, _⟩ := hv
  (refine LexW.pure (v := ?_) rfl rfl (fun w1 he => ?_) ?_; rotate_left; ( have x00 := (he.cell (p := ⟨O, 0, none⟩) C0.out); have x01 := (he.cell (p := ⟨O, 1, none⟩) C1.out); go_simp; rfl); simp only [Act.put, List.setIfInBounds_toArray, List.set_cons_zero, List.set_cons_succ])
  (refine LexW.pure (v := ?_) rfl rfl (fun w1 he => ?_) ?_; rotate_left; ( have x00 := (he.cell (p := ⟨O, 0, none⟩) C0.out); have x01 := (he.cell (p := ⟨O, 1, none⟩) C1.out); go_simp; rfl); simp only [Act.put, List.setIfInBounds_toArray, List.set_cons_zero, List.set_cons_succ])
  (refine LexW.pure (v := ?_) rfl rfl (fun w1 he => ?_) ?_; rotate_left; ( have x00 := (he.cell (p := ⟨O, 0, none⟩) C0.out); have x01 := (he.cell (p := ⟨O, 1, none⟩) C1.out); go_simp; rfl); simp only [Act.put, List.setIfInBounds_toArray, List.set_cons_zero, List.set_cons_succ])
  (refine LexW.pure (v := ?_) rfl rfl (fun w1 he => ?_) ?_; rotate_left; ( have x00 := (he.cell (p := ⟨O, 0, none⟩) C0.out); have x01 := (he.cell (p := ⟨O, 1, none⟩) C1.out); go_simp; rfl); simp only [Act.put, List.setIfInBounds_toArray, List.set_cons_zero, List.set_cons_succ])
  (refine LexW.pure (v := ?_) rfl rfl (fun w1 he => ?_) ?_; rotate_left; ( have x00 := (he.cell (p := ⟨O, 0, none⟩) C0.out); have x01 := (he.cell (p := ⟨O, 1, none⟩) C1.out); go_simp; rfl); simp only [Act.put, List.setIfInBounds_toArray, List.set_cons_zero, List.set_cons_succ])
  (refine LexW.pure (v := ?_) rfl rfl (fun w1 he => ?_) ?_; rotate_left; ( have x00 := (he.cell (p := ⟨O, 0, none⟩) C0.out); have x01 := (he.cell (p := ⟨O, 1, none⟩) C1.out); go_simp; rfl); simp only [Act.put, List.setIfInBounds_toArray, List.set_cons_zero, List.set_cons_succ])
  (refine LexW.callR (f := ?_) (args := ?_) rfl rfl (fun w1 => ?_) (fun w1 he hdep => ?_) (fun v hv => ?_); rotate_left 2; (go_simp; refine ⟨?_, ?_⟩ <;> rfl); ( refine (l_times5 p a d cap qs _ _ (x) _ _ (u) w1 HN.out HSP.out (HQ.out.ext he) (HX.out.ext he) (RU.out.rd.ext he) HGX.out HGU.out).mono ?_; rintro e w2 ⟨g, rc, rfl, ho, g2⟩; exact ⟨_, rfl, g2, g, rc, rfl, ho.mono (Nat.zero_le _)⟩); simp only [Act.put, List.setIfInBounds_toArray, List.set_cons_zero, List.set_cons_succ])
  obtain ⟨_, g175, c175, rfl, _⟩ := hv
  (refine LexW.callR (f := ?_) (args := ?_) rfl rfl (fun w1 => ?_) (fun w1 he hdep => ?_) (fun v hv => ?_); rotate_left 2; (go_simp; refine ⟨?_, ?_⟩ <;> rfl); ( obtain ⟨_, _, q175, r175⟩ : (SPred.ownS 0 N (prodL p qs tkA (x) (u))).holds (.slice (some ⟨g175, 0, none⟩) N c175) w1 := hdep (23, 175) (by decide +kernel); cases q175; refine (l_plus5 p _ _ N _ _ (prodL p qs tkA x y) (prodL p qs tkA x u) 1 w1 (by omega) (by omega) (by omega) (by omega) (RZ.out.rd.ext he) r175.rd HZ.out (HPG tkA x u).out).mono ?_; rintro e w2 ⟨g, rc, rfl, ho, g2⟩; exact ⟨_, rfl, g2, g, rc, rfl, ho.mono (Nat.zero_le _)⟩); simp only [Act.put, List.setIfInBounds_toArray, List.set_cons_zero, List.set_cons_succ])
  obtain ⟨_, g176, c176, rfl, _⟩ := hv
  (refine LexW.call (f := ?_) (args := ?_) rfl rfl (fun w1 => ?_) (fun w1 he hdep => ?_) ?_; rotate_left 2; (go_simp; refine ⟨?_, ?_⟩ <;> rfl); ( obtain ⟨_, _, q168, r168⟩ : (SPred.ownS 0 N (prodL p qs tkA (x) (plusL p y u 1 N))).holds (.slice (some ⟨g168, 0, none⟩) N c168) w1 := hdep (16, 168) (by decide +kernel); cases q168; obtain ⟨_, _, q176, r176⟩ : (SPred.ownS 0 N (plusL p (prodL p qs tkA x y) (prodL p qs tkA x u) 1 N)).holds (.slice (some ⟨g176, 0, none⟩) N c176) w1 := hdep (24, 176) (by decide +kernel); cases q176; have H := l_like (some ⟨g168, 0, none⟩) (some ⟨g176, 0, none⟩) N N c168 c176 _ _ w1 (by omega) (by omega) r168.rd r176.rd; rw [HDI.out, eqB_self] at H; exact H); simp only [Act.put, List.setIfInBounds_toArray, List.set_cons_zero, List.set_cons_succ])
  (refine LexW.pure (v := ?_) rfl rfl (fun w1 he => ?_) ?_; rotate_left; ( have x00 := (he.cell (p := ⟨O, 0, none⟩) C0.out); have x01 := (he.cell (p := ⟨O, 1, none⟩) C1.out); go_simp; rfl); simp only [Act.put, List.setIfInBounds_toArray, List.set_cons_zero, List.set_cons_succ])
  (refine LexW.pure (v := ?_) rfl rfl (fun w1 he => ?_) ?_; rotate_left; ( have x00 := (he.cell (p := ⟨O, 0, none⟩) C0.out); have x01 := (he.cell (p := ⟨O, 1, none⟩) C1.out); go_simp; rfl); simp only [Act.put, List.setIfInBounds_toArray, List.set_cons_zero, List.set_cons_succ])
  (refine LexW.pure (v := ?_) rfl rfl (fun w1 he => ?_) ?_; rotate_left; ( have x00 := (he.cell (p := ⟨O, 0, none⟩) C0.out); have x01 := (he.cell (p := ⟨O, 1, none⟩) C1.out); go_simp; rfl); simp only [Act.put, List.setIfInBounds_toArray, List.set_cons_zero, List.set_cons_succ])
  (refine LexW.pure (v := ?_) rfl rfl (fun w1 he => ?_) ?_; rotate_left; ( have x00 := (he.cell (p := ⟨O, 0, none⟩) C0.out); have x01 := (he.cell (p := ⟨O, 1, none⟩) C1.out); go_simp; rfl); simp only [Act.put, List.setIfInBounds_toArray, List.set_cons_zero, List.set_cons_succ])
  (refine LexW.pure (v := ?_) rfl rfl (fun w1 he => ?_) ?_; rotate_left; ( have x00 := (he.cell (p := ⟨O, 0, none⟩) C0.out); have x01 := (he.cell (p := ⟨O, 1, none⟩) C1.out); go_simp; rfl); simp only [Act.put, List.setIfInBounds_toArray, List.set_cons_zero, List.set_cons_succ])
  (refine LexW.callR (f := ?_) (args := ?_) rfl rfl (fun w1 => ?_) (fun w1 he hdep => ?_) (fun v hv => ?_); rotate_left 2; (go_simp; refine ⟨?_, ?_⟩ <;> rfl); ( refine (l_times5 p a d cap qs _ _ (powL p qs x (m : Int).toNat) _ _ (powL p qs x (n : Int).toNat) w1 HN.out HSP.out (HQ.out.ext he) (RP1.out.rd.ext he) (RP2.out.rd.ext he) HGP1.out HGP2.out).mono ?_; rintro e w2 ⟨g, rc, rfl, ho, g2⟩; exact ⟨_, rfl, g2, g, rc, rfl, ho.mono (Nat.zero_le _)⟩); simp only [Act.put, List.setIfInBounds_toArray, List.set_cons_zero, List.set_cons_succ])
  obtain ⟨_, g183, c183, rfl, _⟩ := hv
  (refine LexW.pure (v := ?_) rfl rfl (fun w1 he => ?_) ?_; rotate_left; ( have x00 := (he.cell (p := ⟨O, 0, none⟩) C0.out); have x01 := (he.cell (p := ⟨O, 1, none⟩) C1.out); go_simp; rfl); simp only [Act.put, List.setIfInBounds_toArray, List.set_cons_zero, List.set_cons_succ])
  (refine LexW.call (f := ?_) (args := ?_) rfl rfl (fun w1 => ?_) (fun w1 he hdep => ?_) ?_; rotate_left 2; (go_simp; refine ⟨?_, ?_⟩ <;> rfl); ( obtain ⟨_, _, q183, r183⟩ : (SPred.ownS 0 N (prodL p qs tkA (powL p qs x (m : Int).toNat) (powL p qs x (n : Int).toNat))).holds (.slice (some ⟨g183, 0, none⟩) N c183) w1 := hdep (31, 183) (by decide +kernel); cases q183; have H := l_like (some ⟨g183, 0, none⟩) (some ⟨gP3, 0, none⟩) N N c183 kP3 _ _ w1 (by omega) (by omega) r183.rd (RP3.out.rd.ext he); rw [HPW.out, eqB_self] at H; exact H); simp only [Act.put, List.setIfInBounds_toArray, List.set_cons_zero, List.set_cons_succ])
  (refine LexW.pure (v := ?_) rfl rfl (fun w1 he => ?_) ?_; rotate_left; ( have x00 := (he.cell (p := ⟨O, 0, none⟩) C0.out); have x01 := (he.cell (p := ⟨O, 1, none⟩) C1.out); go_simp; rfl); simp only [Act.put, List.setIfInBounds_toArray, List.set_cons_zero, List.set_cons_succ])
  (refine LexW.pure (v := ?_) rfl rfl (fun w1 he => ?_) ?_; rotate_left; ( have x00 := (he.cell (p := ⟨O, 0, none⟩) C0.out); have x01 := (he.cell (p := ⟨O, 1, none⟩) C1.out); go_simp; rfl); simp only [Act.put, List.setIfInBounds_toArray, List.set_cons_zero, List.set_cons_succ])
  refine LexW.nil (fun w3 he hkn => ?_)
  have HE := Lib.hid he
  clear he hkn 
  rename World => v14
  replace E := Lib.hid (E.out.trans HE.out)
  replace HQ := Lib.hid (HQ.out.ext HE.out)
  replace HX := Lib.hid (HX.out.ext HE.out)
  replace HY := Lib.hid (HY.out.ext HE.out)
  replace RZ := Lib.hid (RZ.out.ext HE.out)
  replace RU := Lib.hid (RU.out.ext HE.out)
  replace RA := Lib.hid (RA.out.ext HE.out)
  replace RP1 := Lib.hid (RP1.out.ext HE.out)
  replace RP2 := Lib.hid (RP2.out.ext HE.out)
  replace RP3 := Lib.hid (RP3.out.ext HE.out)
  replace C0 := Lib.hid (HE.out.cell (p := ⟨O, 0, none⟩) C0.out)
  replace C1 := Lib.hid (HE.out.cell (p := ⟨O, 1, none⟩) C1.out)
  clear HE
  go_wp2_with (fail)
  go_ret
  exact ⟨rfl, E.out⟩
end Go.Proofs.Ytbgnfjckbjmgbaa

/-
  The draw of a space, mostly a regular one, and two multivectors.
  No condition.
-/
namespace Go.Proofs.Ytbgnfjckbjmgbaa
set_option maxRecDepth 100000
open Go.RowKit

set_option maxHeartbeats 4000000 in
set_option maxRecDepth 100000 in
theorem s_l05Draw (ca : Option Addr) (n cap : Nat) (w : World) (hn : n ≤ 4096) (hb : RdY w ca n) :
    Calls Try.prog 110 #[.slice ca n cap] w fun e w' => ∃ p a d c qs a1 m1 c1 x1 a2 m2 c2 x2, e = .returned (.tuple #[.agg #[.int .i64 p, .slice a d c], .slice a1 m1 c1, .slice a2 m2 c2]) ∧ 0 ≤ p ∧ p ≤ 17 ∧ d ≤ 7 ∧ m1 ≤ 65 ∧ m2 ≤ 65 ∧ OwnC w.heap.size w' a d c qs ∧ OwnC w.heap.size w' a1 m1 c1 x1 ∧ OwnC w.heap.size w' a2 m2 c2 x2 ∧ Ext w w' := by
  obtain ⟨W, hW⟩ : ∃ W, W = w.alloc (.cells #[.int .i64 0, .slice none 0 0] 26) := ⟨_, rfl⟩
  have gW : Ext w W := by rw [hW]; exact ext_alloc _ _
  have HZ := Lib.hid (show W.heap.size = w.heap.size + 1 by rw [hW]; simp)
  have HR := Lib.hid (show SpAt W w.heap.size 0 (.slice none 0 0) by rw [hW]; exact ⟨by simp, by simp, by simp, by simp⟩)
  have HW := Lib.hid hW
  have GW := Lib.hid gW
  have HB := Lib.hid (hb.ext gW)
  clear gW hW hb
  go_enter Try.func110, Try.ntmps110
  go_wp2_with (fail)
  rw [← HW.out]
  refine Calls.mono (s_from ca n cap W hn HB.out) ?_
  rintro e w1 ⟨g, rfl, hg, hS, g1⟩
  obtain ⟨S, hSe⟩ : ∃ S : SrcP, S = ⟨g, ca, n, cap⟩ := ⟨_, rfl⟩
  obtain rfl : g = S.g := by rw [hSe]
  rw [← hSe] at hS
  have HS := Lib.hid hS
  have HR1 := Lib.hid (HR.out.ext g1)
  have G1 := Lib.hid (GW.out.trans g1)
  have hgR : w.heap.size ≠ S.g := by have := HZ.out; omega
  have hgw : w.heap.size + 1 ≤ S.g := by have := HZ.out; omega
  have hlt := hS.lt
  clear hg hS g1 hSe HR
  go_wp2_with (fail)
  refine Calls.mono (s_spoil3 S w1 HS.out) ?_
  rintro e w2 ⟨p, a, d, c, qs, rfl, hp0, hp1, hd, ho, g2⟩
  obtain ⟨W2, hW2⟩ : ∃ W2, W2 = w2.alloc (.cells #[.int .i64 p, .slice a d c] 26) := ⟨_, rfl⟩
  obtain ⟨O, hO⟩ : ∃ O, O = w2.heap.size := ⟨_, rfl⟩
  have gW2 : Ext w2 W2 := by rw [hW2]; exact ext_alloc _ _
  have hOA : SpAt W2 O p (.slice a d c) := by rw [hW2, hO]; exact ⟨by simp, by simp, by simp, by simp⟩
  have HOA := Lib.hid hOA
  have HR2 := Lib.hid ((HR1.out.drw g2 hgR).ext gW2)
  have HQ2 := Lib.hid ((ho.mono (show S.g + 1 ≤ _ from hlt)).ext gW2)
  have G2 := Lib.hid (g2.ext gW2)
  have hgO : O ≠ S.g := by rw [hO]; have := g2.size; omega
  go_wp2_with (fail)
  rw [← hW2, ← hO]
  have hbase : ∀ g, a = some ⟨g, 0, none⟩ → g ≠ O ∧ g ≠ w.heap.size := fun g hg => by
    have h1 := ho.base_of g hg
    have h2 := HR1.out.lt
    omega
  have hwO : w.heap.size ≤ O := by rw [hO]; have := g2.size; have := HR1.out.lt; omega
  have hw1O : w1.heap.size ≤ O := by rw [hO]; exact g2.size
  have hbw : ∀ g, a = some ⟨g, 0, none⟩ → w1.heap.size ≤ g := fun g hg => (ho.base_of g hg).1
  clear hO gW2 ho g2 hW2 HR1
  go_loopw [7] (fun i wr => ∃ (k : Nat) (xs : List Int), k ≤ d ∧ i = .int .i64 k ∧ Hid (SpAt wr w.heap.size 0 (.slice none 0 0)) ∧ Hid (SpAt wr O p (.slice a d c)) ∧ Hid (OwnC (S.g + 1) wr a d c xs) ∧ Hid (Drw S w1 wr)) (fun i _ => d - (intOf i).toNat)
  case atStart => exact ⟨0, qs, Nat.zero_le _, rfl, HR2, HOA, HQ2, G2⟩
  case round =>
    obtain ⟨k, xs, hk, rfl, HR, HOB, HQ, G⟩ := hrel
    clear HR2 HOA HQ2 G2 hOA
    have hcO := HOB.out.c1
    have hlast : ∀ (wz : World), SpAt wz w.heap.size 0 (.slice none 0 0) → SpAt wz O p (.slice a d c) → OwnC (S.g + 1) wz a d c xs → Drw S w1 wz → True := fun _ _ _ _ _ => trivial
    clear hlast
    by_cases hkd : k < d
    · go_wp2_with (fail)
      refine Calls.mono (s_next S 6 wr (G.out.src HS.out) (by decide)) ?_
      rintro e w8 ⟨r, rfl, hr, g3⟩
      have hr' := hr.2 (by decide)
      replace HR := Lib.hid (HR.out.drw g3 hgR)
      replace HOB := Lib.hid (HOB.out.drw g3 hgO)
      replace HQ := Lib.hid (g3.own HQ.out (Nat.lt_succ_self _))
      replace G := Lib.hid (G.out.trans g3)
      clear g3 hr hcO
      by_cases hr0 : 0 < r
      · obtain ⟨g, hg⟩ := HQ.out.addr (by omega)
        have hcO := HOB.out.c1
        have hne := hbase g hg
        have hgw := hbw g hg
        subst hg
        have hck := HQ.out.cell hkd
        have hfk := HQ.out.frozen k
        by_cases hz : nth xs k = 0
        · have hzb : (nth xs k == 0) = true := by simp [hz]
          clear hz
          go_wp2_with (fail)
          go_roundw
          case rel => exact ⟨k + 1, xs.set k 1, by omega, by go_num, Lib.hid (HR.out.other (by simp; exact hne.2) _), Lib.hid (HOB.out.other (by simp; exact hne.1) _), Lib.hid (HQ.out.store hkd 1), Lib.hid (G.out.setCell hgw _)⟩
          case measure => simp [intOf]; omega
        · have hzb : (nth xs k == 0) = false := by simp [hz]
          clear hz
          go_wp2_with (fail)
          go_roundw
          case rel => exact ⟨k + 1, xs, by omega, by go_num, HR, HOB, HQ, G⟩
          case measure => simp [intOf]; omega
      · have hcO := HOB.out.c1
        go_wp2_with (fail)
        replace HR := Lib.hid (HR.out.ext (ext_drew w8))
        replace HOB := Lib.hid (HOB.out.ext (ext_drew w8))
        replace HQ := Lib.hid (HQ.out.ext (ext_drew w8))
        replace G := Lib.hid (G.out.drew)
        have HS3 := Lib.hid (G.out.src HS.out)
        refine Chg.wp_region_lex_tail (E := Drw.rel S) 7 [(3, .own S (S.g + 1) 65 (Nat.lt_succ_self _)), (6, .own S (S.g + 1) 65 (Nat.lt_succ_self _))] (by kernel_rfl) (by kernel_rfl) ?_
        simp only [List.take, List.drop]
        (refine Chg.LexW.pure (v := ?_) rfl rfl (fun w1 he => ?_) ?_; rotate_left; ( have he' : Drw S w8.drew _ := he; have x0 := he'.cell (p := ⟨O, 0, none⟩) hgO HOB.out.c0; have x1 := he'.cell (p := ⟨O, 1, none⟩) hgO HOB.out.c1; go_simp; rfl); simp only [Act.put, List.setIfInBounds_toArray, List.set_cons_zero, List.set_cons_succ])
        (refine Chg.LexW.pure (v := ?_) rfl rfl (fun w1 he => ?_) ?_; rotate_left; ( have he' : Drw S w8.drew _ := he; have x0 := he'.cell (p := ⟨O, 0, none⟩) hgO HOB.out.c0; have x1 := he'.cell (p := ⟨O, 1, none⟩) hgO HOB.out.c1; go_simp; rfl); simp only [Act.put, List.setIfInBounds_toArray, List.set_cons_zero, List.set_cons_succ])
        (refine Chg.LexW.pure (v := ?_) rfl rfl (fun w1 he => ?_) ?_; rotate_left; ( have he' : Drw S w8.drew _ := he; have x0 := he'.cell (p := ⟨O, 0, none⟩) hgO HOB.out.c0; have x1 := he'.cell (p := ⟨O, 1, none⟩) hgO HOB.out.c1; go_simp; rfl); simp only [Act.put, List.setIfInBounds_toArray, List.set_cons_zero, List.set_cons_succ])
        (refine Chg.LexW.callR (f := ?_) (args := ?_) rfl rfl (fun w1 => ?_) (fun w1 he hdep => ?_) (fun v hv => ?_); rotate_left 2; (go_simp; refine ⟨?_, ?_⟩ <;> rfl); ( have he' : Drw S w8.drew _ := he; refine Calls.mono (s_spoil4 S (S.g + 1) p a d c xs w1 (he'.src HS3.out) (Nat.lt_succ_self _) (by omega) (he'.own HQ.out (Nat.lt_succ_self _))) ?_; rintro e w9 ⟨a9, c9, m9, x9, rfl, hm9, ho9, g9⟩; exact ⟨_, rfl, g9, a9, m9, c9, x9, rfl, by omega, ho9.mono (Nat.le_trans HS3.out.lt he'.size)⟩); simp only [Act.put, List.setIfInBounds_toArray, List.set_cons_zero, List.set_cons_succ])
        obtain ⟨_, a1, m1, c1, x1, rfl, _⟩ := hv
        (refine Chg.LexW.pure (v := ?_) rfl rfl (fun w1 he => ?_) ?_; rotate_left; ( have he' : Drw S w8.drew _ := he; have x0 := he'.cell (p := ⟨O, 0, none⟩) hgO HOB.out.c0; have x1 := he'.cell (p := ⟨O, 1, none⟩) hgO HOB.out.c1; go_simp; rfl); simp only [Act.put, List.setIfInBounds_toArray, List.set_cons_zero, List.set_cons_succ])
        (refine Chg.LexW.pure (v := ?_) rfl rfl (fun w1 he => ?_) ?_; rotate_left; ( have he' : Drw S w8.drew _ := he; have x0 := he'.cell (p := ⟨O, 0, none⟩) hgO HOB.out.c0; have x1 := he'.cell (p := ⟨O, 1, none⟩) hgO HOB.out.c1; go_simp; rfl); simp only [Act.put, List.setIfInBounds_toArray, List.set_cons_zero, List.set_cons_succ])
        (refine Chg.LexW.callR (f := ?_) (args := ?_) rfl rfl (fun w1 => ?_) (fun w1 he hdep => ?_) (fun v hv => ?_); rotate_left 2; (go_simp; refine ⟨?_, ?_⟩ <;> rfl); ( have he' : Drw S w8.drew _ := he; refine Calls.mono (s_spoil4 S (S.g + 1) p a d c xs w1 (he'.src HS3.out) (Nat.lt_succ_self _) (by omega) (he'.own HQ.out (Nat.lt_succ_self _))) ?_; rintro e w9 ⟨a9, c9, m9, x9, rfl, hm9, ho9, g9⟩; exact ⟨_, rfl, g9, a9, m9, c9, x9, rfl, by omega, ho9.mono (Nat.le_trans HS3.out.lt he'.size)⟩); simp only [Act.put, List.setIfInBounds_toArray, List.set_cons_zero, List.set_cons_succ])
        obtain ⟨_, a2, m2, c2, x2, rfl, _⟩ := hv
        refine Chg.LexW.nil (fun w3 he hkn => ?_)
        have he' : Drw S w8.drew w3 := he
        obtain ⟨a1', m1', c1', x1', q1, hm1, ho1⟩ : (Chg.SPred.own S (S.g + 1) 65 (Nat.lt_succ_self _)).holds (.slice a1 m1 c1) w3 := hkn (3, _) (by simp)
        obtain ⟨a2', m2', c2', x2', q2, hm2, ho2⟩ : (Chg.SPred.own S (S.g + 1) 65 (Nat.lt_succ_self _)).holds (.slice a2 m2 c2) w3 := hkn (6, _) (by simp)
        cases q1
        cases q2
        have HR3 := Lib.hid (HR.out.drw he' hgR)
        have HQ3 := Lib.hid (he'.own HQ.out (Nat.lt_succ_self _))
        have HO1 := Lib.hid ho1
        have HO2 := Lib.hid ho2
        have G3 := Lib.hid (G.out.trans he')
        have r0 := HR3.out.c0
        have r1 := HR3.out.c1
        have f0 := HR3.out.f0
        have f1 := HR3.out.f1
        clear he he' hkn ho1 ho2
        go_wp2_with (fail)
        refine bodyPost_ret (v := .tuple #[.agg #[.int .i64 p, .slice a d c], .slice a1 m1 c1, .slice a2 m2 c2]) (by simp [results, Try.results110, go_sem, r0, r1]) rfl ⟨p, a, d, c, xs, a1, m1, c1, x1', a2, m2, c2, x2', rfl, hp0, hp1, hd, hm1, hm2, ?_, ?_, ?_, ?_⟩
        · exact ((HQ3.out.other (by simp; omega) _).other (by simp; omega) _).mono (by omega)
        · exact ((HO1.out.other (by simp; omega) _).other (by simp; omega) _).mono (by omega)
        · exact ((HO2.out.other (by simp; omega) _).other (by simp; omega) _).mono (by omega)
        · exact ((G3.out.toExt G1.out (by omega)).setCell (by simp) _).setCell (by simp) _
    · go_wp2_with (fail)
      replace HR := Lib.hid (HR.out.ext (ext_drew wr))
      replace HOB := Lib.hid (HOB.out.ext (ext_drew wr))
      replace HQ := Lib.hid (HQ.out.ext (ext_drew wr))
      replace G := Lib.hid (G.out.drew)
      have HS3 := Lib.hid (G.out.src HS.out)
      refine Chg.wp_region_lex_tail (E := Drw.rel S) 7 [(3, .own S (S.g + 1) 65 (Nat.lt_succ_self _)), (6, .own S (S.g + 1) 65 (Nat.lt_succ_self _))] (by kernel_rfl) (by kernel_rfl) ?_
      simp only [List.take, List.drop]
      (refine Chg.LexW.pure (v := ?_) rfl rfl (fun w1 he => ?_) ?_; rotate_left; ( have he' : Drw S wr.drew _ := he; have x0 := he'.cell (p := ⟨O, 0, none⟩) hgO HOB.out.c0; have x1 := he'.cell (p := ⟨O, 1, none⟩) hgO HOB.out.c1; go_simp; rfl); simp only [Act.put, List.setIfInBounds_toArray, List.set_cons_zero, List.set_cons_succ])
      (refine Chg.LexW.pure (v := ?_) rfl rfl (fun w1 he => ?_) ?_; rotate_left; ( have he' : Drw S wr.drew _ := he; have x0 := he'.cell (p := ⟨O, 0, none⟩) hgO HOB.out.c0; have x1 := he'.cell (p := ⟨O, 1, none⟩) hgO HOB.out.c1; go_simp; rfl); simp only [Act.put, List.setIfInBounds_toArray, List.set_cons_zero, List.set_cons_succ])
      (refine Chg.LexW.pure (v := ?_) rfl rfl (fun w1 he => ?_) ?_; rotate_left; ( have he' : Drw S wr.drew _ := he; have x0 := he'.cell (p := ⟨O, 0, none⟩) hgO HOB.out.c0; have x1 := he'.cell (p := ⟨O, 1, none⟩) hgO HOB.out.c1; go_simp; rfl); simp only [Act.put, List.setIfInBounds_toArray, List.set_cons_zero, List.set_cons_succ])
      (refine Chg.LexW.callR (f := ?_) (args := ?_) rfl rfl (fun w1 => ?_) (fun w1 he hdep => ?_) (fun v hv => ?_); rotate_left 2; (go_simp; refine ⟨?_, ?_⟩ <;> rfl); ( have he' : Drw S wr.drew _ := he; refine Calls.mono (s_spoil4 S (S.g + 1) p a d c xs w1 (he'.src HS3.out) (Nat.lt_succ_self _) (by omega) (he'.own HQ.out (Nat.lt_succ_self _))) ?_; rintro e w9 ⟨a9, c9, m9, x9, rfl, hm9, ho9, g9⟩; exact ⟨_, rfl, g9, a9, m9, c9, x9, rfl, by omega, ho9.mono (Nat.le_trans HS3.out.lt he'.size)⟩); simp only [Act.put, List.setIfInBounds_toArray, List.set_cons_zero, List.set_cons_succ])
      obtain ⟨_, a1, m1, c1, x1, rfl, _⟩ := hv
      (refine Chg.LexW.pure (v := ?_) rfl rfl (fun w1 he => ?_) ?_; rotate_left; ( have he' : Drw S wr.drew _ := he; have x0 := he'.cell (p := ⟨O, 0, none⟩) hgO HOB.out.c0; have x1 := he'.cell (p := ⟨O, 1, none⟩) hgO HOB.out.c1; go_simp; rfl); simp only [Act.put, List.setIfInBounds_toArray, List.set_cons_zero, List.set_cons_succ])
      (refine Chg.LexW.pure (v := ?_) rfl rfl (fun w1 he => ?_) ?_; rotate_left; ( have he' : Drw S wr.drew _ := he; have x0 := he'.cell (p := ⟨O, 0, none⟩) hgO HOB.out.c0; have x1 := he'.cell (p := ⟨O, 1, none⟩) hgO HOB.out.c1; go_simp; rfl); simp only [Act.put, List.setIfInBounds_toArray, List.set_cons_zero, List.set_cons_succ])
      (refine Chg.LexW.callR (f := ?_) (args := ?_) rfl rfl (fun w1 => ?_) (fun w1 he hdep => ?_) (fun v hv => ?_); rotate_left 2; (go_simp; refine ⟨?_, ?_⟩ <;> rfl); ( have he' : Drw S wr.drew _ := he; refine Calls.mono (s_spoil4 S (S.g + 1) p a d c xs w1 (he'.src HS3.out) (Nat.lt_succ_self _) (by omega) (he'.own HQ.out (Nat.lt_succ_self _))) ?_; rintro e w9 ⟨a9, c9, m9, x9, rfl, hm9, ho9, g9⟩; exact ⟨_, rfl, g9, a9, m9, c9, x9, rfl, by omega, ho9.mono (Nat.le_trans HS3.out.lt he'.size)⟩); simp only [Act.put, List.setIfInBounds_toArray, List.set_cons_zero, List.set_cons_succ])
      obtain ⟨_, a2, m2, c2, x2, rfl, _⟩ := hv
      refine Chg.LexW.nil (fun w3 he hkn => ?_)
      have he' : Drw S wr.drew w3 := he
      obtain ⟨a1', m1', c1', x1', q1, hm1, ho1⟩ : (Chg.SPred.own S (S.g + 1) 65 (Nat.lt_succ_self _)).holds (.slice a1 m1 c1) w3 := hkn (3, _) (by simp)
      obtain ⟨a2', m2', c2', x2', q2, hm2, ho2⟩ : (Chg.SPred.own S (S.g + 1) 65 (Nat.lt_succ_self _)).holds (.slice a2 m2 c2) w3 := hkn (6, _) (by simp)
      cases q1
      cases q2
      have HR3 := Lib.hid (HR.out.drw he' hgR)
      have HQ3 := Lib.hid (he'.own HQ.out (Nat.lt_succ_self _))
      have HO1 := Lib.hid ho1
      have HO2 := Lib.hid ho2
      have G3 := Lib.hid (G.out.trans he')
      have r0 := HR3.out.c0
      have r1 := HR3.out.c1
      have f0 := HR3.out.f0
      have f1 := HR3.out.f1
      clear he he' hkn ho1 ho2
      go_wp2_with (fail)
      refine bodyPost_ret (v := .tuple #[.agg #[.int .i64 p, .slice a d c], .slice a1 m1 c1, .slice a2 m2 c2]) (by simp [results, Try.results110, go_sem, r0, r1]) rfl ⟨p, a, d, c, xs, a1, m1, c1, x1', a2, m2, c2, x2', rfl, hp0, hp1, hd, hm1, hm2, ?_, ?_, ?_, ?_⟩
      · exact ((HQ3.out.other (by simp; omega) _).other (by simp; omega) _).mono (by omega)
      · exact ((HO1.out.other (by simp; omega) _).other (by simp; omega) _).mono (by omega)
      · exact ((HO2.out.other (by simp; omega) _).other (by simp; omega) _).mono (by omega)
      · exact ((G3.out.toExt G1.out (by omega)).setCell (by simp) _).setCell (by simp) _
set_option maxHeartbeats 4000000 in
theorem s_drawMeetOf (ca : Option Addr) (n cap : Nat) (w : World) (hn : n ≤ 4096) (hb : RdY w ca n) :
    Calls Try.prog 46 #[.slice ca n cap] w fun e w' => ∃ p a d c qs a1 m1 c1 x1 a2 m2 c2 x2, e = .returned (.tuple #[.agg #[.int .i64 p, .slice a d c], .slice a1 m1 c1, .slice a2 m2 c2]) ∧ 0 ≤ p ∧ p ≤ 17 ∧ d ≤ 7 ∧ m1 ≤ 65 ∧ m2 ≤ 65 ∧ OwnC w.heap.size w' a d c qs ∧ OwnC w.heap.size w' a1 m1 c1 x1 ∧ OwnC w.heap.size w' a2 m2 c2 x2 ∧ Ext w w' := by
  obtain ⟨W, hW⟩ : ∃ W, W = w.alloc (.cells #[.int .i64 0, .slice none 0 0] 26) := ⟨_, rfl⟩
  have gW : Ext w W := by rw [hW]; exact ext_alloc _ _
  have HZ := Lib.hid (show W.heap.size = w.heap.size + 1 by rw [hW]; simp)
  have HR := Lib.hid (show SpAt W w.heap.size 0 (.slice none 0 0) by rw [hW]; exact ⟨by simp, by simp, by simp, by simp⟩)
  have HW := Lib.hid hW
  have GW := Lib.hid gW
  have HB := Lib.hid (hb.ext gW)
  clear gW hW hb
  go_enter Try.func46, Try.ntmps46
  go_wp2_with (fail)
  rw [← HW.out]
  refine Calls.mono (s_l05Draw ca n cap W hn HB.out) ?_
  rintro e w1 ⟨p, a, d, c, qs, a1, m1, c1, x1, a2, m2, c2, x2, rfl, hp0, hp1, hd, hm1, hm2, ho, ho1, ho2, g1⟩
  have hR1 := HR.out.ext g1
  have r0 := hR1.c0
  have r1 := hR1.c1
  have f0 := hR1.f0
  have f1 := hR1.f1
  have lR := hR1.lt
  have hz := HZ.out
  have HQ := Lib.hid ho
  have HO1 := Lib.hid ho1
  have HO2 := Lib.hid ho2
  have G1 := Lib.hid (GW.out.trans g1)
  have HF := ((hR1.set0 p).set1 (.slice a d c)).ext (ext_alloc _ (.cells #[.int .i64 p, .slice a d c] 26))
  have r0' := HF.c0
  have r1' := HF.c1
  clear ho ho1 ho2 g1 hR1 HF
  go_wp2_with (fail)
  refine bodyPost_ret (v := .tuple #[.agg #[.int .i64 p, .slice a d c], .slice a1 m1 c1, .slice a2 m2 c2]) (by simp [results, Try.results46, go_sem, r0', r1']) rfl ⟨p, a, d, c, qs, a1, m1, c1, x1, a2, m2, c2, x2, rfl, hp0, hp1, hd, hm1, hm2, ?_, ?_, ?_, ?_⟩
  · exact (((HQ.out.other (by simp; omega) _).other (by simp; omega) _).ext (ext_alloc _ _)).mono (by omega)
  · exact (((HO1.out.other (by simp; omega) _).other (by simp; omega) _).ext (ext_alloc _ _)).mono (by omega)
  · exact (((HO2.out.other (by simp; omega) _).other (by simp; omega) _).ext (ext_alloc _ _)).mono (by omega)
  · exact ((G1.out.setCell (by simp) _).setCell (by simp) _).alloc _
end Go.Proofs.Ytbgnfjckbjmgbaa

/-
  The square of the pseudoscalar: the listed functions.
  No condition.
-/
namespace Go.Proofs.Ytbgnfjckbjmgbaa
set_option maxRecDepth 100000
open Go.RowKit

def codeS (p : Int) (qs : List Int) : Int := if spaceB p qs = true then 0 else 1
theorem codeS_ok {p : Int} {qs : List Int} (h : codeS p qs = 0) : spaceB p qs = true := by
  unfold codeS at h; split at h
  · assumption
  · omega
theorem codeS_bad {p : Int} {qs : List Int} (h : codeS p qs ≠ 0) : spaceB p qs = false ∧ codeS p qs = 1 := by
  unfold codeS at h ⊢; split at h
  · exact absurd rfl h
  · rename_i hs; exact ⟨by simpa using hs, by simp [hs]⟩


set_option maxHeartbeats 400000 in
theorem c_PseudoscalarSquare_bad (p : Int) (a : Option Addr) (d cap : Nat) (qs : List Int) (w : World) (hd : d ≤ 4194304) (hq : RdC w a d qs) (hc : codeS p qs ≠ 0) :
    Calls Try.prog 52 #[.agg #[.int .i64 p, .slice a d cap]] w fun e w' => e = .returned (.tuple #[.int .i64 0, .int .i64 (codeS p qs)]) ∧ Ext w w' := by
  obtain ⟨hs, h1⟩ := codeS_bad hc
  rw [h1]
  have HS := Lib.hid hs
  clear hs h1 hc
  go_enter Try.func52, Try.ntmps52
  go_wp2_with (go_at_call 86; refine (c_isSpace _ _ _ _ _ _ hd (hq.ext (ext_alloc _ _))).mono ?_; rintro e w1 ⟨rfl, g1⟩; rw [HS.out])
  go_ret2
  exact ⟨rfl, (ext_alloc _ _).trans g1⟩

set_option maxHeartbeats 400000 in
theorem c_PseudoscalarSquare_ok (p : Int) (a : Option Addr) (d cap : Nat) (qs : List Int) (w : World) (hd : d ≤ 4194304) (hq : RdC w a d qs) (hc : codeS p qs = 0) :
    Calls Try.prog 52 #[.agg #[.int .i64 p, .slice a d cap]] w fun e w' => e = .returned (.tuple #[.int .i64 (sqFull p qs), .int .i64 0]) ∧ Ext w w' := by
  have hs := codeS_ok hc
  obtain ⟨hpr, hd1, hd6, hqb⟩ := space_of hs
  have hpb := prime_bd hpr
  rw [hq.1] at hd6
  have HS := Lib.hid hs
  have HQB := Lib.hid hqb
  clear hs hc hqb hpr hd1
  go_enter Try.func52, Try.ntmps52
  go_wp2_with (go_at_call 86; refine (c_isSpace _ _ _ _ _ _ hd (hq.ext (ext_alloc _ _))).mono ?_; rintro e w1 ⟨rfl, g1⟩; rw [HS.out]; have hq0 : w1.cell? ⟨w.heap.size, 0, none⟩ = some (.int .i64 p) := g1.cell (by simp); have hq1 : w1.cell? ⟨w.heap.size, 1, none⟩ = some (.slice a d cap) := g1.cell (by simp))
  have G1 := Lib.hid ((ext_alloc w (.cells #[.int .i64 p, .slice a d cap] 26)).trans g1)
  clear g1 hq0 hq1
  refine (c_fullSquare p a d cap qs w1 (by omega) (by omega) (by omega) (hq.ext G1.out) HQB.out).mono ?_
  rintro e w2 ⟨rfl, g2⟩
  have G2 := Lib.hid g2
  clear g2
  go_wp2_with (fail)
  go_ret2
  exact ⟨rfl, G1.out.trans G2.out⟩

end Go.Proofs.Ytbgnfjckbjmgbaa

/-
  The listed function MeetOf.
  No condition.
-/
namespace Go.Proofs.Ytbgnfjckbjmgbaa
set_option maxRecDepth 100000
open Go.RowKit

def meetL (p : Int) (qs x y : List Int) : List Int := prodL p qs tkL (prodL p qs tkW (dualL p qs x) (dualL p qs y)) (fullL qs.length)

set_option maxHeartbeats 400000 in
theorem s_MeetOf_bad (p : Int) (a : Option Addr) (d cap : Nat) (qs : List Int) (ax1 : Option Addr) (n1 cx1 : Nat) (xs1 : List Int) (ax2 : Option Addr) (n2 cx2 : Nat) (xs2 : List Int) (w : World) (hd : d ≤ 4194304) (hn1 : n1 ≤ 4194304) (hn2 : n2 ≤ 4194304) (hq : RdC w a d qs) (hx1 : RdC w ax1 n1 xs1) (hx2 : RdC w ax2 n2 xs2) (hc : codeR p qs [xs1, xs2] ≠ 0) :
    Calls Try.prog 48 #[.agg #[.int .i64 p, .slice a d cap], .slice ax1 n1 cx1, .slice ax2 n2 cx2] w fun e w' => ∃ ra rc, e = .returned (.tuple #[.slice ra 0 rc, .int .i64 (codeR p qs [xs1, xs2])]) ∧ OwnC w.heap.size w' ra 0 rc [] ∧ Ext w w' := by
  have hcb : (codeR p qs [xs1, xs2] != 0) = true := by simp [hc]
  clear hc
  go_enter Try.func48, Try.ntmps48
  go_wp2_with (go_at_call 114; refine (s_regular p a d cap qs _ 2 _ [xs1, xs2] _ hd (by omega) (len_two (by rw [hx1.1]; exact hn1) (by rw [hx2.1]; exact hn2)) (hq.ext ((ext_alloc _ _).alloc _)) (rdR_two (a := ax1) (b := ax2) (n := _) (m := _) (ca := cx1) (cb := cx2) (by simp) (by simp) (hx1.ext ((ext_alloc _ _).alloc _)) (hx2.ext ((ext_alloc _ _).alloc _)))).mono ?_; rintro e w1 ⟨rfl, g1⟩)
  go_ret2
  exact ⟨none, 0, rfl, own_nil _ _, ((ext_alloc _ _).alloc _).trans g1⟩

set_option maxHeartbeats 4000000 in
set_option maxRecDepth 100000 in
theorem s_MeetOf_ok (p : Int) (a : Option Addr) (d cap : Nat) (qs : List Int) (ax1 : Option Addr) (n1 cx1 : Nat) (xs1 : List Int) (ax2 : Option Addr) (n2 cx2 : Nat) (xs2 : List Int) (w : World) (hd : d ≤ 4194304) (hn1 : n1 ≤ 4194304) (hn2 : n2 ≤ 4194304) (hq : RdC w a d qs) (hx1 : RdC w ax1 n1 xs1) (hx2 : RdC w ax2 n2 xs2) (hc : codeR p qs [xs1, xs2] = 0) :
    Calls Try.prog 48 #[.agg #[.int .i64 p, .slice a d cap], .slice ax1 n1 cx1, .slice ax2 n2 cx2] w fun e w' => ∃ ra rc, e = .returned (.tuple #[.slice ra n1 rc, .int .i64 0]) ∧ OwnC w.heap.size w' ra n1 rc (meetL p qs xs1 xs2) ∧ Ext w w' := by
  obtain ⟨hcm, hrg⟩ := codeR_zero hc
  have HRG := Lib.hid hrg
  obtain ⟨hs, hxm1, hxm2⟩ := codeM_two hcm
  clear hcm hrg
  obtain ⟨hpr, hd1, hd6, hqb⟩ := space_of hs
  have hpb := prime_bd hpr
  obtain ⟨hxl1, hxb1⟩ := multi_of hxm1
  obtain ⟨hxl2, hxb2⟩ := multi_of hxm2
  rw [hq.1] at hxl1 hxl2 hd6
  have hN : n1 = 2 ^ d := hx1.1.symm.trans hxl1
  obtain rfl : n1 = n2 := hN.trans (hx2.1.symm.trans hxl2).symm
  have HN := Lib.hid hN
  have HPR := Lib.hid hpr
  have HQB := Lib.hid hqb
  have HXB1 := Lib.hid hxb1
  have HXB2 := Lib.hid hxb2
  clear hs hxm1 hxm2 hqb hxb1 hxb2 hxl1 hxl2 hpr hd1 hN
  have HC := Lib.hid hc
  have hcb : ((0 : Int) != 0) = false := by simp
  clear hc
  go_enter Try.func48, Try.ntmps48
  go_wp2_with (go_at_call 114; refine (s_regular p a d cap qs _ 2 _ [xs1, xs2] _ hd (by omega) (len_two (by rw [hx1.1]; exact hn1) (by rw [hx2.1]; exact hn2)) (hq.ext ((ext_alloc _ _).alloc _)) (rdR_two (a := ax1) (b := ax2) (n := _) (m := _) (ca := cx1) (cb := cx2) (by simp) (by simp) (hx1.ext ((ext_alloc _ _).alloc _)) (hx2.ext ((ext_alloc _ _).alloc _)))).mono ?_; rintro e w1 ⟨rfl, g1⟩; rw [HC.out]; have hq0 : w1.cell? ⟨w.heap.size, 0, none⟩ = some (.int .i64 p) := g1.cell (by simp); have hq1 : w1.cell? ⟨w.heap.size, 1, none⟩ = some (.slice a d cap) := g1.cell (by simp))
  have G1 := Lib.hid (((ext_alloc w (.cells #[.int .i64 p, .slice a d cap] 26)).alloc (.cells #[.slice ax1 n1 cx1, .slice ax2 n1 cx2] 24)).trans g1)
  have HS0 := Lib.hid ((ext_drew _).cell hq0)
  have HS1 := Lib.hid ((ext_drew _).cell hq1)
  have GW := Lib.hid (G1.out.trans (ext_drew _))
  have HQ := Lib.hid hq
  have HX := Lib.hid hx1
  have HGX := Lib.hid (good_isB hx1.1 HXB1.out)
  have hN6 : n1 ≤ 64 := by rw [HN.out]; exact pow_le64 (by omega)
  have hN1 : 1 ≤ n1 := by rw [HN.out]; exact pow_pos' d
  have hN0 : ¬ n1 = 0 := by omega
  have HY := Lib.hid hx2
  have HGY := Lib.hid (good_isB hx2.1 HXB2.out)
  have HGD : ∀ z, Hid (Good p n1 (dualL p qs z)) := fun z => Lib.hid (by rw [HN.out, ← HQ.out.1]; exact prod_good (by omega))
  have HGW : Hid (Good p n1 (prodL p qs tkW (dualL p qs xs1) (dualL p qs xs2))) := Lib.hid (by rw [HN.out, ← HQ.out.1]; exact prod_good (by omega))
  have HM := Lib.hid (show meetL p qs xs1 xs2 = prodL p qs tkL (prodL p qs tkW (dualL p qs xs1) (dualL p qs xs2)) (fullL d) by unfold meetL; rw [HQ.out.1])
  clear g1 hq0 hq1 hx1 hx2 hq
  refine wp_region_lex [(4, .ownG w.heap.size n1 (dualL p qs xs1)), (7, .ownG w.heap.size n1 (dualL p qs xs2)), (8, .ownG w.heap.size n1 (prodL p qs tkW (dualL p qs xs1) (dualL p qs xs2))), (9, .ownG w.heap.size n1 (prodL p qs tkL (prodL p qs tkW (dualL p qs xs1) (dualL p qs xs2)) (fullL d)))] (by kernel_rfl) (by kernel_rfl) ?_
  (refine LexW.pure (v := ?_) rfl rfl (fun w1 he => ?_) ?_; rotate_left; ( have e1 := he.cell HS0.out; have e2 := he.cell HS1.out; go_simp; rfl); simp only [Act.put, List.setIfInBounds_toArray, List.set_cons_zero, List.set_cons_succ])
  (refine LexW.pure (v := ?_) rfl rfl (fun w1 he => ?_) ?_; rotate_left; ( have e1 := he.cell HS0.out; have e2 := he.cell HS1.out; go_simp; rfl); simp only [Act.put, List.setIfInBounds_toArray, List.set_cons_zero, List.set_cons_succ])
  (refine LexW.pure (v := ?_) rfl rfl (fun w1 he => ?_) ?_; rotate_left; ( have e1 := he.cell HS0.out; have e2 := he.cell HS1.out; go_simp; rfl); simp only [Act.put, List.setIfInBounds_toArray, List.set_cons_zero, List.set_cons_succ])
  (refine LexW.pure (v := ?_) rfl rfl (fun w1 he => ?_) ?_; rotate_left; ( have e1 := he.cell HS0.out; have e2 := he.cell HS1.out; go_simp; rfl); simp only [Act.put, List.setIfInBounds_toArray, List.set_cons_zero, List.set_cons_succ])
  (refine LexW.callR (f := ?_) (args := ?_) rfl rfl (fun w1 => ?_) (fun w1 he hdep => ?_) (fun v hv => ?_); rotate_left 2; (go_simp; refine ⟨?_, ?_⟩ <;> rfl); ( refine (s_dual HN.out p a cap qs ax1 cx1 xs1 w1 (by omega) (by omega) (by omega) (HQ.out.ext (GW.out.trans he)) HQB.out (HX.out.ext (GW.out.trans he)) HXB1.out HPR.out HRG.out).mono ?_; rintro e w2 ⟨g, rfl, ho, g2⟩; exact ⟨_, rfl, g2, g, rfl, ho.mono (Nat.le_trans GW.out.size he.size)⟩); simp only [Act.put, List.setIfInBounds_toArray, List.set_cons_zero, List.set_cons_succ])
  obtain ⟨_, g21, rfl, _⟩ := hv
  (refine LexW.pure (v := ?_) rfl rfl (fun w1 he => ?_) ?_; rotate_left; ( have e1 := he.cell HS0.out; have e2 := he.cell HS1.out; go_simp; rfl); simp only [Act.put, List.setIfInBounds_toArray, List.set_cons_zero, List.set_cons_succ])
  (refine LexW.pure (v := ?_) rfl rfl (fun w1 he => ?_) ?_; rotate_left; ( have e1 := he.cell HS0.out; have e2 := he.cell HS1.out; go_simp; rfl); simp only [Act.put, List.setIfInBounds_toArray, List.set_cons_zero, List.set_cons_succ])
  (refine LexW.callR (f := ?_) (args := ?_) rfl rfl (fun w1 => ?_) (fun w1 he hdep => ?_) (fun v hv => ?_); rotate_left 2; (go_simp; refine ⟨?_, ?_⟩ <;> rfl); ( refine (s_dual HN.out p a cap qs ax2 cx2 xs2 w1 (by omega) (by omega) (by omega) (HQ.out.ext (GW.out.trans he)) HQB.out (HY.out.ext (GW.out.trans he)) HXB2.out HPR.out HRG.out).mono ?_; rintro e w2 ⟨g, rfl, ho, g2⟩; exact ⟨_, rfl, g2, g, rfl, ho.mono (Nat.le_trans GW.out.size he.size)⟩); simp only [Act.put, List.setIfInBounds_toArray, List.set_cons_zero, List.set_cons_succ])
  obtain ⟨_, g24, rfl, _⟩ := hv
  (refine LexW.callR (f := ?_) (args := ?_) rfl rfl (fun w1 => ?_) (fun w1 he hdep => ?_) (fun v hv => ?_); rotate_left 2; (go_simp; refine ⟨?_, ?_⟩ <;> rfl); ( obtain ⟨_, q21, r21⟩ : (SPred.ownG w.heap.size n1 (dualL p qs xs1)).holds (.slice (some ⟨g21, 0, none⟩) n1 n1) w1 := hdep (4, 21) (by decide +kernel); cases q21; obtain ⟨_, q24, r24⟩ : (SPred.ownG w.heap.size n1 (dualL p qs xs2)).holds (.slice (some ⟨g24, 0, none⟩) n1 n1) w1 := hdep (7, 24) (by decide +kernel); cases q24; refine (s_wedgeN HN.out p a cap qs _ _ n1 n1 (dualL p qs xs1) (dualL p qs xs2) w1 (by omega) (by omega) (by omega) (HQ.out.ext (GW.out.trans he)) HQB.out r21.rd r24.rd (HGD _).out.isB (HGD _).out.isB).mono ?_; rintro e w2 ⟨g, rfl, ho, g2⟩; exact ⟨_, rfl, g2, g, rfl, ho.mono (Nat.le_trans GW.out.size he.size)⟩); simp only [Act.put, List.setIfInBounds_toArray, List.set_cons_zero, List.set_cons_succ])
  obtain ⟨_, g25, rfl, _⟩ := hv
  (refine LexW.callR (f := ?_) (args := ?_) rfl rfl (fun w1 => ?_) (fun w1 he hdep => ?_) (fun v hv => ?_); rotate_left 2; (go_simp; refine ⟨?_, ?_⟩ <;> rfl); ( obtain ⟨_, q25, r25⟩ : (SPred.ownG w.heap.size n1 (prodL p qs tkW (dualL p qs xs1) (dualL p qs xs2))).holds (.slice (some ⟨g25, 0, none⟩) n1 n1) w1 := hdep (8, 25) (by decide +kernel); cases q25; refine (s_undual HN.out p a cap qs _ n1 (prodL p qs tkW (dualL p qs xs1) (dualL p qs xs2)) w1 (by omega) (by omega) (by omega) (HQ.out.ext (GW.out.trans he)) HQB.out r25.rd HGW.out.isB).mono ?_; rintro e w2 ⟨g, rfl, ho, g2⟩; exact ⟨_, rfl, g2, g, rfl, ho.mono (Nat.le_trans GW.out.size he.size)⟩); simp only [Act.put, List.setIfInBounds_toArray, List.set_cons_zero, List.set_cons_succ])
  obtain ⟨_, g26, rfl, _⟩ := hv
  (refine LexW.pure (v := ?_) rfl rfl (fun w1 he => ?_) ?_; rotate_left; ( have e1 := he.cell HS0.out; have e2 := he.cell HS1.out; go_simp; rfl); simp only [Act.put, List.setIfInBounds_toArray, List.set_cons_zero, List.set_cons_succ])
  (refine LexW.pure (v := ?_) rfl rfl (fun w1 he => ?_) ?_; rotate_left; ( have e1 := he.cell HS0.out; have e2 := he.cell HS1.out; go_simp; rfl); simp only [Act.put, List.setIfInBounds_toArray, List.set_cons_zero, List.set_cons_succ])
  refine LexW.nil (fun w3 he hkn => ?_)
  obtain ⟨_, q26, r26⟩ : (SPred.ownG w.heap.size n1 (prodL p qs tkL (prodL p qs tkW (dualL p qs xs1) (dualL p qs xs2)) (fullL d))).holds (.slice (some ⟨g26, 0, none⟩) n1 n1) w3 := hkn (9, _) (by simp)
  cases q26
  have R26 := Lib.hid r26
  have HE := Lib.hid (GW.out.trans he)
  clear he hkn r26
  go_wp2_with (fail)
  go_ret2
  exact ⟨_, _, rfl, by rw [HM.out]; exact R26.out, HE.out⟩

set_option maxHeartbeats 400000 in
theorem c_MeetOf_bad (p : Int) (a : Option Addr) (d cap : Nat) (qs : List Int) (ax1 : Option Addr) (n1 cx1 : Nat) (xs1 : List Int) (ax2 : Option Addr) (n2 cx2 : Nat) (xs2 : List Int) (w : World) (hd : d ≤ 4194304) (hn1 : n1 ≤ 4194304) (hn2 : n2 ≤ 4194304) (hq : RdC w a d qs) (hx1 : RdC w ax1 n1 xs1) (hx2 : RdC w ax2 n2 xs2) (hc : codeR p qs [xs1, xs2] ≠ 0) :
    Calls Try.prog 47 #[.agg #[.int .i64 p, .slice a d cap], .slice ax1 n1 cx1, .slice ax2 n2 cx2] w fun e w' => ∃ ra rc, e = .returned (.tuple #[.slice ra 0 rc, .int .i64 (codeR p qs [xs1, xs2])]) ∧ OwnC w.heap.size w' ra 0 rc [] ∧ Ext w w' := by
  have hcb : (codeR p qs [xs1, xs2] != 0) = true := by simp [hc]
  clear hc
  go_enter Try.func47, Try.ntmps47
  go_wp2_with (go_at_call 111; refine (c_checkRegular p a d cap qs _ 2 _ [xs1, xs2] _ hd (by omega) (len_two (by rw [hx1.1]; exact hn1) (by rw [hx2.1]; exact hn2)) (hq.ext ((ext_alloc _ _).alloc _)) (rdR_two (a := ax1) (b := ax2) (n := _) (m := _) (ca := cx1) (cb := cx2) (by simp) (by simp) (hx1.ext ((ext_alloc _ _).alloc _)) (hx2.ext ((ext_alloc _ _).alloc _)))).mono ?_; rintro e w1 ⟨rfl, g1⟩)
  go_ret2
  exact ⟨none, 0, rfl, own_nil _ _, ((ext_alloc _ _).alloc _).trans g1⟩

set_option maxHeartbeats 4000000 in
set_option maxRecDepth 100000 in
theorem c_MeetOf_ok (p : Int) (a : Option Addr) (d cap : Nat) (qs : List Int) (ax1 : Option Addr) (n1 cx1 : Nat) (xs1 : List Int) (ax2 : Option Addr) (n2 cx2 : Nat) (xs2 : List Int) (w : World) (hd : d ≤ 4194304) (hn1 : n1 ≤ 4194304) (hn2 : n2 ≤ 4194304) (hq : RdC w a d qs) (hx1 : RdC w ax1 n1 xs1) (hx2 : RdC w ax2 n2 xs2) (hc : codeR p qs [xs1, xs2] = 0) :
    Calls Try.prog 47 #[.agg #[.int .i64 p, .slice a d cap], .slice ax1 n1 cx1, .slice ax2 n2 cx2] w fun e w' => ∃ ra rc, e = .returned (.tuple #[.slice ra n1 rc, .int .i64 0]) ∧ OwnC w.heap.size w' ra n1 rc (meetL p qs xs1 xs2) ∧ Ext w w' := by
  obtain ⟨hcm, hrg⟩ := codeR_zero hc
  have HRG := Lib.hid hrg
  obtain ⟨hs, hxm1, hxm2⟩ := codeM_two hcm
  clear hcm hrg
  obtain ⟨hpr, hd1, hd6, hqb⟩ := space_of hs
  have hpb := prime_bd hpr
  obtain ⟨hxl1, hxb1⟩ := multi_of hxm1
  obtain ⟨hxl2, hxb2⟩ := multi_of hxm2
  rw [hq.1] at hxl1 hxl2 hd6
  have hN : n1 = 2 ^ d := hx1.1.symm.trans hxl1
  obtain rfl : n1 = n2 := hN.trans (hx2.1.symm.trans hxl2).symm
  have HN := Lib.hid hN
  have HPR := Lib.hid hpr
  have HQB := Lib.hid hqb
  have HXB1 := Lib.hid hxb1
  have HXB2 := Lib.hid hxb2
  clear hs hxm1 hxm2 hqb hxb1 hxb2 hxl1 hxl2 hpr hd1 hN
  have HC := Lib.hid hc
  have hcb : ((0 : Int) != 0) = false := by simp
  clear hc
  go_enter Try.func47, Try.ntmps47
  go_wp2_with (go_at_call 111; refine (c_checkRegular p a d cap qs _ 2 _ [xs1, xs2] _ hd (by omega) (len_two (by rw [hx1.1]; exact hn1) (by rw [hx2.1]; exact hn2)) (hq.ext ((ext_alloc _ _).alloc _)) (rdR_two (a := ax1) (b := ax2) (n := _) (m := _) (ca := cx1) (cb := cx2) (by simp) (by simp) (hx1.ext ((ext_alloc _ _).alloc _)) (hx2.ext ((ext_alloc _ _).alloc _)))).mono ?_; rintro e w1 ⟨rfl, g1⟩; rw [HC.out]; have hq0 : w1.cell? ⟨w.heap.size, 0, none⟩ = some (.int .i64 p) := g1.cell (by simp); have hq1 : w1.cell? ⟨w.heap.size, 1, none⟩ = some (.slice a d cap) := g1.cell (by simp))
  have G1 := Lib.hid (((ext_alloc w (.cells #[.int .i64 p, .slice a d cap] 26)).alloc (.cells #[.slice ax1 n1 cx1, .slice ax2 n1 cx2] 24)).trans g1)
  have HS0 := Lib.hid ((ext_drew _).cell hq0)
  have HS1 := Lib.hid ((ext_drew _).cell hq1)
  have GW := Lib.hid (G1.out.trans (ext_drew _))
  have HQ := Lib.hid hq
  have HX := Lib.hid hx1
  have HGX := Lib.hid (good_isB hx1.1 HXB1.out)
  have hN6 : n1 ≤ 64 := by rw [HN.out]; exact pow_le64 (by omega)
  have hN1 : 1 ≤ n1 := by rw [HN.out]; exact pow_pos' d
  have hN0 : ¬ n1 = 0 := by omega
  have HY := Lib.hid hx2
  have HGY := Lib.hid (good_isB hx2.1 HXB2.out)
  have HGD : ∀ z, Hid (Good p n1 (dualL p qs z)) := fun z => Lib.hid (by rw [HN.out, ← HQ.out.1]; exact prod_good (by omega))
  have HGW : Hid (Good p n1 (prodL p qs tkW (dualL p qs xs1) (dualL p qs xs2))) := Lib.hid (by rw [HN.out, ← HQ.out.1]; exact prod_good (by omega))
  have HM := Lib.hid (show meetL p qs xs1 xs2 = prodL p qs tkL (prodL p qs tkW (dualL p qs xs1) (dualL p qs xs2)) (fullL d) by unfold meetL; rw [HQ.out.1])
  clear g1 hq0 hq1 hx1 hx2 hq
  refine wp_region_lex [(4, .ownG w.heap.size n1 (dualL p qs xs1)), (7, .ownG w.heap.size n1 (dualL p qs xs2)), (8, .ownG w.heap.size n1 (prodL p qs tkW (dualL p qs xs1) (dualL p qs xs2))), (9, .ownG w.heap.size n1 (prodL p qs tkL (prodL p qs tkW (dualL p qs xs1) (dualL p qs xs2)) (fullL d)))] (by kernel_rfl) (by kernel_rfl) ?_
  (refine LexW.pure (v := ?_) rfl rfl (fun w1 he => ?_) ?_; rotate_left; ( have e1 := he.cell HS0.out; have e2 := he.cell HS1.out; go_simp; rfl); simp only [Act.put, List.setIfInBounds_toArray, List.set_cons_zero, List.set_cons_succ])
  (refine LexW.pure (v := ?_) rfl rfl (fun w1 he => ?_) ?_; rotate_left; ( have e1 := he.cell HS0.out; have e2 := he.cell HS1.out; go_simp; rfl); simp only [Act.put, List.setIfInBounds_toArray, List.set_cons_zero, List.set_cons_succ])
  (refine LexW.pure (v := ?_) rfl rfl (fun w1 he => ?_) ?_; rotate_left; ( have e1 := he.cell HS0.out; have e2 := he.cell HS1.out; go_simp; rfl); simp only [Act.put, List.setIfInBounds_toArray, List.set_cons_zero, List.set_cons_succ])
  (refine LexW.pure (v := ?_) rfl rfl (fun w1 he => ?_) ?_; rotate_left; ( have e1 := he.cell HS0.out; have e2 := he.cell HS1.out; go_simp; rfl); simp only [Act.put, List.setIfInBounds_toArray, List.set_cons_zero, List.set_cons_succ])
  (refine LexW.callR (f := ?_) (args := ?_) rfl rfl (fun w1 => ?_) (fun w1 he hdep => ?_) (fun v hv => ?_); rotate_left 2; (go_simp; refine ⟨?_, ?_⟩ <;> rfl); ( refine (c_dual HN.out p a cap qs ax1 cx1 xs1 w1 (by omega) (by omega) (by omega) (HQ.out.ext (GW.out.trans he)) HQB.out (HX.out.ext (GW.out.trans he)) HXB1.out HPR.out HRG.out).mono ?_; rintro e w2 ⟨g, rfl, ho, g2⟩; exact ⟨_, rfl, g2, g, rfl, ho.mono (Nat.le_trans GW.out.size he.size)⟩); simp only [Act.put, List.setIfInBounds_toArray, List.set_cons_zero, List.set_cons_succ])
  obtain ⟨_, g21, rfl, _⟩ := hv
  (refine LexW.pure (v := ?_) rfl rfl (fun w1 he => ?_) ?_; rotate_left; ( have e1 := he.cell HS0.out; have e2 := he.cell HS1.out; go_simp; rfl); simp only [Act.put, List.setIfInBounds_toArray, List.set_cons_zero, List.set_cons_succ])
  (refine LexW.pure (v := ?_) rfl rfl (fun w1 he => ?_) ?_; rotate_left; ( have e1 := he.cell HS0.out; have e2 := he.cell HS1.out; go_simp; rfl); simp only [Act.put, List.setIfInBounds_toArray, List.set_cons_zero, List.set_cons_succ])
  (refine LexW.callR (f := ?_) (args := ?_) rfl rfl (fun w1 => ?_) (fun w1 he hdep => ?_) (fun v hv => ?_); rotate_left 2; (go_simp; refine ⟨?_, ?_⟩ <;> rfl); ( refine (c_dual HN.out p a cap qs ax2 cx2 xs2 w1 (by omega) (by omega) (by omega) (HQ.out.ext (GW.out.trans he)) HQB.out (HY.out.ext (GW.out.trans he)) HXB2.out HPR.out HRG.out).mono ?_; rintro e w2 ⟨g, rfl, ho, g2⟩; exact ⟨_, rfl, g2, g, rfl, ho.mono (Nat.le_trans GW.out.size he.size)⟩); simp only [Act.put, List.setIfInBounds_toArray, List.set_cons_zero, List.set_cons_succ])
  obtain ⟨_, g24, rfl, _⟩ := hv
  (refine LexW.callR (f := ?_) (args := ?_) rfl rfl (fun w1 => ?_) (fun w1 he hdep => ?_) (fun v hv => ?_); rotate_left 2; (go_simp; refine ⟨?_, ?_⟩ <;> rfl); ( obtain ⟨_, q21, r21⟩ : (SPred.ownG w.heap.size n1 (dualL p qs xs1)).holds (.slice (some ⟨g21, 0, none⟩) n1 n1) w1 := hdep (4, 21) (by decide +kernel); cases q21; obtain ⟨_, q24, r24⟩ : (SPred.ownG w.heap.size n1 (dualL p qs xs2)).holds (.slice (some ⟨g24, 0, none⟩) n1 n1) w1 := hdep (7, 24) (by decide +kernel); cases q24; refine (c_wedgeN HN.out p a cap qs _ _ n1 n1 (dualL p qs xs1) (dualL p qs xs2) w1 (by omega) (by omega) (by omega) (HQ.out.ext (GW.out.trans he)) HQB.out r21.rd r24.rd (HGD _).out.isB (HGD _).out.isB).mono ?_; rintro e w2 ⟨g, rfl, ho, g2⟩; exact ⟨_, rfl, g2, g, rfl, ho.mono (Nat.le_trans GW.out.size he.size)⟩); simp only [Act.put, List.setIfInBounds_toArray, List.set_cons_zero, List.set_cons_succ])
  obtain ⟨_, g25, rfl, _⟩ := hv
  (refine LexW.callR (f := ?_) (args := ?_) rfl rfl (fun w1 => ?_) (fun w1 he hdep => ?_) (fun v hv => ?_); rotate_left 2; (go_simp; refine ⟨?_, ?_⟩ <;> rfl); ( obtain ⟨_, q25, r25⟩ : (SPred.ownG w.heap.size n1 (prodL p qs tkW (dualL p qs xs1) (dualL p qs xs2))).holds (.slice (some ⟨g25, 0, none⟩) n1 n1) w1 := hdep (8, 25) (by decide +kernel); cases q25; refine (c_undual HN.out p a cap qs _ n1 (prodL p qs tkW (dualL p qs xs1) (dualL p qs xs2)) w1 (by omega) (by omega) (by omega) (HQ.out.ext (GW.out.trans he)) HQB.out r25.rd HGW.out.isB).mono ?_; rintro e w2 ⟨g, rfl, ho, g2⟩; exact ⟨_, rfl, g2, g, rfl, ho.mono (Nat.le_trans GW.out.size he.size)⟩); simp only [Act.put, List.setIfInBounds_toArray, List.set_cons_zero, List.set_cons_succ])
  obtain ⟨_, g26, rfl, _⟩ := hv
  (refine LexW.pure (v := ?_) rfl rfl (fun w1 he => ?_) ?_; rotate_left; ( have e1 := he.cell HS0.out; have e2 := he.cell HS1.out; go_simp; rfl); simp only [Act.put, List.setIfInBounds_toArray, List.set_cons_zero, List.set_cons_succ])
  (refine LexW.pure (v := ?_) rfl rfl (fun w1 he => ?_) ?_; rotate_left; ( have e1 := he.cell HS0.out; have e2 := he.cell HS1.out; go_simp; rfl); simp only [Act.put, List.setIfInBounds_toArray, List.set_cons_zero, List.set_cons_succ])
  refine LexW.nil (fun w3 he hkn => ?_)
  obtain ⟨_, q26, r26⟩ : (SPred.ownG w.heap.size n1 (prodL p qs tkL (prodL p qs tkW (dualL p qs xs1) (dualL p qs xs2)) (fullL d))).holds (.slice (some ⟨g26, 0, none⟩) n1 n1) w3 := hkn (9, _) (by simp)
  cases q26
  have R26 := Lib.hid r26
  have HE := Lib.hid (GW.out.trans he)
  clear he hkn r26
  go_wp2_with (fail)
  go_ret2
  exact ⟨_, _, rfl, by rw [HM.out]; exact R26.out, HE.out⟩

end Go.Proofs.Ytbgnfjckbjmgbaa

/-
  The discriminant, the pseudoscalar; plain laws of duals.
  No condition.
-/
namespace Go.Proofs.Ytbgnfjckbjmgbaa
set_option maxRecDepth 100000
open Go.RowKit

set_option maxHeartbeats 1000000 in
theorem c_disc (p : Int) (a : Option Addr) (d cap : Nat) (qs : List Int) (w : World) (hd : d ≤ 6) (hp1 : 3 ≤ p) (hp2 : p ≤ 1000) (hq : RdC w a d qs) (hqb : isB p qs = true) :
    Calls Try.prog 120 #[.agg #[.int .i64 p, .slice a d cap]] w fun e w' => e = .returned (.int .i64 (discL p qs)) ∧ Ext w w' := by
  have HD := Lib.hid (show discL p qs = discS p qs d by unfold discL; rw [hq.1])
  have HL := Lib.hid hq.1
  obtain ⟨O, hO⟩ : ∃ O, O = w.heap.size := ⟨_, rfl⟩
  obtain ⟨W, hW⟩ : ∃ W, W = w.alloc (.cells #[.int .i64 p, .slice a d cap] 26) := ⟨_, rfl⟩
  have gW : Ext w W := by rw [hW]; exact ext_alloc _ _
  have C0 := Lib.hid (show W.cell? ⟨O, 0, none⟩ = some (.int .i64 p) by rw [hW, hO]; simp)
  have C1 := Lib.hid (show W.cell? ⟨O, 1, none⟩ = some (.slice a d cap) by rw [hW, hO]; simp)
  have HQ := Lib.hid (hq.ext gW)
  have GW := Lib.hid gW
  have HW := Lib.hid hW
  have HQB := Lib.hid hqb
  go_enter Try.func120, Try.ntmps120
  have c1 := C1.out
  go_wp2_with (fail)
  rw [← hO, ← hW]
  clear hO hW gW hq hqb c1
  go_loopw [3, 9] (fun o i wr => ∃ (k : Nat), k ≤ d ∧ i = .int .i64 k ∧ o = .int .i64 (discS p qs k) ∧ Hid (Ext W wr)) (fun _ i _ => d - (intOf i).toNat)
  case atStart => exact ⟨0, Nat.zero_le _, rfl, rfl, Lib.hid (Ext.refl _)⟩
  case round =>
    obtain ⟨k, hk, rfl, rfl, HE⟩ := hrel
    by_cases hlt : k < d
    · obtain ⟨b, off, rfl, hc⟩ := HQ.out.2 k hlt
      have hc1 := HE.out.cell hc
      have c0 := HE.out.cell C0.out
      have c1 := HE.out.cell C1.out
      have hbd := discS_bd (qs := qs) hp1 k
      have hqk := isB_nth HQB.out (i := k) (by rw [HL.out]; exact hlt)
      have hm := mul_bd (x := discS p qs k) (y := nth qs k) (p := p) hp2 hbd.1 hbd.2 hqk.1 hqk.2
      have hw1 : wrap64 (discS p qs k * nth qs k) = discS p qs k * nth qs k := by unfold wrap64; omega
      clear hc
      go_wp2_with (fail)
      refine Calls.mono (c_field p _ wr) ?_
      rintro e w1 ⟨rfl, g1⟩
      replace HE := Lib.hid (HE.out.trans g1)
      clear g1 hc1 c0 c1
      go_wp2_with (fail)
      refine Calls.mono (c_num p _ w1 (by omega) hp2) ?_
      rintro e w2 ⟨rfl, g2⟩
      replace HE := Lib.hid (HE.out.trans g2)
      clear g2
      go_wp2_with (fail)
      go_roundw
      case rel => exact ⟨k + 1, by omega, by go_num, rfl, HE⟩
      case measure => simp [intOf]; omega
    · go_wp2_with (fail)
      go_ret
      obtain rfl : k = d := by omega
      exact ⟨ret_int HD.out.symm, GW.out.trans HE.out⟩
set_option maxHeartbeats 1000000 in
theorem c_DiscriminantOf_ok (p : Int) (a : Option Addr) (d cap : Nat) (qs : List Int) (w : World) (hs : spaceB p qs = true) (hq : RdC w a d qs) :
    Calls Try.prog 53 #[.agg #[.int .i64 p, .slice a d cap]] w fun e w' => e = .returned (.tuple #[.int .i64 (discL p qs), .int .i64 0]) ∧ Ext w w' := by
  obtain ⟨hpr, hd1, hd6, hqb⟩ := space_of hs
  have hpb := prime_bd hpr
  rw [hq.1] at hd6
  have HSS := Lib.hid hs
  clear hs
  go_enter Try.func53, Try.ntmps53
  go_wp2_with (fail)
  refine Calls.mono (c_isSpace p a d cap qs _ (by omega) (hq.ext (ext_alloc _ _))) ?_
  rintro e w1 ⟨rfl, g1⟩
  rw [HSS.out]
  have q0 : w1.cell? ⟨w.heap.size, 0, none⟩ = some (.int .i64 p) := g1.cell (by simp)
  have q1 : w1.cell? ⟨w.heap.size, 1, none⟩ = some (.slice a d cap) := g1.cell (by simp)
  have G1 := Lib.hid ((ext_alloc w _).trans g1)
  clear g1
  go_wp2_with (fail)
  refine Calls.mono (c_disc p a d cap qs w1 hd6 hpb.1 (by omega) (hq.ext G1.out) hqb) ?_
  rintro e w2 ⟨rfl, g2⟩
  go_wp2_with (fail)
  go_ret2
  exact ⟨rfl, G1.out.trans g2⟩
set_option maxHeartbeats 1000000 in
theorem c_PseudoscalarOf_ok {N : Nat} (p : Int) (a : Option Addr) (d cap : Nat) (qs : List Int) (w : World) (hN : N = 2 ^ d) (hs : spaceB p qs = true) (hq : RdC w a d qs) :
    Calls Try.prog 51 #[.agg #[.int .i64 p, .slice a d cap]] w fun e w' => ∃ g, e = .returned (.tuple #[.slice (some ⟨g, 0, none⟩) N N, .int .i64 0]) ∧ OwnC w.heap.size w' (some ⟨g, 0, none⟩) N N (fullL d) ∧ Ext w w' := by
  obtain ⟨hpr, hd1, hd6, hqb⟩ := space_of hs
  rw [hq.1] at hd6
  have HSS := Lib.hid hs
  have HN := Lib.hid hN
  clear hs hN
  go_enter Try.func51, Try.ntmps51
  go_wp2_with (fail)
  refine Calls.mono (c_isSpace p a d cap qs _ (by omega) (hq.ext (ext_alloc _ _))) ?_
  rintro e w1 ⟨rfl, g1⟩
  rw [HSS.out]
  have q0 : w1.cell? ⟨w.heap.size, 0, none⟩ = some (.int .i64 p) := g1.cell (by simp)
  have q1 : w1.cell? ⟨w.heap.size, 1, none⟩ = some (.slice a d cap) := g1.cell (by simp)
  have G1 := Lib.hid ((ext_alloc w _).trans g1)
  clear g1
  go_wp2_with (fail)
  refine Calls.mono (c_fullN HN.out p a cap w1 hd6) ?_
  rintro e w2 ⟨g, rfl, ho, g2⟩
  go_wp2_with (fail)
  go_ret2
  exact ⟨g, rfl, ho.mono G1.out.size, G1.out.trans g2⟩

/-! ### Plain laws -/
theorem facS_sign (p : Int) (qs : List Int) : ∀ d, d ≤ 6 → (facS p qs (2 ^ d - 1) (2 ^ d - 1) d).1 % 2 = d * (d - 1) / 2 % 2 := by
  intro d hd
  have : d = 0 ∨ d = 1 ∨ d = 2 ∨ d = 3 ∨ d = 4 ∨ d = 5 ∨ d = 6 := by omega
  rcases this with rfl | rfl | rfl | rfl | rfl | rfl | rfl <;> rfl
/-- The square of the pseudoscalar is the discriminant up to a sign. -/
theorem sq_disc {p : Int} {qs : List Int} (hp : 3 ≤ p) (hd : qs.length ≤ 6) : sqFull p qs = if qs.length * (qs.length - 1) / 2 % 2 = 1 then (-discL p qs) % p else discL p qs := by
  rw [sqFull_eq hp hd]
  unfold fac sgn
  rw [facS_sign p qs _ hd, facS_full _ (Nat.le_refl _)]
  rfl
theorem facZ_none (qs : List Int) (b : Nat) : ∀ k, facZ qs 0 b k = 1
  | 0 => rfl
  | k + 1 => by
    have ih := facZ_none qs b k
    unfold facZ
    rw [ih]
    unfold stZ sgZ
    simp
    intro _
    decide
theorem one_wedge {p : Int} {qs y : List Int} (hp : 3 ≤ p) (hy : Good p (2 ^ qs.length) y) : prodL p qs tkW (bladeL (2 ^ qs.length) 0) y = y := by
  have hN := pow_pos' qs.length
  refine ext_nth (by rw [(prod_good (by omega)).1, hy.1]) fun k hk => ?_
  rw [(prod_good (by omega)).1] at hk
  rw [prodT_nth (by omega) hk, sumN_single (k := 0) hN (fun i hi hne => by rw [bladeL_nth hN hi, if_neg (fun h => hne h.symm)]; simp)]
  rw [bladeL_nth hN hN, if_pos rfl, Nat.zero_xor, facZ_none, show tkI tkW 0 k = 1 by unfold tkI tkW; simp]
  have hb := hy.2 k hk
  simp only [Int.one_mul, Int.mul_one]
  exact Int.emod_eq_of_lt hb.1 hb.2
theorem dual_full {p : Int} {qs : List Int} (hp : primeB p = true) (hq : isB p qs = true) (hd : qs.length ≤ 6) (hr : regB qs = true) : dualL p qs (fullL qs.length) = bladeL (2 ^ qs.length) 0 := by
  have hpb := prime_bd hp
  have hb := sqFull_bd (p := p) (qs := qs) (by omega)
  have hne := sqFull_ne hp hq hd hr
  have hi := (inv_spec hp (show 0 < sqFull p qs by omega) hb.2).2.1
  unfold dualL
  rw [left_top (by omega), ← topL_one, top_top (by omega) hd (by rw [Int.one_mul, Int.mul_comm]; exact hi)]
theorem dual_good {p : Int} {qs x : List Int} (hp : 1 ≤ p) : Good p (2 ^ qs.length) (dualL p qs x) := prod_good hp
/-- The meet of the pseudoscalar and a multivector is this. -/
theorem meet_full {p : Int} {qs x : List Int} (hp : primeB p = true) (hq : isB p qs = true) (hd : qs.length ≤ 6) (hr : regB qs = true) (hx : Good p (2 ^ qs.length) x) : meetL p qs (fullL qs.length) x = x := by
  have hpb := prime_bd hp
  unfold meetL
  rw [dual_full hp hq hd hr, one_wedge (by omega) (dual_good (by omega)), undual_dual hp hq hd hr hx]
theorem dual_meet {p : Int} {qs x y : List Int} (hp : primeB p = true) (hq : isB p qs = true) (hd : qs.length ≤ 6) (hr : regB qs = true) : dualL p qs (meetL p qs x y) = prodL p qs tkW (dualL p qs x) (dualL p qs y) := by
  have hpb := prime_bd hp
  unfold meetL
  exact dual_undual hp hq hd hr (prod_good (by omega))
theorem topL_mul (d : Nat) (k : Int) (i : Nat) (hi : i < 2 ^ d) : nth (topL d k) i = k * nth (topL d 1) i := by
  rw [topL_nth hi, topL_nth hi]; split <;> simp
/-- The dual times the square of the pseudoscalar is the product with it. -/
theorem dual_scaled {p : Int} {qs x : List Int} (hp : primeB p = true) (hq : isB p qs = true) (hd : qs.length ≤ 6) (hr : regB qs = true) : scaleL p (dualL p qs x) (sqFull p qs) (2 ^ qs.length) = prodL p qs tkA x (fullL qs.length) := by
  have hpb := prime_bd hp
  have hb := sqFull_bd (p := p) (qs := qs) (by omega)
  have hne := sqFull_ne hp hq hd hr
  have hi := (inv_spec hp (show 0 < sqFull p qs by omega) hb.2).2.1
  unfold dualL
  rw [left_top (by omega), ← topL_one]
  refine ext_nth (by rw [scaleL_len, (prod_good (by omega)).1]) fun i hi' => ?_
  rw [scaleL_len] at hi'
  rw [scaleL_nth hi', scaleN, prodA_nth (by omega) hi', prodA_nth (by omega) hi', Int.mul_emod, Int.emod_emod, ← Int.mul_emod, ← sumN_mulr]
  refine sumN_emod fun j hj => ?_
  have hji := Nat.xor_lt_two_pow hj hi'
  rw [topL_mul _ _ _ hji]
  rw [show nth x j * (invN p (sqFull p qs) * nth (topL qs.length 1) (j ^^^ i)) * facZ qs j (j ^^^ i) qs.length * sqFull p qs = (sqFull p qs * invN p (sqFull p qs)) * (nth x j * nth (topL qs.length 1) (j ^^^ i) * facZ qs j (j ^^^ i) qs.length) by ac_rfl]
  rw [Int.mul_emod, hi, Int.one_mul, Int.emod_emod]
theorem codeR_two0 {p : Int} {qs x y : List Int} (hs : spaceB p qs = true) (hr : regB qs = true) (hx : Good p (2 ^ qs.length) x) (hy : Good p (2 ^ qs.length) y) : codeR p qs [x, y] = 0 := by
  simp [codeR, codeM_two0 hs hx hy, hr]
theorem codeR_one0 {p : Int} {qs x : List Int} (hs : spaceB p qs = true) (hr : regB qs = true) (hx : Good p (2 ^ qs.length) x) : codeR p qs [x] = 0 := by
  simp [codeR, codeM_one0 hs hx, hr]
theorem codeM_of2' {p : Int} {qs x y : List Int} (h : codeR p qs [x, y] = 0) : spaceB p qs = true ∧ regB qs = true ∧ Good p (2 ^ qs.length) x ∧ Good p (2 ^ qs.length) y := by
  obtain ⟨h0, hr⟩ := codeR_zero h
  obtain ⟨h1, h2, h3⟩ := codeM_two h0
  exact ⟨h1, hr, good_isB (multi_of h2).1 (multi_of h2).2, good_isB (multi_of h3).1 (multi_of h3).2⟩
end Go.Proofs.Ytbgnfjckbjmgbaa

/-
  What is known of the arguments of a law in memory, read off the form's own words.
  No condition.
-/
namespace Go.Proofs.Ytbgnfjckbjmgbaa
set_option maxRecDepth 100000
open Go.ChangeShapes Go.WideShapes Go.ChangeAt Go.RowKit Go.Joins

theorem own : ownKnob Try.prog.godebug = none := by kernel_rfl
theorem laidOut : laidOutB Try.prog = true := by kernel_rfl
theorem Try.cellsI : Try.prog.cellsOf 2 = 1 := by kernel_rfl
theorem Try.cellsR : Try.prog.cellsOf 24 = 1 := by kernel_rfl

theorem add_cell {w : World} {x : Addr} {i : Nat} {v v0 : Value} (h0 : w.cell? (x.add 0) = some v0) (h : w.cell? (x.add i) = some v) : ∃ b off, some x = some (⟨b, off, none⟩ : Addr) ∧ w.cell? ⟨b, off + i, none⟩ = some v := by
  obtain ⟨b, off, spot⟩ := x
  cases spot with
  | none =>
    refine ⟨b, off, rfl, ?_⟩
    unfold Addr.add at h
    split at h
    · rename_i hi; subst hi; exact h
    · exact h
  | some s =>
    simp only [World.cell?, Addr.add, if_true] at h0
    split at h0
    · simp at h0
    · cases h0

theorem read_cells {H : Type} {enc : TypeId × Value → H} {W : World} {fuel : Nat} {v : Value} {x : DataW H × List MemPlace}
    (hf : DataW.trod enc Try.prog W 0 (fun _ => true) true fuel 24 [v] = some x) : ∃ a n cap xs, v = .slice a n cap ∧ RdC W a n xs ∧ n ≤ maxLen := by
  rcases open_ints Try.underlying24 Try.underlying2 Try.cellsI hf with ⟨hcs, _⟩ | ⟨y, l, c, zs, hcs, _, hl, hm, hz, _, hcell, hwz⟩
  · simp only [List.cons.injEq, and_true] at hcs
    exact ⟨none, 0, 0, [], hcs, ⟨rfl, fun i hi => by omega⟩, by omega⟩
  · simp only [List.cons.injEq, and_true] at hcs
    have hz' : zs.length = c := by simpa using hz
    refine ⟨some y, l, c, zs.take l, hcs, ⟨by simp; omega, fun i hi => ?_⟩, by omega⟩
    obtain ⟨b, off, h1, h2⟩ := add_cell (hcell 0 (by omega)) (hcell i (by omega))
    refine ⟨b, off, h1, ?_⟩
    rw [h2]
    simp [nth, List.getElem?_take_of_lt hi]

theorem read_ints {H : Type} {enc : TypeId × Value → H} {W : World} {base : Nat} {v : Value} {d : DataW H} {p : List MemPlace}
    (hv : Value.okWide Try.prog W .any base 24 v) (h : DataW.Trod enc Try.prog W 0 (fun _ => true) true 24 v d p) : ∃ a n cap xs, v = .slice a n cap ∧ RdC W a n xs ∧ n ≤ maxLen := by
  obtain ⟨a0, len0, cap0, rfl⟩ := okWide_slice Try.underlying24 hv
  obtain ⟨fuel, hf⟩ := h
  exact read_cells (by simpa [Value.cells] using hf)


end Go.Proofs.Ytbgnfjckbjmgbaa

/-
  What is known of the bytes that a law is handed.
  No condition.
-/
namespace Go.Proofs.Ytbgnfjckbjmgbaa
set_option maxRecDepth 100000
open Go.ChangeShapes Go.WideShapes Go.ChangeAt Go.RowKit Go.Joins

theorem Try.cellsB : Try.prog.cellsOf 5 = 1 := by kernel_rfl

theorem read_bytes {H : Type} {enc : TypeId × Value → H} {W : World} {base : Nat} {v : Value} {d : DataW H} {p : List MemPlace}
    (hv : Value.okWide Try.prog W .any base 22 v) (h : DataW.Trod enc Try.prog W 0 (fun _ => true) true 22 v d p) : ∃ a n cap, v = .slice a n cap ∧ RdY W a n := by
  obtain ⟨a0, len0, cap0, rfl⟩ := okWide_slice Try.underlying22 hv
  obtain ⟨fuel, hf⟩ := h
  have hf' : DataW.trod enc Try.prog W 0 (fun _ => true) true fuel 22 [.slice a0 len0 cap0] = some (d, p) := by simpa [Value.cells] using hf
  rcases open_ints Try.underlying22 Try.underlying5 Try.cellsB hf' with ⟨hcs, _⟩ | ⟨y, l, c, zs, hcs, _, hl, hm, hz, _, hcell, hwz⟩
  · simp only [List.cons.injEq, and_true] at hcs
    exact ⟨none, 0, 0, hcs, fun i hi => by omega⟩
  · simp only [List.cons.injEq, and_true] at hcs
    have hz' : zs.length = c := by simpa using hz
    refine ⟨some y, l, c, hcs, fun i hi => ?_⟩
    obtain ⟨b, off, h1, h2⟩ := add_cell (hcell 0 (by omega)) (hcell i (by omega))
    have hi' : i < zs.length := by omega
    have hw := hwz (zs.getD i 0) (by rw [List.getD_eq_getElem?_getD, List.getElem?_eq_getElem hi']; exact List.getElem_mem hi')
    refine ⟨b, off, zs.getD i 0, h1, h2, ?_⟩
    replace hw : (decide (IntKind.u8.min ≤ zs.getD i 0) && decide (zs.getD i 0 ≤ IntKind.u8.max)) = true := hw
    have h8 : IntKind.u8.min = 0 ∧ IntKind.u8.max = 255 := by decide
    rw [h8.1, h8.2] at hw
    simp only [Bool.and_eq_true, decide_eq_true_eq] at hw
    omega
end Go.Proofs.Ytbgnfjckbjmgbaa
