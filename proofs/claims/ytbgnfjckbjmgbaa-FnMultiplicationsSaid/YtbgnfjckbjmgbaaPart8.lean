/-
  Contracts and plain laws, part 8: LawGeometricProducts, DrawI, Idem, Ker, Kill, Rank.
  No condition.
-/
import Derived.Test.YtbgnfjckbjmgbaaPart5
import Derived.Test.YtbgnfjckbjmgbaaPart6
import Derived.Test.YtbgnfjckbjmgbaaPart7
import Derived.Test.YtbgnfjckbjmgbaaPart3
import Derived.Test.YtbgnfjckbjmgbaaPart0
import Derived.Test.YtbgnfjckbjmgbaaPart2
/-
  The law FnGeometricProducts returns true.
  No condition.
-/
namespace Go.Proofs.Ytbgnfjckbjmgbaa
set_option maxRecDepth 100000
open Go.RowKit

theorem sum_comm0 {p : Int} {qs x y : List Int} (hp : 1 ≤ p) : nth (prodL p qs tkA x y) 0 = nth (prodL p qs tkA y x) 0 := by
  have h0 : 0 < 2 ^ qs.length := pow_pos' _
  rw [prodA_nth hp h0, prodA_nth hp h0]
  congr 1
  refine sumN_congr fun i _ => ?_
  rw [Nat.xor_zero]
  congr 1
  exact Int.mul_comm _ _
theorem codeM_of2 {p : Int} {qs x y : List Int} (h : codeM p qs [x, y] = 0) : spaceB p qs = true ∧ Good p (2 ^ qs.length) x ∧ Good p (2 ^ qs.length) y := by
  obtain ⟨h1, h2, h3⟩ := codeM_two h
  exact ⟨h1, good_isB (multi_of h2).1 (multi_of h2).2, good_isB (multi_of h3).1 (multi_of h3).2⟩

set_option maxHeartbeats 8000000 in
set_option maxRecDepth 100000 in
theorem law_GeometricProducts (w : World) (ac : Option Addr) (nc cc : Nat) (hb : RdY w ac nc) :
    Calls Try.prog 4 #[.slice ac nc cc] w fun e w' => e = .returned (.bool true) ∧ Ext w w' := by
  have HB := Lib.hid hb
  clear hb
  go_enter Try.func4, Try.ntmps4
  go_wp2_with (fail)
  refine Calls.mono (l_big ac nc cc w) ?_
  rintro e w1 ⟨rfl, g0⟩
  have E := Lib.hid g0
  by_cases hbig : 4096 < nc
  · have hbb : decide (4096 < nc) = true := by simp [hbig]
    rw [hbb]
    go_wp2_with (fail)
    go_ret
    exact ⟨rfl, E.out⟩
  have hbb : decide (4096 < nc) = false := by simp [hbig]
  rw [hbb]
  clear g0 hbb
  go_wp2_with (fail)
  refine Calls.mono (s_drawGeometricProduct ac nc cc w1 (by omega) (HB.out.ext E.out)) ?_
  rintro e w2 ⟨p, a, d, cap, qs, ax, nx, cx, x, ay, ny, cy, y, rfl, hp0, hp1, hd, hnx, hny, hq, hx, hy, g1⟩
  have E1 := Lib.hid g1
  replace E := Lib.hid (E.out.trans g1)
  have HQ := Lib.hid hq.rd
  have HX := Lib.hid hx.rd
  have HY := Lib.hid hy.rd
  clear hq hx hy g1
  go_wp2_with (fail)
  obtain ⟨O, hO⟩ : ∃ O, O = w2.heap.size := ⟨_, rfl⟩
  obtain ⟨W, hW⟩ : ∃ W, W = w2.alloc (.cells #[.int .i64 p, .slice a d cap] 26) := ⟨_, rfl⟩
  have C0 := Lib.hid (show W.cell? ⟨O, 0, none⟩ = some (.int .i64 p) by rw [hW, hO]; simp)
  have C1 := Lib.hid (show W.cell? ⟨O, 1, none⟩ = some (.slice a d cap) by rw [hW, hO]; simp)
  have gg : Ext w2 W := by rw [hW]; exact ext_alloc _ _
  rw [← hO, ← hW]
  clear hO hW E1
  replace E := Lib.hid (E.out.trans gg)
  replace HQ := Lib.hid (HQ.out.ext gg)
  replace HX := Lib.hid (HX.out.ext gg)
  replace HY := Lib.hid (HY.out.ext gg)
  clear gg
  by_cases hc : codeM p qs [x, y] ≠ 0
  · skip
    have x00 := C0.out
    have x01 := C1.out
    go_wp2_with (fail)
    clear x00 x01
    refine Calls.mono (c_GeometricProduct_bad p a d cap qs ax nx cx x ay ny cy y W (by omega) (by omega) (by omega) HQ.out HX.out HY.out hc) ?_
    rintro e v1 ⟨rZ, kZ, rfl, ho, gg⟩
    have RZ := Lib.hid (ho.mono (Nat.zero_le _))
    clear ho
    replace E := Lib.hid (E.out.trans gg)
    replace HQ := Lib.hid (HQ.out.ext gg)
    replace HX := Lib.hid (HX.out.ext gg)
    replace HY := Lib.hid (HY.out.ext gg)
    replace C0 := Lib.hid (gg.cell (p := ⟨O, 0, none⟩) C0.out)
    replace C1 := Lib.hid (gg.cell (p := ⟨O, 1, none⟩) C1.out)
    clear gg
    have x00 := C0.out
    have x01 := C1.out
    go_wp2_with (fail)
    clear x00 x01
    refine Calls.mono (s_GeometricProduct_bad p a d cap qs ax nx cx x ay ny cy y v1 (by omega) (by omega) (by omega) HQ.out HX.out HY.out hc) ?_
    rintro e v2 ⟨rT, kT, rfl, ho, gg⟩
    have RT := Lib.hid (ho.mono (Nat.zero_le _))
    clear ho
    replace E := Lib.hid (E.out.trans gg)
    replace HQ := Lib.hid (HQ.out.ext gg)
    replace HX := Lib.hid (HX.out.ext gg)
    replace HY := Lib.hid (HY.out.ext gg)
    replace RZ := Lib.hid (RZ.out.ext gg)
    replace C0 := Lib.hid (gg.cell (p := ⟨O, 0, none⟩) C0.out)
    replace C1 := Lib.hid (gg.cell (p := ⟨O, 1, none⟩) C1.out)
    clear gg
    have hcb : (codeM p qs [x, y] != 0) = true := by simp [hc]
    clear hc
    have x00 := C0.out
    have x01 := C1.out
    go_wp2_with (fail)
    clear x00 x01
    replace E := Lib.hid (E.out.trans (ext_drew v2))
    replace HQ := Lib.hid (HQ.out.ext (ext_drew v2))
    replace HX := Lib.hid (HX.out.ext (ext_drew v2))
    replace HY := Lib.hid (HY.out.ext (ext_drew v2))
    replace RZ := Lib.hid (RZ.out.ext (ext_drew v2))
    replace RT := Lib.hid (RT.out.ext (ext_drew v2))
    replace C0 := Lib.hid ((ext_drew v2).cell (p := ⟨O, 0, none⟩) C0.out)
    replace C1 := Lib.hid ((ext_drew v2).cell (p := ⟨O, 1, none⟩) C1.out)
    refine wp_region_lex [(6, .val (.bool true)), (12, .val (.bool (spaceB p qs && multiB p d x))), (15, .val (.bool (spaceB p qs && multiB p d x)))] (by kernel_rfl) (by kernel_rfl) ?_
    (refine LexW.pure (v := ?_) rfl rfl (fun w1 he => ?_) ?_; rotate_left; ( have x00 := (he.cell (p := ⟨O, 0, none⟩) C0.out); have x01 := (he.cell (p := ⟨O, 1, none⟩) C1.out); go_simp; rfl); simp only [Act.put, List.setIfInBounds_toArray, List.set_cons_zero, List.set_cons_succ])
    (refine LexW.pure (v := ?_) rfl rfl (fun w1 he => ?_) ?_; rotate_left; ( have x00 := (he.cell (p := ⟨O, 0, none⟩) C0.out); have x01 := (he.cell (p := ⟨O, 1, none⟩) C1.out); go_simp; rfl); simp only [Act.put, List.setIfInBounds_toArray, List.set_cons_zero, List.set_cons_succ])
    (refine LexW.pure (v := ?_) rfl rfl (fun w1 he => ?_) ?_; rotate_left; ( have x00 := (he.cell (p := ⟨O, 0, none⟩) C0.out); have x01 := (he.cell (p := ⟨O, 1, none⟩) C1.out); go_simp; rfl); simp only [Act.put, List.setIfInBounds_toArray, List.set_cons_zero, List.set_cons_succ])
    (refine LexW.pure (v := ?_) rfl rfl (fun w1 he => ?_) ?_; rotate_left; ( have x00 := (he.cell (p := ⟨O, 0, none⟩) C0.out); have x01 := (he.cell (p := ⟨O, 1, none⟩) C1.out); go_simp; rfl); simp only [Act.put, List.setIfInBounds_toArray, List.set_cons_zero, List.set_cons_succ])
    (refine LexW.pure (v := ?_) rfl rfl (fun w1 he => ?_) ?_; rotate_left; ( have x00 := (he.cell (p := ⟨O, 0, none⟩) C0.out); have x01 := (he.cell (p := ⟨O, 1, none⟩) C1.out); go_simp; rfl); simp only [Act.put, List.setIfInBounds_toArray, List.set_cons_zero, List.set_cons_succ])
    (refine LexW.pure (v := ?_) rfl rfl (fun w1 he => ?_) ?_; rotate_left; ( have x00 := (he.cell (p := ⟨O, 0, none⟩) C0.out); have x01 := (he.cell (p := ⟨O, 1, none⟩) C1.out); go_simp; rfl); simp only [Act.put, List.setIfInBounds_toArray, List.set_cons_zero, List.set_cons_succ])
    (refine LexW.call (f := ?_) (args := ?_) rfl rfl (fun w1 => ?_) (fun w1 he hdep => ?_) ?_; rotate_left 2; (go_simp; refine ⟨?_, ?_⟩ <;> rfl); ( have H := l_like rZ rT 0 0 kZ kT _ _ w1 (by omega) (by omega) (RZ.out.rd.ext he) (RT.out.rd.ext he); rw [eqB_self] at H; exact H); simp only [Act.put, List.setIfInBounds_toArray, List.set_cons_zero, List.set_cons_succ])
    (refine LexW.pure (v := ?_) rfl rfl (fun w1 he => ?_) ?_; rotate_left; ( have x00 := (he.cell (p := ⟨O, 0, none⟩) C0.out); have x01 := (he.cell (p := ⟨O, 1, none⟩) C1.out); go_simp; rfl); simp only [Act.put, List.setIfInBounds_toArray, List.set_cons_zero, List.set_cons_succ])
    (refine LexW.pure (v := ?_) rfl rfl (fun w1 he => ?_) ?_; rotate_left; ( have x00 := (he.cell (p := ⟨O, 0, none⟩) C0.out); have x01 := (he.cell (p := ⟨O, 1, none⟩) C1.out); go_simp; rfl); simp only [Act.put, List.setIfInBounds_toArray, List.set_cons_zero, List.set_cons_succ])
    (refine LexW.pure (v := ?_) rfl rfl (fun w1 he => ?_) ?_; rotate_left; ( have x00 := (he.cell (p := ⟨O, 0, none⟩) C0.out); have x01 := (he.cell (p := ⟨O, 1, none⟩) C1.out); go_simp; rfl); simp only [Act.put, List.setIfInBounds_toArray, List.set_cons_zero, List.set_cons_succ])
    (refine LexW.pure (v := ?_) rfl rfl (fun w1 he => ?_) ?_; rotate_left; ( have x00 := (he.cell (p := ⟨O, 0, none⟩) C0.out); have x01 := (he.cell (p := ⟨O, 1, none⟩) C1.out); go_simp; rfl); simp only [Act.put, List.setIfInBounds_toArray, List.set_cons_zero, List.set_cons_succ])
    (refine LexW.pure (v := ?_) rfl rfl (fun w1 he => ?_) ?_; rotate_left; ( have x00 := (he.cell (p := ⟨O, 0, none⟩) C0.out); have x01 := (he.cell (p := ⟨O, 1, none⟩) C1.out); go_simp; rfl); simp only [Act.put, List.setIfInBounds_toArray, List.set_cons_zero, List.set_cons_succ])
    (refine LexW.call (f := ?_) (args := ?_) rfl rfl (fun w1 => ?_) (fun w1 he hdep => ?_) ?_; rotate_left 2; (go_simp; refine ⟨?_, ?_⟩ <;> rfl); ( exact c_IsMultivector p a d cap qs ax nx cx x w1 (by omega) (by omega) (HQ.out.ext he) (HX.out.ext he)); simp only [Act.put, List.setIfInBounds_toArray, List.set_cons_zero, List.set_cons_succ])
    (refine LexW.pure (v := ?_) rfl rfl (fun w1 he => ?_) ?_; rotate_left; ( have x00 := (he.cell (p := ⟨O, 0, none⟩) C0.out); have x01 := (he.cell (p := ⟨O, 1, none⟩) C1.out); go_simp; rfl); simp only [Act.put, List.setIfInBounds_toArray, List.set_cons_zero, List.set_cons_succ])
    (refine LexW.pure (v := ?_) rfl rfl (fun w1 he => ?_) ?_; rotate_left; ( have x00 := (he.cell (p := ⟨O, 0, none⟩) C0.out); have x01 := (he.cell (p := ⟨O, 1, none⟩) C1.out); go_simp; rfl); simp only [Act.put, List.setIfInBounds_toArray, List.set_cons_zero, List.set_cons_succ])
    (refine LexW.call (f := ?_) (args := ?_) rfl rfl (fun w1 => ?_) (fun w1 he hdep => ?_) ?_; rotate_left 2; (go_simp; refine ⟨?_, ?_⟩ <;> rfl); ( exact s_IsMultivector p a d cap qs ax nx cx x w1 (by omega) (by omega) (HQ.out.ext he) (HX.out.ext he)); simp only [Act.put, List.setIfInBounds_toArray, List.set_cons_zero, List.set_cons_succ])
    (refine LexW.pure (v := ?_) rfl rfl (fun w1 he => ?_) ?_; rotate_left; ( have x00 := (he.cell (p := ⟨O, 0, none⟩) C0.out); have x01 := (he.cell (p := ⟨O, 1, none⟩) C1.out); go_simp; rfl); simp only [Act.put, List.setIfInBounds_toArray, List.set_cons_zero, List.set_cons_succ])
    (refine LexW.pure (v := ?_) rfl rfl (fun w1 he => ?_) ?_; rotate_left; ( have x00 := (he.cell (p := ⟨O, 0, none⟩) C0.out); have x01 := (he.cell (p := ⟨O, 1, none⟩) C1.out); go_simp; rfl); simp only [Act.put, List.setIfInBounds_toArray, List.set_cons_zero, List.set_cons_succ])
    refine LexW.nil (fun w3 he hkn => ?_)
    have HE := Lib.hid he
    clear he hkn 
    rename World => v3
    replace E := Lib.hid (E.out.trans HE.out)
    replace HQ := Lib.hid (HQ.out.ext HE.out)
    replace HX := Lib.hid (HX.out.ext HE.out)
    replace HY := Lib.hid (HY.out.ext HE.out)
    replace RZ := Lib.hid (RZ.out.ext HE.out)
    replace RT := Lib.hid (RT.out.ext HE.out)
    replace C0 := Lib.hid (HE.out.cell (p := ⟨O, 0, none⟩) C0.out)
    replace C1 := Lib.hid (HE.out.cell (p := ⟨O, 1, none⟩) C1.out)
    clear HE
    go_wp2_with (fail)
    go_ret
    exact ⟨rfl, E.out⟩
  replace hc : codeM p qs [x, y] = 0 := by simpa using hc
  have x00 := C0.out
  have x01 := C1.out
  go_wp2_with (fail)
  clear x00 x01
  refine Calls.mono (c_GeometricProduct_ok p a d cap qs ax nx cx x ay ny cy y W (by omega) (by omega) (by omega) HQ.out HX.out HY.out hc) ?_
  rintro e v1 ⟨rZ, kZ, rfl, ho, gg⟩
  have RZ := Lib.hid (ho.mono (Nat.zero_le _))
  clear ho
  replace E := Lib.hid (E.out.trans gg)
  replace HQ := Lib.hid (HQ.out.ext gg)
  replace HX := Lib.hid (HX.out.ext gg)
  replace HY := Lib.hid (HY.out.ext gg)
  replace C0 := Lib.hid (gg.cell (p := ⟨O, 0, none⟩) C0.out)
  replace C1 := Lib.hid (gg.cell (p := ⟨O, 1, none⟩) C1.out)
  clear gg
  have x00 := C0.out
  have x01 := C1.out
  go_wp2_with (fail)
  clear x00 x01
  refine Calls.mono (s_GeometricProduct_ok p a d cap qs ax nx cx x ay ny cy y v1 (by omega) (by omega) (by omega) HQ.out HX.out HY.out hc) ?_
  rintro e v2 ⟨rT, kT, rfl, ho, gg⟩
  have RT := Lib.hid (ho.mono (Nat.zero_le _))
  clear ho
  replace E := Lib.hid (E.out.trans gg)
  replace HQ := Lib.hid (HQ.out.ext gg)
  replace HX := Lib.hid (HX.out.ext gg)
  replace HY := Lib.hid (HY.out.ext gg)
  replace RZ := Lib.hid (RZ.out.ext gg)
  replace C0 := Lib.hid (gg.cell (p := ⟨O, 0, none⟩) C0.out)
  replace C1 := Lib.hid (gg.cell (p := ⟨O, 1, none⟩) C1.out)
  clear gg
  obtain ⟨hs, hgx, hgy⟩ := codeM_of2 hc
  clear hc
  have HSP := Lib.hid (hs)
  obtain ⟨hpr, hd1, hd6, hqb⟩ := space_of HSP.out
  have hpb := prime_bd hpr
  have HPR := Lib.hid hpr
  have HQB := Lib.hid hqb
  have HD := Lib.hid HQ.out.1
  rw [HD.out] at hd6 hd1
  obtain ⟨N, hN⟩ : ∃ N, N = 2 ^ d := ⟨_, rfl⟩
  have HN := Lib.hid hN
  have hN6 : N ≤ 64 := by rw [hN]; exact pow_le64 hd6
  have hN1 : 1 ≤ N := by rw [hN]; exact pow_pos' d
  have HPG := fun (tk : Nat → Nat → Bool) (x y : List Int) => Lib.hid (show Good p N (prodL p qs tk x y) by rw [hN, ← HD.out]; exact prod_good (by omega))
  have HNQ := Lib.hid (show N = 2 ^ qs.length by rw [hN, HD.out])
  clear hN hqb hpr
  obtain rfl : N = nx := by rw [← HX.out.1, HNQ.out]; exact hgx.1.symm
  obtain rfl : N = ny := by rw [← HY.out.1, HNQ.out]; exact hgy.1.symm
  have HGX := Lib.hid (show Good p N x by rw [HNQ.out]; exact hgx)
  clear hgx
  have HGY := Lib.hid (show Good p N y by rw [HNQ.out]; exact hgy)
  clear hgy
  clear hs
  have HZ := Lib.hid (show Good p N (prodL p qs tkA x y) from (HPG tkA x y).out)
  obtain ⟨gZ, rfl⟩ := RZ.out.addr (by omega)
  obtain ⟨gT, rfl⟩ := RT.out.addr (by omega)
  have x00 := C0.out
  have x01 := C1.out
  go_wp2_with (fail)
  clear x00 x01
  replace E := Lib.hid (E.out.trans (ext_drew v2))
  replace HQ := Lib.hid (HQ.out.ext (ext_drew v2))
  replace HX := Lib.hid (HX.out.ext (ext_drew v2))
  replace HY := Lib.hid (HY.out.ext (ext_drew v2))
  replace RZ := Lib.hid (RZ.out.ext (ext_drew v2))
  replace RT := Lib.hid (RT.out.ext (ext_drew v2))
  replace C0 := Lib.hid ((ext_drew v2).cell (p := ⟨O, 0, none⟩) C0.out)
  replace C1 := Lib.hid ((ext_drew v2).cell (p := ⟨O, 1, none⟩) C1.out)
  refine wp_region_lex [(6, .val (.bool true)), (12, .val (.bool (spaceB p qs && multiB p d x))), (15, .val (.bool (spaceB p qs && multiB p d x)))] (by kernel_rfl) (by kernel_rfl) ?_
  (refine LexW.pure (v := ?_) rfl rfl (fun w1 he => ?_) ?_; rotate_left; ( have x00 := (he.cell (p := ⟨O, 0, none⟩) C0.out); have x01 := (he.cell (p := ⟨O, 1, none⟩) C1.out); go_simp; rfl); simp only [Act.put, List.setIfInBounds_toArray, List.set_cons_zero, List.set_cons_succ])
  (refine LexW.pure (v := ?_) rfl rfl (fun w1 he => ?_) ?_; rotate_left; ( have x00 := (he.cell (p := ⟨O, 0, none⟩) C0.out); have x01 := (he.cell (p := ⟨O, 1, none⟩) C1.out); go_simp; rfl); simp only [Act.put, List.setIfInBounds_toArray, List.set_cons_zero, List.set_cons_succ])
  (refine LexW.pure (v := ?_) rfl rfl (fun w1 he => ?_) ?_; rotate_left; ( have x00 := (he.cell (p := ⟨O, 0, none⟩) C0.out); have x01 := (he.cell (p := ⟨O, 1, none⟩) C1.out); go_simp; rfl); simp only [Act.put, List.setIfInBounds_toArray, List.set_cons_zero, List.set_cons_succ])
  (refine LexW.pure (v := ?_) rfl rfl (fun w1 he => ?_) ?_; rotate_left; ( have x00 := (he.cell (p := ⟨O, 0, none⟩) C0.out); have x01 := (he.cell (p := ⟨O, 1, none⟩) C1.out); go_simp; rfl); simp only [Act.put, List.setIfInBounds_toArray, List.set_cons_zero, List.set_cons_succ])
  (refine LexW.pure (v := ?_) rfl rfl (fun w1 he => ?_) ?_; rotate_left; ( have x00 := (he.cell (p := ⟨O, 0, none⟩) C0.out); have x01 := (he.cell (p := ⟨O, 1, none⟩) C1.out); go_simp; rfl); simp only [Act.put, List.setIfInBounds_toArray, List.set_cons_zero, List.set_cons_succ])
  (refine LexW.pure (v := ?_) rfl rfl (fun w1 he => ?_) ?_; rotate_left; ( have x00 := (he.cell (p := ⟨O, 0, none⟩) C0.out); have x01 := (he.cell (p := ⟨O, 1, none⟩) C1.out); go_simp; rfl); simp only [Act.put, List.setIfInBounds_toArray, List.set_cons_zero, List.set_cons_succ])
  (refine LexW.call (f := ?_) (args := ?_) rfl rfl (fun w1 => ?_) (fun w1 he hdep => ?_) ?_; rotate_left 2; (go_simp; refine ⟨?_, ?_⟩ <;> rfl); ( have H := l_like (some ⟨gZ, 0, none⟩) (some ⟨gT, 0, none⟩) N N kZ kT _ _ w1 (by omega) (by omega) (RZ.out.rd.ext he) (RT.out.rd.ext he); rw [eqB_self] at H; exact H); simp only [Act.put, List.setIfInBounds_toArray, List.set_cons_zero, List.set_cons_succ])
  (refine LexW.pure (v := ?_) rfl rfl (fun w1 he => ?_) ?_; rotate_left; ( have x00 := (he.cell (p := ⟨O, 0, none⟩) C0.out); have x01 := (he.cell (p := ⟨O, 1, none⟩) C1.out); go_simp; rfl); simp only [Act.put, List.setIfInBounds_toArray, List.set_cons_zero, List.set_cons_succ])
  (refine LexW.pure (v := ?_) rfl rfl (fun w1 he => ?_) ?_; rotate_left; ( have x00 := (he.cell (p := ⟨O, 0, none⟩) C0.out); have x01 := (he.cell (p := ⟨O, 1, none⟩) C1.out); go_simp; rfl); simp only [Act.put, List.setIfInBounds_toArray, List.set_cons_zero, List.set_cons_succ])
  (refine LexW.pure (v := ?_) rfl rfl (fun w1 he => ?_) ?_; rotate_left; ( have x00 := (he.cell (p := ⟨O, 0, none⟩) C0.out); have x01 := (he.cell (p := ⟨O, 1, none⟩) C1.out); go_simp; rfl); simp only [Act.put, List.setIfInBounds_toArray, List.set_cons_zero, List.set_cons_succ])
  (refine LexW.pure (v := ?_) rfl rfl (fun w1 he => ?_) ?_; rotate_left; ( have x00 := (he.cell (p := ⟨O, 0, none⟩) C0.out); have x01 := (he.cell (p := ⟨O, 1, none⟩) C1.out); go_simp; rfl); simp only [Act.put, List.setIfInBounds_toArray, List.set_cons_zero, List.set_cons_succ])
  (refine LexW.pure (v := ?_) rfl rfl (fun w1 he => ?_) ?_; rotate_left; ( have x00 := (he.cell (p := ⟨O, 0, none⟩) C0.out); have x01 := (he.cell (p := ⟨O, 1, none⟩) C1.out); go_simp; rfl); simp only [Act.put, List.setIfInBounds_toArray, List.set_cons_zero, List.set_cons_succ])
  (refine LexW.call (f := ?_) (args := ?_) rfl rfl (fun w1 => ?_) (fun w1 he hdep => ?_) ?_; rotate_left 2; (go_simp; refine ⟨?_, ?_⟩ <;> rfl); ( exact c_IsMultivector p a d cap qs ax N cx x w1 (by omega) (by omega) (HQ.out.ext he) (HX.out.ext he)); simp only [Act.put, List.setIfInBounds_toArray, List.set_cons_zero, List.set_cons_succ])
  (refine LexW.pure (v := ?_) rfl rfl (fun w1 he => ?_) ?_; rotate_left; ( have x00 := (he.cell (p := ⟨O, 0, none⟩) C0.out); have x01 := (he.cell (p := ⟨O, 1, none⟩) C1.out); go_simp; rfl); simp only [Act.put, List.setIfInBounds_toArray, List.set_cons_zero, List.set_cons_succ])
  (refine LexW.pure (v := ?_) rfl rfl (fun w1 he => ?_) ?_; rotate_left; ( have x00 := (he.cell (p := ⟨O, 0, none⟩) C0.out); have x01 := (he.cell (p := ⟨O, 1, none⟩) C1.out); go_simp; rfl); simp only [Act.put, List.setIfInBounds_toArray, List.set_cons_zero, List.set_cons_succ])
  (refine LexW.call (f := ?_) (args := ?_) rfl rfl (fun w1 => ?_) (fun w1 he hdep => ?_) ?_; rotate_left 2; (go_simp; refine ⟨?_, ?_⟩ <;> rfl); ( exact s_IsMultivector p a d cap qs ax N cx x w1 (by omega) (by omega) (HQ.out.ext he) (HX.out.ext he)); simp only [Act.put, List.setIfInBounds_toArray, List.set_cons_zero, List.set_cons_succ])
  (refine LexW.pure (v := ?_) rfl rfl (fun w1 he => ?_) ?_; rotate_left; ( have x00 := (he.cell (p := ⟨O, 0, none⟩) C0.out); have x01 := (he.cell (p := ⟨O, 1, none⟩) C1.out); go_simp; rfl); simp only [Act.put, List.setIfInBounds_toArray, List.set_cons_zero, List.set_cons_succ])
  (refine LexW.pure (v := ?_) rfl rfl (fun w1 he => ?_) ?_; rotate_left; ( have x00 := (he.cell (p := ⟨O, 0, none⟩) C0.out); have x01 := (he.cell (p := ⟨O, 1, none⟩) C1.out); go_simp; rfl); simp only [Act.put, List.setIfInBounds_toArray, List.set_cons_zero, List.set_cons_succ])
  refine LexW.nil (fun w3 he hkn => ?_)
  have HE := Lib.hid he
  clear he hkn 
  rename World => v3
  replace E := Lib.hid (E.out.trans HE.out)
  replace HQ := Lib.hid (HQ.out.ext HE.out)
  replace HX := Lib.hid (HX.out.ext HE.out)
  replace HY := Lib.hid (HY.out.ext HE.out)
  replace RZ := Lib.hid (RZ.out.ext HE.out)
  replace RT := Lib.hid (RT.out.ext HE.out)
  replace C0 := Lib.hid (HE.out.cell (p := ⟨O, 0, none⟩) C0.out)
  replace C1 := Lib.hid (HE.out.cell (p := ⟨O, 1, none⟩) C1.out)
  clear HE
  clear RT
  have x00 := C0.out
  have x01 := C1.out
  go_wp2_with (fail)
  clear x00 x01
  refine Calls.mono (l_roll ac nc cc 836 v3 (by omega) (HB.out.ext E.out)) ?_
  rintro e v4 ⟨g, rfl, hg, hS, gg⟩
  obtain ⟨S, hSe⟩ : ∃ S : SrcP, S = ⟨g, ac, nc, cc⟩ := ⟨_, rfl⟩
  obtain rfl : g = S.g := by rw [hSe]
  rw [← hSe] at hS
  have HS := Lib.hid hS
  have E0 := Lib.hid gg
  have hgB : v3.heap.size ≤ S.g := hg
  have hgO : O ≠ S.g := by have := lt_of_cell C0.out; dsimp only at this; omega
  clear hSe hS gg hg
  have x00 := (E0.out.cell (p := ⟨O, 0, none⟩) C0.out)
  have x01 := (E0.out.cell (p := ⟨O, 1, none⟩) C1.out)
  go_wp2_with (fail)
  clear x00 x01
  replace E0 := Lib.hid (E0.out.trans (ext_drew v4))
  replace HS := Lib.hid ((Drw.of_ext (S := S) (ext_drew v4)).src HS.out)
  refine Chg.wp_region_lex (E := Drw.rel S) [(2, .val (.int .i64 N)), (5, .ownP S (S.g + 1) N (Good p N) (Nat.lt_succ_self _))] (by kernel_rfl) (by kernel_rfl) ?_
  (refine Chg.LexW.pure (v := ?_) rfl rfl (fun w1 he => ?_) ?_; rotate_left; ( have he' : Drw S _ _ := he; have x00 := (he'.cell (p := ⟨O, 0, none⟩) hgO (E0.out.cell (p := ⟨O, 0, none⟩) C0.out)); have x01 := (he'.cell (p := ⟨O, 1, none⟩) hgO (E0.out.cell (p := ⟨O, 1, none⟩) C1.out)); go_simp; rfl); simp only [Act.put, List.setIfInBounds_toArray, List.set_cons_zero, List.set_cons_succ])
  (refine Chg.LexW.pure (v := ?_) rfl rfl (fun w1 he => ?_) ?_; rotate_left; ( have he' : Drw S _ _ := he; have x00 := (he'.cell (p := ⟨O, 0, none⟩) hgO (E0.out.cell (p := ⟨O, 0, none⟩) C0.out)); have x01 := (he'.cell (p := ⟨O, 1, none⟩) hgO (E0.out.cell (p := ⟨O, 1, none⟩) C1.out)); go_simp; rfl); simp only [Act.put, List.setIfInBounds_toArray, List.set_cons_zero, List.set_cons_succ])
  (refine Chg.LexW.call (f := ?_) (args := ?_) rfl rfl (fun w1 => ?_) (fun w1 he hdep => ?_) ?_; rotate_left 2; (go_simp; refine ⟨?_, ?_⟩ <;> rfl); ( have he' : Drw S _ _ := he; have H := l_size5 p a d cap w1 hd6 HN.out; exact H.mono fun e w' h => ⟨h.1, Drw.of_ext h.2⟩); simp only [Act.put, List.setIfInBounds_toArray, List.set_cons_zero, List.set_cons_succ])
  (refine Chg.LexW.pure (v := ?_) rfl rfl (fun w1 he => ?_) ?_; rotate_left; ( have he' : Drw S _ _ := he; have x00 := (he'.cell (p := ⟨O, 0, none⟩) hgO (E0.out.cell (p := ⟨O, 0, none⟩) C0.out)); have x01 := (he'.cell (p := ⟨O, 1, none⟩) hgO (E0.out.cell (p := ⟨O, 1, none⟩) C1.out)); go_simp; rfl); simp only [Act.put, List.setIfInBounds_toArray, List.set_cons_zero, List.set_cons_succ])
  (refine Chg.LexW.pure (v := ?_) rfl rfl (fun w1 he => ?_) ?_; rotate_left; ( have he' : Drw S _ _ := he; have x00 := (he'.cell (p := ⟨O, 0, none⟩) hgO (E0.out.cell (p := ⟨O, 0, none⟩) C0.out)); have x01 := (he'.cell (p := ⟨O, 1, none⟩) hgO (E0.out.cell (p := ⟨O, 1, none⟩) C1.out)); go_simp; rfl); simp only [Act.put, List.setIfInBounds_toArray, List.set_cons_zero, List.set_cons_succ])
  (refine Chg.LexW.callR (f := ?_) (args := ?_) rfl rfl (fun w1 => ?_) (fun w1 he hdep => ?_) (fun v hv => ?_); rotate_left 2; (go_simp; refine ⟨?_, ?_⟩ <;> rfl); ( have he' : Drw S _ _ := he; (refine Calls.mono (l_list5 S p N _ (he'.src HS.out) (by omega) (by omega)) ?_; rintro e w9 ⟨a9, c9, x9, rfl, ho9, hb9, g9⟩; obtain ⟨g8, _, rfl, _⟩ := ho9.row (by omega); exact ⟨_, rfl, g9, g8, c9, x9, rfl, isB_Good ho9.1 (hb9 (by omega)), ho9.mono (Nat.le_trans HS.out.lt he'.size)⟩)); simp only [Act.put, List.setIfInBounds_toArray, List.set_cons_zero, List.set_cons_succ])
  obtain ⟨_, gU, cU, _, rfl, _⟩ := hv
  (refine Chg.LexW.pure (v := ?_) rfl rfl (fun w1 he => ?_) ?_; rotate_left; ( have he' : Drw S _ _ := he; have x00 := (he'.cell (p := ⟨O, 0, none⟩) hgO (E0.out.cell (p := ⟨O, 0, none⟩) C0.out)); have x01 := (he'.cell (p := ⟨O, 1, none⟩) hgO (E0.out.cell (p := ⟨O, 1, none⟩) C1.out)); go_simp; rfl); simp only [Act.put, List.setIfInBounds_toArray, List.set_cons_zero, List.set_cons_succ])
  refine Chg.LexW.nil (fun v5 he hkn => ?_)
  have gg : Drw S v4.drew v5 := he
  obtain ⟨_, _, u, qU, pU, rU⟩ : (Chg.SPred.ownP S (S.g + 1) N (Good p N) (Nat.lt_succ_self _)).holds (.slice (some ⟨gU, 0, none⟩) N cU) _ := hkn (5, _) (by simp)
  cases qU
  have RU := Lib.hid rU
  have HGU := Lib.hid pU
  clear rU pU
  replace E0 := Lib.hid (gg.toExt E0.out hgB)
  replace HS := Lib.hid (gg.src HS.out)
  clear gg he hkn
  have x00 := (E0.out.cell (p := ⟨O, 0, none⟩) C0.out)
  have x01 := (E0.out.cell (p := ⟨O, 1, none⟩) C1.out)
  go_wp2_with (fail)
  clear x00 x01
  refine Calls.mono (c_AddMultivectors_ok p a d cap qs _ _ y _ _ u v5 HN.out HSP.out (HQ.out.ext E0.out) (HY.out.ext E0.out) RU.out.rd HGY.out HGU.out) ?_
  rintro e v6 ⟨gA, cA, rfl, ho, gg⟩
  have RA := Lib.hid (ho.mono (show S.g + 1 ≤ _ from HS.out.lt))
  clear ho
  replace E0 := Lib.hid (E0.out.trans gg)
  replace HS := Lib.hid ((Drw.of_ext (S := S) gg).src HS.out)
  replace RU := Lib.hid (RU.out.ext gg)
  clear gg
  have x00 := (E0.out.cell (p := ⟨O, 0, none⟩) C0.out)
  have x01 := (E0.out.cell (p := ⟨O, 1, none⟩) C1.out)
  go_wp2_with (fail)
  clear x00 x01
  refine Calls.mono (c_ScalarOf_ok p a d cap qs _ _ (prodL p qs tkA x y) v6 HN.out HSP.out (HQ.out.ext E0.out) (RZ.out.rd.ext E0.out) HZ.out) ?_
  rintro e v7 ⟨rfl, gg⟩
  replace E0 := Lib.hid (E0.out.trans gg)
  replace HS := Lib.hid ((Drw.of_ext (S := S) gg).src HS.out)
  replace RU := Lib.hid (RU.out.ext gg)
  replace RA := Lib.hid (RA.out.ext gg)
  clear gg
  have x00 := (E0.out.cell (p := ⟨O, 0, none⟩) C0.out)
  have x01 := (E0.out.cell (p := ⟨O, 1, none⟩) C1.out)
  go_wp2_with (fail)
  clear x00 x01
  replace E0 := Lib.hid (E0.out.trans (ext_drew v7))
  replace HS := Lib.hid ((Drw.of_ext (S := S) (ext_drew v7)).src HS.out)
  replace RU := Lib.hid (RU.out.ext (ext_drew v7))
  replace RA := Lib.hid (RA.out.ext (ext_drew v7))
  refine wp_region_lex [(4, .ownS (S.g + 1) N (prodL p qs tkA y x)), (5, .val (.tuple #[.int .i64 (nth (prodL p qs tkA y x) 0), .int .i64 0]))] (by kernel_rfl) (by kernel_rfl) ?_
  (refine LexW.pure (v := ?_) rfl rfl (fun w1 he => ?_) ?_; rotate_left; ( have x00 := (he.cell (p := ⟨O, 0, none⟩) (E0.out.cell (p := ⟨O, 0, none⟩) C0.out)); have x01 := (he.cell (p := ⟨O, 1, none⟩) (E0.out.cell (p := ⟨O, 1, none⟩) C1.out)); go_simp; rfl); simp only [Act.put, List.setIfInBounds_toArray, List.set_cons_zero, List.set_cons_succ])
  (refine LexW.pure (v := ?_) rfl rfl (fun w1 he => ?_) ?_; rotate_left; ( have x00 := (he.cell (p := ⟨O, 0, none⟩) (E0.out.cell (p := ⟨O, 0, none⟩) C0.out)); have x01 := (he.cell (p := ⟨O, 1, none⟩) (E0.out.cell (p := ⟨O, 1, none⟩) C1.out)); go_simp; rfl); simp only [Act.put, List.setIfInBounds_toArray, List.set_cons_zero, List.set_cons_succ])
  (refine LexW.pure (v := ?_) rfl rfl (fun w1 he => ?_) ?_; rotate_left; ( have x00 := (he.cell (p := ⟨O, 0, none⟩) (E0.out.cell (p := ⟨O, 0, none⟩) C0.out)); have x01 := (he.cell (p := ⟨O, 1, none⟩) (E0.out.cell (p := ⟨O, 1, none⟩) C1.out)); go_simp; rfl); simp only [Act.put, List.setIfInBounds_toArray, List.set_cons_zero, List.set_cons_succ])
  (refine LexW.pure (v := ?_) rfl rfl (fun w1 he => ?_) ?_; rotate_left; ( have x00 := (he.cell (p := ⟨O, 0, none⟩) (E0.out.cell (p := ⟨O, 0, none⟩) C0.out)); have x01 := (he.cell (p := ⟨O, 1, none⟩) (E0.out.cell (p := ⟨O, 1, none⟩) C1.out)); go_simp; rfl); simp only [Act.put, List.setIfInBounds_toArray, List.set_cons_zero, List.set_cons_succ])
  (refine LexW.callR (f := ?_) (args := ?_) rfl rfl (fun w1 => ?_) (fun w1 he hdep => ?_) (fun v hv => ?_); rotate_left 2; (go_simp; refine ⟨?_, ?_⟩ <;> rfl); ( refine (l_times5 p a d cap qs _ _ y _ _ x w1 HN.out HSP.out (HQ.out.ext (E0.out.trans he)) (HY.out.ext (E0.out.trans he)) (HX.out.ext (E0.out.trans he)) HGY.out HGX.out).mono ?_; rintro e w2 ⟨g, rc, rfl, ho, g2⟩; exact ⟨_, rfl, g2, g, rc, rfl, ho.mono (Nat.le_trans HS.out.lt he.size)⟩); simp only [Act.put, List.setIfInBounds_toArray, List.set_cons_zero, List.set_cons_succ])
  obtain ⟨_, g94, c94, rfl, _⟩ := hv
  (refine LexW.call (f := ?_) (args := ?_) rfl rfl (fun w1 => ?_) (fun w1 he hdep => ?_) ?_; rotate_left 2; (go_simp; refine ⟨?_, ?_⟩ <;> rfl); ( obtain ⟨_, _, q94, r94⟩ : (SPred.ownS (S.g + 1) N (prodL p qs tkA y x)).holds (.slice (some ⟨g94, 0, none⟩) N c94) w1 := hdep (4, 94) (by decide +kernel); cases q94; exact c_ScalarOf_ok p a d cap qs _ _ (prodL p qs tkA y x) w1 HN.out HSP.out (HQ.out.ext (E0.out.trans he)) r94.rd (HPG tkA y x).out); simp only [Act.put, List.setIfInBounds_toArray, List.set_cons_zero, List.set_cons_succ])
  (refine LexW.pure (v := ?_) rfl rfl (fun w1 he => ?_) ?_; rotate_left; ( have x00 := (he.cell (p := ⟨O, 0, none⟩) (E0.out.cell (p := ⟨O, 0, none⟩) C0.out)); have x01 := (he.cell (p := ⟨O, 1, none⟩) (E0.out.cell (p := ⟨O, 1, none⟩) C1.out)); go_simp; rfl); simp only [Act.put, List.setIfInBounds_toArray, List.set_cons_zero, List.set_cons_succ])
  (refine LexW.pure (v := ?_) rfl rfl (fun w1 he => ?_) ?_; rotate_left; ( have x00 := (he.cell (p := ⟨O, 0, none⟩) (E0.out.cell (p := ⟨O, 0, none⟩) C0.out)); have x01 := (he.cell (p := ⟨O, 1, none⟩) (E0.out.cell (p := ⟨O, 1, none⟩) C1.out)); go_simp; rfl); simp only [Act.put, List.setIfInBounds_toArray, List.set_cons_zero, List.set_cons_succ])
  (refine LexW.pure (v := ?_) rfl rfl (fun w1 he => ?_) ?_; rotate_left; ( have x00 := (he.cell (p := ⟨O, 0, none⟩) (E0.out.cell (p := ⟨O, 0, none⟩) C0.out)); have x01 := (he.cell (p := ⟨O, 1, none⟩) (E0.out.cell (p := ⟨O, 1, none⟩) C1.out)); go_simp; rfl); simp only [Act.put, List.setIfInBounds_toArray, List.set_cons_zero, List.set_cons_succ])
  (refine LexW.pure (v := ?_) rfl rfl (fun w1 he => ?_) ?_; rotate_left; ( have x00 := (he.cell (p := ⟨O, 0, none⟩) (E0.out.cell (p := ⟨O, 0, none⟩) C0.out)); have x01 := (he.cell (p := ⟨O, 1, none⟩) (E0.out.cell (p := ⟨O, 1, none⟩) C1.out)); go_simp; rfl); simp only [Act.put, List.setIfInBounds_toArray, List.set_cons_zero, List.set_cons_succ])
  (refine LexW.pure (v := ?_) rfl rfl (fun w1 he => ?_) ?_; rotate_left; ( have x00 := (he.cell (p := ⟨O, 0, none⟩) (E0.out.cell (p := ⟨O, 0, none⟩) C0.out)); have x01 := (he.cell (p := ⟨O, 1, none⟩) (E0.out.cell (p := ⟨O, 1, none⟩) C1.out)); go_simp; rfl); simp only [Act.put, List.setIfInBounds_toArray, List.set_cons_zero, List.set_cons_succ])
  refine LexW.nil (fun w3 he hkn => ?_)
  have HE := Lib.hid he
  clear he hkn 
  rename World => v8
  replace E0 := Lib.hid (E0.out.trans HE.out)
  replace HS := Lib.hid ((Drw.of_ext (S := S) HE.out).src HS.out)
  replace RU := Lib.hid (RU.out.ext HE.out)
  replace RA := Lib.hid (RA.out.ext HE.out)
  clear HE
  have x00 := (E0.out.cell (p := ⟨O, 0, none⟩) C0.out)
  have x01 := (E0.out.cell (p := ⟨O, 1, none⟩) C1.out)
  go_wp2_with (fail)
  clear x00 x01
  refine Calls.mono (l_below S 8 v8 HS.out (by decide)) ?_
  rintro e v9 ⟨m0, rfl, hm, gg⟩
  obtain ⟨m, rfl⟩ : ∃ m : Nat, m0 = (m : Int) := ⟨m0.toNat, by have := hm.2 (by decide); omega⟩
  have hm8 : m < 8 := by have := hm.2 (by decide); omega
  clear hm
  replace E0 := Lib.hid (gg.toExt E0.out hgB)
  replace HS := Lib.hid (gg.src HS.out)
  replace RU := Lib.hid (gg.own RU.out (Nat.lt_succ_self _))
  replace RA := Lib.hid (gg.own RA.out (Nat.lt_succ_self _))
  clear gg
  have x00 := (E0.out.cell (p := ⟨O, 0, none⟩) C0.out)
  have x01 := (E0.out.cell (p := ⟨O, 1, none⟩) C1.out)
  go_wp2_with (fail)
  clear x00 x01
  refine Calls.mono (l_below S 8 v9 HS.out (by decide)) ?_
  rintro e v10 ⟨n0, rfl, hn, gg⟩
  obtain ⟨n, rfl⟩ : ∃ n : Nat, n0 = (n : Int) := ⟨n0.toNat, by have := hn.2 (by decide); omega⟩
  have hn8 : n < 8 := by have := hn.2 (by decide); omega
  clear hn
  replace E0 := Lib.hid (gg.toExt E0.out hgB)
  replace HS := Lib.hid (gg.src HS.out)
  replace RU := Lib.hid (gg.own RU.out (Nat.lt_succ_self _))
  replace RA := Lib.hid (gg.own RA.out (Nat.lt_succ_self _))
  clear gg
  replace E := Lib.hid (E.out.trans E0.out)
  replace HQ := Lib.hid (HQ.out.ext E0.out)
  replace HX := Lib.hid (HX.out.ext E0.out)
  replace HY := Lib.hid (HY.out.ext E0.out)
  replace RZ := Lib.hid (RZ.out.ext E0.out)
  replace C0 := Lib.hid (E0.out.cell (p := ⟨O, 0, none⟩) C0.out)
  replace C1 := Lib.hid (E0.out.cell (p := ⟨O, 1, none⟩) C1.out)
  clear E0 HS hgB hgO
  replace RU := Lib.hid (RU.out.mono (Nat.zero_le _))
  replace RA := Lib.hid (RA.out.mono (Nat.zero_le _))
  have x00 := C0.out
  have x01 := C1.out
  go_wp2_with (fail)
  clear x00 x01
  refine Calls.mono (c_PowerOf_ok p a d cap qs _ N _ x (m : Int) v10 (by omega) (by omega) HQ.out HX.out (by unfold codeP; rw [codeM_one0 HSP.out (by rw [← HNQ.out]; exact HGX.out), if_pos rfl, if_pos]; simp [inB]; omega)) ?_
  rintro e v11 ⟨rP1, kP1, rfl, ho, gg⟩
  obtain ⟨gP1, rfl⟩ := ho.addr (by omega)
  have RP1 := Lib.hid (ho.mono (Nat.zero_le _))
  clear ho
  replace E := Lib.hid (E.out.trans gg)
  replace HQ := Lib.hid (HQ.out.ext gg)
  replace HX := Lib.hid (HX.out.ext gg)
  replace HY := Lib.hid (HY.out.ext gg)
  replace RZ := Lib.hid (RZ.out.ext gg)
  replace RU := Lib.hid (RU.out.ext gg)
  replace RA := Lib.hid (RA.out.ext gg)
  replace C0 := Lib.hid (gg.cell (p := ⟨O, 0, none⟩) C0.out)
  replace C1 := Lib.hid (gg.cell (p := ⟨O, 1, none⟩) C1.out)
  clear gg
  have HGP1 := Lib.hid (show Good p N (powL p qs x ((m : Int)).toNat) by rw [HNQ.out]; exact pow_good hpb.1 _)
  have x00 := C0.out
  have x01 := C1.out
  go_wp2_with (fail)
  clear x00 x01
  refine Calls.mono (c_PowerOf_ok p a d cap qs _ N _ x (n : Int) v11 (by omega) (by omega) HQ.out HX.out (by unfold codeP; rw [codeM_one0 HSP.out (by rw [← HNQ.out]; exact HGX.out), if_pos rfl, if_pos]; simp [inB]; omega)) ?_
  rintro e v12 ⟨rP2, kP2, rfl, ho, gg⟩
  obtain ⟨gP2, rfl⟩ := ho.addr (by omega)
  have RP2 := Lib.hid (ho.mono (Nat.zero_le _))
  clear ho
  replace E := Lib.hid (E.out.trans gg)
  replace HQ := Lib.hid (HQ.out.ext gg)
  replace HX := Lib.hid (HX.out.ext gg)
  replace HY := Lib.hid (HY.out.ext gg)
  replace RZ := Lib.hid (RZ.out.ext gg)
  replace RU := Lib.hid (RU.out.ext gg)
  replace RA := Lib.hid (RA.out.ext gg)
  replace RP1 := Lib.hid (RP1.out.ext gg)
  replace C0 := Lib.hid (gg.cell (p := ⟨O, 0, none⟩) C0.out)
  replace C1 := Lib.hid (gg.cell (p := ⟨O, 1, none⟩) C1.out)
  clear gg
  have HGP2 := Lib.hid (show Good p N (powL p qs x ((n : Int)).toNat) by rw [HNQ.out]; exact pow_good hpb.1 _)
  have hwmn : wrap64 ((m : Int) + (n : Int)) = (m : Int) + (n : Int) := by unfold wrap64; omega
  have x00 := C0.out
  have x01 := C1.out
  go_wp2_with (fail)
  clear x00 x01
  refine Calls.mono (c_PowerOf_ok p a d cap qs _ N _ x ((m : Int) + (n : Int)) v12 (by omega) (by omega) HQ.out HX.out (by unfold codeP; rw [codeM_one0 HSP.out (by rw [← HNQ.out]; exact HGX.out), if_pos rfl, if_pos]; simp [inB]; omega)) ?_
  rintro e v13 ⟨rP3, kP3, rfl, ho, gg⟩
  obtain ⟨gP3, rfl⟩ := ho.addr (by omega)
  have RP3 := Lib.hid (ho.mono (Nat.zero_le _))
  clear ho
  replace E := Lib.hid (E.out.trans gg)
  replace HQ := Lib.hid (HQ.out.ext gg)
  replace HX := Lib.hid (HX.out.ext gg)
  replace HY := Lib.hid (HY.out.ext gg)
  replace RZ := Lib.hid (RZ.out.ext gg)
  replace RU := Lib.hid (RU.out.ext gg)
  replace RA := Lib.hid (RA.out.ext gg)
  replace RP1 := Lib.hid (RP1.out.ext gg)
  replace RP2 := Lib.hid (RP2.out.ext gg)
  replace C0 := Lib.hid (gg.cell (p := ⟨O, 0, none⟩) C0.out)
  replace C1 := Lib.hid (gg.cell (p := ⟨O, 1, none⟩) C1.out)
  clear gg
  have HGP3 := Lib.hid (show Good p N (powL p qs x (((m : Int) + (n : Int))).toNat) by rw [HNQ.out]; exact pow_good hpb.1 _)
  have hsc : (nth (prodL p qs tkA x y) 0 != nth (prodL p qs tkA y x) 0) = false := by rw [sum_comm0 (by omega)]; simp
  have x00 := C0.out
  have x01 := C1.out
  go_wp2_with (fail)
  clear x00 x01
  have HAS := Lib.hid (show prodL p qs tkA (prodL p qs tkA x y) u = prodL p qs tkA x (prodL p qs tkA y u) from prod_assoc (by omega) (by rw [HD.out]; exact hd6))
  have HDI := Lib.hid (show prodL p qs tkA x (plusL p y u 1 N) = plusL p (prodL p qs tkA x y) (prodL p qs tkA x u) 1 N by rw [HNQ.out]; exact prod_plus_right (by omega))
  have HPW := Lib.hid (show prodL p qs tkA (powL p qs x (m : Int).toNat) (powL p qs x (n : Int).toNat) = powL p qs x ((m : Int) + (n : Int)).toNat by rw [pow_add hpb.1 (by rw [HD.out]; exact hd6)]; congr 1)
  have HGA := Lib.hid (show Good p N (plusL p y u 1 N) from plus_good (by omega))
  replace E := Lib.hid (E.out.trans (ext_drew v13))
  replace HQ := Lib.hid (HQ.out.ext (ext_drew v13))
  replace HX := Lib.hid (HX.out.ext (ext_drew v13))
  replace HY := Lib.hid (HY.out.ext (ext_drew v13))
  replace RZ := Lib.hid (RZ.out.ext (ext_drew v13))
  replace RU := Lib.hid (RU.out.ext (ext_drew v13))
  replace RA := Lib.hid (RA.out.ext (ext_drew v13))
  replace RP1 := Lib.hid (RP1.out.ext (ext_drew v13))
  replace RP2 := Lib.hid (RP2.out.ext (ext_drew v13))
  replace RP3 := Lib.hid (RP3.out.ext (ext_drew v13))
  replace C0 := Lib.hid ((ext_drew v13).cell (p := ⟨O, 0, none⟩) C0.out)
  replace C1 := Lib.hid ((ext_drew v13).cell (p := ⟨O, 1, none⟩) C1.out)
  refine wp_region_lex [(3, .ownS 0 N (prodL p qs tkA (prodL p qs tkA (x) (y)) (u))), (9, .ownS 0 N (prodL p qs tkA (y) (u))), (10, .ownS 0 N (prodL p qs tkA (x) (prodL p qs tkA (y) (u)))), (11, .val (.bool true)), (16, .ownS 0 N (prodL p qs tkA (x) (plusL p y u 1 N))), (23, .ownS 0 N (prodL p qs tkA (x) (u))), (24, .ownS 0 N (plusL p (prodL p qs tkA x y) (prodL p qs tkA x u) 1 N)), (25, .val (.bool true)), (31, .ownS 0 N (prodL p qs tkA (powL p qs x (m : Int).toNat) (powL p qs x (n : Int).toNat))), (33, .val (.bool true))] (by kernel_rfl) (by kernel_rfl) ?_
  (refine LexW.pure (v := ?_) rfl rfl (fun w1 he => ?_) ?_; rotate_left; ( have x00 := (he.cell (p := ⟨O, 0, none⟩) C0.out); have x01 := (he.cell (p := ⟨O, 1, none⟩) C1.out); go_simp; rfl); simp only [Act.put, List.setIfInBounds_toArray, List.set_cons_zero, List.set_cons_succ])
  (refine LexW.pure (v := ?_) rfl rfl (fun w1 he => ?_) ?_; rotate_left; ( have x00 := (he.cell (p := ⟨O, 0, none⟩) C0.out); have x01 := (he.cell (p := ⟨O, 1, none⟩) C1.out); go_simp; rfl); simp only [Act.put, List.setIfInBounds_toArray, List.set_cons_zero, List.set_cons_succ])
  (refine LexW.pure (v := ?_) rfl rfl (fun w1 he => ?_) ?_; rotate_left; ( have x00 := (he.cell (p := ⟨O, 0, none⟩) C0.out); have x01 := (he.cell (p := ⟨O, 1, none⟩) C1.out); go_simp; rfl); simp only [Act.put, List.setIfInBounds_toArray, List.set_cons_zero, List.set_cons_succ])
  (refine LexW.callR (f := ?_) (args := ?_) rfl rfl (fun w1 => ?_) (fun w1 he hdep => ?_) (fun v hv => ?_); rotate_left 2; (go_simp; refine ⟨?_, ?_⟩ <;> rfl); ( refine (l_times5 p a d cap qs _ _ (prodL p qs tkA (x) (y)) _ _ (u) w1 HN.out HSP.out (HQ.out.ext he) (RZ.out.rd.ext he) (RU.out.rd.ext he) HZ.out HGU.out).mono ?_; rintro e w2 ⟨g, rc, rfl, ho, g2⟩; exact ⟨_, rfl, g2, g, rc, rfl, ho.mono (Nat.zero_le _)⟩); simp only [Act.put, List.setIfInBounds_toArray, List.set_cons_zero, List.set_cons_succ])
  obtain ⟨_, g155, c155, rfl, _⟩ := hv
  (refine LexW.pure (v := ?_) rfl rfl (fun w1 he => ?_) ?_; rotate_left; ( have x00 := (he.cell (p := ⟨O, 0, none⟩) C0.out); have x01 := (he.cell (p := ⟨O, 1, none⟩) C1.out); go_simp; rfl); simp only [Act.put, List.setIfInBounds_toArray, List.set_cons_zero, List.set_cons_succ])
  (refine LexW.pure (v := ?_) rfl rfl (fun w1 he => ?_) ?_; rotate_left; ( have x00 := (he.cell (p := ⟨O, 0, none⟩) C0.out); have x01 := (he.cell (p := ⟨O, 1, none⟩) C1.out); go_simp; rfl); simp only [Act.put, List.setIfInBounds_toArray, List.set_cons_zero, List.set_cons_succ])
  (refine LexW.pure (v := ?_) rfl rfl (fun w1 he => ?_) ?_; rotate_left; ( have x00 := (he.cell (p := ⟨O, 0, none⟩) C0.out); have x01 := (he.cell (p := ⟨O, 1, none⟩) C1.out); go_simp; rfl); simp only [Act.put, List.setIfInBounds_toArray, List.set_cons_zero, List.set_cons_succ])
  (refine LexW.pure (v := ?_) rfl rfl (fun w1 he => ?_) ?_; rotate_left; ( have x00 := (he.cell (p := ⟨O, 0, none⟩) C0.out); have x01 := (he.cell (p := ⟨O, 1, none⟩) C1.out); go_simp; rfl); simp only [Act.put, List.setIfInBounds_toArray, List.set_cons_zero, List.set_cons_succ])
  (refine LexW.pure (v := ?_) rfl rfl (fun w1 he => ?_) ?_; rotate_left; ( have x00 := (he.cell (p := ⟨O, 0, none⟩) C0.out); have x01 := (he.cell (p := ⟨O, 1, none⟩) C1.out); go_simp; rfl); simp only [Act.put, List.setIfInBounds_toArray, List.set_cons_zero, List.set_cons_succ])
  (refine LexW.callR (f := ?_) (args := ?_) rfl rfl (fun w1 => ?_) (fun w1 he hdep => ?_) (fun v hv => ?_); rotate_left 2; (go_simp; refine ⟨?_, ?_⟩ <;> rfl); ( refine (l_times5 p a d cap qs _ _ (y) _ _ (u) w1 HN.out HSP.out (HQ.out.ext he) (HY.out.ext he) (RU.out.rd.ext he) HGY.out HGU.out).mono ?_; rintro e w2 ⟨g, rc, rfl, ho, g2⟩; exact ⟨_, rfl, g2, g, rc, rfl, ho.mono (Nat.zero_le _)⟩); simp only [Act.put, List.setIfInBounds_toArray, List.set_cons_zero, List.set_cons_succ])
  obtain ⟨_, g161, c161, rfl, _⟩ := hv
  (refine LexW.callR (f := ?_) (args := ?_) rfl rfl (fun w1 => ?_) (fun w1 he hdep => ?_) (fun v hv => ?_); rotate_left 2; (go_simp; refine ⟨?_, ?_⟩ <;> rfl); ( obtain ⟨_, _, q161, r161⟩ : (SPred.ownS 0 N (prodL p qs tkA (y) (u))).holds (.slice (some ⟨g161, 0, none⟩) N c161) w1 := hdep (9, 161) (by decide +kernel); cases q161; refine (l_times5 p a d cap qs _ _ (x) _ _ (prodL p qs tkA (y) (u)) w1 HN.out HSP.out (HQ.out.ext he) (HX.out.ext he) r161.rd HGX.out (HPG tkA y u).out).mono ?_; rintro e w2 ⟨g, rc, rfl, ho, g2⟩; exact ⟨_, rfl, g2, g, rc, rfl, ho.mono (Nat.zero_le _)⟩); simp only [Act.put, List.setIfInBounds_toArray, List.set_cons_zero, List.set_cons_succ])
  obtain ⟨_, g162, c162, rfl, _⟩ := hv
  (refine LexW.call (f := ?_) (args := ?_) rfl rfl (fun w1 => ?_) (fun w1 he hdep => ?_) ?_; rotate_left 2; (go_simp; refine ⟨?_, ?_⟩ <;> rfl); ( obtain ⟨_, _, q155, r155⟩ : (SPred.ownS 0 N (prodL p qs tkA (prodL p qs tkA (x) (y)) (u))).holds (.slice (some ⟨g155, 0, none⟩) N c155) w1 := hdep (3, 155) (by decide +kernel); cases q155; obtain ⟨_, _, q162, r162⟩ : (SPred.ownS 0 N (prodL p qs tkA (x) (prodL p qs tkA (y) (u)))).holds (.slice (some ⟨g162, 0, none⟩) N c162) w1 := hdep (10, 162) (by decide +kernel); cases q162; have H := l_like (some ⟨g155, 0, none⟩) (some ⟨g162, 0, none⟩) N N c155 c162 _ _ w1 (by omega) (by omega) r155.rd r162.rd; rw [HAS.out, eqB_self] at H; exact H); simp only [Act.put, List.setIfInBounds_toArray, List.set_cons_zero, List.set_cons_succ])
  (refine LexW.pure (v := ?_) rfl rfl (fun w1 he => ?_) ?_; rotate_left; ( have x00 := (he.cell (p := ⟨O, 0, none⟩) C0.out); have x01 := (he.cell (p := ⟨O, 1, none⟩) C1.out); go_simp; rfl); simp only [Act.put, List.setIfInBounds_toArray, List.set_cons_zero, List.set_cons_succ])
  (refine LexW.pure (v := ?_) rfl rfl (fun w1 he => ?_) ?_; rotate_left; ( have x00 := (he.cell (p := ⟨O, 0, none⟩) C0.out); have x01 := (he.cell (p := ⟨O, 1, none⟩) C1.out); go_simp; rfl); simp only [Act.put, List.setIfInBounds_toArray, List.set_cons_zero, List.set_cons_succ])
  (refine LexW.pure (v := ?_) rfl rfl (fun w1 he => ?_) ?_; rotate_left; ( have x00 := (he.cell (p := ⟨O, 0, none⟩) C0.out); have x01 := (he.cell (p := ⟨O, 1, none⟩) C1.out); go_simp; rfl); simp only [Act.put, List.setIfInBounds_toArray, List.set_cons_zero, List.set_cons_succ])
  (refine LexW.pure (v := ?_) rfl rfl (fun w1 he => ?_) ?_; rotate_left; ( have x00 := (he.cell (p := ⟨O, 0, none⟩) C0.out); have x01 := (he.cell (p := ⟨O, 1, none⟩) C1.out); go_simp; rfl); simp only [Act.put, List.setIfInBounds_toArray, List.set_cons_zero, List.set_cons_succ])
  (refine LexW.callR (f := ?_) (args := ?_) rfl rfl (fun w1 => ?_) (fun w1 he hdep => ?_) (fun v hv => ?_); rotate_left 2; (go_simp; refine ⟨?_, ?_⟩ <;> rfl); ( refine (l_times5 p a d cap qs _ _ (x) _ _ (plusL p y u 1 N) w1 HN.out HSP.out (HQ.out.ext he) (HX.out.ext he) (RA.out.rd.ext he) HGX.out HGA.out).mono ?_; rintro e w2 ⟨g, rc, rfl, ho, g2⟩; exact ⟨_, rfl, g2, g, rc, rfl, ho.mono (Nat.zero_le _)⟩); simp only [Act.put, List.setIfInBounds_toArray, List.set_cons_zero, List.set_cons_succ])
  obtain ⟨_, g168, c168, rfl, _⟩ := hv
  (refine LexW.pure (v := ?_) rfl rfl (fun w1 he => ?_) ?_; rotate_left; ( have x00 := (he.cell (p := ⟨O, 0, none⟩) C0.out); have x01 := (he.cell (p := ⟨O, 1, none⟩) C1.out); go_simp; rfl); simp only [Act.put, List.setIfInBounds_toArray, List.set_cons_zero, List.set_cons_succ])
  (refine LexW.pure (v := ?_) rfl rfl (fun w1 he => ?_) ?_; rotate_left; ( have x00 := (he.cell (p := ⟨O, 0, none⟩) C0.out); have x01 := (he.cell (p := ⟨O, 1, none⟩) C1.out); go_simp; rfl); simp only [Act.put, List.setIfInBounds_toArray, List.set_cons_zero, List.set_cons_succ])
  (refine LexW.pure (v := ?_) rfl rfl (fun w1 he => ?_) ?_; rotate_left; ( have x00 := (he.cell (p := ⟨O, 0, none⟩) C0.out); have x01 := (he.cell (p := ⟨O, 1, none⟩) C1.out); go_simp; rfl); simp only [Act.put, List.setIfInBounds_toArray, List.set_cons_zero, List.set_cons_succ])
  (refine LexW.pure (v := ?_) rfl rfl (fun w1 he => ?_) ?_; rotate_left; ( have x00 := (he.cell (p := ⟨O, 0, none⟩) C0.out); have x01 := (he.cell (p := ⟨O, 1, none⟩) C1.out); go_simp; rfl); simp only [Act.put, List.setIfInBounds_toArray, List.set_cons_zero, List.set_cons_succ])
  (refine LexW.pure (v := ?_) rfl rfl (fun w1 he => ?_) ?_; rotate_left; ( have x00 := (he.cell (p := ⟨O, 0, none⟩) C0.out); have x01 := (he.cell (p := ⟨O, 1, none⟩) C1.out); go_simp; rfl); simp only [Act.put, List.setIfInBounds_toArray, List.set_cons_zero, List.set_cons_succ])
  (refine LexW.pure (v := ?_) rfl rfl (fun w1 he => ?_) ?_; rotate_left; ( have x00 := (he.cell (p := ⟨O, 0, none⟩) C0.out); have x01 := (he.cell (p := ⟨O, 1, none⟩) C1.out); go_simp; rfl); simp only [Act.put, List.setIfInBounds_toArray, List.set_cons_zero, List.set_cons_succ])
  (refine LexW.callR (f := ?_) (args := ?_) rfl rfl (fun w1 => ?_) (fun w1 he hdep => ?_) (fun v hv => ?_); rotate_left 2; (go_simp; refine ⟨?_, ?_⟩ <;> rfl); ( refine (l_times5 p a d cap qs _ _ (x) _ _ (u) w1 HN.out HSP.out (HQ.out.ext he) (HX.out.ext he) (RU.out.rd.ext he) HGX.out HGU.out).mono ?_; rintro e w2 ⟨g, rc, rfl, ho, g2⟩; exact ⟨_, rfl, g2, g, rc, rfl, ho.mono (Nat.zero_le _)⟩); simp only [Act.put, List.setIfInBounds_toArray, List.set_cons_zero, List.set_cons_succ])
  obtain ⟨_, g175, c175, rfl, _⟩ := hv
  (refine LexW.callR (f := ?_) (args := ?_) rfl rfl (fun w1 => ?_) (fun w1 he hdep => ?_) (fun v hv => ?_); rotate_left 2; (go_simp; refine ⟨?_, ?_⟩ <;> rfl); ( obtain ⟨_, _, q175, r175⟩ : (SPred.ownS 0 N (prodL p qs tkA (x) (u))).holds (.slice (some ⟨g175, 0, none⟩) N c175) w1 := hdep (23, 175) (by decide +kernel); cases q175; refine (l_plus5 p _ _ N _ _ (prodL p qs tkA x y) (prodL p qs tkA x u) 1 w1 (by omega) (by omega) (by omega) (by omega) (RZ.out.rd.ext he) r175.rd HZ.out (HPG tkA x u).out).mono ?_; rintro e w2 ⟨g, rc, rfl, ho, g2⟩; exact ⟨_, rfl, g2, g, rc, rfl, ho.mono (Nat.zero_le _)⟩); simp only [Act.put, List.setIfInBounds_toArray, List.set_cons_zero, List.set_cons_succ])
  obtain ⟨_, g176, c176, rfl, _⟩ := hv
  (refine LexW.call (f := ?_) (args := ?_) rfl rfl (fun w1 => ?_) (fun w1 he hdep => ?_) ?_; rotate_left 2; (go_simp; refine ⟨?_, ?_⟩ <;> rfl); ( obtain ⟨_, _, q168, r168⟩ : (SPred.ownS 0 N (prodL p qs tkA (x) (plusL p y u 1 N))).holds (.slice (some ⟨g168, 0, none⟩) N c168) w1 := hdep (16, 168) (by decide +kernel); cases q168; obtain ⟨_, _, q176, r176⟩ : (SPred.ownS 0 N (plusL p (prodL p qs tkA x y) (prodL p qs tkA x u) 1 N)).holds (.slice (some ⟨g176, 0, none⟩) N c176) w1 := hdep (24, 176) (by decide +kernel); cases q176; have H := l_like (some ⟨g168, 0, none⟩) (some ⟨g176, 0, none⟩) N N c168 c176 _ _ w1 (by omega) (by omega) r168.rd r176.rd; rw [HDI.out, eqB_self] at H; exact H); simp only [Act.put, List.setIfInBounds_toArray, List.set_cons_zero, List.set_cons_succ])
  (refine LexW.pure (v := ?_) rfl rfl (fun w1 he => ?_) ?_; rotate_left; ( have x00 := (he.cell (p := ⟨O, 0, none⟩) C0.out); have x01 := (he.cell (p := ⟨O, 1, none⟩) C1.out); go_simp; rfl); simp only [Act.put, List.setIfInBounds_toArray, List.set_cons_zero, List.set_cons_succ])
  (refine LexW.pure (v := ?_) rfl rfl (fun w1 he => ?_) ?_; rotate_left; ( have x00 := (he.cell (p := ⟨O, 0, none⟩) C0.out); have x01 := (he.cell (p := ⟨O, 1, none⟩) C1.out); go_simp; rfl); simp only [Act.put, List.setIfInBounds_toArray, List.set_cons_zero, List.set_cons_succ])
  (refine LexW.pure (v := ?_) rfl rfl (fun w1 he => ?_) ?_; rotate_left; ( have x00 := (he.cell (p := ⟨O, 0, none⟩) C0.out); have x01 := (he.cell (p := ⟨O, 1, none⟩) C1.out); go_simp; rfl); simp only [Act.put, List.setIfInBounds_toArray, List.set_cons_zero, List.set_cons_succ])
  (refine LexW.pure (v := ?_) rfl rfl (fun w1 he => ?_) ?_; rotate_left; ( have x00 := (he.cell (p := ⟨O, 0, none⟩) C0.out); have x01 := (he.cell (p := ⟨O, 1, none⟩) C1.out); go_simp; rfl); simp only [Act.put, List.setIfInBounds_toArray, List.set_cons_zero, List.set_cons_succ])
  (refine LexW.pure (v := ?_) rfl rfl (fun w1 he => ?_) ?_; rotate_left; ( have x00 := (he.cell (p := ⟨O, 0, none⟩) C0.out); have x01 := (he.cell (p := ⟨O, 1, none⟩) C1.out); go_simp; rfl); simp only [Act.put, List.setIfInBounds_toArray, List.set_cons_zero, List.set_cons_succ])
  (refine LexW.callR (f := ?_) (args := ?_) rfl rfl (fun w1 => ?_) (fun w1 he hdep => ?_) (fun v hv => ?_); rotate_left 2; (go_simp; refine ⟨?_, ?_⟩ <;> rfl); ( refine (l_times5 p a d cap qs _ _ (powL p qs x (m : Int).toNat) _ _ (powL p qs x (n : Int).toNat) w1 HN.out HSP.out (HQ.out.ext he) (RP1.out.rd.ext he) (RP2.out.rd.ext he) HGP1.out HGP2.out).mono ?_; rintro e w2 ⟨g, rc, rfl, ho, g2⟩; exact ⟨_, rfl, g2, g, rc, rfl, ho.mono (Nat.zero_le _)⟩); simp only [Act.put, List.setIfInBounds_toArray, List.set_cons_zero, List.set_cons_succ])
  obtain ⟨_, g183, c183, rfl, _⟩ := hv
  (refine LexW.pure (v := ?_) rfl rfl (fun w1 he => ?_) ?_; rotate_left; ( have x00 := (he.cell (p := ⟨O, 0, none⟩) C0.out); have x01 := (he.cell (p := ⟨O, 1, none⟩) C1.out); go_simp; rfl); simp only [Act.put, List.setIfInBounds_toArray, List.set_cons_zero, List.set_cons_succ])
  (refine LexW.call (f := ?_) (args := ?_) rfl rfl (fun w1 => ?_) (fun w1 he hdep => ?_) ?_; rotate_left 2; (go_simp; refine ⟨?_, ?_⟩ <;> rfl); ( obtain ⟨_, _, q183, r183⟩ : (SPred.ownS 0 N (prodL p qs tkA (powL p qs x (m : Int).toNat) (powL p qs x (n : Int).toNat))).holds (.slice (some ⟨g183, 0, none⟩) N c183) w1 := hdep (31, 183) (by decide +kernel); cases q183; have H := l_like (some ⟨g183, 0, none⟩) (some ⟨gP3, 0, none⟩) N N c183 kP3 _ _ w1 (by omega) (by omega) r183.rd (RP3.out.rd.ext he); rw [HPW.out, eqB_self] at H; exact H); simp only [Act.put, List.setIfInBounds_toArray, List.set_cons_zero, List.set_cons_succ])
  (refine LexW.pure (v := ?_) rfl rfl (fun w1 he => ?_) ?_; rotate_left; ( have x00 := (he.cell (p := ⟨O, 0, none⟩) C0.out); have x01 := (he.cell (p := ⟨O, 1, none⟩) C1.out); go_simp; rfl); simp only [Act.put, List.setIfInBounds_toArray, List.set_cons_zero, List.set_cons_succ])
  (refine LexW.pure (v := ?_) rfl rfl (fun w1 he => ?_) ?_; rotate_left; ( have x00 := (he.cell (p := ⟨O, 0, none⟩) C0.out); have x01 := (he.cell (p := ⟨O, 1, none⟩) C1.out); go_simp; rfl); simp only [Act.put, List.setIfInBounds_toArray, List.set_cons_zero, List.set_cons_succ])
  refine LexW.nil (fun w3 he hkn => ?_)
  have HE := Lib.hid he
  clear he hkn 
  rename World => v14
  replace E := Lib.hid (E.out.trans HE.out)
  replace HQ := Lib.hid (HQ.out.ext HE.out)
  replace HX := Lib.hid (HX.out.ext HE.out)
  replace HY := Lib.hid (HY.out.ext HE.out)
  replace RZ := Lib.hid (RZ.out.ext HE.out)
  replace RU := Lib.hid (RU.out.ext HE.out)
  replace RA := Lib.hid (RA.out.ext HE.out)
  replace RP1 := Lib.hid (RP1.out.ext HE.out)
  replace RP2 := Lib.hid (RP2.out.ext HE.out)
  replace RP3 := Lib.hid (RP3.out.ext HE.out)
  replace C0 := Lib.hid (HE.out.cell (p := ⟨O, 0, none⟩) C0.out)
  replace C1 := Lib.hid (HE.out.cell (p := ⟨O, 1, none⟩) C1.out)
  clear HE
  go_wp2_with (fail)
  go_ret
  exact ⟨rfl, E.out⟩
end Go.Proofs.Ytbgnfjckbjmgbaa

/-
  The draw of a space and a multivector for inverses.
  No condition.
-/
namespace Go.Proofs.Ytbgnfjckbjmgbaa
set_option maxRecDepth 100000
open Go.RowKit

set_option maxHeartbeats 4000000 in
set_option maxRecDepth 100000 in
theorem s_drawInverseOf (ca : Option Addr) (n cap : Nat) (w : World) (hn : n ≤ 4096) (hb : RdY w ca n) :
    Calls Try.prog 40 #[.slice ca n cap] w fun e w' => ∃ p a d c qs a1 m1 c1 x1, e = .returned (.tuple #[.agg #[.int .i64 p, .slice a d c], .slice a1 m1 c1]) ∧ 0 ≤ p ∧ p ≤ 17 ∧ d ≤ 7 ∧ m1 ≤ 65 ∧ OwnC w.heap.size w' a d c qs ∧ OwnC w.heap.size w' a1 m1 c1 x1 ∧ Ext w w' := by
  obtain ⟨W, hW⟩ : ∃ W, W = w.alloc (.cells #[.int .i64 0, .slice none 0 0] 26) := ⟨_, rfl⟩
  have gW : Ext w W := by rw [hW]; exact ext_alloc _ _
  have HZ := Lib.hid (show W.heap.size = w.heap.size + 1 by rw [hW]; simp)
  have HR := Lib.hid (show SpAt W w.heap.size 0 (.slice none 0 0) by rw [hW]; exact ⟨by simp, by simp, by simp, by simp⟩)
  have HW := Lib.hid hW
  have GW := Lib.hid gW
  have HB := Lib.hid (hb.ext gW)
  clear gW hW hb
  go_enter Try.func40, Try.ntmps40
  go_wp2_with (fail)
  rw [← HW.out]
  refine Calls.mono (s_from ca n cap W hn HB.out) ?_
  rintro e w1 ⟨g, rfl, hg, hS, g1⟩
  obtain ⟨S, hSe⟩ : ∃ S : SrcP, S = ⟨g, ca, n, cap⟩ := ⟨_, rfl⟩
  obtain rfl : g = S.g := by rw [hSe]
  rw [← hSe] at hS
  have HS := Lib.hid hS
  have HR1 := Lib.hid (HR.out.ext g1)
  have G1 := Lib.hid (GW.out.trans g1)
  have hgR : w.heap.size ≠ S.g := by have := HZ.out; omega
  have hgw : w.heap.size + 1 ≤ S.g := by have := HZ.out; omega
  have hlt := hS.lt
  clear hg hS g1 hSe HR
  go_wp2_with (fail)
  refine Calls.mono (s_pick S w1.heap.size 4 4 [2, 3, 3, 4] _ ((Drw.of_ext (ext_alloc _ _)).src HS.out) (by decide) (by decide) (rdC_lit w1 _ [2, 3, 3, 4]) (Nat.ne_of_gt hlt)) ?_
  rintro e w2 ⟨r, rfl, hr, g2⟩
  obtain ⟨m, rfl, hm1, hm2⟩ : ∃ m : Nat, r = (m : Int) ∧ 1 ≤ m ∧ m ≤ 6 := by
    refine ⟨r.toNat, ?_⟩
    simp only [List.mem_cons, List.not_mem_nil, or_false] at hr
    omega
  have G2 := Lib.hid ((Drw.of_ext (S := S) (ext_alloc w1 (.cells #[.int .i64 2, .int .i64 3, .int .i64 3, .int .i64 4] 2))).trans g2)
  have HR2 := Lib.hid ((HR1.out.ext (ext_alloc _ _)).drw g2 hgR)
  clear g2 hr
  go_wp2_with (fail)
  refine Calls.mono (s_any S m w2 (G2.out.src HS.out) hm1 hm2) ?_
  rintro e w3 ⟨p, a, d, c, qs, rfl, hpr, hp1, hp2, hd1, hd2, hqb, ho, g3⟩
  obtain ⟨W2, hW2⟩ : ∃ W2, W2 = w3.alloc (.cells #[.int .i64 p, .slice a d c] 26) := ⟨_, rfl⟩
  obtain ⟨O, hO⟩ : ∃ O, O = w3.heap.size := ⟨_, rfl⟩
  have gW2 : Ext w3 W2 := by rw [hW2]; exact ext_alloc _ _
  have HC := Lib.hid (show SpAt W2 O p (.slice a d c) by rw [hW2, hO]; exact ⟨by simp, by simp, by simp, by simp⟩)
  have HRR := Lib.hid ((HR2.out.drw g3 hgR).ext gW2)
  have HQ := Lib.hid ((ho.mono (show S.g + 1 ≤ _ from by have := G2.out.size; omega)).ext gW2)
  have G := Lib.hid ((G2.out.trans g3).ext gW2)
  have hgO : O ≠ S.g := by rw [hO]; have := g3.size; have := G2.out.size; omega
  have hRO : w.heap.size ≠ O := by rw [hO]; have := g3.size; have := HR2.out.lt; omega
  have hwO : w1.heap.size ≤ O := by rw [hO]; have := g3.size; have := G2.out.size; omega
  go_wp2_with (fail)
  rw [← hW2, ← hO]
  clear hO gW2 ho g3 hW2 HR1 HR2 G2
  refine Calls.mono (s_next S 12 W2 (G.out.src HS.out) (by decide)) ?_
  rintro e w4 ⟨r, rfl, _, g4⟩
  replace HRR := Lib.hid (HRR.out.drw g4 hgR)
  replace HC := Lib.hid (HC.out.drw g4 hgO)
  replace HQ := Lib.hid (g4.own HQ.out (Nat.lt_succ_self _))
  replace G := Lib.hid (G.out.trans g4)
  clear g4
  by_cases h0 : r = 0
  · subst h0
    have hO4 := HC.out.lt
    go_wp2_with (fail)
    refine Calls.mono (s_spoil3 S w4 (G.out.src HS.out)) ?_
    rintro e w5 ⟨p2, a2, d2, c2, qs2, rfl, hp20, hp21, hd22, ho2, g5⟩
    replace HRR := Lib.hid (HRR.out.drw g5 hgR)
    replace HC := Lib.hid (HC.out.drw g5 hgO)
    replace G := Lib.hid (G.out.trans g5)
    have hOlt := HC.out.lt
    have hb2 : OwnC (O + 1) w5 a2 d2 c2 qs2 := ho2.mono (by omega)
    clear HQ g5 ho2
    have o0 := HC.out.c0
    have o1 := HC.out.c1
    have of0 := HC.out.f0
    have of1 := HC.out.f1
    go_wp2_with (fail)
    clear o0 o1 of0 of1
    obtain ⟨w6, hw6⟩ : ∃ w6, w6 = (w5.setCell ⟨O, 0, none⟩ (.int .i64 p2)).setCell ⟨O, 1, none⟩ (.slice a2 d2 c2) := ⟨_, rfl⟩
    have HQ := Lib.hid (((hb2.other (p := ⟨O, 0, none⟩) (by simp) (.int .i64 p2)).other (p := ⟨O, 1, none⟩) (by simp) (.slice a2 d2 c2)).mono (show S.g + 1 ≤ O + 1 by omega))
    replace HRR := Lib.hid ((HRR.out.other (q := ⟨O, 0, none⟩) (Ne.symm hRO) (.int .i64 p2)).other (q := ⟨O, 1, none⟩) (Ne.symm hRO) (.slice a2 d2 c2))
    replace HC := Lib.hid ((HC.out.set0 p2).set1 (.slice a2 d2 c2))
    replace G := Lib.hid ((G.out.setCell (p := ⟨O, 0, none⟩) hwO (.int .i64 p2)).setCell (p := ⟨O, 1, none⟩) hwO (.slice a2 d2 c2))
    rw [← hw6] at HQ HRR HC G ⊢
    clear hw6 hb2
    replace HRR := Lib.hid (HRR.out.ext (ext_drew w6))
    replace HC := Lib.hid (HC.out.ext (ext_drew w6))
    replace HQ := Lib.hid (HQ.out.ext (ext_drew w6))
    replace G := Lib.hid (G.out.drew)
    have HS3 := Lib.hid (G.out.src HS.out)
    refine Chg.wp_region_lex_tail (E := Drw.rel S) 4 [(3, .own S (S.g + 1) 65 (Nat.lt_succ_self _))] (by kernel_rfl) (by kernel_rfl) ?_
    simp only [List.take, List.drop]
    (refine Chg.LexW.pure (v := ?_) rfl rfl (fun w1 he => ?_) ?_; rotate_left; ( have he' : Drw S _ _ := he; have x0 := he'.cell (p := ⟨O, 0, none⟩) hgO HC.out.c0; have x1 := he'.cell (p := ⟨O, 1, none⟩) hgO HC.out.c1; go_simp; rfl); simp only [Act.put, List.setIfInBounds_toArray, List.set_cons_zero, List.set_cons_succ])
    (refine Chg.LexW.pure (v := ?_) rfl rfl (fun w1 he => ?_) ?_; rotate_left; ( have he' : Drw S _ _ := he; have x0 := he'.cell (p := ⟨O, 0, none⟩) hgO HC.out.c0; have x1 := he'.cell (p := ⟨O, 1, none⟩) hgO HC.out.c1; go_simp; rfl); simp only [Act.put, List.setIfInBounds_toArray, List.set_cons_zero, List.set_cons_succ])
    (refine Chg.LexW.pure (v := ?_) rfl rfl (fun w1 he => ?_) ?_; rotate_left; ( have he' : Drw S _ _ := he; have x0 := he'.cell (p := ⟨O, 0, none⟩) hgO HC.out.c0; have x1 := he'.cell (p := ⟨O, 1, none⟩) hgO HC.out.c1; go_simp; rfl); simp only [Act.put, List.setIfInBounds_toArray, List.set_cons_zero, List.set_cons_succ])
    (refine Chg.LexW.callR (f := ?_) (args := ?_) rfl rfl (fun w1 => ?_) (fun w1 he hdep => ?_) (fun v hv => ?_); rotate_left 2; (go_simp; refine ⟨?_, ?_⟩ <;> rfl); ( have he' : Drw S _ _ := he; refine Calls.mono (s_spoil4 S (S.g + 1) p2 a2 d2 c2 qs2 w1 (he'.src HS3.out) (Nat.lt_succ_self _) (by omega) (he'.own HQ.out (Nat.lt_succ_self _))) ?_; rintro e w9 ⟨a9, c9, m9, x9, rfl, hm9, ho9, g9⟩; exact ⟨_, rfl, g9, a9, m9, c9, x9, rfl, by omega, ho9.mono (Nat.le_trans HS3.out.lt he'.size)⟩); simp only [Act.put, List.setIfInBounds_toArray, List.set_cons_zero, List.set_cons_succ])
    obtain ⟨_, a1, m1, c1, x1, rfl, _⟩ := hv
    refine Chg.LexW.nil (fun w7 he hkn => ?_)
    have he' : Drw S w6.drew w7 := he
    obtain ⟨a1', m1', c1', x1', q1, hm1', ho1⟩ : (Chg.SPred.own S (S.g + 1) 65 (Nat.lt_succ_self _)).holds (.slice a1 m1 c1) w7 := hkn (3, _) (by simp)
    cases q1
    replace HRR := Lib.hid (HRR.out.drw he' hgR)
    replace HQ := Lib.hid (he'.own HQ.out (Nat.lt_succ_self _))
    have HO1 := Lib.hid ho1
    replace G := Lib.hid (G.out.trans he')
    have r0 := HRR.out.c0
    have r1 := HRR.out.c1
    have f0 := HRR.out.f0
    have f1 := HRR.out.f1
    clear he he' hkn ho1
    go_wp2_with (fail)
    refine bodyPost_ret (v := .tuple #[.agg #[.int .i64 p2, .slice a2 d2 c2], .slice a1 m1 c1]) (by simp [results, Try.results40, go_sem, r0, r1]) rfl ⟨p2, a2, d2, c2, qs2, a1, m1, c1, x1', rfl, by omega, by omega, by omega, by omega, ?_, ?_, ?_⟩
    · exact ((HQ.out.other (by simp; omega) _).other (by simp; omega) _).mono (by omega)
    · exact ((HO1.out.other (by simp; omega) _).other (by simp; omega) _).mono (by omega)
    · exact ((G.out.toExt G1.out (by omega)).setCell (by simp) _).setCell (by simp) _
  · have hb0 : (r == 0) = false := by simp [h0]
    have o0 := HC.out.c0
    have o1 := HC.out.c1
    go_wp2_with (fail)
    clear o0 o1
    replace HRR := Lib.hid (HRR.out.ext (ext_drew w4))
    replace HC := Lib.hid (HC.out.ext (ext_drew w4))
    replace HQ := Lib.hid (HQ.out.ext (ext_drew w4))
    replace G := Lib.hid (G.out.drew)
    have HS3 := Lib.hid (G.out.src HS.out)
    refine Chg.wp_region_lex_tail (E := Drw.rel S) 4 [(3, .own S (S.g + 1) 65 (Nat.lt_succ_self _))] (by kernel_rfl) (by kernel_rfl) ?_
    simp only [List.take, List.drop]
    (refine Chg.LexW.pure (v := ?_) rfl rfl (fun w1 he => ?_) ?_; rotate_left; ( have he' : Drw S _ _ := he; have x0 := he'.cell (p := ⟨O, 0, none⟩) hgO HC.out.c0; have x1 := he'.cell (p := ⟨O, 1, none⟩) hgO HC.out.c1; go_simp; rfl); simp only [Act.put, List.setIfInBounds_toArray, List.set_cons_zero, List.set_cons_succ])
    (refine Chg.LexW.pure (v := ?_) rfl rfl (fun w1 he => ?_) ?_; rotate_left; ( have he' : Drw S _ _ := he; have x0 := he'.cell (p := ⟨O, 0, none⟩) hgO HC.out.c0; have x1 := he'.cell (p := ⟨O, 1, none⟩) hgO HC.out.c1; go_simp; rfl); simp only [Act.put, List.setIfInBounds_toArray, List.set_cons_zero, List.set_cons_succ])
    (refine Chg.LexW.pure (v := ?_) rfl rfl (fun w1 he => ?_) ?_; rotate_left; ( have he' : Drw S _ _ := he; have x0 := he'.cell (p := ⟨O, 0, none⟩) hgO HC.out.c0; have x1 := he'.cell (p := ⟨O, 1, none⟩) hgO HC.out.c1; go_simp; rfl); simp only [Act.put, List.setIfInBounds_toArray, List.set_cons_zero, List.set_cons_succ])
    (refine Chg.LexW.callR (f := ?_) (args := ?_) rfl rfl (fun w1 => ?_) (fun w1 he hdep => ?_) (fun v hv => ?_); rotate_left 2; (go_simp; refine ⟨?_, ?_⟩ <;> rfl); ( have he' : Drw S _ _ := he; refine Calls.mono (s_spoil4 S (S.g + 1) p a d c qs w1 (he'.src HS3.out) (Nat.lt_succ_self _) (by omega) (he'.own HQ.out (Nat.lt_succ_self _))) ?_; rintro e w9 ⟨a9, c9, m9, x9, rfl, hm9, ho9, g9⟩; exact ⟨_, rfl, g9, a9, m9, c9, x9, rfl, by omega, ho9.mono (Nat.le_trans HS3.out.lt he'.size)⟩); simp only [Act.put, List.setIfInBounds_toArray, List.set_cons_zero, List.set_cons_succ])
    obtain ⟨_, a1, m1, c1, x1, rfl, _⟩ := hv
    refine Chg.LexW.nil (fun w7 he hkn => ?_)
    have he' : Drw S w4.drew w7 := he
    obtain ⟨a1', m1', c1', x1', q1, hm1', ho1⟩ : (Chg.SPred.own S (S.g + 1) 65 (Nat.lt_succ_self _)).holds (.slice a1 m1 c1) w7 := hkn (3, _) (by simp)
    cases q1
    replace HRR := Lib.hid (HRR.out.drw he' hgR)
    replace HQ := Lib.hid (he'.own HQ.out (Nat.lt_succ_self _))
    have HO1 := Lib.hid ho1
    replace G := Lib.hid (G.out.trans he')
    have r0 := HRR.out.c0
    have r1 := HRR.out.c1
    have f0 := HRR.out.f0
    have f1 := HRR.out.f1
    clear he he' hkn ho1
    go_wp2_with (fail)
    refine bodyPost_ret (v := .tuple #[.agg #[.int .i64 p, .slice a d c], .slice a1 m1 c1]) (by simp [results, Try.results40, go_sem, r0, r1]) rfl ⟨p, a, d, c, qs, a1, m1, c1, x1', rfl, by omega, by omega, by omega, by omega, ?_, ?_, ?_⟩
    · exact ((HQ.out.other (by simp; omega) _).other (by simp; omega) _).mono (by omega)
    · exact ((HO1.out.other (by simp; omega) _).other (by simp; omega) _).mono (by omega)
    · exact ((G.out.toExt G1.out (by omega)).setCell (by simp) _).setCell (by simp) _
end Go.Proofs.Ytbgnfjckbjmgbaa

/-
  Codes of small algebras; lists of zeros; equal lists; idempotents: walks.
  No condition.
-/
namespace Go.Proofs.Ytbgnfjckbjmgbaa
set_option maxRecDepth 100000
open Go.RowKit

def codeA (p : Int) (qs : List Int) (rows : List (List Int)) : Int := if codeM p qs rows = 0 then (if qs.length ≤ 4 then 0 else 3) else codeM p qs rows
theorem codeA_zero {p : Int} {qs : List Int} {rows : List (List Int)} (h : codeA p qs rows = 0) : codeM p qs rows = 0 ∧ qs.length ≤ 4 := by
  unfold codeA at h
  split at h
  · rename_i hm
    split at h
    · rename_i hr; exact ⟨hm, hr⟩
    · omega
  · rename_i hm; exact absurd h hm

set_option maxHeartbeats 400000 in
theorem c_checkAlgebra (p : Int) (a : Option Addr) (d cap : Nat) (qs : List Int) (al : Option Addr) (n cl : Nat) (rows : List (List Int)) (w : World) (hd : d ≤ 4194304) (hl : n ≤ 4194304) (hr : ∀ i, i < n → (nthR rows i).length ≤ 4194304)
    (hq : RdC w a d qs) (hx : RdR w al n rows) :
    Calls Try.prog 106 #[.agg #[.int .i64 p, .slice a d cap], .slice al n cl] w fun e w' => e = .returned (.int .i64 (codeA p qs rows)) ∧ Ext w w' := by
  by_cases hm : codeM p qs rows = 0
  · have hcb : (codeM p qs rows != 0) = false := by simp [hm]
    have HM := Lib.hid hm
    by_cases h4 : d ≤ 4
    · have HC := Lib.hid (show codeA p qs rows = 0 by simp [codeA, hm, hq.1, h4])
      clear hm
      go_enter Try.func106, Try.ntmps106
      go_wp2_with (first | (go_at_call 79; refine (c_checkMultis _ _ _ _ _ _ _ _ _ _ hd hl hr (hq.ext (ext_alloc _ _)) (hx.ext (ext_alloc _ _))).mono ?_; rintro e w1 ⟨rfl, h1⟩; have hq0 : w1.cell? ⟨w.heap.size, 0, none⟩ = some (.int .i64 p) := h1.cell (by simp); have hq1 : w1.cell? ⟨w.heap.size, 1, none⟩ = some (.slice a d cap) := h1.cell (by simp)) | (go_at_call 103; refine (c_dim _ _ _ _ _).mono ?_; rintro e w2 ⟨rfl, h2⟩))
      go_ret
      exact ⟨ret_int HC.out.symm, (ext_alloc _ _).trans (h1.trans h2)⟩
    · have HC := Lib.hid (show codeA p qs rows = 3 by simp [codeA, hm, hq.1, h4])
      clear hm
      go_enter Try.func106, Try.ntmps106
      go_wp2_with (first | (go_at_call 79; refine (c_checkMultis _ _ _ _ _ _ _ _ _ _ hd hl hr (hq.ext (ext_alloc _ _)) (hx.ext (ext_alloc _ _))).mono ?_; rintro e w1 ⟨rfl, h1⟩; have hq0 : w1.cell? ⟨w.heap.size, 0, none⟩ = some (.int .i64 p) := h1.cell (by simp); have hq1 : w1.cell? ⟨w.heap.size, 1, none⟩ = some (.slice a d cap) := h1.cell (by simp)) | (go_at_call 103; refine (c_dim _ _ _ _ _).mono ?_; rintro e w2 ⟨rfl, h2⟩))
      go_ret
      exact ⟨ret_int HC.out.symm, (ext_alloc _ _).trans (h1.trans h2)⟩
  · have hcb : (codeM p qs rows != 0) = true := by simp [hm]
    have HC := Lib.hid (show codeA p qs rows = codeM p qs rows by simp [codeA, hm])
    clear hm
    go_enter Try.func106, Try.ntmps106
    go_wp2_with (go_at_call 79; refine (c_checkMultis _ _ _ _ _ _ _ _ _ _ hd hl hr (hq.ext (ext_alloc _ _)) (hx.ext (ext_alloc _ _))).mono ?_; rintro e w1 ⟨rfl, h1⟩)
    go_ret
    exact ⟨ret_int HC.out.symm, (ext_alloc _ _).trans h1⟩

set_option maxHeartbeats 400000 in
theorem s_code9 (p : Int) (a : Option Addr) (d cap : Nat) (qs : List Int) (al : Option Addr) (n cl : Nat) (rows : List (List Int)) (w : World) (hd : d ≤ 4194304) (hl : n ≤ 4194304) (hr : ∀ i, i < n → (nthR rows i).length ≤ 4194304)
    (hq : RdC w a d qs) (hx : RdR w al n rows) :
    Calls Try.prog 124 #[.agg #[.int .i64 p, .slice a d cap], .slice al n cl] w fun e w' => e = .returned (.int .i64 (codeA p qs rows)) ∧ Ext w w' := by
  by_cases hm : codeM p qs rows = 0
  · have hcb : (codeM p qs rows == 0) = true := by simp [hm]
    have HM := Lib.hid hm
    by_cases h4 : d ≤ 4
    · have HC := Lib.hid (show codeA p qs rows = 0 by simp [codeA, hm, hq.1, h4])
      clear hm
      go_enter Try.func124, Try.ntmps124
      go_wp2_with (go_at_call 84; refine (s_code _ _ _ _ _ _ _ _ _ _ hd hl hr (hq.ext (ext_alloc _ _)) (hx.ext (ext_alloc _ _))).mono ?_; rintro e w1 ⟨rfl, h1⟩; have hq0 : w1.cell? ⟨w.heap.size, 0, none⟩ = some (.int .i64 p) := h1.cell (by simp); have hq1 : w1.cell? ⟨w.heap.size, 1, none⟩ = some (.slice a d cap) := h1.cell (by simp))
      go_ret
      exact ⟨ret_int (by rw [HC.out, HM.out]), (ext_alloc _ _).trans h1⟩
    · have HC := Lib.hid (show codeA p qs rows = 3 by simp [codeA, hm, hq.1, h4])
      clear hm
      go_enter Try.func124, Try.ntmps124
      go_wp2_with (go_at_call 84; refine (s_code _ _ _ _ _ _ _ _ _ _ hd hl hr (hq.ext (ext_alloc _ _)) (hx.ext (ext_alloc _ _))).mono ?_; rintro e w1 ⟨rfl, h1⟩; have hq0 : w1.cell? ⟨w.heap.size, 0, none⟩ = some (.int .i64 p) := h1.cell (by simp); have hq1 : w1.cell? ⟨w.heap.size, 1, none⟩ = some (.slice a d cap) := h1.cell (by simp))
      go_ret
      exact ⟨ret_int HC.out.symm, (ext_alloc _ _).trans h1⟩
  · have hcb : (codeM p qs rows == 0) = false := by simp [hm]
    have HC := Lib.hid (show codeA p qs rows = codeM p qs rows by simp [codeA, hm])
    clear hm
    go_enter Try.func124, Try.ntmps124
    go_wp2_with (go_at_call 84; refine (s_code _ _ _ _ _ _ _ _ _ _ hd hl hr (hq.ext (ext_alloc _ _)) (hx.ext (ext_alloc _ _))).mono ?_; rintro e w1 ⟨rfl, h1⟩)
    go_ret
    exact ⟨ret_int HC.out.symm, (ext_alloc _ _).trans h1⟩

/-! ### The first number other than 0 -/
def leadN (xs : List Int) : Nat := match (List.range xs.length).find? (fun i => nth xs i != 0) with | some i => i | none => xs.length
theorem leadN_eq {xs : List Int} {k : Nat} (hk : k ≤ xs.length) (hz : ∀ j, j < k → nth xs j = 0) (he : k = xs.length ∨ nth xs k ≠ 0) : leadN xs = k := by
  unfold leadN
  rcases Nat.lt_or_ge k xs.length with h | h
  · have hne : nth xs k ≠ 0 := by rcases he with he | he; omega; exact he
    have : (List.range xs.length).find? (fun i => nth xs i != 0) = some k := by
      rw [List.find?_range_eq_some]
      exact ⟨by simpa using hne, by simpa using h, fun j hj => by simp [hz j hj]⟩
    rw [this]
  · have : (List.range xs.length).find? (fun i => nth xs i != 0) = none := by
      rw [List.find?_range_eq_none]
      exact fun j hj => by simp [hz j (by omega)]
    rw [this]; simp only; omega
theorem leadN_le (xs : List Int) : leadN xs ≤ xs.length := by
  unfold leadN
  split
  · rename_i i h
    have := List.mem_of_find?_eq_some h
    simp at this; omega
  · exact Nat.le_refl _
theorem leadN_zero {xs : List Int} {j : Nat} (h : j < leadN xs) : nth xs j = 0 := by
  unfold leadN at h
  split at h
  · rename_i i hf
    rw [List.find?_range_eq_some] at hf
    simpa using hf.2.2 j h
  · rename_i hf
    rw [List.find?_range_eq_none] at hf
    simpa using hf j h
theorem leadN_ne {xs : List Int} (h : leadN xs < xs.length) : nth xs (leadN xs) ≠ 0 := by
  have h0 := h
  unfold leadN at h0 ⊢
  split at h0
  · rename_i i hf
    have := List.find?_some hf
    simpa using this
  · omega
def zeroB (xs : List Int) : Bool := decide (leadN xs = xs.length)
theorem zeroB_iff {xs : List Int} : zeroB xs = true ↔ ∀ j, j < xs.length → nth xs j = 0 := by
  simp only [zeroB, decide_eq_true_eq]
  constructor
  · intro h j hj; exact leadN_zero (by omega)
  · intro h; exact leadN_eq (Nat.le_refl _) (fun j hj => h j hj) (.inl rfl)
theorem zero_minus {p : Int} {x y : List Int} {n : Nat} (hp : 1 ≤ p) (hx : Good p n x) (hy : Good p n y) : zeroB (plusL p x y (-1) n) = eqB x y := by
  rw [Bool.eq_iff_iff, zeroB_iff, plusL_len]
  simp only [eqB, decide_eq_true_eq]
  constructor
  · intro h
    refine ext_nth (by rw [hx.1, hy.1]) (fun i hi => ?_)
    rw [hx.1] at hi
    have hi' := h i hi
    rw [plusL_nth hi] at hi'
    unfold plusN at hi'
    have h1 := hx.2 i hi
    have h2 := hy.2 i hi
    obtain ⟨c, hc⟩ := Int.dvd_of_emod_eq_zero hi'
    have hc0 : c = 0 := by
      rcases Int.lt_trichotomy c 0 with h | h | h
      · have : p * c ≤ p * -1 := Int.mul_le_mul_of_nonneg_left (by omega) (by omega)
        omega
      · exact h
      · have : p * 1 ≤ p * c := Int.mul_le_mul_of_nonneg_left (by omega) (by omega)
        omega
    rw [hc0] at hc; omega
  · rintro rfl i hi
    rw [plusL_nth hi]; unfold plusN
    rw [show nth x i + -1 * nth x i = 0 by omega]; simp

set_option maxHeartbeats 400000 in
theorem c_lead (a : Option Addr) (n cap : Nat) (xs : List Int) (w : World) (hl : n ≤ 4194303) (hx : RdC w a n xs) :
    Calls Try.prog 195 #[.slice a n cap] w fun e w' => e = .returned (.int .i64 (leadN xs)) ∧ Ext w w' := by
  have HX := Lib.hid hx
  clear hx
  go_enter Try.func195, Try.ntmps195
  go_wp2_with (fail)
  go_loopw [3] (fun i wr => ∃ k : Nat, k ≤ n ∧ i = .int .i64 k ∧ Hid (∀ j, j < k → nth xs j = 0) ∧ Ext w wr) (fun i _ => n - (intOf i).toNat)
  case atStart => exact ⟨0, Nat.zero_le _, rfl, Lib.hid (fun j hj => by omega), Ext.refl _⟩
  case round =>
    obtain ⟨k, hk, rfl, HT, hext⟩ := hrel
    by_cases hlt : k < n
    · obtain ⟨b, off, rfl, hc⟩ := HX.out.2 k hlt
      have hc' := hext.cell hc
      clear hc
      by_cases hz : nth xs k = 0
      · have HZ := Lib.hid hz
        have hzb : (nth xs k == 0) = true := by simp [hz]
        clear hz
        go_wp2_with (fail)
        go_roundw
        case rel => exact ⟨k + 1, by omega, by go_num, Lib.hid (fun j hj => by
          by_cases hjk : j = k
          · subst hjk; exact HZ.out
          · exact HT.out j (by omega)), hext⟩
        case measure => simp [intOf]; omega
      · have HZ := Lib.hid hz
        have hzb : (nth xs k == 0) = false := by simp [hz]
        clear hz
        go_wp2_with (fail)
        go_ret
        exact ⟨ret_int (by rw [leadN_eq (by rw [HX.out.1]; omega) HT.out (.inr HZ.out)]), hext⟩
    · go_wp2_with (fail)
      go_ret
      exact ⟨ret_int (by rw [leadN_eq (by rw [HX.out.1]; omega) HT.out (.inl (by rw [HX.out.1]; omega))]), hext⟩

set_option maxHeartbeats 1000000 in
set_option maxRecDepth 100000 in
theorem s_same (a b : Option Addr) (n m ca cb : Nat) (xs ys : List Int) (w : World) (hl : n ≤ 4194303) (hm : m ≤ 4194303) (hx : RdC w a n xs) (hy : RdC w b m ys) :
    Calls Try.prog 169 #[.slice a n ca, .slice b m cb] w fun e w' => e = .returned (.bool (eqB xs ys)) ∧ Ext w w' := by
  by_cases hnm : n = m
  · subst hnm
    have HX := Lib.hid hx
    have HY := Lib.hid hy
    have hnb : ((n : Int) != (n : Int)) = false := by simp
    clear hx hy
    go_enter Try.func169, Try.ntmps169
    go_wp2_with (fail)
    go_loopw [5] (fun i wr => ∃ k : Nat, k ≤ n ∧ i = .int .i64 k ∧ Hid (∀ j, j < k → nth xs j = nth ys j) ∧ Ext w wr) (fun i _ => n - (intOf i).toNat)
    case atStart => exact ⟨0, Nat.zero_le _, rfl, Lib.hid (fun j hj => by omega), Ext.refl _⟩
    case round =>
      obtain ⟨k, hk, rfl, HT, hext⟩ := hrel
      by_cases hlt : k < n
      · obtain ⟨bx, ox, rfl, hcx⟩ := HX.out.2 k hlt
        obtain ⟨by', oy, rfl, hcy⟩ := HY.out.2 k hlt
        have Hcx := Lib.hid ((hext.trans (ext_drew _)).cell hcx)
        have Hcy := Lib.hid ((hext.trans (ext_drew _)).cell hcy)
        clear hcx hcy
        obtain ⟨u, hu⟩ : ∃ u, u = nth xs k := ⟨_, rfl⟩
        obtain ⟨v, hv⟩ : ∃ v, v = nth ys k := ⟨_, rfl⟩
        rw [← hu] at Hcx
        rw [← hv] at Hcy
        have HU := Lib.hid hu
        have HV := Lib.hid hv
        clear hu hv
        by_cases huv : u = v
        · have HE := Lib.hid huv
          have hub : (u != v) = false := by simp [huv]
          clear huv
          go_wp2_with (fail)
          refine wp_region_lex [] (by kernel_rfl) (by kernel_rfl) ?_
          repeat' first | (refine LexW.pure (v := ?_) rfl rfl (fun w1 he => ?_) ?_; rotate_left; ( have e3 := he.cell Hcx.out; have e4 := he.cell Hcy.out; go_simp; rfl); simp only [Act.put, List.setIfInBounds_toArray, List.set_cons_zero, List.set_cons_succ])
          refine LexW.nil (fun w2 he hkn => ?_)
          have G2 := Lib.hid (hext.trans ((ext_drew _).trans he))
          clear he hkn
          go_wp2_with (fail)
          go_roundw
          case rel => exact ⟨k + 1, by omega, by go_num, Lib.hid (fun j hj => by
            by_cases hjk : j = k
            · subst hjk; rw [← HU.out, ← HV.out]; exact HE.out
            · exact HT.out j (by omega)), G2.out⟩
          case measure => simp [intOf]; omega
        · have HE := Lib.hid huv
          have hub : (u != v) = true := by simp [huv]
          clear huv
          go_wp2_with (fail)
          refine wp_region_lex [] (by kernel_rfl) (by kernel_rfl) ?_
          repeat' first | (refine LexW.pure (v := ?_) rfl rfl (fun w1 he => ?_) ?_; rotate_left; ( have e3 := he.cell Hcx.out; have e4 := he.cell Hcy.out; go_simp; rfl); simp only [Act.put, List.setIfInBounds_toArray, List.set_cons_zero, List.set_cons_succ])
          refine LexW.nil (fun w2 he hkn => ?_)
          have G2 := Lib.hid (hext.trans ((ext_drew _).trans he))
          clear he hkn
          go_wp2_with (fail)
          go_ret
          exact ⟨ret_bool (eqB_nth (by rw [← HU.out, ← HV.out]; exact HE.out)).symm, G2.out⟩
      · go_wp2_with (fail)
        go_ret
        exact ⟨ret_bool (eqB_all HX.out.1 HY.out.1 (fun j hj => HT.out j (by omega))).symm, hext⟩
  · have HE := Lib.hid (eqB_len (show xs.length ≠ ys.length by rw [hx.1, hy.1]; exact hnm))
    have hnb : ((n : Int) != (m : Int)) = true := by simp; omega
    go_enter Try.func169, Try.ntmps169
    go_wp2_with (fail)
    go_ret
    exact ⟨ret_bool HE.out.symm, Ext.refl _⟩
end Go.Proofs.Ytbgnfjckbjmgbaa

/-
  Kernels, solutions and inverses from reduced bases, in plain words.
  No condition.
-/
namespace Go.Proofs.Ytbgnfjckbjmgbaa
set_option maxRecDepth 100000
open Go.RowKit

/-- The row whose first number other than 0 is at place t. -/
def pivIx (red : List (List Int)) (t : Nat) : Option Nat := (List.range red.length).find? (fun i => leadN (nthR red i) == t)
theorem pivIx_some {red : List (List Int)} {t i : Nat} (h : pivIx red t = some i) : i < red.length ∧ leadN (nthR red i) = t := by
  unfold pivIx at h
  rw [List.find?_range_eq_some] at h
  exact ⟨by simpa using h.2.1, by simpa using h.1⟩
theorem pivIx_none {red : List (List Int)} {t : Nat} (h : pivIx red t = none) : ∀ i, i < red.length → leadN (nthR red i) ≠ t := by
  unfold pivIx at h
  rw [List.find?_range_eq_none] at h
  intro i hi
  simpa using h i hi

theorem Basis.leadN {p : Int} {m : Nat} {red : List (List Int)} {c : Nat → Nat} (h : Basis p m red c) {i : Nat} (hi : i < red.length) : leadN (nthR red i) = c i := by
  have hl := (h.good i hi).1
  have hc := h.clt i hi
  refine leadN_eq (by omega) (h.lead i hi) (.inr ?_)
  rw [h.one i hi i hi, if_pos rfl]
  omega
theorem Basis.inj {p : Int} {m : Nat} {red : List (List Int)} {c : Nat → Nat} (h : Basis p m red c) {i j : Nat} (hi : i < red.length) (hj : j < red.length) (he : c i = c j) : i = j := by
  rcases Nat.lt_trichotomy i j with hij | hij | hij
  · have := h.mono i j hij hj; omega
  · exact hij
  · have := h.mono j i hij hi; omega
theorem Basis.piv {p : Int} {m : Nat} {red : List (List Int)} {c : Nat → Nat} (h : Basis p m red c) {i : Nat} (hi : i < red.length) : pivIx red (c i) = some i := by
  cases hp : pivIx red (c i) with
  | none => exact absurd (h.leadN hi) (pivIx_none hp i hi)
  | some j =>
    obtain ⟨hj, hl⟩ := pivIx_some hp
    rw [h.leadN hj] at hl
    rw [h.inj hj hi hl]

/-- The vector of the kernel with 1 at a free place f. -/
def kerN (p : Int) (red : List (List Int)) (f t : Nat) : Int := if t = f then 1 else match pivIx red t with | some i => (-(nth (nthR red i) f)) % p | none => 0
def kerV (p : Int) (n : Nat) (red : List (List Int)) (f : Nat) : List Int := (List.range n).map (kerN p red f)
theorem kerV_len {p : Int} {n : Nat} {red : List (List Int)} {f : Nat} : (kerV p n red f).length = n := by simp [kerV]
theorem kerV_nth {p : Int} {n : Nat} {red : List (List Int)} {f t : Nat} (ht : t < n) : nth (kerV p n red f) t = kerN p red f t := by
  unfold kerV; rw [nth_map (by simpa using ht)]; simp
theorem kerV_good {p : Int} {n : Nat} {red : List (List Int)} {f : Nat} (hp : 3 ≤ p) : Good p n (kerV p n red f) := ⟨kerV_len, fun t ht => by
  rw [kerV_nth ht]
  unfold kerN
  split
  · omega
  · split
    · exact ⟨Int.emod_nonneg _ (by omega), Int.emod_lt_of_pos _ (by omega)⟩
    · omega⟩
/-- The free places ahead of k. -/
def freeL (red : List (List Int)) (k : Nat) : List Nat := (List.range k).filter fun t => (pivIx red t).isNone
theorem freeL_no {red : List (List Int)} {k i : Nat} (h : pivIx red k = some i) : freeL red (k + 1) = freeL red k := by simp [freeL, List.range_succ, List.filter_append, h]
theorem freeL_yes {red : List (List Int)} {k : Nat} (h : pivIx red k = none) : freeL red (k + 1) = freeL red k ++ [k] := by simp [freeL, List.range_succ, List.filter_append, h]
theorem freeL_len (red : List (List Int)) (k : Nat) : (freeL red k).length ≤ k := by
  unfold freeL
  have := List.length_filter_le (fun t => (pivIx red t).isNone) (List.range k)
  simpa using this
def kerR (p : Int) (n : Nat) (red : List (List Int)) (k : Nat) : List (List Int) := (freeL red k).map (kerV p n red)
theorem kerR_good {p : Int} {n : Nat} {red : List (List Int)} {k : Nat} (hp : 3 ≤ p) : RowsG p n (kerR p n red k) := fun i hi => by
  unfold kerR at hi ⊢
  rw [nthR_map (by simpa using hi)]
  exact kerV_good hp
/-- The reduced basis of the vectors with n numbers whose products with all rows are 0. -/
def kernL (p : Int) (n : Nat) (rows : List (List Int)) : List (List Int) := basisL p n (kerR p n (basisL p n rows) n)

/-- The solution that is 0 at all free places. -/
def wideL (rows : List (List Int)) (v : List Int) (k : Nat) : List (List Int) := (List.range k).map fun i => nthR rows i ++ [nth v i]
theorem wideL_succ (rows : List (List Int)) (v : List Int) (k : Nat) : wideL rows v (k + 1) = wideL rows v k ++ [nthR rows k ++ [nth v k]] := by simp [wideL, List.range_succ]
theorem wideL_len (rows : List (List Int)) (v : List Int) (k : Nat) : (wideL rows v k).length = k := by simp [wideL]
theorem good_snoc {p : Int} {n : Nat} {x : List Int} {v : Int} (hx : Good p n x) (h0 : 0 ≤ v) (h1 : v < p) : Good p (n + 1) (x ++ [v]) := by
  refine ⟨by simp [hx.1], fun i hi => ?_⟩
  by_cases h : i < n
  · rw [nth_append_left (by rw [hx.1]; exact h)]; exact hx.2 i h
  · have : i = x.length := by rw [hx.1]; omega
    rw [this, nth_append_len]; exact ⟨h0, h1⟩
theorem wideL_good {p : Int} {n : Nat} {rows : List (List Int)} {v : List Int} {k : Nat} (hg : RowsG p n rows) (hv : Good p k v) (hk : k ≤ rows.length) : RowsG p (n + 1) (wideL rows v k) := fun i hi => by
  rw [wideL_len] at hi
  unfold wideL
  rw [nthR_map (by simpa using hi)]
  simp only [List.getElem_range]
  exact good_snoc (hg i (by omega)) (hv.2 i hi).1 (hv.2 i hi).2
def solN (n : Nat) (red : List (List Int)) (t : Nat) : Int := match pivIx red t with | some i => nth (nthR red i) n | none => 0
def solL (n : Nat) (red : List (List Int)) : List Int := (List.range n).map (solN n red)
def okS (n : Nat) (red : List (List Int)) : Bool := (pivIx red n).isNone
/-- The solution as it stands when the first k rows have been gone through. -/
def solS (n : Nat) (red : List (List Int)) : Nat → List Int
  | 0 => List.replicate n 0
  | k + 1 => (solS n red k).set (leadN (nthR red k)) (nth (nthR red k) n)
theorem solS_len {n : Nat} {red : List (List Int)} : ∀ k, (solS n red k).length = n
  | 0 => by simp [solS]
  | k + 1 => by simp [solS, solS_len k]
theorem solS_nth {p : Int} {m n : Nat} {red : List (List Int)} {c : Nat → Nat} (h : Basis p m red c) : ∀ k, k ≤ red.length → ∀ t, t < n → nth (solS n red k) t = match pivIx red t with | some i => if i < k then nth (nthR red i) n else 0 | none => 0
  | 0, _, t, ht => by
    unfold solS
    rw [nth_replicate ht]
    split
    · rw [if_neg (by omega)]
    · rfl
  | k + 1, hk, t, ht => by
    have ih := solS_nth h k (by omega) t ht (n := n)
    show nth ((solS n red k).set (leadN (nthR red k)) (nth (nthR red k) n)) t = _
    by_cases hl : leadN (nthR red k) = t
    · have hkl : k < red.length := by omega
      rw [hl, nth_set (by rw [solS_len]; exact ht), if_pos rfl]
      have hp : pivIx red t = some k := by rw [← hl, h.leadN hkl]; exact h.piv hkl
      rw [hp]
      show _ = if k < k + 1 then _ else _
      rw [if_pos (by omega)]
    · have e : nth ((solS n red k).set (leadN (nthR red k)) (nth (nthR red k) n)) t = nth (solS n red k) t := by
        simp only [nth]
        rw [List.getD_eq_getElem?_getD, List.getElem?_set_ne hl, ← List.getD_eq_getElem?_getD]
      rw [e, ih]
      cases hp : pivIx red t with
      | none => rfl
      | some i =>
        show (if i < k then _ else _) = if i < k + 1 then _ else _
        have : i ≠ k := fun hik => by subst hik; exact hl (pivIx_some hp).2
        by_cases hi : i < k
        · rw [if_pos hi, if_pos (by omega)]
        · rw [if_neg hi, if_neg (by omega)]
theorem solS_all {p : Int} {m n : Nat} {red : List (List Int)} {c : Nat → Nat} (h : Basis p m red c) : solS n red red.length = solL n red := by
  refine ext_nth (by rw [solS_len]; simp [solL]) fun t ht => ?_
  rw [solS_len] at ht
  rw [solS_nth h _ (Nat.le_refl _) t ht]
  unfold solL
  rw [nth_map (by simpa using ht)]
  simp only [List.getElem_range]
  unfold solN
  cases hp : pivIx red t with
  | none => rfl
  | some i => show (if i < red.length then _ else _) = _; rw [if_pos (pivIx_some hp).1]
theorem nth_bd0 {p : Int} {m : Nat} {x : List Int} (hp : 1 ≤ p) (hx : Good p m x) (i : Nat) : 0 ≤ nth x i ∧ nth x i < p := by
  by_cases h : i < m
  · exact hx.2 i h
  · have : nth x i = 0 := by
      simp only [nth, List.getD_eq_getElem?_getD]
      rw [List.getElem?_eq_none (by rw [hx.1]; omega)]; rfl
    omega
theorem sol_good {p : Int} {m n : Nat} {red : List (List Int)} (hp : 1 ≤ p) (hg : RowsG p m red) : Good p n (solL n red) := ⟨by simp [solL], fun t ht => by
  unfold solL
  rw [nth_map (by simpa using ht)]
  simp only [List.getElem_range]
  unfold solN
  split
  · rename_i i h; exact nth_bd0 hp (hg i (pivIx_some h).1) n
  · omega⟩

end Go.Proofs.Ytbgnfjckbjmgbaa

/-
  Reduced bases have the same solutions; solutions of linear systems; in plain numbers.
  No condition. No program in sight.
-/
namespace Go.Proofs.Ytbgnfjckbjmgbaa
set_option maxRecDepth 100000
open Go.RowKit

def dotN (m : Nat) (x z : List Int) : Int := sumN m fun t => nth x t * nth z t
theorem dot_plus {p k : Int} {m : Nat} {x y z : List Int} : dotN m (plusL p x y k m) z % p = (dotN m x z + k * dotN m y z) % p := by
  unfold dotN
  rw [← sumN_mul, ← sumN_add]
  refine sumN_emod fun t ht => ?_
  rw [plusL_nth ht, plusN]
  have : (nth x t + k * nth y t) * nth z t = nth x t * nth z t + k * (nth y t * nth z t) := by rw [Int.add_mul, Int.mul_assoc]
  rw [← this]
  exact mul_emod_congr (Int.emod_emod _ _) rfl
theorem dot_scale {p k : Int} {m : Nat} {x z : List Int} : dotN m (scaleL p x k m) z % p = (k * dotN m x z) % p := by
  unfold dotN
  rw [← sumN_mul]
  refine sumN_emod fun t ht => ?_
  rw [scaleL_nth ht, scaleN]
  have : nth x t * k * nth z t = k * (nth x t * nth z t) := by ac_rfl
  rw [← this]
  exact mul_emod_congr (Int.emod_emod _ _) rfl

/-- The product with each row is 0. -/
def Kill (p : Int) (m : Nat) (rows : List (List Int)) (z : List Int) : Prop := ∀ i, i < rows.length → dotN m (nthR rows i) z % p = 0

theorem kill_up {p : Int} {m d k i : Nat} {rows : List (List Int)} {z : List Int} (hp : primeB p = true) (hk : k < m) (hg : RowsG p m rows) (hd : d < rows.length) (hi : i < rows.length) (hne : nth (nthR rows i) k ≠ 0) :
    Kill p m (upG p m rows d k i) z ↔ Kill p m rows z := by
  have hpb := prime_bd hp
  have hb := (hg i hi).2 k hk
  have hinv := (inv_spec hp (show 0 < nth (nthR rows i) k by omega) hb.2).2.1
  unfold Kill
  rw [upG_len]
  constructor
  · intro h j hj
    by_cases hji : j = i
    · subst hji
      have := h d hd
      rw [upG_nth hd hi, if_pos rfl, dot_scale] at this
      have e : (nth (nthR rows j) k * (invN p (nth (nthR rows j) k) * dotN m (nthR rows j) z)) % p = 0 := by
        rw [Int.mul_emod, this]; simp
      rw [← Int.mul_assoc, Int.mul_emod, hinv] at e
      rwa [Int.one_mul, Int.emod_emod] at e
    · by_cases hjd : j = d
      · subst hjd
        have := h i hi
        rwa [upG_nth hd hi, if_neg (Ne.symm hji), if_pos rfl] at this
      · have := h j hj
        rwa [upG_nth hd hi, if_neg hjd, if_neg hji] at this
  · intro h j hj
    rw [upG_nth hd hi]
    split
    · rw [dot_scale, Int.mul_emod, h i hi]; simp
    · split
      · exact h d hd
      · exact h j hj
theorem kill_clr {p : Int} {m d k : Nat} {rows : List (List Int)} {z : List Int} (hd : d < rows.length) :
    Kill p m (clrS p k m d rows rows.length) z ↔ Kill p m rows z := by
  unfold Kill
  rw [clrS_len]
  have hD : nthR (clrS p k m d rows rows.length) d = nthR rows d := by rw [clrS_nth _ (Nat.le_refl _), if_neg (by omega)]
  constructor
  · intro h j hj
    have h1 := h j hj
    have h2 := h d hd
    rw [hD] at h2
    rw [clrS_nth _ (Nat.le_refl _)] at h1
    split at h1
    · rw [dot_plus, Int.add_emod, Int.mul_emod, h2] at h1
      simpa using h1
    · exact h1
  · intro h j hj
    rw [clrS_nth _ (Nat.le_refl _)]
    split
    · rw [dot_plus, Int.add_emod, h j hj, Int.mul_emod, h d hd]; simp
    · exact h j hj
theorem kill_gauss {p : Int} {m : Nat} {rows : List (List Int)} {z : List Int} (hp : primeB p = true) (hg : RowsG p m rows) : ∀ k, k ≤ m → (Kill p m (gaussS p m rows k).1 z ↔ Kill p m rows z)
  | 0, _ => Iff.rfl
  | k + 1, hk => by
    obtain ⟨h1, c, h2⟩ := gaussS_red hp hg k (by omega)
    obtain ⟨p1, p2, p3, p4⟩ := pivG_spec (gaussS p m rows k).1 k (gaussS p m rows k).2 h2.dle
    rw [← kill_gauss hp hg k (by omega)]
    show Kill p m (stepG p m (gaussS p m rows k) k).1 z ↔ _
    by_cases hn : pivG (gaussS p m rows k).1 k (gaussS p m rows k).2 = (gaussS p m rows k).1.length
    · rw [stepG_no hn]
    · have hi : pivG (gaussS p m rows k).1 k (gaussS p m rows k).2 < (gaussS p m rows k).1.length := by omega
      have hd : (gaussS p m rows k).2 < (gaussS p m rows k).1.length := by omega
      rw [stepG_yes rfl hi, ← kill_up hp (show k < m by omega) h1 hd hi (by rcases p4 with h | h; omega; exact h)]
      have := kill_clr (p := p) (m := m) (k := k) (rows := upG p m (gaussS p m rows k).1 (gaussS p m rows k).2 k (pivG (gaussS p m rows k).1 k (gaussS p m rows k).2)) (z := z) (d := (gaussS p m rows k).2) (by rw [upG_len]; exact hd)
      rw [upG_len] at this
      exact this
/-- The reduced basis has the same solutions. -/
theorem kill_basis {p : Int} {m : Nat} {rows : List (List Int)} {z : List Int} (hp : primeB p = true) (hg : RowsG p m rows) : Kill p m (basisL p m rows) z ↔ Kill p m rows z := by
  rw [← kill_gauss hp hg m (Nat.le_refl _)]
  obtain ⟨h1, c, h2⟩ := gaussS_red hp hg m (Nat.le_refl _)
  have hl : (basisL p m rows).length = (gaussS p m rows m).2 := by unfold basisL; rw [List.length_take, Nat.min_eq_left h2.dle]
  unfold Kill
  constructor
  · intro h i hi
    by_cases hid : i < (gaussS p m rows m).2
    · have := h i (by omega)
      unfold basisL at this
      rwa [nthR_take hid] at this
    · unfold dotN
      rw [sumN_zero fun t ht => by rw [h2.rest i (by omega) hi t ht, Int.zero_mul]]; simp
  · intro h i hi
    have := h i (by have := h2.dle; omega)
    unfold basisL
    rwa [nthR_take (by omega)]

/-! ### Linear systems -/
theorem nth_len {x : List Int} {n : Nat} {v : Int} (h : x.length = n) : nth (x ++ [v]) n = v := by subst h; exact nth_append_len
theorem dot_snoc {n : Nat} {x y : List Int} {v : Int} (hx : x.length = n) (hy : y.length = n) : dotN (n + 1) (x ++ [v]) (y ++ [-1]) = dotN n x y - v := by
  unfold dotN
  simp only [sumN]
  rw [nth_len hx, nth_len hy, sumN_congr (g := fun t => nth x t * nth y t) fun t ht => by rw [nth_append_left (by omega), nth_append_left (by omega)]]
  omega
/-- y solves the system: the product with row i is number i of v. -/
def Solves (p : Int) (n : Nat) (rows : List (List Int)) (v y : List Int) : Prop := ∀ i, i < rows.length → dotN n (nthR rows i) y % p = nth v i % p
theorem sub_zero_iff {p a b : Int} : (a - b) % p = 0 ↔ a % p = b % p := Int.emod_eq_emod_iff_emod_sub_eq_zero.symm
theorem solves_kill {p : Int} {n : Nat} {rows : List (List Int)} {v y : List Int} (hg : RowsG p n rows) (hy : y.length = n) : Solves p n rows v y ↔ Kill p (n + 1) (wideL rows v rows.length) (y ++ [-1]) := by
  unfold Solves Kill
  rw [wideL_len]
  have e : ∀ i, i < rows.length → nthR (wideL rows v rows.length) i = nthR rows i ++ [nth v i] := fun i hi => by
    unfold wideL; rw [nthR_map (by simpa using hi)]; simp
  constructor
  · intro h i hi
    rw [e i hi, dot_snoc (hg i hi).1 hy]
    exact sub_zero_iff.2 (h i hi)
  · intro h i hi
    have := h i hi
    rw [e i hi, dot_snoc (hg i hi).1 hy] at this
    exact sub_zero_iff.1 this
theorem okS_iff {p : Int} {m n : Nat} {red : List (List Int)} {c : Nat → Nat} (h : Basis p m red c) : okS n red = true ↔ ∀ i, i < red.length → c i ≠ n := by
  unfold okS
  rw [Option.isNone_iff_eq_none]
  constructor
  · intro hn i hi hc
    exact pivIx_none hn i hi (by rw [h.leadN hi, hc])
  · intro hc
    cases hp : pivIx red n with
    | none => rfl
    | some i =>
      obtain ⟨hi, hl⟩ := pivIx_some hp
      rw [h.leadN hi] at hl
      exact absurd hl (hc i hi)
theorem solL_len {n : Nat} {red : List (List Int)} : (solL n red).length = n := by simp [solL]
theorem sol_kill {p : Int} {n : Nat} {red : List (List Int)} {c : Nat → Nat} (h : Basis p (n + 1) red c) (hok : okS n red = true) : Kill p (n + 1) red (solL n red ++ [-1]) := by
  intro i hi
  have hc := (okS_iff h).1 hok
  have e : dotN (n + 1) (nthR red i) (solL n red ++ [-1]) = dotN n (nthR red i) (solL n red) - nth (nthR red i) n := by
    unfold dotN
    simp only [sumN]
    rw [nth_len solL_len, sumN_congr (g := fun t => nth (nthR red i) t * nth (solL n red) t) fun t ht => by rw [nth_append_left (by rw [solL_len]; exact ht)]]
    omega
  rw [e]
  have hci : c i < n := by have := h.clt i hi; have := hc i hi; omega
  have : dotN n (nthR red i) (solL n red) = nth (nthR red i) n := by
    unfold dotN
    have sn : ∀ t, t < n → nth (solL n red) t = solN n red t := fun t ht => by unfold solL; rw [nth_map (by simpa using ht)]; simp
    rw [sumN_single hci fun t ht hne => by
      rw [sn t ht]
      unfold solN
      cases hp : pivIx red t with
      | none => simp
      | some j =>
        obtain ⟨hj, hl⟩ := pivIx_some hp
        rw [h.leadN hj] at hl
        subst hl
        rw [h.one j hj i hi, if_neg (fun e => hne (by rw [e]))]; simp]
    rw [h.one i hi i hi, if_pos rfl, sn _ hci, Int.one_mul]
    unfold solN
    rw [h.piv hi]
  rw [this]; simp
theorem sol_spec {p : Int} {n : Nat} {rows : List (List Int)} {v : List Int} (hp : primeB p = true) (hg : RowsG p n rows) (hv : Good p rows.length v) (hok : okS n (basisL p (n + 1) (wideL rows v rows.length)) = true) :
    Solves p n rows v (solL n (basisL p (n + 1) (wideL rows v rows.length))) := by
  have hw := wideL_good hg hv (Nat.le_refl _)
  obtain ⟨c, hb⟩ := basis_red hp hw
  rw [solves_kill hg solL_len, ← kill_basis hp hw]
  exact sol_kill hb hok
theorem sol_exists {p : Int} {n : Nat} {rows : List (List Int)} {v y : List Int} (hp : primeB p = true) (hg : RowsG p n rows) (hv : Good p rows.length v) (hy : y.length = n) (h : Solves p n rows v y) :
    okS n (basisL p (n + 1) (wideL rows v rows.length)) = true := by
  have hpb := prime_bd hp
  have hw := wideL_good hg hv (Nat.le_refl _)
  obtain ⟨c, hb⟩ := basis_red hp hw
  rw [solves_kill hg hy, ← kill_basis hp hw] at h
  rw [okS_iff hb]
  intro i hi hc
  have hk := h i hi
  unfold dotN at hk
  rw [sumN_single (k := n) (by omega) fun t ht hne => by rw [hb.lead i hi t (by omega), Int.zero_mul]] at hk
  have h1 := hb.one i hi i hi
  rw [hc, if_pos rfl] at h1
  rw [h1, nth_len hy] at hk
  have hq : p = 3 ∨ p = 5 ∨ p = 7 ∨ p = 11 ∨ p = 13 := by simp [primeB] at hp; omega
  rcases hq with rfl | rfl | rfl | rfl | rfl <;> simp at hk

/-! ### The dove-cote -/
theorem dove : ∀ (M : Nat) (f : Nat → Nat), (∀ k, k ≤ M → f k < M) → ∃ i j, i < j ∧ j ≤ M ∧ f i = f j
  | 0, f, h => absurd (h 0 (Nat.le_refl _)) (Nat.not_lt_zero _)
  | M + 1, f, h => by
    by_cases hx : ∃ j, j < M + 1 ∧ f j = f (M + 1)
    · obtain ⟨j, hj, he⟩ := hx
      exact ⟨j, M + 1, hj, Nat.le_refl _, he⟩
    · have hx' : ∀ j, j < M + 1 → f j ≠ f (M + 1) := fun j hj he => hx ⟨j, hj, he⟩
      obtain ⟨i, j, hij, hj, he⟩ := dove M (fun k => if f k = M then f (M + 1) else f k) fun k hk => by
        have h1 := h k (by omega)
        have h2 := h (M + 1) (Nat.le_refl _)
        have h3 := hx' k (by omega)
        show (if f k = M then f (M + 1) else f k) < M
        split <;> omega
      refine ⟨i, j, hij, by omega, ?_⟩
      have he : (if f i = M then f (M + 1) else f i) = (if f j = M then f (M + 1) else f j) := he
      have h3 := hx' i (by omega)
      have h4 := hx' j (by omega)
      split at he <;> split at he
      · omega
      · exact absurd he.symm h4
      · exact absurd he h3
      · exact he
def encL (q : Nat) : List Int → Nat
  | [] => 0
  | x :: xs => x.toNat + q * encL q xs
theorem encL_lt {p : Int} {q : Nat} (hq : p = q) : ∀ (n : Nat) (x : List Int), Good p n x → encL q x < q ^ n
  | 0, x, h => by
    have : x = [] := List.length_eq_zero_iff.1 h.1
    subst this; exact Nat.one_pos
  | n + 1, [], h => by have := h.1; simp at this
  | n + 1, x :: xs, h => by
    have hx := h.2 0 (by omega)
    have hxs : Good p n xs := ⟨by have := h.1; simpa using this, fun i hi => by have := h.2 (i + 1) (by omega); simpa [nth] using this⟩
    have ih := encL_lt hq n xs hxs
    have h0 : nth (x :: xs) 0 = x := by simp [nth]
    rw [h0] at hx
    show x.toNat + q * encL q xs < q ^ (n + 1)
    rw [Nat.pow_succ, Nat.mul_comm (q ^ n)]
    have : q * (encL q xs + 1) ≤ q * q ^ n := Nat.mul_le_mul_left _ ih
    rw [Nat.mul_add, Nat.mul_one] at this
    omega
theorem encL_inj {p : Int} {q : Nat} (hq : p = q) : ∀ (n : Nat) (x y : List Int), Good p n x → Good p n y → encL q x = encL q y → x = y
  | 0, x, y, h, h', _ => by rw [List.length_eq_zero_iff.1 h.1, List.length_eq_zero_iff.1 h'.1]
  | n + 1, [], _, h, _, _ => by have := h.1; simp at this
  | n + 1, _ :: _, [], _, h, _ => by have := h.1; simp at this
  | n + 1, x :: xs, y :: ys, h, h', he => by
    have hx := h.2 0 (by omega)
    have hy := h'.2 0 (by omega)
    have g : ∀ z zs, Good p (n + 1) (z :: zs) → Good p n zs := fun z zs h => ⟨by have := h.1; simpa using this, fun i hi => by have := h.2 (i + 1) (by omega); simpa [nth] using this⟩
    have h0 : ∀ z zs, nth (z :: zs) 0 = z := fun z zs => by simp [nth]
    rw [h0] at hx hy
    have he' : x.toNat + q * encL q xs = y.toNat + q * encL q ys := he
    have hxl : x.toNat < q := by omega
    have hyl : y.toNat < q := by omega
    have e1 : x.toNat = y.toNat := by
      have := congrArg (· % q) he'
      simp only [Nat.add_mul_mod_self_left] at this
      rwa [Nat.mod_eq_of_lt hxl, Nat.mod_eq_of_lt hyl] at this
    have e2 : encL q xs = encL q ys := by
      have : q * encL q xs = q * encL q ys := by omega
      exact Nat.eq_of_mul_eq_mul_left (by omega) this
    rw [encL_inj hq n xs ys (g _ _ h) (g _ _ h') e2, show x = y by omega]

/-- A right inverse is a left inverse. -/
theorem inv_both {p : Int} {qs x y : List Int} (hp : 3 ≤ p) (hd : qs.length ≤ 6) (_hx : Good p (2 ^ qs.length) x) (hy : Good p (2 ^ qs.length) y) (h : prodL p qs tkA x y = bladeL (2 ^ qs.length) 0) : prodL p qs tkA y x = bladeL (2 ^ qs.length) 0 := by
  have hq : p = (p.toNat : Int) := by omega
  obtain ⟨i, j, hij, _, he⟩ := dove (p.toNat ^ 2 ^ qs.length) (fun k => encL p.toNat (powL p qs x k)) fun k _ => encL_lt hq _ _ (pow_good hp k)
  have he' : powL p qs x i = powL p qs x j := encL_inj hq _ _ _ (pow_good hp i) (pow_good hp j) he
  -- x^i y^i = 1
  have cancel : ∀ i, prodL p qs tkA (powL p qs x i) (powL p qs y i) = bladeL (2 ^ qs.length) 0 := fun i => by
    induction i with
    | zero => exact times_one (by omega) (blade_good hp)
    | succ i ih =>
      have e : powL p qs y (i + 1) = prodL p qs tkA y (powL p qs y i) := by
        rw [Nat.add_comm, ← pow_add hp hd 1 i, pow_one hp hy]
      show prodL p qs tkA (prodL p qs tkA (powL p qs x i) x) (powL p qs y (i + 1)) = _
      rw [e, prod_assoc (by omega) hd, ← prod_assoc (x := x) (by omega) hd, h, one_times hp (pow_good hp i), ih]
  have hn : powL p qs x (j - i) = bladeL (2 ^ qs.length) 0 := by
    have h1 := cancel i
    rw [he', show j = (j - i) + i by omega, ← pow_add hp hd, prod_assoc (by omega) hd, cancel i, times_one (by omega) (pow_good hp _)] at h1
    exact h1
  obtain ⟨k, hk⟩ : ∃ k, j - i = k + 1 := ⟨j - i - 1, by omega⟩
  rw [hk] at hn
  -- y = x^k
  have hyk : y = powL p qs x k := by
    have : prodL p qs tkA (powL p qs x (k + 1)) y = y := by rw [hn]; exact one_times hp hy
    rw [← this]
    show prodL p qs tkA (prodL p qs tkA (powL p qs x k) x) y = _
    rw [prod_assoc (by omega) hd, h, times_one (by omega) (pow_good hp k)]
  rw [hyk]; exact hn

end Go.Proofs.Ytbgnfjckbjmgbaa

/-
  The rank of the first columns; a column that no combination of the earlier ones makes raises it.
  No condition. No program in sight.
-/
namespace Go.Proofs.Ytbgnfjckbjmgbaa
set_option maxRecDepth 100000
open Go.RowKit

def truncL (m : Nat) (rows : List (List Int)) : List (List Int) := rows.map fun r => r.take m
theorem truncL_len {m : Nat} {rows : List (List Int)} : (truncL m rows).length = rows.length := by simp [truncL]
theorem truncL_nth {m i : Nat} {rows : List (List Int)} : nthR (truncL m rows) i = (nthR rows i).take m := by
  by_cases hi : i < rows.length
  · unfold truncL; rw [nthR_map hi, nthR_eq hi]
  · have h1 : nthR (truncL m rows) i = [] := by simp [nthR, truncL, List.getElem?_eq_none (Nat.le_of_not_lt hi)]
    have h2 : nthR rows i = [] := by simp [nthR, List.getElem?_eq_none (Nat.le_of_not_lt hi)]
    rw [h1, h2, List.take_nil]
theorem nth_take {m t : Nat} {x : List Int} (ht : t < m) : nth (x.take m) t = nth x t := by
  simp [nth, List.getElem?_take_of_lt ht]
theorem plus_take {p k : Int} {m m' : Nat} {x y : List Int} (h : m' ≤ m) : (plusL p x y k m).take m' = plusL p (x.take m') (y.take m') k m' := by
  refine ext_nth (by rw [List.length_take, plusL_len, plusL_len, Nat.min_eq_left h]) fun i hi => ?_
  rw [List.length_take, plusL_len, Nat.min_eq_left h] at hi
  rw [nth_take hi, plusL_nth (by omega), plusL_nth hi, plusN, plusN, nth_take hi, nth_take hi]
theorem scale_take {p k : Int} {m m' : Nat} {x : List Int} (h : m' ≤ m) : (scaleL p x k m).take m' = scaleL p (x.take m') k m' := by
  refine ext_nth (by rw [List.length_take, scaleL_len, scaleL_len, Nat.min_eq_left h]) fun i hi => ?_
  rw [List.length_take, scaleL_len, Nat.min_eq_left h] at hi
  rw [nth_take hi, scaleL_nth (by omega), scaleL_nth hi, scaleN, scaleN, nth_take hi]
theorem piv_trunc {m k d : Nat} {rows : List (List Int)} (hk : k < m) (hd : d ≤ rows.length) : pivG (truncL m rows) k d = pivG rows k d := by
  obtain ⟨h1, h2, h3, h4⟩ := pivG_spec rows k d hd
  refine pivG_eq h1 (by rw [truncL_len]; exact h2) (fun j hj hj2 => by rw [truncL_nth, nth_take hk]; exact h3 j hj hj2) ?_
  rcases h4 with h4 | h4
  · left; rw [truncL_len]; exact h4
  · right; rw [truncL_nth, nth_take hk]; exact h4
theorem step_trunc {p : Int} {m m' d k : Nat} {rows : List (List Int)} (h : m' ≤ m) (hk : k < m') (hd : d ≤ rows.length) :
    stepG p m' (truncL m' rows, d) k = (truncL m' (stepG p m (rows, d) k).1, (stepG p m (rows, d) k).2) := by
  have hp := piv_trunc (m := m') (k := k) (d := d) (rows := rows) hk hd
  obtain ⟨p1, p2, _, _⟩ := pivG_spec rows k d hd
  by_cases hn : pivG rows k d = rows.length
  · rw [stepG_no (s := (rows, d)) hn, stepG_no (s := (truncL m' rows, d)) (by rw [hp, truncL_len]; exact hn)]
  · obtain ⟨i, hi⟩ : ∃ i, i = pivG rows k d := ⟨_, rfl⟩
    rw [← hi] at hp p1 p2 hn
    have hil : i < rows.length := by omega
    have hdl : d < rows.length := by omega
    rw [stepG_yes (s := (rows, d)) hi.symm hil, stepG_yes (s := (truncL m' rows, d)) hp (by rw [truncL_len]; exact hil)]
    refine Prod.ext ?_ rfl
    show clrS p k m' d (upG p m' (truncL m' rows) d k i) (truncL m' rows).length = truncL m' (clrS p k m d (upG p m rows d k i) rows.length)
    have hu : ∀ j, nthR (upG p m' (truncL m' rows) d k i) j = (nthR (upG p m rows d k i) j).take m' := fun j => by
      rw [upG_nth (by rw [truncL_len]; exact hdl) (by rw [truncL_len]; exact hil), upG_nth hdl hil, truncL_nth, truncL_nth, truncL_nth, nth_take hk]
      split
      · rw [scale_take h]
      · split <;> rfl
    refine ext_rows (by rw [clrS_len, upG_len, truncL_len, truncL_len, clrS_len, upG_len]) fun j hj => ?_
    rw [clrS_len, upG_len, truncL_len] at hj
    rw [truncL_nth, truncL_len, clrS_nth _ (by rw [upG_len, truncL_len]; exact Nat.le_refl _), clrS_nth _ (by rw [upG_len]; exact Nat.le_refl _), hu, hu, nth_take hk]
    split
    · rw [plus_take h]
    · rfl
theorem gauss_trunc {p : Int} {m m' : Nat} {rows : List (List Int)} (hp : primeB p = true) (hg : RowsG p m rows) (h : m' ≤ m) : ∀ j, j ≤ m' → gaussS p m' (truncL m' rows) j = (truncL m' (gaussS p m rows j).1, (gaussS p m rows j).2)
  | 0, _ => rfl
  | j + 1, hj => by
    show stepG p m' (gaussS p m' (truncL m' rows) j) j = (truncL m' (stepG p m (gaussS p m rows j) j).1, (stepG p m (gaussS p m rows j) j).2)
    rw [gauss_trunc hp hg h j (by omega)]
    obtain ⟨_, c, hr⟩ := gaussS_red hp hg j (by omega)
    exact step_trunc h (by omega) hr.dle
def rankL (p : Int) (m : Nat) (rows : List (List Int)) : Nat := (gaussS p m rows m).2
theorem rank_le {p : Int} {m : Nat} {rows : List (List Int)} (hp : primeB p = true) (hg : RowsG p m rows) : rankL p m rows ≤ rows.length := (gauss_rank hp hg).1
/-- A further column that has no combination raises the rank. -/
theorem rank_up {p : Int} {m : Nat} {rows : List (List Int)} (hp : primeB p = true) (hg : RowsG p (m + 1) rows) (h : okS m (basisL p (m + 1) rows) = false) : rankL p (m + 1) rows = rankL p m (truncL m rows) + 1 := by
  have ht := gauss_trunc hp hg (Nat.le_succ m) m (Nat.le_refl _)
  have hr : rankL p m (truncL m rows) = (gaussS p (m + 1) rows m).2 := by unfold rankL; rw [ht]
  rw [hr]
  obtain ⟨h1, c, h2⟩ := gaussS_red hp hg m (by omega)
  obtain ⟨p1, p2, _, _⟩ := pivG_spec (gaussS p (m + 1) rows m).1 m (gaussS p (m + 1) rows m).2 h2.dle
  by_cases hn : pivG (gaussS p (m + 1) rows m).1 m (gaussS p (m + 1) rows m).2 = (gaussS p (m + 1) rows m).1.length
  · exfalso
    have e : gaussS p (m + 1) rows (m + 1) = gaussS p (m + 1) rows m := stepG_no hn
    -- no pivot in the last column: all first numbers stand ahead of it
    have hl : (basisL p (m + 1) rows).length = (gaussS p (m + 1) rows m).2 := by unfold basisL; rw [e, List.length_take, Nat.min_eq_left h2.dle]
    have hnn : ∀ i, i < (gaussS p (m + 1) rows m).2 → nthR (basisL p (m + 1) rows) i = nthR (gaussS p (m + 1) rows m).1 i := fun i hi => by unfold basisL; rw [e]; exact nthR_take hi
    have hd := h2.dle
    have ok : okS m (basisL p (m + 1) rows) = true := by
      unfold okS
      rw [Option.isNone_iff_eq_none]
      cases hp' : pivIx (basisL p (m + 1) rows) m with
      | none => rfl
      | some i =>
        obtain ⟨hi, hle⟩ := pivIx_some hp'
        have hi2 : i < (gaussS p (m + 1) rows m).2 := by omega
        have hc := h2.clt i hi2
        have hgl := (h1 i (by omega)).1
        have : leadN (nthR (basisL p (m + 1) rows) i) = c i := by
          rw [hnn i hi2]
          refine leadN_eq (by omega) (h2.lead i hi2) (.inr ?_)
          rw [h2.one i hi2 i (by omega), if_pos rfl]; omega
        omega
    rw [h] at ok; cases ok
  · unfold rankL
    show (stepG p (m + 1) (gaussS p (m + 1) rows m) m).2 = _
    rw [stepG_yes rfl (by omega)]
theorem trunc_wide {p : Int} {m n : Nat} {rows : List (List Int)} {u : List Int} (hg : RowsG p m rows) (hn : rows.length = n) : truncL m (wideL rows u n) = rows := by
  refine ext_rows (by rw [truncL_len, wideL_len, hn]) fun i hi => ?_
  rw [truncL_len, wideL_len] at hi
  rw [truncL_nth]
  have e : nthR (wideL rows u n) i = nthR rows i ++ [nth u i] := by unfold wideL; rw [nthR_map (by simpa using hi)]; simp
  rw [e, List.take_append_of_le_length (by rw [(hg i (by omega)).1]; exact Nat.le_refl _), List.take_of_length_le (by rw [(hg i (by omega)).1]; exact Nat.le_refl _)]

end Go.Proofs.Ytbgnfjckbjmgbaa
