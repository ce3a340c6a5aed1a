/-
  The law FnShifts returns true.
  No condition.
-/
import Derived.Test.YtcocbainookkcaaPart7
import Derived.Test.YtcocbainookkcaaPart6
namespace Go.Proofs.Ytcocbainookkcaa
set_option maxRecDepth 100000
open Go.RowKit

theorem isB_push9 {p r : Int} {xs : List Int} (h : isB p xs = true) (h1 : 0 ≤ r) (h2 : r < p) : isB p (xs ++ [r]) = true := by
  unfold isB at h ⊢
  rw [List.all_append, h]
  simp [inB]; omega
theorem isB_good9 {p : Int} {xs : List Int} {n : Nat} (h1 : xs.length = n) (h : isB p xs = true) : Good p n xs := good_isB h1 h
theorem shL_good {p : Int} {qs x : List Int} {N : Nat} (hp : 1 ≤ p) (hN : N = 2 ^ (qs.length + 2)) : Good p N (shL p qs x) := by rw [hN]; exact plus_good hp

set_option maxHeartbeats 32000000 in
set_option maxRecDepth 100000 in
theorem law_Shifts (w : World) (ac : Option Addr) (nc cc : Nat) (hb : RdY w ac nc) :
    Calls Try.prog 6 #[.slice ac nc cc] w fun e w' => e = .returned (.bool true) ∧ Ext w w' := by
  have HB := Lib.hid hb
  clear hb
  go_enter Try.func6, Try.ntmps6
  go_wp2_with (fail)
  refine Calls.mono (l_big ac nc cc w) ?_
  rintro e w1 ⟨rfl, g0⟩
  have E := Lib.hid g0
  by_cases hbig : 4096 < nc
  · have hbb : decide (4096 < nc) = true := by simp [hbig]
    rw [hbb]
    go_wp2_with (fail)
    go_ret
    exact ⟨rfl, E.out⟩
  have hbb : decide (4096 < nc) = false := by simp [hbig]
  rw [hbb]
  clear g0 hbb
  go_wp2_with (fail)
  refine Calls.mono (s_drawShiftVersor ac nc cc w1 (by omega) (HB.out.ext E.out)) ?_
  rintro e w2 ⟨p, a, d, cap, qs, ax, nx, cx, x, rfl, hp0, hp1, hd, hnx, hq, hx, g1⟩
  have E1 := Lib.hid g1
  replace E := Lib.hid (E.out.trans g1)
  have HQ := Lib.hid hq.rd
  have HX := Lib.hid hx.rd
  clear hq hx g1
  go_wp2_with (fail)
  obtain ⟨O, hO⟩ : ∃ O, O = w2.heap.size := ⟨_, rfl⟩
  obtain ⟨W, hW⟩ : ∃ W, W = w2.alloc (.cells #[.int .i64 p, .slice a d cap] 26) := ⟨_, rfl⟩
  have C0 := Lib.hid (show W.cell? ⟨O, 0, none⟩ = some (.int .i64 p) by rw [hW, hO]; simp)
  have C1 := Lib.hid (show W.cell? ⟨O, 1, none⟩ = some (.slice a d cap) by rw [hW, hO]; simp)
  have gg : Ext w2 W := by rw [hW]; exact ext_alloc _ _
  rw [← hO, ← hW]
  clear hO hW E1
  replace E := Lib.hid (E.out.trans gg)
  replace HQ := Lib.hid (HQ.out.ext gg)
  replace HX := Lib.hid (HX.out.ext gg)
  clear gg
  by_cases hc : code18 p qs [x] ≠ 0
  · skip
    have x00 := C0.out
    have x01 := C1.out
    go_wp2_with (fail)
    clear x00 x01
    refine Calls.mono (c_ShiftVersor_bad p a d cap qs ax nx cx x W (by omega) (by omega) HQ.out HX.out hc) ?_
    rintro e v1 ⟨rZ, kZ, rfl, ho, gg⟩
    have RZ := Lib.hid (ho.mono (Nat.zero_le _))
    clear ho
    replace E := Lib.hid (E.out.trans gg)
    replace HQ := Lib.hid (HQ.out.ext gg)
    replace HX := Lib.hid (HX.out.ext gg)
    replace C0 := Lib.hid (gg.cell (p := ⟨O, 0, none⟩) C0.out)
    replace C1 := Lib.hid (gg.cell (p := ⟨O, 1, none⟩) C1.out)
    clear gg
    have x00 := C0.out
    have x01 := C1.out
    go_wp2_with (fail)
    clear x00 x01
    refine Calls.mono (s_ShiftVersor_bad p a d cap qs ax nx cx x v1 (by omega) (by omega) HQ.out HX.out hc) ?_
    rintro e v2 ⟨rT, kT, rfl, ho, gg⟩
    have RT := Lib.hid (ho.mono (Nat.zero_le _))
    clear ho
    replace E := Lib.hid (E.out.trans gg)
    replace HQ := Lib.hid (HQ.out.ext gg)
    replace HX := Lib.hid (HX.out.ext gg)
    replace RZ := Lib.hid (RZ.out.ext gg)
    replace C0 := Lib.hid (gg.cell (p := ⟨O, 0, none⟩) C0.out)
    replace C1 := Lib.hid (gg.cell (p := ⟨O, 1, none⟩) C1.out)
    clear gg
    have hcb : (code18 p qs [x] != 0) = true := by simp [hc]
    clear hc
    have x00 := C0.out
    have x01 := C1.out
    go_wp2_with (fail)
    clear x00 x01
    have H := l_like rZ rT 0 0 kZ kT _ _ v2 (by omega) (by omega) RZ.out.rd RT.out.rd
    rw [eqB_self] at H
    refine Calls.mono H ?_
    clear H
    rintro e v3 ⟨rfl, gg⟩
    replace E := Lib.hid (E.out.trans gg)
    replace HQ := Lib.hid (HQ.out.ext gg)
    replace HX := Lib.hid (HX.out.ext gg)
    replace RZ := Lib.hid (RZ.out.ext gg)
    replace RT := Lib.hid (RT.out.ext gg)
    replace C0 := Lib.hid (gg.cell (p := ⟨O, 0, none⟩) C0.out)
    replace C1 := Lib.hid (gg.cell (p := ⟨O, 1, none⟩) C1.out)
    clear gg
    go_wp2_with (fail)
    go_ret
    exact ⟨rfl, E.out⟩
  replace hc : code18 p qs [x] = 0 := by simpa using hc
  obtain ⟨hs, h4, ha⟩ := code18_zero hc
  obtain ⟨hpr, hd1, hd6, hqb⟩ := space_of hs
  have hpb := prime_bd hpr
  have HPR := Lib.hid hpr
  have HSP := Lib.hid hs
  have HD := Lib.hid HQ.out.1
  have hgx0 := rows_good ha 0 (by simp)
  have hgx1 : Good p qs.length x := hgx0
  have HG0 := Lib.hid hgx1
  rw [HQ.out.1] at hgx1 hd1
  obtain rfl : d = nx := hgx1.1.symm.trans HX.out.1
  have HGX := Lib.hid hgx1
  obtain ⟨N, hN⟩ : ∃ N, N = 2 ^ (d + 2) := ⟨_, rfl⟩
  have HN := Lib.hid hN
  have hd4 : d ≤ 4 := by rw [← HQ.out.1]; exact h4
  have hN6 : N ≤ 64 := by rw [hN]; exact pow_le64 (by omega)
  have hN1 : 1 ≤ N := by rw [hN]; exact pow_pos' _
  obtain ⟨Q, hQ⟩ : ∃ Q, Q = extL p qs := ⟨_, rfl⟩
  have HQE := Lib.hid hQ
  have HQL := Lib.hid (show Q.length = d + 2 by rw [hQ, extL_len, HD.out])
  have HSE := Lib.hid (show spaceB p Q = true by rw [hQ]; exact extL_space hs h4)
  have HNQ := Lib.hid (show N = 2 ^ Q.length by rw [HQL.out]; exact hN)
  have HGZ := Lib.hid (shL_good (p := p) (qs := qs) (x := x) (by omega) (show N = 2 ^ (qs.length + 2) by rw [HD.out]; exact hN))
  clear hc hs ha hpr hqb hgx0 hgx1 hN hQ hd6
  have x00 := C0.out
  have x01 := C1.out
  go_wp2_with (fail)
  clear x00 x01
  refine Calls.mono (c_ShiftVersor_okN p a d cap qs ax cx x W HN.out HSP.out h4 HQ.out HX.out HGX.out) ?_
  rintro e v1 ⟨gZ, kZ, rfl, ho, gg⟩
  have RZ := Lib.hid (ho.mono (Nat.zero_le _))
  clear ho
  replace E := Lib.hid (E.out.trans gg)
  replace HQ := Lib.hid (HQ.out.ext gg)
  replace HX := Lib.hid (HX.out.ext gg)
  replace C0 := Lib.hid (gg.cell (p := ⟨O, 0, none⟩) C0.out)
  replace C1 := Lib.hid (gg.cell (p := ⟨O, 1, none⟩) C1.out)
  clear gg
  have x00 := C0.out
  have x01 := C1.out
  go_wp2_with (fail)
  clear x00 x01
  refine Calls.mono (s_ShiftVersor_okN p a d cap qs ax cx x v1 HN.out HSP.out h4 HQ.out HX.out HGX.out) ?_
  rintro e v2 ⟨gT, kT, rfl, ho, gg⟩
  have RT := Lib.hid (ho.mono (Nat.zero_le _))
  clear ho
  replace E := Lib.hid (E.out.trans gg)
  replace HQ := Lib.hid (HQ.out.ext gg)
  replace HX := Lib.hid (HX.out.ext gg)
  replace RZ := Lib.hid (RZ.out.ext gg)
  replace C0 := Lib.hid (gg.cell (p := ⟨O, 0, none⟩) C0.out)
  replace C1 := Lib.hid (gg.cell (p := ⟨O, 1, none⟩) C1.out)
  clear gg
  have x00 := C0.out
  have x01 := C1.out
  go_wp2_with (fail)
  clear x00 x01
  have H := l_like (some ⟨gZ, 0, none⟩) (some ⟨gT, 0, none⟩) N N kZ kT _ _ v2 (by omega) (by omega) RZ.out.rd RT.out.rd
  rw [eqB_self] at H
  refine Calls.mono H ?_
  clear H
  rintro e v3 ⟨rfl, gg⟩
  replace E := Lib.hid (E.out.trans gg)
  replace HQ := Lib.hid (HQ.out.ext gg)
  replace HX := Lib.hid (HX.out.ext gg)
  replace RZ := Lib.hid (RZ.out.ext gg)
  replace RT := Lib.hid (RT.out.ext gg)
  replace C0 := Lib.hid (gg.cell (p := ⟨O, 0, none⟩) C0.out)
  replace C1 := Lib.hid (gg.cell (p := ⟨O, 1, none⟩) C1.out)
  clear gg
  clear RT
  have x00 := C0.out
  have x01 := C1.out
  go_wp2_with (fail)
  clear x00 x01
  refine Calls.mono (l_roll ac nc cc 3027 v3 (by omega) (HB.out.ext E.out)) ?_
  rintro e v4 ⟨g, rfl, hg, hS, gg⟩
  obtain ⟨S, hSe⟩ : ∃ S : SrcP, S = ⟨g, ac, nc, cc⟩ := ⟨_, rfl⟩
  obtain rfl : g = S.g := by rw [hSe]
  rw [← hSe] at hS
  have HS := Lib.hid hS
  have E0 := Lib.hid gg
  have hgB : v3.heap.size ≤ S.g := hg
  have hgO : O ≠ S.g := by have := lt_of_cell C0.out; dsimp only at this; omega
  clear hSe hS gg hg
  obtain ⟨B, hB⟩ : ∃ B, B = v4.heap.size := ⟨_, rfl⟩
  have HBE := Lib.hid hB
  have hSB : S.g < B := by rw [hB]; exact HS.out.lt
  clear hB
  have x00 := (E0.out.cell (p := ⟨O, 0, none⟩) C0.out)
  have x01 := (E0.out.cell (p := ⟨O, 1, none⟩) C1.out)
  go_wp2_with (fail)
  clear x00 x01
  obtain ⟨W0, hW0⟩ : ∃ W0, W0 = (v4.alloc (.cells #[] 2)).alloc (.cells #[] 2) := ⟨_, rfl⟩
  have OV0 := Lib.hid (show OwnC B W0 (some ⟨v4.heap.size, 0, none⟩) 0 0 [] by rw [hW0, HBE.out]; exact (own_empty _).ext (ext_alloc _ _))
  have OB0 := Lib.hid (show OwnC B W0 (some ⟨v4.heap.size + 1, 0, none⟩) 0 0 [] by
    rw [hW0, HBE.out]
    have := own_empty (v4.alloc (.cells #[] 2))
    simp only [World.size_alloc] at this
    exact this.mono (by omega))
  have D0 := Lib.hid (show Drw S v4 W0 by rw [hW0]; exact Drw.of_ext ((ext_alloc _ _).alloc _))
  rw [← hW0]
  clear hW0
  go_loopw [10, 11, 12] (fun v b i wr => ∃ (k gv cv : Nat) (xv : List Int) (gb cb : Nat) (xb : List Int), k ≤ d ∧ i = .int .i64 k ∧ v = .slice (some ⟨gv, 0, none⟩) k cv ∧ b = .slice (some ⟨gb, 0, none⟩) k cb ∧ Hid (OwnC B wr (some ⟨gv, 0, none⟩) k cv xv) ∧ Hid (OwnC B wr (some ⟨gb, 0, none⟩) k cb xb) ∧ Hid (isB p xv = true) ∧ Hid (isB p xb = true) ∧ gv ≠ gb ∧ Hid (Drw S v4 wr)) (fun _ _ i _ => d - (intOf i).toNat)
  case atStart => exact ⟨0, _, 0, [], _, 0, [], Nat.zero_le _, rfl, rfl, rfl, OV0, OB0, Lib.hid (by simp [isB]), Lib.hid (by simp [isB]), by omega, D0⟩
  case round =>
    rename World => wr
    clear OV0 OB0 D0
    obtain ⟨k, gv, cv, xv, gb, cb, xb, hk, rfl, rfl, rfl, OV, OB, BV, BB, hvb, HD1⟩ := hrel
    have x00 := HD1.out.cell (p := ⟨O, 0, none⟩) hgO (E0.out.cell C0.out)
    have x01 := HD1.out.cell (p := ⟨O, 1, none⟩) hgO (E0.out.cell C1.out)
    by_cases hkd : k < d
    · have hkd' : (k : Int) < (d : Int) := by omega
      go_wp2_with (fail)
      refine Calls.mono (l_below S p wr (HD1.out.src HS.out) (by omega)) ?_
      rintro e w1 ⟨r, rfl, hr, g1⟩
      have hrb := hr.2 (by omega)
      have OV1 := Lib.hid (g1.own OV.out hSB)
      have OB1 := Lib.hid (g1.own OB.out hSB)
      have HD2 := Lib.hid (HD1.out.trans g1)
      have BV1 := Lib.hid (isB_push9 BV.out hrb.1 hrb.2)
      clear g1 hr hrb x00 x01
      go_wp2_with (at_builtin; refine wpList_push_at rfl (.tmp 78) (.tmp 83) rfl rfl rfl (v := r) (OV1.out.ext (ext_alloc _ _)) ?hc ?hn ?hB ?hk)
      case hc => simp
      case hn => omega
      case hB => have := (OV1.out.base_of _ rfl).1; have := (OV1.out.base_of _ rfl).2; simp; omega
      case hk =>
        intro g2 c2 w3 ho3 hg3 hat he3
        have OV2 := Lib.hid ho3
        have OB2 := Lib.hid ((OB1.out.ext (ext_alloc _ _)).grownO hg3 (Ne.symm hvb))
        have HD3 := Lib.hid ((HD2.out.alloc _).grown hg3 (fun k hk => by rw [← HBE.out]; exact OV1.out.blk k hk))
        have hne2 : g2 ≠ gb := by
          rcases hat with h | h
          · have := (OB1.out.base_of _ rfl).2
            rw [h]; simp; omega
          · simp only [Value.ownBlock, Option.some.injEq] at h
            omega
        have x00 := HD3.out.cell (p := ⟨O, 0, none⟩) hgO (E0.out.cell C0.out)
        have x01 := HD3.out.cell (p := ⟨O, 1, none⟩) hgO (E0.out.cell C1.out)
        clear ho3 hg3 hat he3 OV1 OB1 HD2
        go_wp2_with (fail)
        refine Calls.mono (l_below S p w3 (HD3.out.src HS.out) (by omega)) ?_
        rintro e w4 ⟨r2, rfl, hr2, g4⟩
        have hrb2 := hr2.2 (by omega)
        have OV4 := Lib.hid (g4.own OV2.out hSB)
        have OB4 := Lib.hid (g4.own OB2.out hSB)
        have HD4 := Lib.hid (HD3.out.trans g4)
        have BB4 := Lib.hid (isB_push9 BB.out hrb2.1 hrb2.2)
        clear g4 hr2 hrb2 x00 x01 OV2 OB2 HD3
        go_wp2_with (at_builtin; refine wpList_push_at rfl (.tmp 85) (.tmp 90) rfl rfl rfl (v := r2) (OB4.out.ext (ext_alloc _ _)) ?hc2 ?hn2 ?hB2 ?hk2)
        case hc2 => simp
        case hn2 => omega
        case hB2 => have := (OB4.out.base_of _ rfl).1; have := (OB4.out.base_of _ rfl).2; simp; omega
        case hk2 =>
          intro g5 c5 w5 ho5 hg5 hat5 he5
          have OB5 := Lib.hid ho5
          have OV5 := Lib.hid ((OV4.out.ext (ext_alloc _ _)).grownO hg5 hne2)
          have HD5 := Lib.hid ((HD4.out.alloc _).grown hg5 (fun k hk => by rw [← HBE.out]; exact OB4.out.blk k hk))
          have hne5 : g2 ≠ g5 := by
            rcases hat5 with h | h
            · have := (OV4.out.base_of _ rfl).2
              rw [h]; simp; omega
            · simp only [Value.ownBlock, Option.some.injEq] at h
              omega
          clear ho5 hg5 hat5 he5
          go_wp2_with (fail)
          go_roundw
          case rel => exact ⟨k + 1, g2, c2, _, g5, c5, _, by omega, by go_num, rfl, rfl, OV5, OB5, BV1, BB4, hne5, HD5⟩
          case measure => simp [intOf]; omega
    · obtain rfl : k = d := by omega
      have hkd' : ¬ (k : Int) < (k : Int) := by omega
      go_wp2_with (fail)
      clear x00 x01 hvb hk
      have RV := Lib.hid (OV.out.mono (show S.g + 1 ≤ B by omega))
      have RB := Lib.hid (OB.out.mono (show S.g + 1 ≤ B by omega))
      have HGV := Lib.hid (show Good p k xv from isB_good9 OV.out.1 BV.out)
      have HGB := Lib.hid (show Good p k xb from isB_good9 OB.out.1 BB.out)
      have gg := HD1.out
      replace E0 := Lib.hid (gg.toExt E0.out hgB)
      replace HS := Lib.hid (gg.src HS.out)
      clear gg OV OB BV BB HD1
      replace E := Lib.hid (E.out.trans E0.out)
      replace HQ := Lib.hid (HQ.out.ext E0.out)
      replace HX := Lib.hid (HX.out.ext E0.out)
      replace RZ := Lib.hid (RZ.out.ext E0.out)
      replace C0 := Lib.hid (E0.out.cell (p := ⟨O, 0, none⟩) C0.out)
      replace C1 := Lib.hid (E0.out.cell (p := ⟨O, 1, none⟩) C1.out)
      clear E0 HS hgB hgO
      replace RV := Lib.hid (RV.out.mono (Nat.zero_le _))
      replace RB := Lib.hid (RB.out.mono (Nat.zero_le _))
      have HKD := HD
      have HGP := Lib.hid (show Good p (k + 2) (pointL p qs xv) from pointL_good (by omega) HD.out)
      have HGQ := Lib.hid (show Good p (k + 2) (pointL p qs (plusL p xv x 1 k)) from pointL_good (by omega) HD.out)
      have HGVP := Lib.hid (vec_good (N := N) (by omega) HGP.out)
      have HGB2 := Lib.hid (shL_good (p := p) (qs := qs) (x := xb) (by omega) (show N = 2 ^ (qs.length + 2) by rw [HD.out]; exact HN.out))
      have HPG := fun (u v : List Int) => Lib.hid (show Good p N (prodL p Q tkA u v) by rw [HNQ.out]; exact prod_good (by omega))
      have HGR := Lib.hid (sign_good (odd := revB) (by omega) HGZ.out)
      refine Calls.mono (c_ExtendSpace_ok p a k cap qs wr HSP.out h4 HQ.out) ?_
      rintro e v5 ⟨gE, rE, rfl, ho, gg⟩
      have RE := Lib.hid (ho.mono (Nat.zero_le _))
      clear ho
      replace E := Lib.hid (E.out.trans gg)
      replace HQ := Lib.hid (HQ.out.ext gg)
      replace HX := Lib.hid (HX.out.ext gg)
      replace RZ := Lib.hid (RZ.out.ext gg)
      replace RV := Lib.hid (RV.out.ext gg)
      replace RB := Lib.hid (RB.out.ext gg)
      replace C0 := Lib.hid (gg.cell (p := ⟨O, 0, none⟩) C0.out)
      replace C1 := Lib.hid (gg.cell (p := ⟨O, 1, none⟩) C1.out)
      clear gg
      rw [← HQE.out] at RE
      have y0 := (ext_alloc v5 (.cells #[.int .i64 p, .slice (some ⟨gE, 0, none⟩) (k + 2) rE] 26)).cell (p := ⟨O, 0, none⟩) C0.out
      have y1 := (ext_alloc v5 (.cells #[.int .i64 p, .slice (some ⟨gE, 0, none⟩) (k + 2) rE] 26)).cell (p := ⟨O, 1, none⟩) C1.out
      go_wp2_with (fail)
      clear y0 y1
      obtain ⟨O2, hO2⟩ : ∃ O2, O2 = v5.heap.size := ⟨_, rfl⟩
      obtain ⟨W2, hW2⟩ : ∃ W2, W2 = v5.alloc (.cells #[.int .i64 p, .slice (some ⟨gE, 0, none⟩) (k + 2) rE] 26) := ⟨_, rfl⟩
      have D0 := Lib.hid (show W2.cell? ⟨O2, 0, none⟩ = some (.int .i64 p) by rw [hW2, hO2]; simp)
      have D1 := Lib.hid (show W2.cell? ⟨O2, 1, none⟩ = some (.slice (some ⟨gE, 0, none⟩) (k + 2) rE) by rw [hW2, hO2]; simp)
      have gg : Ext v5 W2 := by rw [hW2]; exact ext_alloc _ _
      rw [← hO2, ← hW2]
      clear hO2 hW2
      replace E := Lib.hid (E.out.trans gg)
      replace HQ := Lib.hid (HQ.out.ext gg)
      replace HX := Lib.hid (HX.out.ext gg)
      replace RZ := Lib.hid (RZ.out.ext gg)
      replace RV := Lib.hid (RV.out.ext gg)
      replace RB := Lib.hid (RB.out.ext gg)
      replace RE := Lib.hid (RE.out.ext gg)
      replace C0 := Lib.hid (gg.cell (p := ⟨O, 0, none⟩) C0.out)
      replace C1 := Lib.hid (gg.cell (p := ⟨O, 1, none⟩) C1.out)
      clear gg
      refine Calls.mono (c_PointVector_ok p a k cap qs _ _ xv W2 HSP.out h4 HQ.out RV.out.rd HGV.out) ?_
      rintro e v6 ⟨gP, kP, rfl, ho, gg⟩
      have RP := Lib.hid (ho.mono (Nat.zero_le _))
      clear ho
      replace E := Lib.hid (E.out.trans gg)
      replace HQ := Lib.hid (HQ.out.ext gg)
      replace HX := Lib.hid (HX.out.ext gg)
      replace RZ := Lib.hid (RZ.out.ext gg)
      replace RV := Lib.hid (RV.out.ext gg)
      replace RB := Lib.hid (RB.out.ext gg)
      replace RE := Lib.hid (RE.out.ext gg)
      replace C0 := Lib.hid (gg.cell (p := ⟨O, 0, none⟩) C0.out)
      replace C1 := Lib.hid (gg.cell (p := ⟨O, 1, none⟩) C1.out)
      replace D0 := Lib.hid (gg.cell (p := ⟨O2, 0, none⟩) D0.out)
      replace D1 := Lib.hid (gg.cell (p := ⟨O2, 1, none⟩) D1.out)
      clear gg
      have x00 := C0.out
      have x01 := C1.out
      have x10 := D0.out
      have x11 := D1.out
      go_wp2_with (fail)
      clear x00 x01 x10 x11
      replace E := Lib.hid (E.out.trans (ext_drew v6))
      replace HQ := Lib.hid (HQ.out.ext (ext_drew v6))
      replace HX := Lib.hid (HX.out.ext (ext_drew v6))
      replace RZ := Lib.hid (RZ.out.ext (ext_drew v6))
      replace RV := Lib.hid (RV.out.ext (ext_drew v6))
      replace RB := Lib.hid (RB.out.ext (ext_drew v6))
      replace RE := Lib.hid (RE.out.ext (ext_drew v6))
      replace RP := Lib.hid (RP.out.ext (ext_drew v6))
      replace C0 := Lib.hid ((ext_drew v6).cell (p := ⟨O, 0, none⟩) C0.out)
      replace C1 := Lib.hid ((ext_drew v6).cell (p := ⟨O, 1, none⟩) C1.out)
      replace D0 := Lib.hid ((ext_drew v6).cell (p := ⟨O2, 0, none⟩) D0.out)
      replace D1 := Lib.hid ((ext_drew v6).cell (p := ⟨O2, 1, none⟩) D1.out)
      refine wp_region_lex [(5, .ownS 0 k (plusL p xv x 1 k)), (6, .tupI 0 (k + 2) (pointL p qs (plusL p xv x 1 k)))] (by kernel_rfl) (by kernel_rfl) ?_
      (refine LexW.pure (v := ?_) rfl rfl (fun w1 he => ?_) ?_; rotate_left; ( have x00 := (he.cell (p := ⟨O, 0, none⟩) C0.out); have x01 := (he.cell (p := ⟨O, 1, none⟩) C1.out); have x10 := (he.cell (p := ⟨O2, 0, none⟩) D0.out); have x11 := (he.cell (p := ⟨O2, 1, none⟩) D1.out); go_simp; rfl); simp only [Act.put, List.setIfInBounds_toArray, List.set_cons_zero, List.set_cons_succ])
      (refine LexW.pure (v := ?_) rfl rfl (fun w1 he => ?_) ?_; rotate_left; ( have x00 := (he.cell (p := ⟨O, 0, none⟩) C0.out); have x01 := (he.cell (p := ⟨O, 1, none⟩) C1.out); have x10 := (he.cell (p := ⟨O2, 0, none⟩) D0.out); have x11 := (he.cell (p := ⟨O2, 1, none⟩) D1.out); go_simp; rfl); simp only [Act.put, List.setIfInBounds_toArray, List.set_cons_zero, List.set_cons_succ])
      (refine LexW.pure (v := ?_) rfl rfl (fun w1 he => ?_) ?_; rotate_left; ( have x00 := (he.cell (p := ⟨O, 0, none⟩) C0.out); have x01 := (he.cell (p := ⟨O, 1, none⟩) C1.out); have x10 := (he.cell (p := ⟨O2, 0, none⟩) D0.out); have x11 := (he.cell (p := ⟨O2, 1, none⟩) D1.out); go_simp; rfl); simp only [Act.put, List.setIfInBounds_toArray, List.set_cons_zero, List.set_cons_succ])
      (refine LexW.pure (v := ?_) rfl rfl (fun w1 he => ?_) ?_; rotate_left; ( have x00 := (he.cell (p := ⟨O, 0, none⟩) C0.out); have x01 := (he.cell (p := ⟨O, 1, none⟩) C1.out); have x10 := (he.cell (p := ⟨O2, 0, none⟩) D0.out); have x11 := (he.cell (p := ⟨O2, 1, none⟩) D1.out); go_simp; rfl); simp only [Act.put, List.setIfInBounds_toArray, List.set_cons_zero, List.set_cons_succ])
      (refine LexW.pure (v := ?_) rfl rfl (fun w1 he => ?_) ?_; rotate_left; ( have x00 := (he.cell (p := ⟨O, 0, none⟩) C0.out); have x01 := (he.cell (p := ⟨O, 1, none⟩) C1.out); have x10 := (he.cell (p := ⟨O2, 0, none⟩) D0.out); have x11 := (he.cell (p := ⟨O2, 1, none⟩) D1.out); go_simp; rfl); simp only [Act.put, List.setIfInBounds_toArray, List.set_cons_zero, List.set_cons_succ])
      (refine LexW.callR (f := ?_) (args := ?_) rfl rfl (fun w1 => ?_) (fun w1 he hdep => ?_) (fun v hv => ?_); rotate_left 2; (go_simp; refine ⟨?_, ?_⟩ <;> rfl); ( refine (l_add9 p _ _ k _ _ xv x w1 (by omega) (by omega) (by omega) (RV.out.rd.ext he) (HX.out.ext he) HGV.out HGX.out).mono ?_; rintro e w2 ⟨g, rc, rfl, ho, g2⟩; exact ⟨_, rfl, g2, g, rc, rfl, ho.mono (Nat.zero_le _)⟩); simp only [Act.put, List.setIfInBounds_toArray, List.set_cons_zero, List.set_cons_succ])
      obtain ⟨_, g109, c109, rfl, _⟩ := hv
      (refine LexW.callR (f := ?_) (args := ?_) rfl rfl (fun w1 => ?_) (fun w1 he hdep => ?_) (fun v hv => ?_); rotate_left 2; (go_simp; refine ⟨?_, ?_⟩ <;> rfl); ( obtain ⟨_, _, q109, r109⟩ : (SPred.ownS 0 k (plusL p xv x 1 k)).holds (.slice (some ⟨g109, 0, none⟩) k c109) w1 := hdep (5, 109) (by decide +kernel); cases q109; refine (c_PointVector_ok p a k cap qs _ _ (plusL p xv x 1 k) w1 HSP.out h4 (HQ.out.ext he) r109.rd (plus_good (by omega))).mono ?_; rintro e w2 ⟨g, rc, rfl, ho, g2⟩; exact ⟨_, rfl, g2, g, rc, rfl, ho.mono (Nat.zero_le _)⟩); simp only [Act.put, List.setIfInBounds_toArray, List.set_cons_zero, List.set_cons_succ])
      obtain ⟨_, g110, c110, rfl, _⟩ := hv
      (refine LexW.pure (v := ?_) rfl rfl (fun w1 he => ?_) ?_; rotate_left; ( have x00 := (he.cell (p := ⟨O, 0, none⟩) C0.out); have x01 := (he.cell (p := ⟨O, 1, none⟩) C1.out); have x10 := (he.cell (p := ⟨O2, 0, none⟩) D0.out); have x11 := (he.cell (p := ⟨O2, 1, none⟩) D1.out); go_simp; rfl); simp only [Act.put, List.setIfInBounds_toArray, List.set_cons_zero, List.set_cons_succ])
      (refine LexW.pure (v := ?_) rfl rfl (fun w1 he => ?_) ?_; rotate_left; ( have x00 := (he.cell (p := ⟨O, 0, none⟩) C0.out); have x01 := (he.cell (p := ⟨O, 1, none⟩) C1.out); have x10 := (he.cell (p := ⟨O2, 0, none⟩) D0.out); have x11 := (he.cell (p := ⟨O2, 1, none⟩) D1.out); go_simp; rfl); simp only [Act.put, List.setIfInBounds_toArray, List.set_cons_zero, List.set_cons_succ])
      (refine LexW.pure (v := ?_) rfl rfl (fun w1 he => ?_) ?_; rotate_left; ( have x00 := (he.cell (p := ⟨O, 0, none⟩) C0.out); have x01 := (he.cell (p := ⟨O, 1, none⟩) C1.out); have x10 := (he.cell (p := ⟨O2, 0, none⟩) D0.out); have x11 := (he.cell (p := ⟨O2, 1, none⟩) D1.out); go_simp; rfl); simp only [Act.put, List.setIfInBounds_toArray, List.set_cons_zero, List.set_cons_succ])
      (refine LexW.pure (v := ?_) rfl rfl (fun w1 he => ?_) ?_; rotate_left; ( have x00 := (he.cell (p := ⟨O, 0, none⟩) C0.out); have x01 := (he.cell (p := ⟨O, 1, none⟩) C1.out); have x10 := (he.cell (p := ⟨O2, 0, none⟩) D0.out); have x11 := (he.cell (p := ⟨O2, 1, none⟩) D1.out); go_simp; rfl); simp only [Act.put, List.setIfInBounds_toArray, List.set_cons_zero, List.set_cons_succ])
      (refine LexW.pure (v := ?_) rfl rfl (fun w1 he => ?_) ?_; rotate_left; ( have x00 := (he.cell (p := ⟨O, 0, none⟩) C0.out); have x01 := (he.cell (p := ⟨O, 1, none⟩) C1.out); have x10 := (he.cell (p := ⟨O2, 0, none⟩) D0.out); have x11 := (he.cell (p := ⟨O2, 1, none⟩) D1.out); go_simp; rfl); simp only [Act.put, List.setIfInBounds_toArray, List.set_cons_zero, List.set_cons_succ])
      refine LexW.nil (fun w3 he hkn => ?_)
      obtain ⟨_, _, q110, r110⟩ : (SPred.tupI 0 (k + 2) (pointL p qs (plusL p xv x 1 k))).holds (.tuple #[.slice (some ⟨g110, 0, none⟩) (k + 2) c110, .int .i64 0]) w3 := hkn (6, _) (by simp)
      cases q110
      have R110 := Lib.hid r110
      have HE := Lib.hid he
      clear he hkn r110
      rename World => v7
      replace E := Lib.hid (E.out.trans HE.out)
      replace HQ := Lib.hid (HQ.out.ext HE.out)
      replace HX := Lib.hid (HX.out.ext HE.out)
      replace RZ := Lib.hid (RZ.out.ext HE.out)
      replace RV := Lib.hid (RV.out.ext HE.out)
      replace RB := Lib.hid (RB.out.ext HE.out)
      replace RE := Lib.hid (RE.out.ext HE.out)
      replace RP := Lib.hid (RP.out.ext HE.out)
      replace C0 := Lib.hid (HE.out.cell (p := ⟨O, 0, none⟩) C0.out)
      replace C1 := Lib.hid (HE.out.cell (p := ⟨O, 1, none⟩) C1.out)
      replace D0 := Lib.hid (HE.out.cell (p := ⟨O2, 0, none⟩) D0.out)
      replace D1 := Lib.hid (HE.out.cell (p := ⟨O2, 1, none⟩) D1.out)
      clear HE
      have x00 := C0.out
      have x01 := C1.out
      have x10 := D0.out
      have x11 := D1.out
      go_wp2_with (fail)
      clear x00 x01 x10 x11
      refine Calls.mono (c_VectorOf_ok p _ (k + 2) rE Q _ _ (pointL p qs xv) v7 HN.out HSE.out RE.out.rd RP.out.rd HGP.out) ?_
      rintro e v8 ⟨gX0, rfl, ho, gg⟩
      have RX0 := Lib.hid (ho.mono (Nat.zero_le _))
      clear ho
      replace E := Lib.hid (E.out.trans gg)
      replace HQ := Lib.hid (HQ.out.ext gg)
      replace HX := Lib.hid (HX.out.ext gg)
      replace RZ := Lib.hid (RZ.out.ext gg)
      replace RV := Lib.hid (RV.out.ext gg)
      replace RB := Lib.hid (RB.out.ext gg)
      replace RE := Lib.hid (RE.out.ext gg)
      replace RP := Lib.hid (RP.out.ext gg)
      replace R110 := Lib.hid (R110.out.ext gg)
      replace C0 := Lib.hid (gg.cell (p := ⟨O, 0, none⟩) C0.out)
      replace C1 := Lib.hid (gg.cell (p := ⟨O, 1, none⟩) C1.out)
      replace D0 := Lib.hid (gg.cell (p := ⟨O2, 0, none⟩) D0.out)
      replace D1 := Lib.hid (gg.cell (p := ⟨O2, 1, none⟩) D1.out)
      clear gg
      have x00 := C0.out
      have x01 := C1.out
      have x10 := D0.out
      have x11 := D1.out
      go_wp2_with (fail)
      clear x00 x01 x10 x11
      refine Calls.mono (c_VectorOf_ok p _ (k + 2) rE Q _ _ (pointL p qs (plusL p xv x 1 k)) v8 HN.out HSE.out RE.out.rd R110.out.rd HGQ.out) ?_
      rintro e v9 ⟨gY0, rfl, ho, gg⟩
      have RY0 := Lib.hid (ho.mono (Nat.zero_le _))
      clear ho
      replace E := Lib.hid (E.out.trans gg)
      replace HQ := Lib.hid (HQ.out.ext gg)
      replace HX := Lib.hid (HX.out.ext gg)
      replace RZ := Lib.hid (RZ.out.ext gg)
      replace RV := Lib.hid (RV.out.ext gg)
      replace RB := Lib.hid (RB.out.ext gg)
      replace RE := Lib.hid (RE.out.ext gg)
      replace RP := Lib.hid (RP.out.ext gg)
      replace R110 := Lib.hid (R110.out.ext gg)
      replace RX0 := Lib.hid (RX0.out.ext gg)
      replace C0 := Lib.hid (gg.cell (p := ⟨O, 0, none⟩) C0.out)
      replace C1 := Lib.hid (gg.cell (p := ⟨O, 1, none⟩) C1.out)
      replace D0 := Lib.hid (gg.cell (p := ⟨O2, 0, none⟩) D0.out)
      replace D1 := Lib.hid (gg.cell (p := ⟨O2, 1, none⟩) D1.out)
      clear gg
      have x00 := C0.out
      have x01 := C1.out
      have x10 := D0.out
      have x11 := D1.out
      go_wp2_with (fail)
      clear x00 x01 x10 x11
      refine Calls.mono (c_ReverseOf_ok p _ (k + 2) rE Q _ _ (shL p qs x) v9 HN.out HSE.out RE.out.rd RZ.out.rd HGZ.out) ?_
      rintro e v10 ⟨gK, kK, rfl, ho, gg⟩
      have RK := Lib.hid (ho.mono (Nat.zero_le _))
      clear ho
      replace E := Lib.hid (E.out.trans gg)
      replace HQ := Lib.hid (HQ.out.ext gg)
      replace HX := Lib.hid (HX.out.ext gg)
      replace RZ := Lib.hid (RZ.out.ext gg)
      replace RV := Lib.hid (RV.out.ext gg)
      replace RB := Lib.hid (RB.out.ext gg)
      replace RE := Lib.hid (RE.out.ext gg)
      replace RP := Lib.hid (RP.out.ext gg)
      replace R110 := Lib.hid (R110.out.ext gg)
      replace RX0 := Lib.hid (RX0.out.ext gg)
      replace RY0 := Lib.hid (RY0.out.ext gg)
      replace C0 := Lib.hid (gg.cell (p := ⟨O, 0, none⟩) C0.out)
      replace C1 := Lib.hid (gg.cell (p := ⟨O, 1, none⟩) C1.out)
      replace D0 := Lib.hid (gg.cell (p := ⟨O2, 0, none⟩) D0.out)
      replace D1 := Lib.hid (gg.cell (p := ⟨O2, 1, none⟩) D1.out)
      clear gg
      have x00 := C0.out
      have x01 := C1.out
      have x10 := D0.out
      have x11 := D1.out
      go_wp2_with (fail)
      clear x00 x01 x10 x11
      refine Calls.mono (c_GeometricProduct_ok p _ (k + 2) rE Q _ N _ (shL p qs x) _ N _ (vecL N (pointL p qs xv)) v10 (by omega) (by omega) (by omega) RE.out.rd RZ.out.rd RX0.out.rd (codeM_two0 HSE.out (by rw [← HNQ.out]; exact HGZ.out) (by rw [← HNQ.out]; exact HGVP.out))) ?_
      rintro e v11 ⟨rF, kF, rfl, ho, gg⟩
      obtain ⟨gF, rfl⟩ := ho.addr (by omega)
      have RF := Lib.hid (ho.mono (Nat.zero_le _))
      clear ho
      replace E := Lib.hid (E.out.trans gg)
      replace HQ := Lib.hid (HQ.out.ext gg)
      replace HX := Lib.hid (HX.out.ext gg)
      replace RZ := Lib.hid (RZ.out.ext gg)
      replace RV := Lib.hid (RV.out.ext gg)
      replace RB := Lib.hid (RB.out.ext gg)
      replace RE := Lib.hid (RE.out.ext gg)
      replace RP := Lib.hid (RP.out.ext gg)
      replace R110 := Lib.hid (R110.out.ext gg)
      replace RX0 := Lib.hid (RX0.out.ext gg)
      replace RY0 := Lib.hid (RY0.out.ext gg)
      replace RK := Lib.hid (RK.out.ext gg)
      replace C0 := Lib.hid (gg.cell (p := ⟨O, 0, none⟩) C0.out)
      replace C1 := Lib.hid (gg.cell (p := ⟨O, 1, none⟩) C1.out)
      replace D0 := Lib.hid (gg.cell (p := ⟨O2, 0, none⟩) D0.out)
      replace D1 := Lib.hid (gg.cell (p := ⟨O2, 1, none⟩) D1.out)
      clear gg
      have x00 := C0.out
      have x01 := C1.out
      have x10 := D0.out
      have x11 := D1.out
      go_wp2_with (fail)
      clear x00 x01 x10 x11
      refine Calls.mono (c_GeometricProduct_ok p _ (k + 2) rE Q _ N _ (prodL p Q tkA (shL p qs x) (vecL N (pointL p qs xv))) _ N _ (signL p revB (shL p qs x) N) v11 (by omega) (by omega) (by omega) RE.out.rd RF.out.rd RK.out.rd (codeM_two0 HSE.out (by rw [← HNQ.out]; exact (HPG _ _).out) (by rw [← HNQ.out]; exact HGR.out))) ?_
      rintro e v12 ⟨rG, kG, rfl, ho, gg⟩
      obtain ⟨gG, rfl⟩ := ho.addr (by omega)
      have RG := Lib.hid (ho.mono (Nat.zero_le _))
      clear ho
      replace E := Lib.hid (E.out.trans gg)
      replace HQ := Lib.hid (HQ.out.ext gg)
      replace HX := Lib.hid (HX.out.ext gg)
      replace RZ := Lib.hid (RZ.out.ext gg)
      replace RV := Lib.hid (RV.out.ext gg)
      replace RB := Lib.hid (RB.out.ext gg)
      replace RE := Lib.hid (RE.out.ext gg)
      replace RP := Lib.hid (RP.out.ext gg)
      replace R110 := Lib.hid (R110.out.ext gg)
      replace RX0 := Lib.hid (RX0.out.ext gg)
      replace RY0 := Lib.hid (RY0.out.ext gg)
      replace RK := Lib.hid (RK.out.ext gg)
      replace RF := Lib.hid (RF.out.ext gg)
      replace C0 := Lib.hid (gg.cell (p := ⟨O, 0, none⟩) C0.out)
      replace C1 := Lib.hid (gg.cell (p := ⟨O, 1, none⟩) C1.out)
      replace D0 := Lib.hid (gg.cell (p := ⟨O2, 0, none⟩) D0.out)
      replace D1 := Lib.hid (gg.cell (p := ⟨O2, 1, none⟩) D1.out)
      clear gg
      have x00 := C0.out
      have x01 := C1.out
      have x10 := D0.out
      have x11 := D1.out
      go_wp2_with (fail)
      clear x00 x01 x10 x11
      refine Calls.mono (c_ShiftVersor_okN p a k cap qs _ _ xb v12 HN.out HSP.out h4 HQ.out RB.out.rd HGB.out) ?_
      rintro e v13 ⟨gU, kU, rfl, ho, gg⟩
      have RU := Lib.hid (ho.mono (Nat.zero_le _))
      clear ho
      replace E := Lib.hid (E.out.trans gg)
      replace HQ := Lib.hid (HQ.out.ext gg)
      replace HX := Lib.hid (HX.out.ext gg)
      replace RZ := Lib.hid (RZ.out.ext gg)
      replace RV := Lib.hid (RV.out.ext gg)
      replace RB := Lib.hid (RB.out.ext gg)
      replace RE := Lib.hid (RE.out.ext gg)
      replace RP := Lib.hid (RP.out.ext gg)
      replace R110 := Lib.hid (R110.out.ext gg)
      replace RX0 := Lib.hid (RX0.out.ext gg)
      replace RY0 := Lib.hid (RY0.out.ext gg)
      replace RK := Lib.hid (RK.out.ext gg)
      replace RF := Lib.hid (RF.out.ext gg)
      replace RG := Lib.hid (RG.out.ext gg)
      replace C0 := Lib.hid (gg.cell (p := ⟨O, 0, none⟩) C0.out)
      replace C1 := Lib.hid (gg.cell (p := ⟨O, 1, none⟩) C1.out)
      replace D0 := Lib.hid (gg.cell (p := ⟨O2, 0, none⟩) D0.out)
      replace D1 := Lib.hid (gg.cell (p := ⟨O2, 1, none⟩) D1.out)
      clear gg
      have x00 := C0.out
      have x01 := C1.out
      have x10 := D0.out
      have x11 := D1.out
      go_wp2_with (fail)
      clear x00 x01 x10 x11
      refine Calls.mono (c_GeometricProduct_ok p _ (k + 2) rE Q _ N _ (shL p qs x) _ N _ (shL p qs xb) v13 (by omega) (by omega) (by omega) RE.out.rd RZ.out.rd RU.out.rd (codeM_two0 HSE.out (by rw [← HNQ.out]; exact HGZ.out) (by rw [← HNQ.out]; exact HGB2.out))) ?_
      rintro e v14 ⟨rH, kH, rfl, ho, gg⟩
      obtain ⟨gH, rfl⟩ := ho.addr (by omega)
      have RH := Lib.hid (ho.mono (Nat.zero_le _))
      clear ho
      replace E := Lib.hid (E.out.trans gg)
      replace HQ := Lib.hid (HQ.out.ext gg)
      replace HX := Lib.hid (HX.out.ext gg)
      replace RZ := Lib.hid (RZ.out.ext gg)
      replace RV := Lib.hid (RV.out.ext gg)
      replace RB := Lib.hid (RB.out.ext gg)
      replace RE := Lib.hid (RE.out.ext gg)
      replace RP := Lib.hid (RP.out.ext gg)
      replace R110 := Lib.hid (R110.out.ext gg)
      replace RX0 := Lib.hid (RX0.out.ext gg)
      replace RY0 := Lib.hid (RY0.out.ext gg)
      replace RK := Lib.hid (RK.out.ext gg)
      replace RF := Lib.hid (RF.out.ext gg)
      replace RG := Lib.hid (RG.out.ext gg)
      replace RU := Lib.hid (RU.out.ext gg)
      replace C0 := Lib.hid (gg.cell (p := ⟨O, 0, none⟩) C0.out)
      replace C1 := Lib.hid (gg.cell (p := ⟨O, 1, none⟩) C1.out)
      replace D0 := Lib.hid (gg.cell (p := ⟨O2, 0, none⟩) D0.out)
      replace D1 := Lib.hid (gg.cell (p := ⟨O2, 1, none⟩) D1.out)
      clear gg
      have x00 := C0.out
      have x01 := C1.out
      have x10 := D0.out
      have x11 := D1.out
      go_wp2_with (fail)
      clear x00 x01 x10 x11
      replace E := Lib.hid (E.out.trans (ext_drew v14))
      replace HQ := Lib.hid (HQ.out.ext (ext_drew v14))
      replace HX := Lib.hid (HX.out.ext (ext_drew v14))
      replace RZ := Lib.hid (RZ.out.ext (ext_drew v14))
      replace RV := Lib.hid (RV.out.ext (ext_drew v14))
      replace RB := Lib.hid (RB.out.ext (ext_drew v14))
      replace RE := Lib.hid (RE.out.ext (ext_drew v14))
      replace RP := Lib.hid (RP.out.ext (ext_drew v14))
      replace R110 := Lib.hid (R110.out.ext (ext_drew v14))
      replace RX0 := Lib.hid (RX0.out.ext (ext_drew v14))
      replace RY0 := Lib.hid (RY0.out.ext (ext_drew v14))
      replace RK := Lib.hid (RK.out.ext (ext_drew v14))
      replace RF := Lib.hid (RF.out.ext (ext_drew v14))
      replace RG := Lib.hid (RG.out.ext (ext_drew v14))
      replace RU := Lib.hid (RU.out.ext (ext_drew v14))
      replace RH := Lib.hid (RH.out.ext (ext_drew v14))
      replace C0 := Lib.hid ((ext_drew v14).cell (p := ⟨O, 0, none⟩) C0.out)
      replace C1 := Lib.hid ((ext_drew v14).cell (p := ⟨O, 1, none⟩) C1.out)
      replace D0 := Lib.hid ((ext_drew v14).cell (p := ⟨O2, 0, none⟩) D0.out)
      replace D1 := Lib.hid ((ext_drew v14).cell (p := ⟨O2, 1, none⟩) D1.out)
      refine wp_region_lex [(5, .ownS 0 k (plusL p x xb 1 k)), (6, .tupI 0 N (shL p qs (plusL p x xb 1 k)))] (by kernel_rfl) (by kernel_rfl) ?_
      (refine LexW.pure (v := ?_) rfl rfl (fun w1 he => ?_) ?_; rotate_left; ( have x00 := (he.cell (p := ⟨O, 0, none⟩) C0.out); have x01 := (he.cell (p := ⟨O, 1, none⟩) C1.out); have x10 := (he.cell (p := ⟨O2, 0, none⟩) D0.out); have x11 := (he.cell (p := ⟨O2, 1, none⟩) D1.out); go_simp; rfl); simp only [Act.put, List.setIfInBounds_toArray, List.set_cons_zero, List.set_cons_succ])
      (refine LexW.pure (v := ?_) rfl rfl (fun w1 he => ?_) ?_; rotate_left; ( have x00 := (he.cell (p := ⟨O, 0, none⟩) C0.out); have x01 := (he.cell (p := ⟨O, 1, none⟩) C1.out); have x10 := (he.cell (p := ⟨O2, 0, none⟩) D0.out); have x11 := (he.cell (p := ⟨O2, 1, none⟩) D1.out); go_simp; rfl); simp only [Act.put, List.setIfInBounds_toArray, List.set_cons_zero, List.set_cons_succ])
      (refine LexW.pure (v := ?_) rfl rfl (fun w1 he => ?_) ?_; rotate_left; ( have x00 := (he.cell (p := ⟨O, 0, none⟩) C0.out); have x01 := (he.cell (p := ⟨O, 1, none⟩) C1.out); have x10 := (he.cell (p := ⟨O2, 0, none⟩) D0.out); have x11 := (he.cell (p := ⟨O2, 1, none⟩) D1.out); go_simp; rfl); simp only [Act.put, List.setIfInBounds_toArray, List.set_cons_zero, List.set_cons_succ])
      (refine LexW.pure (v := ?_) rfl rfl (fun w1 he => ?_) ?_; rotate_left; ( have x00 := (he.cell (p := ⟨O, 0, none⟩) C0.out); have x01 := (he.cell (p := ⟨O, 1, none⟩) C1.out); have x10 := (he.cell (p := ⟨O2, 0, none⟩) D0.out); have x11 := (he.cell (p := ⟨O2, 1, none⟩) D1.out); go_simp; rfl); simp only [Act.put, List.setIfInBounds_toArray, List.set_cons_zero, List.set_cons_succ])
      (refine LexW.pure (v := ?_) rfl rfl (fun w1 he => ?_) ?_; rotate_left; ( have x00 := (he.cell (p := ⟨O, 0, none⟩) C0.out); have x01 := (he.cell (p := ⟨O, 1, none⟩) C1.out); have x10 := (he.cell (p := ⟨O2, 0, none⟩) D0.out); have x11 := (he.cell (p := ⟨O2, 1, none⟩) D1.out); go_simp; rfl); simp only [Act.put, List.setIfInBounds_toArray, List.set_cons_zero, List.set_cons_succ])
      (refine LexW.callR (f := ?_) (args := ?_) rfl rfl (fun w1 => ?_) (fun w1 he hdep => ?_) (fun v hv => ?_); rotate_left 2; (go_simp; refine ⟨?_, ?_⟩ <;> rfl); ( refine (l_add9 p _ _ k _ _ x xb w1 (by omega) (by omega) (by omega) (HX.out.ext he) (RB.out.rd.ext he) HGX.out HGB.out).mono ?_; rintro e w2 ⟨g, rc, rfl, ho, g2⟩; exact ⟨_, rfl, g2, g, rc, rfl, ho.mono (Nat.zero_le _)⟩); simp only [Act.put, List.setIfInBounds_toArray, List.set_cons_zero, List.set_cons_succ])
      obtain ⟨_, g164, c164, rfl, _⟩ := hv
      (refine LexW.callR (f := ?_) (args := ?_) rfl rfl (fun w1 => ?_) (fun w1 he hdep => ?_) (fun v hv => ?_); rotate_left 2; (go_simp; refine ⟨?_, ?_⟩ <;> rfl); ( obtain ⟨_, _, q164, r164⟩ : (SPred.ownS 0 k (plusL p x xb 1 k)).holds (.slice (some ⟨g164, 0, none⟩) k c164) w1 := hdep (5, 164) (by decide +kernel); cases q164; refine (c_ShiftVersor_okN p a k cap qs _ _ (plusL p x xb 1 k) w1 HN.out HSP.out h4 (HQ.out.ext he) r164.rd (plus_good (by omega))).mono ?_; rintro e w2 ⟨g, rc, rfl, ho, g2⟩; exact ⟨_, rfl, g2, g, rc, rfl, ho.mono (Nat.zero_le _)⟩); simp only [Act.put, List.setIfInBounds_toArray, List.set_cons_zero, List.set_cons_succ])
      obtain ⟨_, g165, c165, rfl, _⟩ := hv
      (refine LexW.pure (v := ?_) rfl rfl (fun w1 he => ?_) ?_; rotate_left; ( have x00 := (he.cell (p := ⟨O, 0, none⟩) C0.out); have x01 := (he.cell (p := ⟨O, 1, none⟩) C1.out); have x10 := (he.cell (p := ⟨O2, 0, none⟩) D0.out); have x11 := (he.cell (p := ⟨O2, 1, none⟩) D1.out); go_simp; rfl); simp only [Act.put, List.setIfInBounds_toArray, List.set_cons_zero, List.set_cons_succ])
      (refine LexW.pure (v := ?_) rfl rfl (fun w1 he => ?_) ?_; rotate_left; ( have x00 := (he.cell (p := ⟨O, 0, none⟩) C0.out); have x01 := (he.cell (p := ⟨O, 1, none⟩) C1.out); have x10 := (he.cell (p := ⟨O2, 0, none⟩) D0.out); have x11 := (he.cell (p := ⟨O2, 1, none⟩) D1.out); go_simp; rfl); simp only [Act.put, List.setIfInBounds_toArray, List.set_cons_zero, List.set_cons_succ])
      (refine LexW.pure (v := ?_) rfl rfl (fun w1 he => ?_) ?_; rotate_left; ( have x00 := (he.cell (p := ⟨O, 0, none⟩) C0.out); have x01 := (he.cell (p := ⟨O, 1, none⟩) C1.out); have x10 := (he.cell (p := ⟨O2, 0, none⟩) D0.out); have x11 := (he.cell (p := ⟨O2, 1, none⟩) D1.out); go_simp; rfl); simp only [Act.put, List.setIfInBounds_toArray, List.set_cons_zero, List.set_cons_succ])
      (refine LexW.pure (v := ?_) rfl rfl (fun w1 he => ?_) ?_; rotate_left; ( have x00 := (he.cell (p := ⟨O, 0, none⟩) C0.out); have x01 := (he.cell (p := ⟨O, 1, none⟩) C1.out); have x10 := (he.cell (p := ⟨O2, 0, none⟩) D0.out); have x11 := (he.cell (p := ⟨O2, 1, none⟩) D1.out); go_simp; rfl); simp only [Act.put, List.setIfInBounds_toArray, List.set_cons_zero, List.set_cons_succ])
      (refine LexW.pure (v := ?_) rfl rfl (fun w1 he => ?_) ?_; rotate_left; ( have x00 := (he.cell (p := ⟨O, 0, none⟩) C0.out); have x01 := (he.cell (p := ⟨O, 1, none⟩) C1.out); have x10 := (he.cell (p := ⟨O2, 0, none⟩) D0.out); have x11 := (he.cell (p := ⟨O2, 1, none⟩) D1.out); go_simp; rfl); simp only [Act.put, List.setIfInBounds_toArray, List.set_cons_zero, List.set_cons_succ])
      refine LexW.nil (fun w3 he hkn => ?_)
      obtain ⟨_, _, q165, r165⟩ : (SPred.tupI 0 N (shL p qs (plusL p x xb 1 k))).holds (.tuple #[.slice (some ⟨g165, 0, none⟩) N c165, .int .i64 0]) w3 := hkn (6, _) (by simp)
      cases q165
      have R165 := Lib.hid r165
      have HE := Lib.hid he
      clear he hkn r165
      rename World => v15
      replace E := Lib.hid (E.out.trans HE.out)
      replace HQ := Lib.hid (HQ.out.ext HE.out)
      replace HX := Lib.hid (HX.out.ext HE.out)
      replace RZ := Lib.hid (RZ.out.ext HE.out)
      replace RV := Lib.hid (RV.out.ext HE.out)
      replace RB := Lib.hid (RB.out.ext HE.out)
      replace RE := Lib.hid (RE.out.ext HE.out)
      replace RP := Lib.hid (RP.out.ext HE.out)
      replace R110 := Lib.hid (R110.out.ext HE.out)
      replace RX0 := Lib.hid (RX0.out.ext HE.out)
      replace RY0 := Lib.hid (RY0.out.ext HE.out)
      replace RK := Lib.hid (RK.out.ext HE.out)
      replace RF := Lib.hid (RF.out.ext HE.out)
      replace RG := Lib.hid (RG.out.ext HE.out)
      replace RU := Lib.hid (RU.out.ext HE.out)
      replace RH := Lib.hid (RH.out.ext HE.out)
      replace C0 := Lib.hid (HE.out.cell (p := ⟨O, 0, none⟩) C0.out)
      replace C1 := Lib.hid (HE.out.cell (p := ⟨O, 1, none⟩) C1.out)
      replace D0 := Lib.hid (HE.out.cell (p := ⟨O2, 0, none⟩) D0.out)
      replace D1 := Lib.hid (HE.out.cell (p := ⟨O2, 1, none⟩) D1.out)
      clear HE
      have HV1 := Lib.hid (show prodL p Q tkA (prodL p Q tkA (shL p qs x) (vecL N (pointL p qs xv))) (signL p revB (shL p qs x) N) = vecL N (pointL p qs (plusL p xv x 1 k)) by
        have := shift_point (p := p) (qs := qs) (Q := Q) HPR.out h4 HQE.out (v := xv) (x := x) (by rw [HD.out]; exact HGV.out) (by rw [HD.out]; exact HGX.out)
        rw [← HNQ.out, HD.out] at this
        exact this)
      have HV2 := Lib.hid (show prodL p Q tkA (shL p qs x) (shL p qs xb) = shL p qs (plusL p x xb 1 k) by
        have := shift_sum (p := p) (qs := qs) (Q := Q) HPR.out h4 HQE.out (x := x) (y := xb) (by rw [HD.out]; exact HGX.out) (by rw [HD.out]; exact HGB.out)
        rw [HD.out] at this
        exact this)
      have x00 := C0.out
      have x01 := C1.out
      have x10 := D0.out
      have x11 := D1.out
      go_wp2_with (fail)
      clear x00 x01 x10 x11
      have H := l_like (some ⟨gG, 0, none⟩) (some ⟨gY0, 0, none⟩) N N kG N _ _ v15 (by omega) (by omega) RG.out.rd RY0.out.rd
      rw [HV1.out, eqB_self] at H
      refine Calls.mono H ?_
      clear H
      rintro e v16 ⟨rfl, gg⟩
      replace E := Lib.hid (E.out.trans gg)
      replace HQ := Lib.hid (HQ.out.ext gg)
      replace HX := Lib.hid (HX.out.ext gg)
      replace RZ := Lib.hid (RZ.out.ext gg)
      replace RV := Lib.hid (RV.out.ext gg)
      replace RB := Lib.hid (RB.out.ext gg)
      replace RE := Lib.hid (RE.out.ext gg)
      replace RP := Lib.hid (RP.out.ext gg)
      replace R110 := Lib.hid (R110.out.ext gg)
      replace RX0 := Lib.hid (RX0.out.ext gg)
      replace RY0 := Lib.hid (RY0.out.ext gg)
      replace RK := Lib.hid (RK.out.ext gg)
      replace RF := Lib.hid (RF.out.ext gg)
      replace RG := Lib.hid (RG.out.ext gg)
      replace RU := Lib.hid (RU.out.ext gg)
      replace RH := Lib.hid (RH.out.ext gg)
      replace R165 := Lib.hid (R165.out.ext gg)
      replace C0 := Lib.hid (gg.cell (p := ⟨O, 0, none⟩) C0.out)
      replace C1 := Lib.hid (gg.cell (p := ⟨O, 1, none⟩) C1.out)
      replace D0 := Lib.hid (gg.cell (p := ⟨O2, 0, none⟩) D0.out)
      replace D1 := Lib.hid (gg.cell (p := ⟨O2, 1, none⟩) D1.out)
      clear gg
      have x00 := C0.out
      have x01 := C1.out
      have x10 := D0.out
      have x11 := D1.out
      go_wp2_with (fail)
      clear x00 x01 x10 x11
      have H := l_like (some ⟨gH, 0, none⟩) (some ⟨g165, 0, none⟩) N N kH c165 _ _ v16 (by omega) (by omega) RH.out.rd R165.out.rd
      rw [HV2.out, eqB_self] at H
      refine Calls.mono H ?_
      clear H
      rintro e v17 ⟨rfl, gg⟩
      replace E := Lib.hid (E.out.trans gg)
      replace HQ := Lib.hid (HQ.out.ext gg)
      replace HX := Lib.hid (HX.out.ext gg)
      replace RZ := Lib.hid (RZ.out.ext gg)
      replace RV := Lib.hid (RV.out.ext gg)
      replace RB := Lib.hid (RB.out.ext gg)
      replace RE := Lib.hid (RE.out.ext gg)
      replace RP := Lib.hid (RP.out.ext gg)
      replace R110 := Lib.hid (R110.out.ext gg)
      replace RX0 := Lib.hid (RX0.out.ext gg)
      replace RY0 := Lib.hid (RY0.out.ext gg)
      replace RK := Lib.hid (RK.out.ext gg)
      replace RF := Lib.hid (RF.out.ext gg)
      replace RG := Lib.hid (RG.out.ext gg)
      replace RU := Lib.hid (RU.out.ext gg)
      replace RH := Lib.hid (RH.out.ext gg)
      replace R165 := Lib.hid (R165.out.ext gg)
      replace C0 := Lib.hid (gg.cell (p := ⟨O, 0, none⟩) C0.out)
      replace C1 := Lib.hid (gg.cell (p := ⟨O, 1, none⟩) C1.out)
      replace D0 := Lib.hid (gg.cell (p := ⟨O2, 0, none⟩) D0.out)
      replace D1 := Lib.hid (gg.cell (p := ⟨O2, 1, none⟩) D1.out)
      clear gg
      go_wp2_with (fail)
      go_ret
      exact ⟨rfl, E.out⟩
end Go.Proofs.Ytcocbainookkcaa
