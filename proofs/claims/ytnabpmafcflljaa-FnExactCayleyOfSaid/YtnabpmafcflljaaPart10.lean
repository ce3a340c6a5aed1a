/-
  Contracts and plain laws, part 10: InvS, CayS, Frame.
  No condition.
-/
import Derived.Test.YtnabpmafcflljaaPart6
import Derived.Test.YtnabpmafcflljaaPart9
import Derived.Test.YtnabpmafcflljaaPart5
import Derived.Test.YtnabpmafcflljaaPart7
/-
  Contract: the inverse of a matrix in the reference.
  No condition.
-/
namespace Go.Proofs.Ytnabpmafcflljaa
set_option maxRecDepth 100000
open Go.RowKit

set_option maxHeartbeats 16000000 in
set_option maxRecDepth 100000 in
theorem s_invm (p : Int) (a : Option Addr) (n cap : Nat) (A : List (List Int)) (w : World) (hpr : primeB p = true) (hn0 : 0 < n) (hn : n ≤ 1000) (hx : RdR w a n A) (hg : RowsG p n A) (hd : detL p n A ≠ 0) :
    Calls Try.prog 94 #[.int .i64 p, .slice a n cap] w fun e w' => ∃ g rc, e = .returned (.slice (some ⟨g, 0, none⟩) n rc) ∧ OwnR w.heap.size w' (some ⟨g, 0, none⟩) n rc (invM p n A) ∧ Ext w w' := by
  have hpb := prime_bd hpr
  have HX := Lib.hid hx
  have HG := Lib.hid hg
  have HPR := Lib.hid hpr
  have HLN := Lib.hid hx.1
  have HWG := Lib.hid (wideM_good (p := p) (by omega) hg hx.1)
  have HRL := Lib.hid (invW_yes hpr hg hx.1 hd hn0).1
  have HIG := Lib.hid (invW_good hpr hg hx.1)
  clear hx hg hpr hd
  go_enter Try.func94, Try.ntmps94
  go_wp2_with (fail)
  refine Calls.mono (s_unit n _ (by omega)) ?_
  rintro e w1 ⟨gu, cu, rfl, hu, x1⟩
  have HU := Lib.hid hu
  have X1 := Lib.hid (Ext.trans (ext_alloc w _) x1)
  clear hu x1
  go_wp2_with (fail)
  go_loopw [5, 7] (fun v i wr => ∃ (k g rc : Nat), k ≤ n ∧ i = .int .i64 k ∧ v = .slice (some ⟨g, 0, none⟩) k rc ∧ Hid (OwnW w1.heap.size wr (some ⟨g, 0, none⟩) k rc (wideM A n k)) ∧ Hid (Ext w1 wr)) (fun _ i _ => n - (intOf i).toNat)
  case atStart => exact ⟨0, _, _, Nat.zero_le _, rfl, rfl, Lib.hid (OwnW.start _ _ _), Lib.hid (Ext.refl _)⟩
  case round =>
    obtain ⟨k, g, rc, hk, rfl, rfl, HOwn, HExt⟩ := hrel
    by_cases hlt : k < n
    · obtain ⟨bm, om, ai, ci, rfl, hc, hri⟩ := HX.out.2 k hlt
      rw [(HG.out k (by rw [HLN.out]; exact hlt)).1] at hc hri
      obtain ⟨bi, oi, rfl, _⟩ := hri.2 0 hn0
      obtain ⟨au, cku, hcu, hou⟩ := HU.out.at hlt
      rw [unitL_nth hlt, bladeL_len] at hcu hou
      obtain ⟨bu, ou, rfl, _⟩ := hou.rd.2 0 hn0
      have HCc := Lib.hid (((X1.out.trans HExt.out).trans (ext_drew wr)).cell hc)
      have HRi := Lib.hid (hri.ext ((X1.out.trans HExt.out).trans (ext_drew wr)))
      have HCu := Lib.hid ((HExt.out.trans (ext_drew wr)).cell hcu)
      have HRU := Lib.hid (hou.rd.ext (HExt.out.trans (ext_drew wr)))
      clear hc hri hcu hou
      go_wp2_with (fail)
      refine wp_region_lex_tail1 10 [(5, .ownS wr.drew.heap.size n (nthR A k))] (.slice (some ⟨g, 0, none⟩) k rc) (by kernel_rfl) (by kernel_rfl) rfl rfl (fun w1 => by go_simp) ?_
      simp only [List.take, List.drop]
      simp only [Act.put, List.setIfInBounds_toArray, List.set_cons_zero, List.set_cons_succ]
      (refine LexW.pure (v := ?_) rfl rfl (fun w1 he => ?_) ?_; rotate_left; ( go_simp; rfl); simp only [Act.put, List.setIfInBounds_toArray, List.set_cons_zero, List.set_cons_succ])
      (refine LexW.pure (v := ?_) rfl rfl (fun w1 he => ?_) ?_; rotate_left; ( go_simp; rfl); simp only [Act.put, List.setIfInBounds_toArray, List.set_cons_zero, List.set_cons_succ])
      (refine LexW.pure (v := ?_) rfl rfl (fun w1 he => ?_) ?_; rotate_left; ( have e1 := he.cell HCc.out; go_simp; rfl); simp only [Act.put, List.setIfInBounds_toArray, List.set_cons_zero, List.set_cons_succ])
      (refine LexW.pure (v := ?_) rfl rfl (fun w1 he => ?_) ?_; rotate_left; ( have e1 := he.cell HCc.out; go_simp; rfl); simp only [Act.put, List.setIfInBounds_toArray, List.set_cons_zero, List.set_cons_succ])
      (refine LexW.callR (f := ?_) (args := ?_) rfl rfl (fun w1 => ?_) (fun w1 he hdep => ?_) (fun v hv => ?_); rotate_left 2; (go_simp; refine ⟨?_, ?_⟩ <;> rfl); ( refine (s_own bi oi n ci (nthR A k) w1 hn0 (by omega) (HRi.out.ext he)).mono ?_; rintro e w2 ⟨g2, rc2, rfl, ho, x2⟩; exact ⟨_, rfl, x2, g2, rc2, rfl, ho.mono he.size⟩); simp only [Act.put, List.setIfInBounds_toArray, List.set_cons_zero, List.set_cons_succ])
      obtain ⟨_, g25, c25, rfl, _⟩ := hv
      (refine LexW.pure (v := ?_) rfl rfl (fun w1 he => ?_) ?_; rotate_left; ( go_simp; rfl); simp only [Act.put, List.setIfInBounds_toArray, List.set_cons_zero, List.set_cons_succ])
      (refine LexW.pure (v := ?_) rfl rfl (fun w1 he => ?_) ?_; rotate_left; ( go_simp; rfl); simp only [Act.put, List.setIfInBounds_toArray, List.set_cons_zero, List.set_cons_succ])
      (refine LexW.pure (v := ?_) rfl rfl (fun w1 he => ?_) ?_; rotate_left; ( have e1 := he.cell HCu.out; go_simp; rfl); simp only [Act.put, List.setIfInBounds_toArray, List.set_cons_zero, List.set_cons_succ])
      (refine LexW.pure (v := ?_) rfl rfl (fun w1 he => ?_) ?_; rotate_left; ( have e1 := he.cell HCu.out; go_simp; rfl); simp only [Act.put, List.setIfInBounds_toArray, List.set_cons_zero, List.set_cons_succ])
      refine LexW.nil (fun w3 he hkn => ?_)
      obtain ⟨_, _, q25, r25⟩ : (SPred.ownS wr.drew.heap.size n (nthR A k)).holds (.slice (some ⟨g25, 0, none⟩) n c25) w3 := hkn (5, _) (by simp)
      cases q25
      have R25 := Lib.hid r25
      have X3 := Lib.hid he
      clear he hkn r25
      go_wp2_with (at_builtin; refine wpList_appendAll rfl (.tmp 25) (.tmp 29) rfl rfl rfl R25.out (HRU.out.ext X3.out) hn0 (by omega) (by omega) X3.out.size ?hk1)
      case hk1 =>
        intro g4 c4 w4 ho4 hg4 he4
        have HO4 := Lib.hid ho4
        have X4 := Lib.hid ((ext_drew wr).trans (he4 wr.drew (Nat.le_refl _) X3.out))
        clear ho4 hg4 he4
        go_wp2_with (at_builtin; refine wpList_pushRW (w0 := wr) rfl (.tmp 20) (.tmp 31) rfl rfl rfl HOwn.out (X4.out.trans (ext_alloc _ _)) ((HO4.out.mono (ext_drew wr).size).ext (ext_alloc _ _)) ?hc (by omega) HExt.out.size ?hk2)
        case hc => exact cell_new _ _ rfl _ _
        case hk2 =>
          intro g5 c5 w5 ho5 he5
          have HO5 := Lib.hid ho5
          have HE5 := Lib.hid (he5 w1 (Nat.le_refl _) ((HExt.out.trans X4.out).alloc _))
          clear ho5 he5
          go_wp2_with (fail)
          refine strictQ_normal ?_
          go_wp2_with (fail)
          go_roundw
          case rel => exact ⟨k + 1, g5, c5, by omega, by go_num, rfl, Lib.hid (by rw [wideM_succ]; exact .inr HO5.out), HE5⟩
          case measure => simp [intOf]; omega
    · obtain rfl : k = n := by omega
      go_wp2_with (fail)
      refine Calls.mono (s_basis p _ k rc (k + k) (wideM A k k) wr HPR.out (by omega) (by omega) (by omega) HOwn.out.rd HWG.out) ?_
      rintro e y ⟨gb, cb, r, rfl, hb, x2⟩
      have HB : Hid (OwnR wr.heap.size y (some ⟨gb, 0, none⟩) r cb (invW p k A)) := Lib.hid hb
      obtain rfl : r = k := by rw [← HRL.out]; exact hb.1.symm
      have HE2 := Lib.hid ((X1.out.trans HExt.out).trans x2)
      clear hb x2
      go_wp2_with (fail)
      go_loopw [8, 9] (fun v i wq => ∃ (i0 g rc : Nat), i0 ≤ r ∧ i = .int .i64 i0 ∧ v = .slice (some ⟨g, 0, none⟩) i0 rc ∧ Hid (OwnR y.heap.size wq (some ⟨g, 0, none⟩) i0 rc (cutM (invW p r A) r i0)) ∧ Hid (Ext y wq)) (fun _ i _ => r - (intOf i).toNat)
      case atStart => exact ⟨0, _, _, Nat.zero_le _, rfl, rfl, Lib.hid (ownR_empty y), Lib.hid (ext_alloc _ _)⟩
      case round =>
        rename World => z
        obtain ⟨i, g, rc, hi, rfl, rfl, HO, HZ⟩ := hrel
        by_cases hlt2 : i < r
        · obtain ⟨ai, ci, hci, hoi⟩ := HB.out.at hlt2
          have hgi2 := HIG.out i (by rw [HRL.out]; exact hlt2)
          rw [hgi2.1] at hci hoi
          obtain ⟨bi, oi, rfl, _⟩ := hoi.rd.2 0 (by omega)
          have HOI := Lib.hid (hoi.rd.ext HZ.out)
          have hcc : r + r ≤ ci := by
            obtain ⟨_, h2, h3⟩ := hoi
            rcases h3 with ⟨h4, _⟩ | ⟨_, _, _, h4, _, _, h5, _⟩
            · cases h4
            · cases h4; exact h5
          have hcr : ¬ ci = r := by omega
          have hc1 : (r : Int) ≤ ((r + r : Nat) : Int) := by omega
          have hc2 : ((r + r : Nat) : Int) ≤ (ci : Int) := by omega
          have e1 := HZ.out.cell hci
          clear hoi hgi2 hci
          go_wp2_with (fail)
          clear e1
          refine Calls.mono (s_own bi (oi + r) r _ ((nthR (invW p r A) i).drop r) z hn0 (by omega) (rdC_drop HOI.out)) ?_
          rintro e z2 ⟨g2, c2, rfl, ho2, x2⟩
          have HO2 := Lib.hid ho2
          have X2 := Lib.hid x2
          clear ho2 x2
          go_wp2_with (at_builtin; refine wpList_pushR (w0 := z) rfl (.tmp 43) (.tmp 52) rfl rfl rfl HO.out (X2.out.trans (ext_alloc _ _)) (HO2.out.ext (ext_alloc _ _)) ?hc (by omega) HZ.out.size ?hk)
          case hc => simp
          case hk =>
            intro g' cap' w5 ho5 hg5 he5
            have HO5 := Lib.hid ho5
            have HE5 := Lib.hid (he5 y (Nat.le_refl _) ((HZ.out.trans X2.out).alloc _))
            clear ho5 hg5 he5
            go_wp2_with (fail)
            go_roundw
            case rel => exact ⟨i + 1, g', cap', by omega, by go_num, rfl, Lib.hid (by rw [cutM_succ]; exact HO5.out), HE5⟩
            case measure => simp [intOf]; omega
        · obtain rfl : i = r := by omega
          go_wp2_with (fail)
          go_ret
          exact ⟨g, rc, rfl, HO.out.mono HE2.out.size, HE2.out.trans HZ.out⟩
end Go.Proofs.Ytnabpmafcflljaa

/-
  The Cayley transform of a square matrix, in the reference.
  No condition.
-/
namespace Go.Proofs.Ytnabpmafcflljaa
set_option maxRecDepth 100000
open Go.RowKit

theorem plus_less {p : Int} {m : Nat} {x y : List Int} : plusL p x y (p - 1) m = plusL p x y (-1) m :=
  plus_mod (by rw [show (p - 1 : Int) = -1 + p by omega]; exact Int.add_emod_right ..)
theorem s_plus_m (p : Int) (ax ay : Option Addr) (n cx cy : Nat) (x y : List Int) (w : World) (hp1 : 3 ≤ p) (hp2 : p ≤ 1000) (hn : n ≤ 4194303) (hx : RdC w ax n x) (hy : RdC w ay n y) (hgx : Good p n x) (hgy : Good p n y) :
    Calls Try.prog 91 #[.int .i64 p, .slice ax n cx, .slice ay n cy, .int .i64 (p - 1)] w fun e w' => ∃ g rc, e = .returned (.slice (some ⟨g, 0, none⟩) n rc) ∧ OwnC w.heap.size w' (some ⟨g, 0, none⟩) n rc (plusL p x y (-1) n) ∧ Ext w w' := by
  have h := s_plus p ax ay n cx cy x y (p - 1) w hp1 hp2 (by omega) hn hx hy hgx hgy
  rw [plus_less] at h
  exact h
set_option maxHeartbeats 16000000 in
set_option maxRecDepth 100000 in
theorem s_cayley (p : Int) (ax1 : Option Addr) (d cx1 : Nat) (xs1 : List (List Int)) (w : World) (hpr : primeB p = true) (hd0 : 0 < d) (hd : d ≤ 6) (hx1 : RdR w ax1 d xs1) (hg : RowsG p d xs1) :
    Calls Try.prog 52 #[.int .i64 p, .slice ax1 d cx1] w fun e w' => (detL p d (oneM p xs1 d 1) = 0 ∧ e = .returned (.tuple #[.slice none 0 0, .bool false]) ∧ Ext w w') ∨
      (detL p d (oneM p xs1 d 1) ≠ 0 ∧ ∃ g rc, e = .returned (.tuple #[.slice (some ⟨g, 0, none⟩) d rc, .bool true]) ∧ OwnR w.heap.size w' (some ⟨g, 0, none⟩) d rc (cayM p xs1 d) ∧ Ext w w') := by
  have hpb := prime_bd hpr
  have HX := Lib.hid hx1
  have HG := Lib.hid hg
  have HPR := Lib.hid hpr
  have HLN := Lib.hid hx1.1
  have HPM : Hid (IntKind.i64.wrap (p - 1) = p - 1) := Lib.hid (wrap_small _ (by omega) (by omega))
  clear hx1 hg hpr
  obtain ⟨bx0, ox0, ax0, cx0, rfl, _⟩ := HX.out.2 0 hd0
  go_enter Try.func52, Try.ntmps52
  go_wp2_with (fail)
  refine Calls.mono (s_unit d _ (by omega)) ?_
  rintro e w2 ⟨gu, cu, rfl, hu, x2⟩
  have HP0 := Lib.hid (((ownR_empty w).ext (ext_alloc _ (.cells #[] 22))).ext x2)
  have hm0 := ((ownR_empty (w.alloc (.cells #[] 22))).mono (B' := w.heap.size) (ext_alloc _ _).size).ext x2
  have hnu := (hu.base_of gu rfl).1
  have HU0 := Lib.hid (hu.mono (B' := w.heap.size) ((ext_alloc _ (.cells #[] 22)).alloc (.cells #[] 22)).size)
  have HE0 := Lib.hid (((ext_alloc w (.cells #[] 22)).alloc (.cells #[] 22)).trans x2)
  have hs1 : (w.alloc (.cells #[] 22)).heap.size = w.heap.size + 1 := by simp
  have hs2 : ((w.alloc (.cells #[] 22)).alloc (.cells #[] 22)).heap.size = w.heap.size + 2 := by simp
  rw [hs2] at hnu
  rw [hs1] at hm0
  have HM0 := Lib.hid hm0
  clear hm0
  clear hu x2
  go_wp2_with (fail)
  go_loopw [6, 7, 9] (fun s t i wr => ∃ (k gp cp gm cm : Nat), k ≤ d ∧ i = .int .i64 k ∧ s = .slice (some ⟨gp, 0, none⟩) k cp ∧ t = .slice (some ⟨gm, 0, none⟩) k cm ∧ Hid (OwnR w.heap.size wr (some ⟨gp, 0, none⟩) k cp (sumM p (unitL d d) xs1 1 d k)) ∧ Hid (OwnR w.heap.size wr (some ⟨gm, 0, none⟩) k cm (sumM p (unitL d d) xs1 (-1) d k)) ∧ Hid (OwnR w.heap.size wr (some ⟨gu, 0, none⟩) d cu (unitL d d)) ∧ gp ≠ gm ∧ gp ≠ gu ∧ gm ≠ gu ∧ Hid (Ext w wr)) (fun _ _ i _ => d - (intOf i).toNat)
  case atStart => exact ⟨0, _, _, _, _, Nat.zero_le _, rfl, rfl, rfl, HP0, HM0, HU0, by omega, by omega, by omega, HE0⟩
  case round =>
    obtain ⟨k, gp, cp, gm, cm, hk, rfl, rfl, rfl, HP, HM, HU, hne1, hne2, hne3, HE⟩ := hrel
    clear HP0 HM0 HU0 HE0
    by_cases hlt : k < d
    · have HGU := Lib.hid (unit_good (p := p) (by omega) k (by rw [unitL_len]; exact hlt))
      have HGX := Lib.hid (HG.out k (by rw [HLN.out]; exact hlt))
      obtain ⟨ai, ci, hca, hra⟩ := HU.out.at hlt
      rw [HGU.out.1] at hca hra
      obtain ⟨bx, ox, aj, cj, hbx, hcb, hrb⟩ := (HX.out.ext HE.out).2 k hlt
      cases hbx
      rw [HGX.out.1] at hcb hrb
      have HCa := Lib.hid ((ext_drew wr).cell hca)
      have HCb := Lib.hid ((ext_drew wr).cell hcb)
      have HRa := Lib.hid (hra.rd.ext (ext_drew wr))
      have HRb := Lib.hid (hrb.ext (ext_drew wr))
      clear hca hra hcb hrb
      go_wp2_with (fail)
      refine wp_region_lex_tail1 11 [(10, .ownS wr.heap.size d (plusL p (nthR (unitL d d) k) (nthR xs1 k) 1 d))] (.slice (some ⟨gp, 0, none⟩) k cp) (by kernel_rfl) (by kernel_rfl) rfl rfl (fun w1 => by go_simp) ?_
      simp only [List.take, List.drop]
      simp only [Act.put, List.setIfInBounds_toArray, List.set_cons_zero, List.set_cons_succ]
      (refine LexW.pure (v := ?_) rfl rfl (fun w1 he => ?_) ?_; rotate_left; ( have e1 := he.cell HCa.out; have e2 := he.cell HCb.out; go_simp; rfl); simp only [Act.put, List.setIfInBounds_toArray, List.set_cons_zero, List.set_cons_succ])
      (refine LexW.pure (v := ?_) rfl rfl (fun w1 he => ?_) ?_; rotate_left; ( have e1 := he.cell HCa.out; have e2 := he.cell HCb.out; go_simp; rfl); simp only [Act.put, List.setIfInBounds_toArray, List.set_cons_zero, List.set_cons_succ])
      (refine LexW.pure (v := ?_) rfl rfl (fun w1 he => ?_) ?_; rotate_left; ( have e1 := he.cell HCa.out; have e2 := he.cell HCb.out; go_simp; rfl); simp only [Act.put, List.setIfInBounds_toArray, List.set_cons_zero, List.set_cons_succ])
      (refine LexW.pure (v := ?_) rfl rfl (fun w1 he => ?_) ?_; rotate_left; ( have e1 := he.cell HCa.out; have e2 := he.cell HCb.out; go_simp; rfl); simp only [Act.put, List.setIfInBounds_toArray, List.set_cons_zero, List.set_cons_succ])
      (refine LexW.pure (v := ?_) rfl rfl (fun w1 he => ?_) ?_; rotate_left; ( have e1 := he.cell HCa.out; have e2 := he.cell HCb.out; go_simp; rfl); simp only [Act.put, List.setIfInBounds_toArray, List.set_cons_zero, List.set_cons_succ])
      (refine LexW.pure (v := ?_) rfl rfl (fun w1 he => ?_) ?_; rotate_left; ( have e1 := he.cell HCa.out; have e2 := he.cell HCb.out; go_simp; rfl); simp only [Act.put, List.setIfInBounds_toArray, List.set_cons_zero, List.set_cons_succ])
      (refine LexW.pure (v := ?_) rfl rfl (fun w1 he => ?_) ?_; rotate_left; ( have e1 := he.cell HCa.out; have e2 := he.cell HCb.out; go_simp; rfl); simp only [Act.put, List.setIfInBounds_toArray, List.set_cons_zero, List.set_cons_succ])
      (refine LexW.pure (v := ?_) rfl rfl (fun w1 he => ?_) ?_; rotate_left; ( have e1 := he.cell HCa.out; have e2 := he.cell HCb.out; go_simp; rfl); simp only [Act.put, List.setIfInBounds_toArray, List.set_cons_zero, List.set_cons_succ])
      (refine LexW.pure (v := ?_) rfl rfl (fun w1 he => ?_) ?_; rotate_left; ( have e1 := he.cell HCa.out; have e2 := he.cell HCb.out; go_simp; rfl); simp only [Act.put, List.setIfInBounds_toArray, List.set_cons_zero, List.set_cons_succ])
      (refine LexW.callR (f := ?_) (args := ?_) rfl rfl (fun w1 => ?_) (fun w1 he hdep => ?_) (fun v hv => ?_); rotate_left 2; (go_simp; refine ⟨?_, ?_⟩ <;> rfl); ( refine (s_plus p _ _ d _ _ (nthR (unitL d d) k) (nthR xs1 k) 1 w1 (by omega) (by omega) (by omega) (by omega) (HRa.out.ext he) (HRb.out.ext he) HGU.out HGX.out).mono ?_; rintro e w2 ⟨g, rc, rfl, ho, g2⟩; exact ⟨_, rfl, g2, g, rc, rfl, ho.mono (Nat.le_trans (ext_drew wr).size he.size)⟩); simp only [Act.put, List.setIfInBounds_toArray, List.set_cons_zero, List.set_cons_succ])
      obtain ⟨_, gr, cr, rfl, _⟩ := hv
      refine LexW.nil (fun w3 he hkn => ?_)
      obtain ⟨_, _, qr, rr⟩ : (SPred.ownS wr.heap.size d (plusL p (nthR (unitL d d) k) (nthR xs1 k) 1 d)).holds (.slice (some ⟨gr, 0, none⟩) d cr) w3 := hkn (10, _) (by simp)
      cases qr
      have RR := Lib.hid rr
      have HZ := Lib.hid ((ext_drew wr).trans he)
      clear he hkn rr HCa HCb HRa HRb
      go_wp2_with (at_builtin; refine wpList_pushR_at (w0 := wr) rfl (.tmp 21) (.tmp 32) rfl rfl rfl HP.out (HZ.out.trans (ext_alloc _ _)) (RR.out.ext (ext_alloc _ _)) ?hc (by omega) HE.out.size ?hk)
      case hc => exact cell_new _ _ rfl _ _
      case hk =>
        intro g5 c5 w5 ho5 hg5 hn5 he5
        have HE5 := Lib.hid (he5 w (Nat.le_refl _) ((HE.out.trans HZ.out).alloc _))
        have XI := Lib.hid (HZ.out.trans (ext_alloc _ (.cells #[.slice (some ⟨gr, 0, none⟩) d cr] 22)))
        have HT5 := Lib.hid ((HM.out.ext XI.out).grown2 (HP.out.ext XI.out) hg5 (fun q hq => by cases hq; simp only [Value.ownBlock, ne_eq, Option.some.injEq]; omega))
        have HU5 := Lib.hid ((HU.out.ext XI.out).grown2 (HP.out.ext XI.out) hg5 (fun q hq => by cases hq; simp only [Value.ownBlock, ne_eq, Option.some.injEq]; omega))
        have hN1' : g5 ≠ gm := by
          rcases hn5 with h | h
          · have h1 := (HM.out.base_of gm rfl).2; have h2 := HZ.out.size'; omega
          · simp only [Value.ownBlock, Option.some.injEq] at h; omega
        have hN2' : g5 ≠ gu := by
          rcases hn5 with h | h
          · have h1 := (HU.out.base_of gu rfl).2; have h2 := HZ.out.size'; omega
          · simp only [Value.ownBlock, Option.some.injEq] at h; omega
        have HS5 : Hid (OwnR w.heap.size w5 (some ⟨g5, 0, none⟩) (k + 1) c5 (sumM p (unitL d d) xs1 1 d (k + 1))) := Lib.hid (by rw [sumM_succ]; exact ho5)
        clear ho5 hg5 hn5 he5 RR HZ XI HP HM HU HE
        have HM := HT5
        have HU := HU5
        have HE := HE5
        have HP := HS5
        clear HT5 HU5 HE5 HS5
        go_wp2_with (fail)
        refine strictQ_normal ?_
        obtain ⟨ai, ci, hca, hra⟩ := HU.out.at hlt
        rw [HGU.out.1] at hca hra
        obtain ⟨bx, ox, aj, cj, hbx, hcb, hrb⟩ := (HX.out.ext HE.out).2 k hlt
        cases hbx
        rw [HGX.out.1] at hcb hrb
        have HCa := Lib.hid ((ext_drew w5).cell hca)
        have HCb := Lib.hid ((ext_drew w5).cell hcb)
        have HRa := Lib.hid (hra.rd.ext (ext_drew w5))
        have HRb := Lib.hid (hrb.ext (ext_drew w5))
        clear hca hra hcb hrb
        go_wp2_with (fail)
        refine wp_region_lex_tail1 13 [(12, .ownS w5.heap.size d (plusL p (nthR (unitL d d) k) (nthR xs1 k) (-1) d))] (.slice (some ⟨gm, 0, none⟩) k cm) (by kernel_rfl) (by kernel_rfl) rfl rfl (fun w1 => by go_simp) ?_
        simp only [List.take, List.drop]
        simp only [Act.put, List.setIfInBounds_toArray, List.set_cons_zero, List.set_cons_succ]
        (refine LexW.pure (v := ?_) rfl rfl (fun w1 he => ?_) ?_; rotate_left; ( have e1 := he.cell HCa.out; have e2 := he.cell HCb.out; have e3 := HPM.out; go_simp; rfl); simp only [Act.put, List.setIfInBounds_toArray, List.set_cons_zero, List.set_cons_succ])
        (refine LexW.pure (v := ?_) rfl rfl (fun w1 he => ?_) ?_; rotate_left; ( have e1 := he.cell HCa.out; have e2 := he.cell HCb.out; have e3 := HPM.out; go_simp; rfl); simp only [Act.put, List.setIfInBounds_toArray, List.set_cons_zero, List.set_cons_succ])
        (refine LexW.pure (v := ?_) rfl rfl (fun w1 he => ?_) ?_; rotate_left; ( have e1 := he.cell HCa.out; have e2 := he.cell HCb.out; have e3 := HPM.out; go_simp; rfl); simp only [Act.put, List.setIfInBounds_toArray, List.set_cons_zero, List.set_cons_succ])
        (refine LexW.pure (v := ?_) rfl rfl (fun w1 he => ?_) ?_; rotate_left; ( have e1 := he.cell HCa.out; have e2 := he.cell HCb.out; have e3 := HPM.out; go_simp; rfl); simp only [Act.put, List.setIfInBounds_toArray, List.set_cons_zero, List.set_cons_succ])
        (refine LexW.pure (v := ?_) rfl rfl (fun w1 he => ?_) ?_; rotate_left; ( have e1 := he.cell HCa.out; have e2 := he.cell HCb.out; have e3 := HPM.out; go_simp; rfl); simp only [Act.put, List.setIfInBounds_toArray, List.set_cons_zero, List.set_cons_succ])
        (refine LexW.pure (v := ?_) rfl rfl (fun w1 he => ?_) ?_; rotate_left; ( have e1 := he.cell HCa.out; have e2 := he.cell HCb.out; have e3 := HPM.out; go_simp; rfl); simp only [Act.put, List.setIfInBounds_toArray, List.set_cons_zero, List.set_cons_succ])
        (refine LexW.pure (v := ?_) rfl rfl (fun w1 he => ?_) ?_; rotate_left; ( have e1 := he.cell HCa.out; have e2 := he.cell HCb.out; have e3 := HPM.out; go_simp; rfl); simp only [Act.put, List.setIfInBounds_toArray, List.set_cons_zero, List.set_cons_succ])
        (refine LexW.pure (v := ?_) rfl rfl (fun w1 he => ?_) ?_; rotate_left; ( have e1 := he.cell HCa.out; have e2 := he.cell HCb.out; have e3 := HPM.out; go_simp; rfl); simp only [Act.put, List.setIfInBounds_toArray, List.set_cons_zero, List.set_cons_succ])
        (refine LexW.pure (v := ?_) rfl rfl (fun w1 he => ?_) ?_; rotate_left; ( have e1 := he.cell HCa.out; have e2 := he.cell HCb.out; have e3 := HPM.out; go_simp; rfl); simp only [Act.put, List.setIfInBounds_toArray, List.set_cons_zero, List.set_cons_succ])
        (refine LexW.pure (v := ?_) rfl rfl (fun w1 he => ?_) ?_; rotate_left; ( have e1 := he.cell HCa.out; have e2 := he.cell HCb.out; have e3 := HPM.out; go_simp; rfl); simp only [Act.put, List.setIfInBounds_toArray, List.set_cons_zero, List.set_cons_succ])
        (refine LexW.pure (v := ?_) rfl rfl (fun w1 he => ?_) ?_; rotate_left; ( have e1 := he.cell HCa.out; have e2 := he.cell HCb.out; have e3 := HPM.out; go_simp; rfl); simp only [Act.put, List.setIfInBounds_toArray, List.set_cons_zero, List.set_cons_succ])
        (refine LexW.callR (f := ?_) (args := ?_) rfl rfl (fun w1 => ?_) (fun w1 he hdep => ?_) (fun v hv => ?_); rotate_left 2; (go_simp; refine ⟨?_, ?_⟩ <;> rfl); ( refine (s_plus_m p _ _ d _ _ (nthR (unitL d d) k) (nthR xs1 k) w1 (by omega) (by omega) (by omega) (HRa.out.ext he) (HRb.out.ext he) HGU.out HGX.out).mono ?_; rintro e w2 ⟨g, rc, rfl, ho, g2⟩; exact ⟨_, rfl, g2, g, rc, rfl, ho.mono (Nat.le_trans (ext_drew w5).size he.size)⟩); simp only [Act.put, List.setIfInBounds_toArray, List.set_cons_zero, List.set_cons_succ])
        obtain ⟨_, gr, cr, rfl, _⟩ := hv
        refine LexW.nil (fun w3 he hkn => ?_)
        obtain ⟨_, _, qr, rr⟩ : (SPred.ownS w5.heap.size d (plusL p (nthR (unitL d d) k) (nthR xs1 k) (-1) d)).holds (.slice (some ⟨gr, 0, none⟩) d cr) w3 := hkn (12, _) (by simp)
        cases qr
        have RR := Lib.hid rr
        have HZ := Lib.hid ((ext_drew w5).trans he)
        clear he hkn rr HCa HCb HRa HRb
        go_wp2_with (at_builtin; refine wpList_pushR_at (w0 := w5) rfl (.tmp 34) (.tmp 47) rfl rfl rfl HM.out (HZ.out.trans (ext_alloc _ _)) (RR.out.ext (ext_alloc _ _)) ?hc (by omega) HE.out.size ?hk)
        case hc => exact cell_new _ _ rfl _ _
        case hk =>
          intro g6 c6 w6 ho5 hg5 hn5 he5
          have HE5 := Lib.hid (he5 w (Nat.le_refl _) ((HE.out.trans HZ.out).alloc _))
          have XI := Lib.hid (HZ.out.trans (ext_alloc _ (.cells #[.slice (some ⟨gr, 0, none⟩) d cr] 22)))
          have HT5 := Lib.hid ((HP.out.ext XI.out).grown2 (HM.out.ext XI.out) hg5 (fun q hq => by cases hq; simp only [Value.ownBlock, ne_eq, Option.some.injEq]; omega))
          have HU5 := Lib.hid ((HU.out.ext XI.out).grown2 (HM.out.ext XI.out) hg5 (fun q hq => by cases hq; simp only [Value.ownBlock, ne_eq, Option.some.injEq]; omega))
          have hN1' : g6 ≠ g5 := by
            rcases hn5 with h | h
            · have h1 := (HP.out.base_of g5 rfl).2; have h2 := HZ.out.size'; omega
            · simp only [Value.ownBlock, Option.some.injEq] at h; omega
          have hN2' : g6 ≠ gu := by
            rcases hn5 with h | h
            · have h1 := (HU.out.base_of gu rfl).2; have h2 := HZ.out.size'; omega
            · simp only [Value.ownBlock, Option.some.injEq] at h; omega
          have HS5 : Hid (OwnR w.heap.size w6 (some ⟨g6, 0, none⟩) (k + 1) c6 (sumM p (unitL d d) xs1 (-1) d (k + 1))) := Lib.hid (by rw [sumM_succ]; exact ho5)
          clear ho5 hg5 hn5 he5 RR HZ XI HM HP HU HE
          go_wp2_with (fail)
          refine strictQ_normal ?_
          go_wp2_with (fail)
          go_roundw
          case rel => exact ⟨k + 1, g5, c5, g6, c6, by omega, by go_num, rfl, rfl, HT5, HS5, HU5, by omega, by omega, by omega, HE5⟩
          case measure => simp [intOf]; omega
    · obtain rfl : k = d := by omega
      go_wp2_with (fail)
      refine Calls.mono (s_det p _ k cp k (oneM p xs1 k 1) _ HPR.out hd0 (Nat.le_refl _) (by omega) HP.out.rd (oneM_good (by omega))) ?_
      rintro e w5 ⟨rfl, x5⟩
      have HDD := Lib.hid (det_bd (p := p) (m := k) (rows := oneM p xs1 k 1) HPR.out (oneM_good (by omega)) (by rw [oneM_len]; exact Nat.le_refl _))
      have HP5 := Lib.hid (HP.out.rd.ext x5)
      have HM5 := Lib.hid (HM.out.rd.ext x5)
      have HE5 := Lib.hid (HE.out.trans x5)
      clear x5
      by_cases hz : detL p k (oneM p xs1 k 1) = 0
      · have hzb : (detL p k (oneM p xs1 k 1) == 0) = true := by simp [hz]
        have HZ := Lib.hid hz
        clear hz
        go_wp2_with (fail)
        go_ret2
        exact .inl ⟨HZ.out, rfl, HE5.out⟩
      · have hzb : (detL p k (oneM p xs1 k 1) == 0) = false := by simp [hz]
        have HZ := Lib.hid hz
        have HI := Lib.hid (inv_one_good HPR.out hd0 hz)
        clear hz
        go_wp2_with (fail)
        refine Calls.mono (s_invm p _ k _ (oneM p xs1 k 1) _ HPR.out hd0 (by omega) HP5.out (oneM_good (by omega)) HZ.out) ?_
        rintro e w6 ⟨g6, c6, rfl, o6, x6⟩
        have HO6 := Lib.hid o6
        have HM6 := Lib.hid (HM5.out.ext x6)
        have HE6 := Lib.hid (HE5.out.trans x6)
        clear o6 x6
        go_wp2_with (fail)
        refine Calls.mono (s_mtimes p _ k _ (invM p k (oneM p xs1 k 1)) _ k _ (oneM p xs1 k (-1)) k _ (by omega) (by omega) (by omega) hd0 (by omega) (by omega) HO6.out.rd (fun i hi => HI.out i (by rw [invM_len]; exact hi)) HM6.out (fun i hi => oneM_good (by omega) i (by rw [oneM_len]; exact hi))) ?_
        rintro e w7 ⟨g7, c7, rfl, o7, x7⟩
        have HO7 := Lib.hid (o7.mono HE6.out.size)
        have HE7 := Lib.hid (HE6.out.trans x7)
        clear o7 x7
        go_wp2_with (fail)
        go_ret2
        exact .inr ⟨HZ.out, _, _, rfl, HO7.out, HE7.out⟩
end Go.Proofs.Ytnabpmafcflljaa

/-
  The checks of square matrices at a regular space.
  No condition.
-/
namespace Go.Proofs.Ytnabpmafcflljaa
set_option maxRecDepth 100000
open Go.RowKit

def frameB (p : Int) (rows : List (List Int)) (d : Nat) : Bool := matB p rows && decide (rows.length = d) && decide ((nthR rows 0).length = d)
theorem frame_mat {p : Int} {rows : List (List Int)} {d : Nat} (h : matB p rows = false) : frameB p rows d = false := by unfold frameB; rw [h]; rfl
theorem frame_len {p : Int} {rows : List (List Int)} {d : Nat} (h : rows.length ≠ d) : frameB p rows d = false := by unfold frameB; rw [decide_eq_false h]; simp
theorem frame_wid {p : Int} {rows : List (List Int)} {d : Nat} (h : (nthR rows 0).length ≠ d) : frameB p rows d = false := by unfold frameB; rw [decide_eq_false h]; simp
theorem frame_yes {p : Int} {rows : List (List Int)} {d : Nat} (h : matB p rows = true) (h1 : rows.length = d) (h2 : (nthR rows 0).length = d) : frameB p rows d = true := by unfold frameB; rw [h, decide_eq_true h1, decide_eq_true h2]; rfl
theorem frame_of {p : Int} {rows : List (List Int)} {d : Nat} (h : frameB p rows d = true) : rows.length = d ∧ RowsG p d rows := by
  unfold frameB at h
  simp only [Bool.and_eq_true, decide_eq_true_eq] at h
  obtain ⟨⟨h1, h2⟩, h3⟩ := h
  exact ⟨h2, mat_good h1 h3⟩
def code10 (p : Int) (qs : List Int) (rows : List (List Int)) : Int := if spaceB p qs = true then (if frameB p rows qs.length = true then (if regB qs = true then 0 else 5) else 2) else 1
theorem code10_zero {p : Int} {qs : List Int} {rows : List (List Int)} (h : code10 p qs rows = 0) : spaceB p qs = true ∧ frameB p rows qs.length = true ∧ regB qs = true := by
  unfold code10 at h
  split at h
  · rename_i h1
    split at h
    · rename_i h2
      split at h
      · rename_i h3; exact ⟨h1, h2, h3⟩
      · cases h
    · cases h
  · cases h
theorem code10_A {p : Int} {qs : List Int} {rows : List (List Int)} (h : spaceB p qs = false) : code10 p qs rows = 1 := by unfold code10; rw [h]; rfl
theorem code10_B {p : Int} {qs : List Int} {rows : List (List Int)} (h : spaceB p qs = true) (h2 : frameB p rows qs.length = false) : code10 p qs rows = 2 := by unfold code10; rw [h, h2]; rfl
theorem code10_C {p : Int} {qs : List Int} {rows : List (List Int)} (h : spaceB p qs = true) (h2 : frameB p rows qs.length = true) : code10 p qs rows = if regB qs = true then 0 else 5 := by unfold code10; rw [h, h2]; rfl

set_option maxHeartbeats 8000000 in
theorem c_isFrame (p : Int) (a : Option Addr) (d cap : Nat) (qs : List Int) (ax1 : Option Addr) (n1 cx1 : Nat) (xs1 : List (List Int)) (w : World) (hd : d ≤ 4194304) (hn1 : n1 ≤ 4194304) (hr1 : ∀ i, i < n1 → (nthR xs1 i).length ≤ 4194304) (_hq : RdC w a d qs) (hx1 : RdR w ax1 n1 xs1) (hp1 : 3 ≤ p) (hp2 : p ≤ 1000) :
    Calls Try.prog 95 #[.agg #[.int .i64 p, .slice a d cap], .slice ax1 n1 cx1] w fun e w' => e = .returned (.bool (frameB p xs1 d)) ∧ Ext w w' := by
  have HX := Lib.hid hx1
  have HR := Lib.hid hr1
  have HLN := Lib.hid hx1.1
  clear _hq hx1 hr1
  go_enter Try.func95, Try.ntmps95
  go_wp2_with (fail)
  obtain ⟨W, hW⟩ : ∃ W, W = w.alloc (.cells #[.int .i64 p, .slice a d cap] 30) := ⟨_, rfl⟩
  obtain ⟨O, hO⟩ : ∃ O, O = w.heap.size := ⟨_, rfl⟩
  have gW : Ext w W := by rw [hW]; exact ext_alloc _ _
  have hs0 : W.cell? ⟨O, 0, none⟩ = some (.int .i64 p) := by rw [hW, hO]; simp
  have hs1 : W.cell? ⟨O, 1, none⟩ = some (.slice a d cap) := by rw [hW, hO]; simp
  rw [← hW, ← hO]
  clear hW hO
  have HS0 := Lib.hid ((ext_drew _).cell hs0)
  have HS1 := Lib.hid ((ext_drew _).cell hs1)
  have GW := Lib.hid (gW.trans (ext_drew _))
  clear gW hs0 hs1
  cases hmt : matB p xs1
  · have HB := Lib.hid (frame_mat (d := d) hmt)
    have HMT := Lib.hid hmt
    clear hmt
    refine wp_region_lex [(1, .val (.int .i64 p)), (3, .val (.bool false))] (by kernel_rfl) (by kernel_rfl) ?_
    (refine LexW.pure (v := ?_) rfl rfl (fun w1 he => ?_) ?_; rotate_left; ( have e1 := he.cell HS0.out; have e2 := he.cell HS1.out; go_simp; rfl); simp only [Act.put, List.setIfInBounds_toArray, List.set_cons_zero, List.set_cons_succ])
    (refine LexW.call (f := ?_) (args := ?_) rfl rfl (fun w1 => ?_) (fun w1 he hdep => ?_) ?_; rotate_left 2; (go_simp; refine ⟨?_, ?_⟩ <;> rfl); ( exact c_field p _ w1); simp only [Act.put, List.setIfInBounds_toArray, List.set_cons_zero, List.set_cons_succ])
    (refine LexW.pure (v := ?_) rfl rfl (fun w1 he => ?_) ?_; rotate_left; ( have e1 := he.cell HS0.out; have e2 := he.cell HS1.out; go_simp; rfl); simp only [Act.put, List.setIfInBounds_toArray, List.set_cons_zero, List.set_cons_succ])
    (refine LexW.call (f := ?_) (args := ?_) rfl rfl (fun w1 => ?_) (fun w1 he hdep => ?_) ?_; rotate_left 2; (go_simp; refine ⟨?_, ?_⟩ <;> rfl); ( rw [← HMT.out]; exact c_isMatrix p ax1 n1 cx1 xs1 w1 (by omega) (by omega) hn1 HR.out (HX.out.ext (GW.out.trans he))); simp only [Act.put, List.setIfInBounds_toArray, List.set_cons_zero, List.set_cons_succ])
    (refine LexW.pure (v := ?_) rfl rfl (fun w1 he => ?_) ?_; rotate_left; ( have e1 := he.cell HS0.out; have e2 := he.cell HS1.out; go_simp; rfl); simp only [Act.put, List.setIfInBounds_toArray, List.set_cons_zero, List.set_cons_succ])
    (refine LexW.skip rfl rfl ?_; simp only [Act.put, List.setIfInBounds_toArray, List.set_cons_zero, List.set_cons_succ])
    (refine LexW.skip rfl rfl ?_; simp only [Act.put, List.setIfInBounds_toArray, List.set_cons_zero, List.set_cons_succ])
    (refine LexW.skip rfl rfl ?_; simp only [Act.put, List.setIfInBounds_toArray, List.set_cons_zero, List.set_cons_succ])
    (refine LexW.skip rfl rfl ?_; simp only [Act.put, List.setIfInBounds_toArray, List.set_cons_zero, List.set_cons_succ])
    (refine LexW.skip rfl rfl ?_; simp only [Act.put, List.setIfInBounds_toArray, List.set_cons_zero, List.set_cons_succ])
    (refine LexW.pure (v := ?_) rfl rfl (fun w1 he => ?_) ?_; rotate_left; ( have e1 := he.cell HS0.out; have e2 := he.cell HS1.out; go_simp; rfl); simp only [Act.put, List.setIfInBounds_toArray, List.set_cons_zero, List.set_cons_succ])
    (refine LexW.pure (v := ?_) rfl rfl (fun w1 he => ?_) ?_; rotate_left; ( have e1 := he.cell HS0.out; have e2 := he.cell HS1.out; go_simp; rfl); simp only [Act.put, List.setIfInBounds_toArray, List.set_cons_zero, List.set_cons_succ])
    (refine LexW.skip rfl rfl ?_; simp only [Act.put, List.setIfInBounds_toArray, List.set_cons_zero, List.set_cons_succ])
    (refine LexW.skip rfl rfl ?_; simp only [Act.put, List.setIfInBounds_toArray, List.set_cons_zero, List.set_cons_succ])
    (refine LexW.skip rfl rfl ?_; simp only [Act.put, List.setIfInBounds_toArray, List.set_cons_zero, List.set_cons_succ])
    (refine LexW.skip rfl rfl ?_; simp only [Act.put, List.setIfInBounds_toArray, List.set_cons_zero, List.set_cons_succ])
    (refine LexW.skip rfl rfl ?_; simp only [Act.put, List.setIfInBounds_toArray, List.set_cons_zero, List.set_cons_succ])
    (refine LexW.skip rfl rfl ?_; simp only [Act.put, List.setIfInBounds_toArray, List.set_cons_zero, List.set_cons_succ])
    (refine LexW.skip rfl rfl ?_; simp only [Act.put, List.setIfInBounds_toArray, List.set_cons_zero, List.set_cons_succ])
    (refine LexW.pure (v := ?_) rfl rfl (fun w1 he => ?_) ?_; rotate_left; ( have e1 := he.cell HS0.out; have e2 := he.cell HS1.out; go_simp; rfl); simp only [Act.put, List.setIfInBounds_toArray, List.set_cons_zero, List.set_cons_succ])
    (refine LexW.pure (v := ?_) rfl rfl (fun w1 he => ?_) ?_; rotate_left; ( have e1 := he.cell HS0.out; have e2 := he.cell HS1.out; go_simp; rfl); simp only [Act.put, List.setIfInBounds_toArray, List.set_cons_zero, List.set_cons_succ])
    refine LexW.nil (fun w3 he hkn => ?_)
    have HE := Lib.hid (GW.out.trans he)
    clear he hkn 
    go_wp2_with (fail)
    go_ret
    exact ⟨ret_bool HB.out.symm, HE.out⟩
  have HMT := Lib.hid hmt
  obtain ⟨hn0, hn16, mw, hmw1, hmw16, hmg⟩ := matB_of hmt
  rw [HLN.out] at hn0 hn16
  clear hmt
  by_cases hnd : n1 ≠ d
  · have HB := Lib.hid (frame_len (p := p) (rows := xs1) (d := d) (by rw [HLN.out]; exact hnd))
    have hne : ((n1 : Int) == (d : Int)) = false := by simp; omega
    clear hmg hnd
    refine wp_region_lex [(1, .val (.int .i64 p)), (3, .val (.bool true)), (8, .val (.int .i64 d))] (by kernel_rfl) (by kernel_rfl) ?_
    (refine LexW.pure (v := ?_) rfl rfl (fun w1 he => ?_) ?_; rotate_left; ( have e1 := he.cell HS0.out; have e2 := he.cell HS1.out; go_simp; rfl); simp only [Act.put, List.setIfInBounds_toArray, List.set_cons_zero, List.set_cons_succ])
    (refine LexW.call (f := ?_) (args := ?_) rfl rfl (fun w1 => ?_) (fun w1 he hdep => ?_) ?_; rotate_left 2; (go_simp; refine ⟨?_, ?_⟩ <;> rfl); ( exact c_field p _ w1); simp only [Act.put, List.setIfInBounds_toArray, List.set_cons_zero, List.set_cons_succ])
    (refine LexW.pure (v := ?_) rfl rfl (fun w1 he => ?_) ?_; rotate_left; ( have e1 := he.cell HS0.out; have e2 := he.cell HS1.out; go_simp; rfl); simp only [Act.put, List.setIfInBounds_toArray, List.set_cons_zero, List.set_cons_succ])
    (refine LexW.call (f := ?_) (args := ?_) rfl rfl (fun w1 => ?_) (fun w1 he hdep => ?_) ?_; rotate_left 2; (go_simp; refine ⟨?_, ?_⟩ <;> rfl); ( rw [← HMT.out]; exact c_isMatrix p ax1 n1 cx1 xs1 w1 (by omega) (by omega) hn1 HR.out (HX.out.ext (GW.out.trans he))); simp only [Act.put, List.setIfInBounds_toArray, List.set_cons_zero, List.set_cons_succ])
    (refine LexW.pure (v := ?_) rfl rfl (fun w1 he => ?_) ?_; rotate_left; ( have e1 := he.cell HS0.out; have e2 := he.cell HS1.out; go_simp; rfl); simp only [Act.put, List.setIfInBounds_toArray, List.set_cons_zero, List.set_cons_succ])
    (refine LexW.pure (v := ?_) rfl rfl (fun w1 he => ?_) ?_; rotate_left; ( have e1 := he.cell HS0.out; have e2 := he.cell HS1.out; go_simp; rfl); simp only [Act.put, List.setIfInBounds_toArray, List.set_cons_zero, List.set_cons_succ])
    (refine LexW.pure (v := ?_) rfl rfl (fun w1 he => ?_) ?_; rotate_left; ( have e1 := he.cell HS0.out; have e2 := he.cell HS1.out; go_simp; rfl); simp only [Act.put, List.setIfInBounds_toArray, List.set_cons_zero, List.set_cons_succ])
    (refine LexW.pure (v := ?_) rfl rfl (fun w1 he => ?_) ?_; rotate_left; ( have e1 := he.cell HS0.out; have e2 := he.cell HS1.out; go_simp; rfl); simp only [Act.put, List.setIfInBounds_toArray, List.set_cons_zero, List.set_cons_succ])
    (refine LexW.call (f := ?_) (args := ?_) rfl rfl (fun w1 => ?_) (fun w1 he hdep => ?_) ?_; rotate_left 2; (go_simp; refine ⟨?_, ?_⟩ <;> rfl); ( exact c_dim _ _ _ _ _); simp only [Act.put, List.setIfInBounds_toArray, List.set_cons_zero, List.set_cons_succ])
    (refine LexW.pure (v := ?_) rfl rfl (fun w1 he => ?_) ?_; rotate_left; ( have e1 := he.cell HS0.out; have e2 := he.cell HS1.out; go_simp; rfl); simp only [Act.put, List.setIfInBounds_toArray, List.set_cons_zero, List.set_cons_succ])
    (refine LexW.pure (v := ?_) rfl rfl (fun w1 he => ?_) ?_; rotate_left; ( have e1 := he.cell HS0.out; have e2 := he.cell HS1.out; go_simp; rfl); simp only [Act.put, List.setIfInBounds_toArray, List.set_cons_zero, List.set_cons_succ])
    (refine LexW.pure (v := ?_) rfl rfl (fun w1 he => ?_) ?_; rotate_left; ( have e1 := he.cell HS0.out; have e2 := he.cell HS1.out; go_simp; rfl); simp only [Act.put, List.setIfInBounds_toArray, List.set_cons_zero, List.set_cons_succ])
    (refine LexW.skip rfl rfl ?_; simp only [Act.put, List.setIfInBounds_toArray, List.set_cons_zero, List.set_cons_succ])
    (refine LexW.skip rfl rfl ?_; simp only [Act.put, List.setIfInBounds_toArray, List.set_cons_zero, List.set_cons_succ])
    (refine LexW.skip rfl rfl ?_; simp only [Act.put, List.setIfInBounds_toArray, List.set_cons_zero, List.set_cons_succ])
    (refine LexW.skip rfl rfl ?_; simp only [Act.put, List.setIfInBounds_toArray, List.set_cons_zero, List.set_cons_succ])
    (refine LexW.skip rfl rfl ?_; simp only [Act.put, List.setIfInBounds_toArray, List.set_cons_zero, List.set_cons_succ])
    (refine LexW.skip rfl rfl ?_; simp only [Act.put, List.setIfInBounds_toArray, List.set_cons_zero, List.set_cons_succ])
    (refine LexW.skip rfl rfl ?_; simp only [Act.put, List.setIfInBounds_toArray, List.set_cons_zero, List.set_cons_succ])
    (refine LexW.pure (v := ?_) rfl rfl (fun w1 he => ?_) ?_; rotate_left; ( have e1 := he.cell HS0.out; have e2 := he.cell HS1.out; go_simp; rfl); simp only [Act.put, List.setIfInBounds_toArray, List.set_cons_zero, List.set_cons_succ])
    (refine LexW.pure (v := ?_) rfl rfl (fun w1 he => ?_) ?_; rotate_left; ( have e1 := he.cell HS0.out; have e2 := he.cell HS1.out; go_simp; rfl); simp only [Act.put, List.setIfInBounds_toArray, List.set_cons_zero, List.set_cons_succ])
    refine LexW.nil (fun w3 he hkn => ?_)
    have HE := Lib.hid (GW.out.trans he)
    clear he hkn 
    go_wp2_with (fail)
    go_ret
    exact ⟨ret_bool HB.out.symm, HE.out⟩
  obtain rfl : n1 = d := by omega
  have hnn : ((n1 : Int) == (n1 : Int)) = true := by simp
  obtain ⟨bm, om, am0, cm0, rfl, hc0, _⟩ := HX.out.2 0 hn0
  have HC0 := Lib.hid (GW.out.cell hc0)
  rw [Nat.add_zero] at HC0
  have HW0 := Lib.hid ((hmg 0 (by rw [HLN.out]; exact hn0)).1)
  rw [HW0.out] at HC0
  clear hc0 hnd hmg
  by_cases hwd : mw ≠ n1
  · have HB := Lib.hid (frame_wid (p := p) (rows := xs1) (d := n1) (by rw [HW0.out]; exact hwd))
    have hne : ((mw : Int) == (n1 : Int)) = false := by simp; omega
    clear hwd
    refine wp_region_lex [(1, .val (.int .i64 p)), (3, .val (.bool true)), (8, .val (.int .i64 n1)), (17, .val (.int .i64 n1))] (by kernel_rfl) (by kernel_rfl) ?_
    (refine LexW.pure (v := ?_) rfl rfl (fun w1 he => ?_) ?_; rotate_left; ( have e1 := he.cell HS0.out; have e2 := he.cell HS1.out; have e5 := he.cell HC0.out; go_simp; rfl); simp only [Act.put, List.setIfInBounds_toArray, List.set_cons_zero, List.set_cons_succ])
    (refine LexW.call (f := ?_) (args := ?_) rfl rfl (fun w1 => ?_) (fun w1 he hdep => ?_) ?_; rotate_left 2; (go_simp; refine ⟨?_, ?_⟩ <;> rfl); ( exact c_field p _ w1); simp only [Act.put, List.setIfInBounds_toArray, List.set_cons_zero, List.set_cons_succ])
    (refine LexW.pure (v := ?_) rfl rfl (fun w1 he => ?_) ?_; rotate_left; ( have e1 := he.cell HS0.out; have e2 := he.cell HS1.out; have e5 := he.cell HC0.out; go_simp; rfl); simp only [Act.put, List.setIfInBounds_toArray, List.set_cons_zero, List.set_cons_succ])
    (refine LexW.call (f := ?_) (args := ?_) rfl rfl (fun w1 => ?_) (fun w1 he hdep => ?_) ?_; rotate_left 2; (go_simp; refine ⟨?_, ?_⟩ <;> rfl); ( rw [← HMT.out]; exact c_isMatrix p _ n1 cx1 xs1 w1 (by omega) (by omega) hn1 HR.out (HX.out.ext (GW.out.trans he))); simp only [Act.put, List.setIfInBounds_toArray, List.set_cons_zero, List.set_cons_succ])
    (refine LexW.pure (v := ?_) rfl rfl (fun w1 he => ?_) ?_; rotate_left; ( have e1 := he.cell HS0.out; have e2 := he.cell HS1.out; have e5 := he.cell HC0.out; go_simp; rfl); simp only [Act.put, List.setIfInBounds_toArray, List.set_cons_zero, List.set_cons_succ])
    (refine LexW.pure (v := ?_) rfl rfl (fun w1 he => ?_) ?_; rotate_left; ( have e1 := he.cell HS0.out; have e2 := he.cell HS1.out; have e5 := he.cell HC0.out; go_simp; rfl); simp only [Act.put, List.setIfInBounds_toArray, List.set_cons_zero, List.set_cons_succ])
    (refine LexW.pure (v := ?_) rfl rfl (fun w1 he => ?_) ?_; rotate_left; ( have e1 := he.cell HS0.out; have e2 := he.cell HS1.out; have e5 := he.cell HC0.out; go_simp; rfl); simp only [Act.put, List.setIfInBounds_toArray, List.set_cons_zero, List.set_cons_succ])
    (refine LexW.pure (v := ?_) rfl rfl (fun w1 he => ?_) ?_; rotate_left; ( have e1 := he.cell HS0.out; have e2 := he.cell HS1.out; have e5 := he.cell HC0.out; go_simp; rfl); simp only [Act.put, List.setIfInBounds_toArray, List.set_cons_zero, List.set_cons_succ])
    (refine LexW.call (f := ?_) (args := ?_) rfl rfl (fun w1 => ?_) (fun w1 he hdep => ?_) ?_; rotate_left 2; (go_simp; refine ⟨?_, ?_⟩ <;> rfl); ( exact c_dim _ _ _ _ _); simp only [Act.put, List.setIfInBounds_toArray, List.set_cons_zero, List.set_cons_succ])
    (refine LexW.pure (v := ?_) rfl rfl (fun w1 he => ?_) ?_; rotate_left; ( have e1 := he.cell HS0.out; have e2 := he.cell HS1.out; have e5 := he.cell HC0.out; go_simp; rfl); simp only [Act.put, List.setIfInBounds_toArray, List.set_cons_zero, List.set_cons_succ])
    (refine LexW.pure (v := ?_) rfl rfl (fun w1 he => ?_) ?_; rotate_left; ( have e1 := he.cell HS0.out; have e2 := he.cell HS1.out; have e5 := he.cell HC0.out; go_simp; rfl); simp only [Act.put, List.setIfInBounds_toArray, List.set_cons_zero, List.set_cons_succ])
    (refine LexW.pure (v := ?_) rfl rfl (fun w1 he => ?_) ?_; rotate_left; ( have e1 := he.cell HS0.out; have e2 := he.cell HS1.out; have e5 := he.cell HC0.out; go_simp; rfl); simp only [Act.put, List.setIfInBounds_toArray, List.set_cons_zero, List.set_cons_succ])
    (refine LexW.pure (v := ?_) rfl rfl (fun w1 he => ?_) ?_; rotate_left; ( have e1 := he.cell HS0.out; have e2 := he.cell HS1.out; have e5 := he.cell HC0.out; go_simp; rfl); simp only [Act.put, List.setIfInBounds_toArray, List.set_cons_zero, List.set_cons_succ])
    (refine LexW.pure (v := ?_) rfl rfl (fun w1 he => ?_) ?_; rotate_left; ( have e1 := he.cell HS0.out; have e2 := he.cell HS1.out; have e5 := he.cell HC0.out; go_simp; rfl); simp only [Act.put, List.setIfInBounds_toArray, List.set_cons_zero, List.set_cons_succ])
    (refine LexW.pure (v := ?_) rfl rfl (fun w1 he => ?_) ?_; rotate_left; ( have e1 := he.cell HS0.out; have e2 := he.cell HS1.out; have e5 := he.cell HC0.out; go_simp; rfl); simp only [Act.put, List.setIfInBounds_toArray, List.set_cons_zero, List.set_cons_succ])
    (refine LexW.pure (v := ?_) rfl rfl (fun w1 he => ?_) ?_; rotate_left; ( have e1 := he.cell HS0.out; have e2 := he.cell HS1.out; have e5 := he.cell HC0.out; go_simp; rfl); simp only [Act.put, List.setIfInBounds_toArray, List.set_cons_zero, List.set_cons_succ])
    (refine LexW.pure (v := ?_) rfl rfl (fun w1 he => ?_) ?_; rotate_left; ( have e1 := he.cell HS0.out; have e2 := he.cell HS1.out; have e5 := he.cell HC0.out; go_simp; rfl); simp only [Act.put, List.setIfInBounds_toArray, List.set_cons_zero, List.set_cons_succ])
    (refine LexW.call (f := ?_) (args := ?_) rfl rfl (fun w1 => ?_) (fun w1 he hdep => ?_) ?_; rotate_left 2; (go_simp; refine ⟨?_, ?_⟩ <;> rfl); ( exact c_dim _ _ _ _ _); simp only [Act.put, List.setIfInBounds_toArray, List.set_cons_zero, List.set_cons_succ])
    (refine LexW.pure (v := ?_) rfl rfl (fun w1 he => ?_) ?_; rotate_left; ( have e1 := he.cell HS0.out; have e2 := he.cell HS1.out; have e5 := he.cell HC0.out; go_simp; rfl); simp only [Act.put, List.setIfInBounds_toArray, List.set_cons_zero, List.set_cons_succ])
    (refine LexW.pure (v := ?_) rfl rfl (fun w1 he => ?_) ?_; rotate_left; ( have e1 := he.cell HS0.out; have e2 := he.cell HS1.out; have e5 := he.cell HC0.out; go_simp; rfl); simp only [Act.put, List.setIfInBounds_toArray, List.set_cons_zero, List.set_cons_succ])
    (refine LexW.pure (v := ?_) rfl rfl (fun w1 he => ?_) ?_; rotate_left; ( have e1 := he.cell HS0.out; have e2 := he.cell HS1.out; have e5 := he.cell HC0.out; go_simp; rfl); simp only [Act.put, List.setIfInBounds_toArray, List.set_cons_zero, List.set_cons_succ])
    refine LexW.nil (fun w3 he hkn => ?_)
    have HE := Lib.hid (GW.out.trans he)
    clear he hkn 
    go_wp2_with (fail)
    go_ret
    exact ⟨ret_bool HB.out.symm, HE.out⟩
  · obtain rfl : mw = n1 := by omega
    have HB := Lib.hid (frame_yes HMT.out HLN.out HW0.out)
    clear hwd
    refine wp_region_lex [(1, .val (.int .i64 p)), (3, .val (.bool true)), (8, .val (.int .i64 mw)), (17, .val (.int .i64 mw))] (by kernel_rfl) (by kernel_rfl) ?_
    (refine LexW.pure (v := ?_) rfl rfl (fun w1 he => ?_) ?_; rotate_left; ( have e1 := he.cell HS0.out; have e2 := he.cell HS1.out; have e5 := he.cell HC0.out; go_simp; rfl); simp only [Act.put, List.setIfInBounds_toArray, List.set_cons_zero, List.set_cons_succ])
    (refine LexW.call (f := ?_) (args := ?_) rfl rfl (fun w1 => ?_) (fun w1 he hdep => ?_) ?_; rotate_left 2; (go_simp; refine ⟨?_, ?_⟩ <;> rfl); ( exact c_field p _ w1); simp only [Act.put, List.setIfInBounds_toArray, List.set_cons_zero, List.set_cons_succ])
    (refine LexW.pure (v := ?_) rfl rfl (fun w1 he => ?_) ?_; rotate_left; ( have e1 := he.cell HS0.out; have e2 := he.cell HS1.out; have e5 := he.cell HC0.out; go_simp; rfl); simp only [Act.put, List.setIfInBounds_toArray, List.set_cons_zero, List.set_cons_succ])
    (refine LexW.call (f := ?_) (args := ?_) rfl rfl (fun w1 => ?_) (fun w1 he hdep => ?_) ?_; rotate_left 2; (go_simp; refine ⟨?_, ?_⟩ <;> rfl); ( rw [← HMT.out]; exact c_isMatrix p _ mw cx1 xs1 w1 (by omega) (by omega) hn1 HR.out (HX.out.ext (GW.out.trans he))); simp only [Act.put, List.setIfInBounds_toArray, List.set_cons_zero, List.set_cons_succ])
    (refine LexW.pure (v := ?_) rfl rfl (fun w1 he => ?_) ?_; rotate_left; ( have e1 := he.cell HS0.out; have e2 := he.cell HS1.out; have e5 := he.cell HC0.out; go_simp; rfl); simp only [Act.put, List.setIfInBounds_toArray, List.set_cons_zero, List.set_cons_succ])
    (refine LexW.pure (v := ?_) rfl rfl (fun w1 he => ?_) ?_; rotate_left; ( have e1 := he.cell HS0.out; have e2 := he.cell HS1.out; have e5 := he.cell HC0.out; go_simp; rfl); simp only [Act.put, List.setIfInBounds_toArray, List.set_cons_zero, List.set_cons_succ])
    (refine LexW.pure (v := ?_) rfl rfl (fun w1 he => ?_) ?_; rotate_left; ( have e1 := he.cell HS0.out; have e2 := he.cell HS1.out; have e5 := he.cell HC0.out; go_simp; rfl); simp only [Act.put, List.setIfInBounds_toArray, List.set_cons_zero, List.set_cons_succ])
    (refine LexW.pure (v := ?_) rfl rfl (fun w1 he => ?_) ?_; rotate_left; ( have e1 := he.cell HS0.out; have e2 := he.cell HS1.out; have e5 := he.cell HC0.out; go_simp; rfl); simp only [Act.put, List.setIfInBounds_toArray, List.set_cons_zero, List.set_cons_succ])
    (refine LexW.call (f := ?_) (args := ?_) rfl rfl (fun w1 => ?_) (fun w1 he hdep => ?_) ?_; rotate_left 2; (go_simp; refine ⟨?_, ?_⟩ <;> rfl); ( exact c_dim _ _ _ _ _); simp only [Act.put, List.setIfInBounds_toArray, List.set_cons_zero, List.set_cons_succ])
    (refine LexW.pure (v := ?_) rfl rfl (fun w1 he => ?_) ?_; rotate_left; ( have e1 := he.cell HS0.out; have e2 := he.cell HS1.out; have e5 := he.cell HC0.out; go_simp; rfl); simp only [Act.put, List.setIfInBounds_toArray, List.set_cons_zero, List.set_cons_succ])
    (refine LexW.pure (v := ?_) rfl rfl (fun w1 he => ?_) ?_; rotate_left; ( have e1 := he.cell HS0.out; have e2 := he.cell HS1.out; have e5 := he.cell HC0.out; go_simp; rfl); simp only [Act.put, List.setIfInBounds_toArray, List.set_cons_zero, List.set_cons_succ])
    (refine LexW.pure (v := ?_) rfl rfl (fun w1 he => ?_) ?_; rotate_left; ( have e1 := he.cell HS0.out; have e2 := he.cell HS1.out; have e5 := he.cell HC0.out; go_simp; rfl); simp only [Act.put, List.setIfInBounds_toArray, List.set_cons_zero, List.set_cons_succ])
    (refine LexW.pure (v := ?_) rfl rfl (fun w1 he => ?_) ?_; rotate_left; ( have e1 := he.cell HS0.out; have e2 := he.cell HS1.out; have e5 := he.cell HC0.out; go_simp; rfl); simp only [Act.put, List.setIfInBounds_toArray, List.set_cons_zero, List.set_cons_succ])
    (refine LexW.pure (v := ?_) rfl rfl (fun w1 he => ?_) ?_; rotate_left; ( have e1 := he.cell HS0.out; have e2 := he.cell HS1.out; have e5 := he.cell HC0.out; go_simp; rfl); simp only [Act.put, List.setIfInBounds_toArray, List.set_cons_zero, List.set_cons_succ])
    (refine LexW.pure (v := ?_) rfl rfl (fun w1 he => ?_) ?_; rotate_left; ( have e1 := he.cell HS0.out; have e2 := he.cell HS1.out; have e5 := he.cell HC0.out; go_simp; rfl); simp only [Act.put, List.setIfInBounds_toArray, List.set_cons_zero, List.set_cons_succ])
    (refine LexW.pure (v := ?_) rfl rfl (fun w1 he => ?_) ?_; rotate_left; ( have e1 := he.cell HS0.out; have e2 := he.cell HS1.out; have e5 := he.cell HC0.out; go_simp; rfl); simp only [Act.put, List.setIfInBounds_toArray, List.set_cons_zero, List.set_cons_succ])
    (refine LexW.pure (v := ?_) rfl rfl (fun w1 he => ?_) ?_; rotate_left; ( have e1 := he.cell HS0.out; have e2 := he.cell HS1.out; have e5 := he.cell HC0.out; go_simp; rfl); simp only [Act.put, List.setIfInBounds_toArray, List.set_cons_zero, List.set_cons_succ])
    (refine LexW.call (f := ?_) (args := ?_) rfl rfl (fun w1 => ?_) (fun w1 he hdep => ?_) ?_; rotate_left 2; (go_simp; refine ⟨?_, ?_⟩ <;> rfl); ( exact c_dim _ _ _ _ _); simp only [Act.put, List.setIfInBounds_toArray, List.set_cons_zero, List.set_cons_succ])
    (refine LexW.pure (v := ?_) rfl rfl (fun w1 he => ?_) ?_; rotate_left; ( have e1 := he.cell HS0.out; have e2 := he.cell HS1.out; have e5 := he.cell HC0.out; go_simp; rfl); simp only [Act.put, List.setIfInBounds_toArray, List.set_cons_zero, List.set_cons_succ])
    (refine LexW.pure (v := ?_) rfl rfl (fun w1 he => ?_) ?_; rotate_left; ( have e1 := he.cell HS0.out; have e2 := he.cell HS1.out; have e5 := he.cell HC0.out; go_simp; rfl); simp only [Act.put, List.setIfInBounds_toArray, List.set_cons_zero, List.set_cons_succ])
    (refine LexW.pure (v := ?_) rfl rfl (fun w1 he => ?_) ?_; rotate_left; ( have e1 := he.cell HS0.out; have e2 := he.cell HS1.out; have e5 := he.cell HC0.out; go_simp; rfl); simp only [Act.put, List.setIfInBounds_toArray, List.set_cons_zero, List.set_cons_succ])
    refine LexW.nil (fun w3 he hkn => ?_)
    have HE := Lib.hid (GW.out.trans he)
    clear he hkn 
    go_wp2_with (fail)
    go_ret
    exact ⟨ret_bool HB.out.symm, HE.out⟩
set_option maxHeartbeats 2000000 in
theorem c_checkFrame (p : Int) (a : Option Addr) (d cap : Nat) (qs : List Int) (ax1 : Option Addr) (n1 cx1 : Nat) (xs1 : List (List Int)) (w : World) (hd : d ≤ 4194304) (hn1 : n1 ≤ 4194304) (hr1 : ∀ i, i < n1 → (nthR xs1 i).length ≤ 4194304) (hq : RdC w a d qs) (hx1 : RdR w ax1 n1 xs1) :
    Calls Try.prog 53 #[.agg #[.int .i64 p, .slice a d cap], .slice ax1 n1 cx1] w fun e w' => e = .returned (.int .i64 (code10 p qs xs1)) ∧ Ext w w' := by
  have HQ := Lib.hid hq
  have HX := Lib.hid hx1
  have HR := Lib.hid hr1
  clear hq hx1 hr1
  go_enter Try.func53, Try.ntmps53
  go_wp2_with (fail)
  refine Calls.mono (c_isSpace p a d cap qs _ hd (HQ.out.ext (ext_alloc _ _))) ?_
  rintro e w1 ⟨rfl, g1⟩
  have G := Lib.hid ((ext_alloc w (.cells #[.int .i64 p, .slice a d cap] 30)).trans g1)
  have s0 : w1.cell? ⟨w.heap.size, 0, none⟩ = some (.int .i64 p) := g1.cell (by simp)
  have s1 : w1.cell? ⟨w.heap.size, 1, none⟩ = some (.slice a d cap) := g1.cell (by simp)
  clear g1
  cases hs : spaceB p qs
  · have HC := Lib.hid (code10_A (rows := xs1) hs)
    clear hs
    go_wp2_with (fail)
    go_ret
    exact ⟨ret_int HC.out.symm, G.out⟩
  have HS := Lib.hid hs
  have hpb := prime_bd (space_of hs).1
  have HD := Lib.hid HQ.out.1
  clear hs
  go_wp2_with (fail)
  refine Calls.mono (c_isFrame p a d cap qs ax1 n1 cx1 xs1 _ hd hn1 HR.out (HQ.out.ext G.out) (HX.out.ext G.out) (by omega) (by omega)) ?_
  rintro e w2 ⟨rfl, g2⟩
  replace s0 := g2.cell s0
  replace s1 := g2.cell s1
  replace G := Lib.hid (G.out.trans g2)
  clear g2
  cases hf : frameB p xs1 d
  · have HC := Lib.hid (code10_B (rows := xs1) HS.out (by rw [HD.out]; exact hf))
    clear hf
    go_wp2_with (fail)
    go_ret
    exact ⟨ret_int HC.out.symm, G.out⟩
  have HC := Lib.hid (code10_C (rows := xs1) HS.out (by rw [HD.out]; exact hf))
  clear hf
  go_wp2_with (fail)
  refine Calls.mono (c_regular p a d cap qs _ hd (HQ.out.ext G.out)) ?_
  rintro e w3 ⟨rfl, g3⟩
  replace G := Lib.hid (G.out.trans g3)
  clear g3 s0 s1
  cases hrg : regB qs
  · have HI := Lib.hid hrg
    clear hrg
    go_wp2_with (fail)
    go_ret
    exact ⟨ret_int (by rw [HC.out, HI.out]; rfl), G.out⟩
  · have HI := Lib.hid hrg
    clear hrg
    go_wp2_with (fail)
    go_ret
    exact ⟨ret_int (by rw [HC.out, HI.out]; rfl), G.out⟩

set_option maxHeartbeats 4000000 in
theorem s_shape (p : Int) (a : Option Addr) (d cap : Nat) (qs : List Int) (ax1 : Option Addr) (n1 cx1 : Nat) (xs1 : List (List Int)) (w : World) (hd : d ≤ 4194304) (hn1 : n1 ≤ 4194304) (hr1 : ∀ i, i < n1 → (nthR xs1 i).length ≤ 4194304) (hq : RdC w a d qs) (hx1 : RdR w ax1 n1 xs1) :
    Calls Try.prog 50 #[.agg #[.int .i64 p, .slice a d cap], .slice ax1 n1 cx1] w fun e w' => e = .returned (.int .i64 (code10 p qs xs1)) ∧ Ext w w' := by
  have HQ := Lib.hid hq
  have HX := Lib.hid hx1
  have HR := Lib.hid hr1
  have HLN := Lib.hid hx1.1
  clear hq hx1 hr1
  go_enter Try.func50, Try.ntmps50
  go_wp2_with (fail)
  refine Calls.mono (s_is p a d cap qs _ hd (HQ.out.ext (ext_alloc _ _))) ?_
  rintro e w1 ⟨rfl, g1⟩
  have G := Lib.hid ((ext_alloc w (.cells #[.int .i64 p, .slice a d cap] 30)).trans g1)
  have s0 : w1.cell? ⟨w.heap.size, 0, none⟩ = some (.int .i64 p) := g1.cell (by simp)
  have s1 : w1.cell? ⟨w.heap.size, 1, none⟩ = some (.slice a d cap) := g1.cell (by simp)
  clear g1
  cases hs : spaceB p qs
  · have HC := Lib.hid (code10_A (rows := xs1) hs)
    clear hs
    go_wp2_with (fail)
    go_ret
    exact ⟨ret_int HC.out.symm, G.out⟩
  have HS := Lib.hid hs
  obtain ⟨hpr, _, hd6, hqb⟩ := space_of hs
  have hpb := prime_bd hpr
  have HPR := Lib.hid hpr
  have HQB := Lib.hid hqb
  have HDZ := Lib.hid (disc_reg hpr hqb)
  have HD := Lib.hid HQ.out.1
  rw [HD.out] at hd6
  clear hs hpr hqb
  go_wp2_with (fail)
  refine Calls.mono (s_isMat p ax1 n1 cx1 xs1 _ HPR.out hn1 HR.out (HX.out.ext G.out)) ?_
  rintro e w2 ⟨rfl, g2⟩
  replace s0 := g2.cell s0
  replace s1 := g2.cell s1
  replace G := Lib.hid (G.out.trans g2)
  clear g2
  cases hmt : matB p xs1
  · have HC := Lib.hid (code10_B (rows := xs1) HS.out (frame_mat hmt))
    clear hmt
    go_wp2_with (fail)
    go_ret
    exact ⟨ret_int HC.out.symm, G.out⟩
  have HMT := Lib.hid hmt
  obtain ⟨hn0, hn16, mw, hmw1, hmw16, hmg⟩ := matB_of hmt
  rw [HLN.out] at hn0 hn16
  clear hmt
  by_cases hnd : n1 ≠ d
  · have HC := Lib.hid (code10_B (rows := xs1) HS.out (frame_len (by rw [HLN.out, HD.out]; exact hnd)))
    have hne : ((n1 : Int) != (d : Int)) = true := by simp; omega
    clear hmg hnd
    go_wp2_with (fail)
    go_ret
    exact ⟨ret_int HC.out.symm, G.out⟩
  obtain rfl : n1 = d := by omega
  have hnn : ((n1 : Int) != (n1 : Int)) = false := by simp
  obtain ⟨bm, om, am0, cm0, rfl, hc0, _⟩ := HX.out.2 0 hn0
  have HC0 := Lib.hid (G.out.cell hc0)
  rw [Nat.add_zero] at HC0
  have HW0 := Lib.hid ((hmg 0 (by rw [HLN.out]; exact hn0)).1)
  rw [HW0.out] at HC0
  have e5 := HC0.out
  clear hc0 hnd hmg HC0
  by_cases hwd : mw ≠ n1
  · have HC := Lib.hid (code10_B (rows := xs1) HS.out (frame_wid (by rw [HW0.out, HD.out]; exact hwd)))
    have hne : ((mw : Int) != (n1 : Int)) = true := by simp; omega
    clear hwd
    go_wp2_with (fail)
    go_ret
    exact ⟨ret_int HC.out.symm, G.out⟩
  obtain rfl : mw = n1 := by omega
  have HC := Lib.hid (code10_C (rows := xs1) HS.out (frame_yes HMT.out (by rw [HLN.out, HD.out]) (by rw [HW0.out, HD.out])))
  clear hwd
  go_wp2_with (fail)
  refine Calls.mono (s_disc p a mw cap qs _ (by omega) (by omega) (by omega) (HQ.out.ext G.out) HQB.out) ?_
  rintro e w3 ⟨rfl, g3⟩
  replace G := Lib.hid (G.out.trans g3)
  clear g3 s0 s1 e5
  obtain ⟨dz, hdz⟩ : ∃ x, x = discL p qs := ⟨_, rfl⟩
  rw [← hdz] at HDZ ⊢
  clear hdz
  cases hrg : regB qs
  · have hz : (dz == 0) = true := by rw [HDZ.out, hrg]; rfl
    have HI := Lib.hid hrg
    clear hrg
    go_wp2_with (fail)
    go_ret
    exact ⟨ret_int (by rw [HC.out, HI.out]; rfl), G.out⟩
  · have hz : (dz == 0) = false := by rw [HDZ.out, hrg]; rfl
    have HI := Lib.hid hrg
    clear hrg
    go_wp2_with (fail)
    go_ret
    exact ⟨ret_int (by rw [HC.out, HI.out]; rfl), G.out⟩
end Go.Proofs.Ytnabpmafcflljaa
