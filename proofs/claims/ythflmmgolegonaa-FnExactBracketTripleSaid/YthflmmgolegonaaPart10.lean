/-
  Contracts and plain laws, part 10: BrkCs.
  No condition.
-/
import Derived.Test.YthflmmgolegonaaPart9
import Derived.Test.YthflmmgolegonaaPart8
import Derived.Maps.AppendAt
/-
  The checks of two triples of matrices, on both sides.
  No condition.
-/
namespace Go.Proofs.Ythflmmgolegonaa
set_option maxRecDepth 100000
open Go.RowKit

theorem code15_yes {p : Int} {st : List Int} {M0 M1 M2 M3 M4 M5 : List (List Int)} {d : Nat} (h : codeD p st = 0) (hd : st.length = d) (h0 : matE p d M0 = true) (h1 : matE p d M1 = true) (h2 : matE p d M2 = true) (h3 : matE p d M3 = true) (h4 : matE p d M4 = true) (h5 : matE p d M5 = true) : code14 p st [M0, M1, M2, M3, M4, M5] = 0 := by
  rw [code14_B h, hd]; simp [h0, h1, h2, h3, h4, h5]
theorem code15_no {p : Int} {st : List Int} {M0 M1 M2 M3 M4 M5 : List (List Int)} {d : Nat} (h : codeD p st = 0) (hd : st.length = d) (h0 : matE p d M0 = false ∨ matE p d M1 = false ∨ matE p d M2 = false ∨ matE p d M3 = false ∨ matE p d M4 = false ∨ matE p d M5 = false) : code14 p st [M0, M1, M2, M3, M4, M5] = 2 := by
  rw [code14_B h, hd]
  rcases h0 with h0 | h0 | h0 | h0 | h0 | h0 <;> simp [h0]
set_option maxHeartbeats 60000000 in
set_option maxRecDepth 100000 in
theorem s_code15 (p : Int) (a : Option Addr) (d cap : Nat) (st : List Int) (gL cL : Nat) (a0 : Option Addr) (n0 c0 : Nat) (M0 : List (List Int)) (a1 : Option Addr) (n1 c1 : Nat) (M1 : List (List Int)) (a2 : Option Addr) (n2 c2 : Nat) (M2 : List (List Int)) (a3 : Option Addr) (n3 c3 : Nat) (M3 : List (List Int)) (a4 : Option Addr) (n4 c4 : Nat) (M4 : List (List Int)) (a5 : Option Addr) (n5 c5 : Nat) (M5 : List (List Int)) (w : World) (hd : d ≤ 4194304) (hn0 : n0 ≤ 4194303) (hr0 : ∀ i, i < n0 → (nthR M0 i).length ≤ 4194303) (hn1 : n1 ≤ 4194303) (hr1 : ∀ i, i < n1 → (nthR M1 i).length ≤ 4194303) (hn2 : n2 ≤ 4194303) (hr2 : ∀ i, i < n2 → (nthR M2 i).length ≤ 4194303) (hn3 : n3 ≤ 4194303) (hr3 : ∀ i, i < n3 → (nthR M3 i).length ≤ 4194303) (hn4 : n4 ≤ 4194303) (hr4 : ∀ i, i < n4 → (nthR M4 i).length ≤ 4194303) (hn5 : n5 ≤ 4194303) (hr5 : ∀ i, i < n5 → (nthR M5 i).length ≤ 4194303) (hq : RdC w a d st) (hx0 : RdR w a0 n0 M0) (hx1 : RdR w a1 n1 M1) (hx2 : RdR w a2 n2 M2) (hx3 : RdR w a3 n3 M3) (hx4 : RdR w a4 n4 M4) (hx5 : RdR w a5 n5 M5) (hc0 : w.cell? ⟨gL, 0, none⟩ = some (.slice a0 n0 c0)) (hc1 : w.cell? ⟨gL, 1, none⟩ = some (.slice a1 n1 c1)) (hc2 : w.cell? ⟨gL, 2, none⟩ = some (.slice a2 n2 c2)) (hc3 : w.cell? ⟨gL, 3, none⟩ = some (.slice a3 n3 c3)) (hc4 : w.cell? ⟨gL, 4, none⟩ = some (.slice a4 n4 c4)) (hc5 : w.cell? ⟨gL, 5, none⟩ = some (.slice a5 n5 c5)) :
    Calls Try.prog 43 #[.agg #[.int .i64 p, .slice a d cap], .slice (some ⟨gL, 0, none⟩) 2 cL] w fun e w' => e = .returned (.int .i64 (code14 p st [M0, M1, M2, M3, M4, M5])) ∧ Ext w w' := by
  have HQL := Lib.hid hq.1
  have HRL0 := Lib.hid hr0
  have HRL1 := Lib.hid hr1
  have HRL2 := Lib.hid hr2
  have HRL3 := Lib.hid hr3
  have HRL4 := Lib.hid hr4
  have HRL5 := Lib.hid hr5
  clear hr0 hr1 hr2 hr3 hr4 hr5
  obtain ⟨W, hW⟩ : ∃ W, W = w.alloc (.cells #[.int .i64 p, .slice a d cap] 30) := ⟨_, rfl⟩
  have E : Hid (Ext w W) := Lib.hid (by rw [hW]; exact ext_alloc _ _)
  have C0 : Hid (W.cell? ⟨w.heap.size, 0, none⟩ = some (.int .i64 p)) := Lib.hid (by rw [hW]; simp)
  have C1 : Hid (W.cell? ⟨w.heap.size, 1, none⟩ = some (.slice a d cap)) := Lib.hid (by rw [hW]; simp)
  have HZ : Hid (W.heap.size = w.heap.size + 1) := Lib.hid (by rw [hW]; simp)
  have HW := Lib.hid hW
  clear hW
  have HQ := Lib.hid (hq.ext E.out)
  have HX0 := Lib.hid (hx0.ext E.out)
  have HX1 := Lib.hid (hx1.ext E.out)
  have HX2 := Lib.hid (hx2.ext E.out)
  have HX3 := Lib.hid (hx3.ext E.out)
  have HX4 := Lib.hid (hx4.ext E.out)
  have HX5 := Lib.hid (hx5.ext E.out)
  clear hq hx0 hx1 hx2 hx3 hx4 hx5
  have K0 := Lib.hid (E.out.cell hc0)
  have K1 := Lib.hid (E.out.cell hc1)
  have K2 := Lib.hid (E.out.cell hc2)
  have K3 := Lib.hid (E.out.cell hc3)
  have K4 := Lib.hid (E.out.cell hc4)
  have K5 := Lib.hid (E.out.cell hc5)
  clear hc0 hc1 hc2 hc3 hc4 hc5
  go_enter Try.func43, Try.ntmps43
  have x00 := C0.out
  have x01 := C1.out
  go_wp2_with (fail)
  clear x00 x01
  rw [← HW.out]
  clear HW
  refine Calls.mono (s_code14 p a d cap st W hd HQ.out) ?_
  rintro e v1 ⟨rfl, gg⟩
  replace E := Lib.hid (E.out.trans gg)
  replace HQ := Lib.hid (HQ.out.ext gg)
  replace HX0 := Lib.hid (HX0.out.ext gg)
  replace HX1 := Lib.hid (HX1.out.ext gg)
  replace HX2 := Lib.hid (HX2.out.ext gg)
  replace HX3 := Lib.hid (HX3.out.ext gg)
  replace HX4 := Lib.hid (HX4.out.ext gg)
  replace HX5 := Lib.hid (HX5.out.ext gg)
  replace C0 := Lib.hid (gg.cell (p := ⟨w.heap.size, 0, none⟩) C0.out)
  replace C1 := Lib.hid (gg.cell (p := ⟨w.heap.size, 1, none⟩) C1.out)
  replace K0 := Lib.hid (gg.cell K0.out)
  replace K1 := Lib.hid (gg.cell K1.out)
  replace K2 := Lib.hid (gg.cell K2.out)
  replace K3 := Lib.hid (gg.cell K3.out)
  replace K4 := Lib.hid (gg.cell K4.out)
  replace K5 := Lib.hid (gg.cell K5.out)
  clear gg
  obtain ⟨cc, hcc⟩ : ∃ x, x = codeD p st := ⟨_, rfl⟩
  rw [← hcc]
  have HCC := Lib.hid hcc
  clear hcc
  by_cases hc : cc ≠ 0
  · have hcb : (cc != 0) = true := by simp [hc]
    have HK := Lib.hid ((code14_A (ms := [M0, M1, M2, M3, M4, M5]) (by rw [← HCC.out]; exact hc)).trans HCC.out.symm)
    clear hc
    go_wp2_with (fail)
    go_ret
    exact ⟨ret_int HK.out.symm, E.out⟩
  obtain rfl : cc = 0 := by omega
  obtain ⟨hs, h3⟩ := codeD_zero HCC.out.symm
  rw [HQL.out] at h3
  have hpb := prime_bd (doub_of hs).1
  clear hc hs
  have x00 := C0.out
  have x01 := C1.out
  go_wp2_with (fail)
  clear x00 x01
  go_loopw [6] (fun i wr => ∃ k : Nat, k ≤ 2 ∧ i = .int .i64 k ∧ Hid (1 ≤ k → matE p d M0 = true ∧ matE p d M1 = true ∧ matE p d M2 = true) ∧ Hid (2 ≤ k → matE p d M3 = true ∧ matE p d M4 = true ∧ matE p d M5 = true) ∧ Hid (Ext v1 wr)) (fun i _ => 2 - (intOf i).toNat)
  case atStart => exact ⟨0, Nat.zero_le _, rfl, Lib.hid (fun h => by omega), Lib.hid (fun h => by omega), Lib.hid (Ext.refl _)⟩
  case round =>
    rename World => wr
    obtain ⟨k, hk, rfl, HT1, HT2, HE⟩ := hrel
    have hk2 : k = 0 ∨ k = 1 ∨ k = 2 := by omega
    rcases hk2 with rfl | rfl | rfl
    · skip
      replace E := Lib.hid (E.out.trans HE.out)
      replace HX0 := Lib.hid (HX0.out.ext HE.out)
      replace HX1 := Lib.hid (HX1.out.ext HE.out)
      replace HX2 := Lib.hid (HX2.out.ext HE.out)
      replace C0 := Lib.hid (HE.out.cell (p := ⟨w.heap.size, 0, none⟩) C0.out)
      replace C1 := Lib.hid (HE.out.cell (p := ⟨w.heap.size, 1, none⟩) C1.out)
      replace K0 := Lib.hid (HE.out.cell K0.out)
      replace K1 := Lib.hid (HE.out.cell K1.out)
      replace K2 := Lib.hid (HE.out.cell K2.out)
      obtain ⟨b0, hb0⟩ : ∃ b, b = matE p d M0 := ⟨_, rfl⟩
      have HB0 := Lib.hid hb0.symm
      clear hb0
      obtain ⟨b1, hb1⟩ : ∃ b, b = matE p d M1 := ⟨_, rfl⟩
      have HB1 := Lib.hid hb1.symm
      clear hb1
      obtain ⟨b2, hb2⟩ : ∃ b, b = matE p d M2 := ⟨_, rfl⟩
      have HB2 := Lib.hid hb2.symm
      clear hb2
      clear HQ HX3 K3 HRL3 hn3 HX4 K4 HRL4 hn4 HX5 K5 HRL5 hn5
      cases b0 with
      | false =>
        have x00 := C0.out
        have x01 := C1.out
        go_wp2_with (fail)
        clear x00 x01
        replace E := Lib.hid (E.out.trans (ext_drew wr))
        replace HX0 := Lib.hid (HX0.out.ext (ext_drew wr))
        replace HX1 := Lib.hid (HX1.out.ext (ext_drew wr))
        replace HX2 := Lib.hid (HX2.out.ext (ext_drew wr))
        replace C0 := Lib.hid ((ext_drew wr).cell (p := ⟨w.heap.size, 0, none⟩) C0.out)
        replace C1 := Lib.hid ((ext_drew wr).cell (p := ⟨w.heap.size, 1, none⟩) C1.out)
        replace K0 := Lib.hid ((ext_drew wr).cell K0.out)
        replace K1 := Lib.hid ((ext_drew wr).cell K1.out)
        replace K2 := Lib.hid ((ext_drew wr).cell K2.out)
        refine wp_region_lex [(6, .val (.bool false))] (by kernel_rfl) (by kernel_rfl) ?_
        (refine LexW.pure (v := ?_) rfl rfl (fun w1 he => ?_) ?_; rotate_left; ( have x00 := (he.cell (p := ⟨w.heap.size, 0, none⟩) C0.out); have x01 := (he.cell (p := ⟨w.heap.size, 1, none⟩) C1.out); have e0 := he.cell K0.out; have e1 := he.cell K1.out; have e2 := he.cell K2.out; go_simp; rfl); simp only [Act.put, List.setIfInBounds_toArray, List.set_cons_zero, List.set_cons_succ])
        (refine LexW.pure (v := ?_) rfl rfl (fun w1 he => ?_) ?_; rotate_left; ( have x00 := (he.cell (p := ⟨w.heap.size, 0, none⟩) C0.out); have x01 := (he.cell (p := ⟨w.heap.size, 1, none⟩) C1.out); have e0 := he.cell K0.out; have e1 := he.cell K1.out; have e2 := he.cell K2.out; go_simp; rfl); simp only [Act.put, List.setIfInBounds_toArray, List.set_cons_zero, List.set_cons_succ])
        (refine LexW.pure (v := ?_) rfl rfl (fun w1 he => ?_) ?_; rotate_left; ( have x00 := (he.cell (p := ⟨w.heap.size, 0, none⟩) C0.out); have x01 := (he.cell (p := ⟨w.heap.size, 1, none⟩) C1.out); have e0 := he.cell K0.out; have e1 := he.cell K1.out; have e2 := he.cell K2.out; go_simp; rfl); simp only [Act.put, List.setIfInBounds_toArray, List.set_cons_zero, List.set_cons_succ])
        (refine LexW.pure (v := ?_) rfl rfl (fun w1 he => ?_) ?_; rotate_left; ( have x00 := (he.cell (p := ⟨w.heap.size, 0, none⟩) C0.out); have x01 := (he.cell (p := ⟨w.heap.size, 1, none⟩) C1.out); have e0 := he.cell K0.out; have e1 := he.cell K1.out; have e2 := he.cell K2.out; go_simp; rfl); simp only [Act.put, List.setIfInBounds_toArray, List.set_cons_zero, List.set_cons_succ])
        (refine LexW.pure (v := ?_) rfl rfl (fun w1 he => ?_) ?_; rotate_left; ( have x00 := (he.cell (p := ⟨w.heap.size, 0, none⟩) C0.out); have x01 := (he.cell (p := ⟨w.heap.size, 1, none⟩) C1.out); have e0 := he.cell K0.out; have e1 := he.cell K1.out; have e2 := he.cell K2.out; go_simp; rfl); simp only [Act.put, List.setIfInBounds_toArray, List.set_cons_zero, List.set_cons_succ])
        (refine LexW.pure (v := ?_) rfl rfl (fun w1 he => ?_) ?_; rotate_left; ( have x00 := (he.cell (p := ⟨w.heap.size, 0, none⟩) C0.out); have x01 := (he.cell (p := ⟨w.heap.size, 1, none⟩) C1.out); have e0 := he.cell K0.out; have e1 := he.cell K1.out; have e2 := he.cell K2.out; go_simp; rfl); simp only [Act.put, List.setIfInBounds_toArray, List.set_cons_zero, List.set_cons_succ])
        (refine LexW.call (f := ?_) (args := ?_) rfl rfl (fun w1 => ?_) (fun w1 he hdep => ?_) ?_; rotate_left 2; (go_simp; refine ⟨?_, ?_⟩ <;> rfl); ( have H := s_matrix14 p a d cap a0 n0 c0 M0 w1 (by omega) (by omega) (by omega) (by omega) HRL0.out (HX0.out.ext he); rw [HB0.out] at H; exact H); simp only [Act.put, List.setIfInBounds_toArray, List.set_cons_zero, List.set_cons_succ])
        (refine LexW.pure (v := ?_) rfl rfl (fun w1 he => ?_) ?_; rotate_left; ( have x00 := (he.cell (p := ⟨w.heap.size, 0, none⟩) C0.out); have x01 := (he.cell (p := ⟨w.heap.size, 1, none⟩) C1.out); have e0 := he.cell K0.out; have e1 := he.cell K1.out; have e2 := he.cell K2.out; go_simp; rfl); simp only [Act.put, List.setIfInBounds_toArray, List.set_cons_zero, List.set_cons_succ])
        (refine LexW.pure (v := ?_) rfl rfl (fun w1 he => ?_) ?_; rotate_left; ( have x00 := (he.cell (p := ⟨w.heap.size, 0, none⟩) C0.out); have x01 := (he.cell (p := ⟨w.heap.size, 1, none⟩) C1.out); have e0 := he.cell K0.out; have e1 := he.cell K1.out; have e2 := he.cell K2.out; go_simp; rfl); simp only [Act.put, List.setIfInBounds_toArray, List.set_cons_zero, List.set_cons_succ])
        (refine LexW.skip rfl rfl ?_; simp only [Act.put, List.setIfInBounds_toArray, List.set_cons_zero, List.set_cons_succ])
        (refine LexW.skip rfl rfl ?_; simp only [Act.put, List.setIfInBounds_toArray, List.set_cons_zero, List.set_cons_succ])
        (refine LexW.skip rfl rfl ?_; simp only [Act.put, List.setIfInBounds_toArray, List.set_cons_zero, List.set_cons_succ])
        (refine LexW.skip rfl rfl ?_; simp only [Act.put, List.setIfInBounds_toArray, List.set_cons_zero, List.set_cons_succ])
        (refine LexW.skip rfl rfl ?_; simp only [Act.put, List.setIfInBounds_toArray, List.set_cons_zero, List.set_cons_succ])
        (refine LexW.skip rfl rfl ?_; simp only [Act.put, List.setIfInBounds_toArray, List.set_cons_zero, List.set_cons_succ])
        (refine LexW.skip rfl rfl ?_; simp only [Act.put, List.setIfInBounds_toArray, List.set_cons_zero, List.set_cons_succ])
        (refine LexW.skip rfl rfl ?_; simp only [Act.put, List.setIfInBounds_toArray, List.set_cons_zero, List.set_cons_succ])
        (refine LexW.pure (v := ?_) rfl rfl (fun w1 he => ?_) ?_; rotate_left; ( have x00 := (he.cell (p := ⟨w.heap.size, 0, none⟩) C0.out); have x01 := (he.cell (p := ⟨w.heap.size, 1, none⟩) C1.out); have e0 := he.cell K0.out; have e1 := he.cell K1.out; have e2 := he.cell K2.out; go_simp; rfl); simp only [Act.put, List.setIfInBounds_toArray, List.set_cons_zero, List.set_cons_succ])
        (refine LexW.pure (v := ?_) rfl rfl (fun w1 he => ?_) ?_; rotate_left; ( have x00 := (he.cell (p := ⟨w.heap.size, 0, none⟩) C0.out); have x01 := (he.cell (p := ⟨w.heap.size, 1, none⟩) C1.out); have e0 := he.cell K0.out; have e1 := he.cell K1.out; have e2 := he.cell K2.out; go_simp; rfl); simp only [Act.put, List.setIfInBounds_toArray, List.set_cons_zero, List.set_cons_succ])
        (refine LexW.skip rfl rfl ?_; simp only [Act.put, List.setIfInBounds_toArray, List.set_cons_zero, List.set_cons_succ])
        (refine LexW.skip rfl rfl ?_; simp only [Act.put, List.setIfInBounds_toArray, List.set_cons_zero, List.set_cons_succ])
        (refine LexW.skip rfl rfl ?_; simp only [Act.put, List.setIfInBounds_toArray, List.set_cons_zero, List.set_cons_succ])
        (refine LexW.skip rfl rfl ?_; simp only [Act.put, List.setIfInBounds_toArray, List.set_cons_zero, List.set_cons_succ])
        (refine LexW.skip rfl rfl ?_; simp only [Act.put, List.setIfInBounds_toArray, List.set_cons_zero, List.set_cons_succ])
        (refine LexW.skip rfl rfl ?_; simp only [Act.put, List.setIfInBounds_toArray, List.set_cons_zero, List.set_cons_succ])
        (refine LexW.skip rfl rfl ?_; simp only [Act.put, List.setIfInBounds_toArray, List.set_cons_zero, List.set_cons_succ])
        (refine LexW.skip rfl rfl ?_; simp only [Act.put, List.setIfInBounds_toArray, List.set_cons_zero, List.set_cons_succ])
        (refine LexW.pure (v := ?_) rfl rfl (fun w1 he => ?_) ?_; rotate_left; ( have x00 := (he.cell (p := ⟨w.heap.size, 0, none⟩) C0.out); have x01 := (he.cell (p := ⟨w.heap.size, 1, none⟩) C1.out); have e0 := he.cell K0.out; have e1 := he.cell K1.out; have e2 := he.cell K2.out; go_simp; rfl); simp only [Act.put, List.setIfInBounds_toArray, List.set_cons_zero, List.set_cons_succ])
        refine LexW.nil (fun w3 he hkn => ?_)
        have HE := Lib.hid he
        have XZ := Lib.hid ((ext_drew wr).trans he)
        clear he hkn 
        rename World => v2
        replace E := Lib.hid (E.out.trans HE.out)
        replace HX0 := Lib.hid (HX0.out.ext HE.out)
        replace HX1 := Lib.hid (HX1.out.ext HE.out)
        replace HX2 := Lib.hid (HX2.out.ext HE.out)
        replace C0 := Lib.hid (HE.out.cell (p := ⟨w.heap.size, 0, none⟩) C0.out)
        replace C1 := Lib.hid (HE.out.cell (p := ⟨w.heap.size, 1, none⟩) C1.out)
        replace K0 := Lib.hid (HE.out.cell K0.out)
        replace K1 := Lib.hid (HE.out.cell K1.out)
        replace K2 := Lib.hid (HE.out.cell K2.out)
        clear HE
        go_wp2_with (fail)
        go_ret
        exact ⟨ret_int (code15_no HCC.out.symm HQL.out (.inl HB0.out)).symm, E.out⟩
      | true =>
        cases b1 with
        | false =>
          have x00 := C0.out
          have x01 := C1.out
          go_wp2_with (fail)
          clear x00 x01
          replace E := Lib.hid (E.out.trans (ext_drew wr))
          replace HX0 := Lib.hid (HX0.out.ext (ext_drew wr))
          replace HX1 := Lib.hid (HX1.out.ext (ext_drew wr))
          replace HX2 := Lib.hid (HX2.out.ext (ext_drew wr))
          replace C0 := Lib.hid ((ext_drew wr).cell (p := ⟨w.heap.size, 0, none⟩) C0.out)
          replace C1 := Lib.hid ((ext_drew wr).cell (p := ⟨w.heap.size, 1, none⟩) C1.out)
          replace K0 := Lib.hid ((ext_drew wr).cell K0.out)
          replace K1 := Lib.hid ((ext_drew wr).cell K1.out)
          replace K2 := Lib.hid ((ext_drew wr).cell K2.out)
          refine wp_region_lex [(6, .val (.bool true)), (15, .val (.bool false))] (by kernel_rfl) (by kernel_rfl) ?_
          (refine LexW.pure (v := ?_) rfl rfl (fun w1 he => ?_) ?_; rotate_left; ( have x00 := (he.cell (p := ⟨w.heap.size, 0, none⟩) C0.out); have x01 := (he.cell (p := ⟨w.heap.size, 1, none⟩) C1.out); have e0 := he.cell K0.out; have e1 := he.cell K1.out; have e2 := he.cell K2.out; go_simp; rfl); simp only [Act.put, List.setIfInBounds_toArray, List.set_cons_zero, List.set_cons_succ])
          (refine LexW.pure (v := ?_) rfl rfl (fun w1 he => ?_) ?_; rotate_left; ( have x00 := (he.cell (p := ⟨w.heap.size, 0, none⟩) C0.out); have x01 := (he.cell (p := ⟨w.heap.size, 1, none⟩) C1.out); have e0 := he.cell K0.out; have e1 := he.cell K1.out; have e2 := he.cell K2.out; go_simp; rfl); simp only [Act.put, List.setIfInBounds_toArray, List.set_cons_zero, List.set_cons_succ])
          (refine LexW.pure (v := ?_) rfl rfl (fun w1 he => ?_) ?_; rotate_left; ( have x00 := (he.cell (p := ⟨w.heap.size, 0, none⟩) C0.out); have x01 := (he.cell (p := ⟨w.heap.size, 1, none⟩) C1.out); have e0 := he.cell K0.out; have e1 := he.cell K1.out; have e2 := he.cell K2.out; go_simp; rfl); simp only [Act.put, List.setIfInBounds_toArray, List.set_cons_zero, List.set_cons_succ])
          (refine LexW.pure (v := ?_) rfl rfl (fun w1 he => ?_) ?_; rotate_left; ( have x00 := (he.cell (p := ⟨w.heap.size, 0, none⟩) C0.out); have x01 := (he.cell (p := ⟨w.heap.size, 1, none⟩) C1.out); have e0 := he.cell K0.out; have e1 := he.cell K1.out; have e2 := he.cell K2.out; go_simp; rfl); simp only [Act.put, List.setIfInBounds_toArray, List.set_cons_zero, List.set_cons_succ])
          (refine LexW.pure (v := ?_) rfl rfl (fun w1 he => ?_) ?_; rotate_left; ( have x00 := (he.cell (p := ⟨w.heap.size, 0, none⟩) C0.out); have x01 := (he.cell (p := ⟨w.heap.size, 1, none⟩) C1.out); have e0 := he.cell K0.out; have e1 := he.cell K1.out; have e2 := he.cell K2.out; go_simp; rfl); simp only [Act.put, List.setIfInBounds_toArray, List.set_cons_zero, List.set_cons_succ])
          (refine LexW.pure (v := ?_) rfl rfl (fun w1 he => ?_) ?_; rotate_left; ( have x00 := (he.cell (p := ⟨w.heap.size, 0, none⟩) C0.out); have x01 := (he.cell (p := ⟨w.heap.size, 1, none⟩) C1.out); have e0 := he.cell K0.out; have e1 := he.cell K1.out; have e2 := he.cell K2.out; go_simp; rfl); simp only [Act.put, List.setIfInBounds_toArray, List.set_cons_zero, List.set_cons_succ])
          (refine LexW.call (f := ?_) (args := ?_) rfl rfl (fun w1 => ?_) (fun w1 he hdep => ?_) ?_; rotate_left 2; (go_simp; refine ⟨?_, ?_⟩ <;> rfl); ( have H := s_matrix14 p a d cap a0 n0 c0 M0 w1 (by omega) (by omega) (by omega) (by omega) HRL0.out (HX0.out.ext he); rw [HB0.out] at H; exact H); simp only [Act.put, List.setIfInBounds_toArray, List.set_cons_zero, List.set_cons_succ])
          (refine LexW.pure (v := ?_) rfl rfl (fun w1 he => ?_) ?_; rotate_left; ( have x00 := (he.cell (p := ⟨w.heap.size, 0, none⟩) C0.out); have x01 := (he.cell (p := ⟨w.heap.size, 1, none⟩) C1.out); have e0 := he.cell K0.out; have e1 := he.cell K1.out; have e2 := he.cell K2.out; go_simp; rfl); simp only [Act.put, List.setIfInBounds_toArray, List.set_cons_zero, List.set_cons_succ])
          (refine LexW.pure (v := ?_) rfl rfl (fun w1 he => ?_) ?_; rotate_left; ( have x00 := (he.cell (p := ⟨w.heap.size, 0, none⟩) C0.out); have x01 := (he.cell (p := ⟨w.heap.size, 1, none⟩) C1.out); have e0 := he.cell K0.out; have e1 := he.cell K1.out; have e2 := he.cell K2.out; go_simp; rfl); simp only [Act.put, List.setIfInBounds_toArray, List.set_cons_zero, List.set_cons_succ])
          (refine LexW.pure (v := ?_) rfl rfl (fun w1 he => ?_) ?_; rotate_left; ( have x00 := (he.cell (p := ⟨w.heap.size, 0, none⟩) C0.out); have x01 := (he.cell (p := ⟨w.heap.size, 1, none⟩) C1.out); have e0 := he.cell K0.out; have e1 := he.cell K1.out; have e2 := he.cell K2.out; go_simp; rfl); simp only [Act.put, List.setIfInBounds_toArray, List.set_cons_zero, List.set_cons_succ])
          (refine LexW.pure (v := ?_) rfl rfl (fun w1 he => ?_) ?_; rotate_left; ( have x00 := (he.cell (p := ⟨w.heap.size, 0, none⟩) C0.out); have x01 := (he.cell (p := ⟨w.heap.size, 1, none⟩) C1.out); have e0 := he.cell K0.out; have e1 := he.cell K1.out; have e2 := he.cell K2.out; go_simp; rfl); simp only [Act.put, List.setIfInBounds_toArray, List.set_cons_zero, List.set_cons_succ])
          (refine LexW.pure (v := ?_) rfl rfl (fun w1 he => ?_) ?_; rotate_left; ( have x00 := (he.cell (p := ⟨w.heap.size, 0, none⟩) C0.out); have x01 := (he.cell (p := ⟨w.heap.size, 1, none⟩) C1.out); have e0 := he.cell K0.out; have e1 := he.cell K1.out; have e2 := he.cell K2.out; go_simp; rfl); simp only [Act.put, List.setIfInBounds_toArray, List.set_cons_zero, List.set_cons_succ])
          (refine LexW.pure (v := ?_) rfl rfl (fun w1 he => ?_) ?_; rotate_left; ( have x00 := (he.cell (p := ⟨w.heap.size, 0, none⟩) C0.out); have x01 := (he.cell (p := ⟨w.heap.size, 1, none⟩) C1.out); have e0 := he.cell K0.out; have e1 := he.cell K1.out; have e2 := he.cell K2.out; go_simp; rfl); simp only [Act.put, List.setIfInBounds_toArray, List.set_cons_zero, List.set_cons_succ])
          (refine LexW.pure (v := ?_) rfl rfl (fun w1 he => ?_) ?_; rotate_left; ( have x00 := (he.cell (p := ⟨w.heap.size, 0, none⟩) C0.out); have x01 := (he.cell (p := ⟨w.heap.size, 1, none⟩) C1.out); have e0 := he.cell K0.out; have e1 := he.cell K1.out; have e2 := he.cell K2.out; go_simp; rfl); simp only [Act.put, List.setIfInBounds_toArray, List.set_cons_zero, List.set_cons_succ])
          (refine LexW.pure (v := ?_) rfl rfl (fun w1 he => ?_) ?_; rotate_left; ( have x00 := (he.cell (p := ⟨w.heap.size, 0, none⟩) C0.out); have x01 := (he.cell (p := ⟨w.heap.size, 1, none⟩) C1.out); have e0 := he.cell K0.out; have e1 := he.cell K1.out; have e2 := he.cell K2.out; go_simp; rfl); simp only [Act.put, List.setIfInBounds_toArray, List.set_cons_zero, List.set_cons_succ])
          (refine LexW.call (f := ?_) (args := ?_) rfl rfl (fun w1 => ?_) (fun w1 he hdep => ?_) ?_; rotate_left 2; (go_simp; refine ⟨?_, ?_⟩ <;> rfl); ( have H := s_matrix14 p a d cap a1 n1 c1 M1 w1 (by omega) (by omega) (by omega) (by omega) HRL1.out (HX1.out.ext he); rw [HB1.out] at H; exact H); simp only [Act.put, List.setIfInBounds_toArray, List.set_cons_zero, List.set_cons_succ])
          (refine LexW.pure (v := ?_) rfl rfl (fun w1 he => ?_) ?_; rotate_left; ( have x00 := (he.cell (p := ⟨w.heap.size, 0, none⟩) C0.out); have x01 := (he.cell (p := ⟨w.heap.size, 1, none⟩) C1.out); have e0 := he.cell K0.out; have e1 := he.cell K1.out; have e2 := he.cell K2.out; go_simp; rfl); simp only [Act.put, List.setIfInBounds_toArray, List.set_cons_zero, List.set_cons_succ])
          (refine LexW.pure (v := ?_) rfl rfl (fun w1 he => ?_) ?_; rotate_left; ( have x00 := (he.cell (p := ⟨w.heap.size, 0, none⟩) C0.out); have x01 := (he.cell (p := ⟨w.heap.size, 1, none⟩) C1.out); have e0 := he.cell K0.out; have e1 := he.cell K1.out; have e2 := he.cell K2.out; go_simp; rfl); simp only [Act.put, List.setIfInBounds_toArray, List.set_cons_zero, List.set_cons_succ])
          (refine LexW.pure (v := ?_) rfl rfl (fun w1 he => ?_) ?_; rotate_left; ( have x00 := (he.cell (p := ⟨w.heap.size, 0, none⟩) C0.out); have x01 := (he.cell (p := ⟨w.heap.size, 1, none⟩) C1.out); have e0 := he.cell K0.out; have e1 := he.cell K1.out; have e2 := he.cell K2.out; go_simp; rfl); simp only [Act.put, List.setIfInBounds_toArray, List.set_cons_zero, List.set_cons_succ])
          (refine LexW.skip rfl rfl ?_; simp only [Act.put, List.setIfInBounds_toArray, List.set_cons_zero, List.set_cons_succ])
          (refine LexW.skip rfl rfl ?_; simp only [Act.put, List.setIfInBounds_toArray, List.set_cons_zero, List.set_cons_succ])
          (refine LexW.skip rfl rfl ?_; simp only [Act.put, List.setIfInBounds_toArray, List.set_cons_zero, List.set_cons_succ])
          (refine LexW.skip rfl rfl ?_; simp only [Act.put, List.setIfInBounds_toArray, List.set_cons_zero, List.set_cons_succ])
          (refine LexW.skip rfl rfl ?_; simp only [Act.put, List.setIfInBounds_toArray, List.set_cons_zero, List.set_cons_succ])
          (refine LexW.skip rfl rfl ?_; simp only [Act.put, List.setIfInBounds_toArray, List.set_cons_zero, List.set_cons_succ])
          (refine LexW.skip rfl rfl ?_; simp only [Act.put, List.setIfInBounds_toArray, List.set_cons_zero, List.set_cons_succ])
          (refine LexW.skip rfl rfl ?_; simp only [Act.put, List.setIfInBounds_toArray, List.set_cons_zero, List.set_cons_succ])
          (refine LexW.pure (v := ?_) rfl rfl (fun w1 he => ?_) ?_; rotate_left; ( have x00 := (he.cell (p := ⟨w.heap.size, 0, none⟩) C0.out); have x01 := (he.cell (p := ⟨w.heap.size, 1, none⟩) C1.out); have e0 := he.cell K0.out; have e1 := he.cell K1.out; have e2 := he.cell K2.out; go_simp; rfl); simp only [Act.put, List.setIfInBounds_toArray, List.set_cons_zero, List.set_cons_succ])
          refine LexW.nil (fun w3 he hkn => ?_)
          have HE := Lib.hid he
          have XZ := Lib.hid ((ext_drew wr).trans he)
          clear he hkn 
          rename World => v3
          replace E := Lib.hid (E.out.trans HE.out)
          replace HX0 := Lib.hid (HX0.out.ext HE.out)
          replace HX1 := Lib.hid (HX1.out.ext HE.out)
          replace HX2 := Lib.hid (HX2.out.ext HE.out)
          replace C0 := Lib.hid (HE.out.cell (p := ⟨w.heap.size, 0, none⟩) C0.out)
          replace C1 := Lib.hid (HE.out.cell (p := ⟨w.heap.size, 1, none⟩) C1.out)
          replace K0 := Lib.hid (HE.out.cell K0.out)
          replace K1 := Lib.hid (HE.out.cell K1.out)
          replace K2 := Lib.hid (HE.out.cell K2.out)
          clear HE
          go_wp2_with (fail)
          go_ret
          exact ⟨ret_int (code15_no HCC.out.symm HQL.out (.inr (.inl HB1.out))).symm, E.out⟩
        | true =>
          cases b2 with
          | false =>
            have x00 := C0.out
            have x01 := C1.out
            go_wp2_with (fail)
            clear x00 x01
            replace E := Lib.hid (E.out.trans (ext_drew wr))
            replace HX0 := Lib.hid (HX0.out.ext (ext_drew wr))
            replace HX1 := Lib.hid (HX1.out.ext (ext_drew wr))
            replace HX2 := Lib.hid (HX2.out.ext (ext_drew wr))
            replace C0 := Lib.hid ((ext_drew wr).cell (p := ⟨w.heap.size, 0, none⟩) C0.out)
            replace C1 := Lib.hid ((ext_drew wr).cell (p := ⟨w.heap.size, 1, none⟩) C1.out)
            replace K0 := Lib.hid ((ext_drew wr).cell K0.out)
            replace K1 := Lib.hid ((ext_drew wr).cell K1.out)
            replace K2 := Lib.hid ((ext_drew wr).cell K2.out)
            refine wp_region_lex [(6, .val (.bool true)), (15, .val (.bool true)), (25, .val (.bool false))] (by kernel_rfl) (by kernel_rfl) ?_
            (refine LexW.pure (v := ?_) rfl rfl (fun w1 he => ?_) ?_; rotate_left; ( have x00 := (he.cell (p := ⟨w.heap.size, 0, none⟩) C0.out); have x01 := (he.cell (p := ⟨w.heap.size, 1, none⟩) C1.out); have e0 := he.cell K0.out; have e1 := he.cell K1.out; have e2 := he.cell K2.out; go_simp; rfl); simp only [Act.put, List.setIfInBounds_toArray, List.set_cons_zero, List.set_cons_succ])
            (refine LexW.pure (v := ?_) rfl rfl (fun w1 he => ?_) ?_; rotate_left; ( have x00 := (he.cell (p := ⟨w.heap.size, 0, none⟩) C0.out); have x01 := (he.cell (p := ⟨w.heap.size, 1, none⟩) C1.out); have e0 := he.cell K0.out; have e1 := he.cell K1.out; have e2 := he.cell K2.out; go_simp; rfl); simp only [Act.put, List.setIfInBounds_toArray, List.set_cons_zero, List.set_cons_succ])
            (refine LexW.pure (v := ?_) rfl rfl (fun w1 he => ?_) ?_; rotate_left; ( have x00 := (he.cell (p := ⟨w.heap.size, 0, none⟩) C0.out); have x01 := (he.cell (p := ⟨w.heap.size, 1, none⟩) C1.out); have e0 := he.cell K0.out; have e1 := he.cell K1.out; have e2 := he.cell K2.out; go_simp; rfl); simp only [Act.put, List.setIfInBounds_toArray, List.set_cons_zero, List.set_cons_succ])
            (refine LexW.pure (v := ?_) rfl rfl (fun w1 he => ?_) ?_; rotate_left; ( have x00 := (he.cell (p := ⟨w.heap.size, 0, none⟩) C0.out); have x01 := (he.cell (p := ⟨w.heap.size, 1, none⟩) C1.out); have e0 := he.cell K0.out; have e1 := he.cell K1.out; have e2 := he.cell K2.out; go_simp; rfl); simp only [Act.put, List.setIfInBounds_toArray, List.set_cons_zero, List.set_cons_succ])
            (refine LexW.pure (v := ?_) rfl rfl (fun w1 he => ?_) ?_; rotate_left; ( have x00 := (he.cell (p := ⟨w.heap.size, 0, none⟩) C0.out); have x01 := (he.cell (p := ⟨w.heap.size, 1, none⟩) C1.out); have e0 := he.cell K0.out; have e1 := he.cell K1.out; have e2 := he.cell K2.out; go_simp; rfl); simp only [Act.put, List.setIfInBounds_toArray, List.set_cons_zero, List.set_cons_succ])
            (refine LexW.pure (v := ?_) rfl rfl (fun w1 he => ?_) ?_; rotate_left; ( have x00 := (he.cell (p := ⟨w.heap.size, 0, none⟩) C0.out); have x01 := (he.cell (p := ⟨w.heap.size, 1, none⟩) C1.out); have e0 := he.cell K0.out; have e1 := he.cell K1.out; have e2 := he.cell K2.out; go_simp; rfl); simp only [Act.put, List.setIfInBounds_toArray, List.set_cons_zero, List.set_cons_succ])
            (refine LexW.call (f := ?_) (args := ?_) rfl rfl (fun w1 => ?_) (fun w1 he hdep => ?_) ?_; rotate_left 2; (go_simp; refine ⟨?_, ?_⟩ <;> rfl); ( have H := s_matrix14 p a d cap a0 n0 c0 M0 w1 (by omega) (by omega) (by omega) (by omega) HRL0.out (HX0.out.ext he); rw [HB0.out] at H; exact H); simp only [Act.put, List.setIfInBounds_toArray, List.set_cons_zero, List.set_cons_succ])
            (refine LexW.pure (v := ?_) rfl rfl (fun w1 he => ?_) ?_; rotate_left; ( have x00 := (he.cell (p := ⟨w.heap.size, 0, none⟩) C0.out); have x01 := (he.cell (p := ⟨w.heap.size, 1, none⟩) C1.out); have e0 := he.cell K0.out; have e1 := he.cell K1.out; have e2 := he.cell K2.out; go_simp; rfl); simp only [Act.put, List.setIfInBounds_toArray, List.set_cons_zero, List.set_cons_succ])
            (refine LexW.pure (v := ?_) rfl rfl (fun w1 he => ?_) ?_; rotate_left; ( have x00 := (he.cell (p := ⟨w.heap.size, 0, none⟩) C0.out); have x01 := (he.cell (p := ⟨w.heap.size, 1, none⟩) C1.out); have e0 := he.cell K0.out; have e1 := he.cell K1.out; have e2 := he.cell K2.out; go_simp; rfl); simp only [Act.put, List.setIfInBounds_toArray, List.set_cons_zero, List.set_cons_succ])
            (refine LexW.pure (v := ?_) rfl rfl (fun w1 he => ?_) ?_; rotate_left; ( have x00 := (he.cell (p := ⟨w.heap.size, 0, none⟩) C0.out); have x01 := (he.cell (p := ⟨w.heap.size, 1, none⟩) C1.out); have e0 := he.cell K0.out; have e1 := he.cell K1.out; have e2 := he.cell K2.out; go_simp; rfl); simp only [Act.put, List.setIfInBounds_toArray, List.set_cons_zero, List.set_cons_succ])
            (refine LexW.pure (v := ?_) rfl rfl (fun w1 he => ?_) ?_; rotate_left; ( have x00 := (he.cell (p := ⟨w.heap.size, 0, none⟩) C0.out); have x01 := (he.cell (p := ⟨w.heap.size, 1, none⟩) C1.out); have e0 := he.cell K0.out; have e1 := he.cell K1.out; have e2 := he.cell K2.out; go_simp; rfl); simp only [Act.put, List.setIfInBounds_toArray, List.set_cons_zero, List.set_cons_succ])
            (refine LexW.pure (v := ?_) rfl rfl (fun w1 he => ?_) ?_; rotate_left; ( have x00 := (he.cell (p := ⟨w.heap.size, 0, none⟩) C0.out); have x01 := (he.cell (p := ⟨w.heap.size, 1, none⟩) C1.out); have e0 := he.cell K0.out; have e1 := he.cell K1.out; have e2 := he.cell K2.out; go_simp; rfl); simp only [Act.put, List.setIfInBounds_toArray, List.set_cons_zero, List.set_cons_succ])
            (refine LexW.pure (v := ?_) rfl rfl (fun w1 he => ?_) ?_; rotate_left; ( have x00 := (he.cell (p := ⟨w.heap.size, 0, none⟩) C0.out); have x01 := (he.cell (p := ⟨w.heap.size, 1, none⟩) C1.out); have e0 := he.cell K0.out; have e1 := he.cell K1.out; have e2 := he.cell K2.out; go_simp; rfl); simp only [Act.put, List.setIfInBounds_toArray, List.set_cons_zero, List.set_cons_succ])
            (refine LexW.pure (v := ?_) rfl rfl (fun w1 he => ?_) ?_; rotate_left; ( have x00 := (he.cell (p := ⟨w.heap.size, 0, none⟩) C0.out); have x01 := (he.cell (p := ⟨w.heap.size, 1, none⟩) C1.out); have e0 := he.cell K0.out; have e1 := he.cell K1.out; have e2 := he.cell K2.out; go_simp; rfl); simp only [Act.put, List.setIfInBounds_toArray, List.set_cons_zero, List.set_cons_succ])
            (refine LexW.pure (v := ?_) rfl rfl (fun w1 he => ?_) ?_; rotate_left; ( have x00 := (he.cell (p := ⟨w.heap.size, 0, none⟩) C0.out); have x01 := (he.cell (p := ⟨w.heap.size, 1, none⟩) C1.out); have e0 := he.cell K0.out; have e1 := he.cell K1.out; have e2 := he.cell K2.out; go_simp; rfl); simp only [Act.put, List.setIfInBounds_toArray, List.set_cons_zero, List.set_cons_succ])
            (refine LexW.call (f := ?_) (args := ?_) rfl rfl (fun w1 => ?_) (fun w1 he hdep => ?_) ?_; rotate_left 2; (go_simp; refine ⟨?_, ?_⟩ <;> rfl); ( have H := s_matrix14 p a d cap a1 n1 c1 M1 w1 (by omega) (by omega) (by omega) (by omega) HRL1.out (HX1.out.ext he); rw [HB1.out] at H; exact H); simp only [Act.put, List.setIfInBounds_toArray, List.set_cons_zero, List.set_cons_succ])
            (refine LexW.pure (v := ?_) rfl rfl (fun w1 he => ?_) ?_; rotate_left; ( have x00 := (he.cell (p := ⟨w.heap.size, 0, none⟩) C0.out); have x01 := (he.cell (p := ⟨w.heap.size, 1, none⟩) C1.out); have e0 := he.cell K0.out; have e1 := he.cell K1.out; have e2 := he.cell K2.out; go_simp; rfl); simp only [Act.put, List.setIfInBounds_toArray, List.set_cons_zero, List.set_cons_succ])
            (refine LexW.pure (v := ?_) rfl rfl (fun w1 he => ?_) ?_; rotate_left; ( have x00 := (he.cell (p := ⟨w.heap.size, 0, none⟩) C0.out); have x01 := (he.cell (p := ⟨w.heap.size, 1, none⟩) C1.out); have e0 := he.cell K0.out; have e1 := he.cell K1.out; have e2 := he.cell K2.out; go_simp; rfl); simp only [Act.put, List.setIfInBounds_toArray, List.set_cons_zero, List.set_cons_succ])
            (refine LexW.pure (v := ?_) rfl rfl (fun w1 he => ?_) ?_; rotate_left; ( have x00 := (he.cell (p := ⟨w.heap.size, 0, none⟩) C0.out); have x01 := (he.cell (p := ⟨w.heap.size, 1, none⟩) C1.out); have e0 := he.cell K0.out; have e1 := he.cell K1.out; have e2 := he.cell K2.out; go_simp; rfl); simp only [Act.put, List.setIfInBounds_toArray, List.set_cons_zero, List.set_cons_succ])
            (refine LexW.pure (v := ?_) rfl rfl (fun w1 he => ?_) ?_; rotate_left; ( have x00 := (he.cell (p := ⟨w.heap.size, 0, none⟩) C0.out); have x01 := (he.cell (p := ⟨w.heap.size, 1, none⟩) C1.out); have e0 := he.cell K0.out; have e1 := he.cell K1.out; have e2 := he.cell K2.out; go_simp; rfl); simp only [Act.put, List.setIfInBounds_toArray, List.set_cons_zero, List.set_cons_succ])
            (refine LexW.pure (v := ?_) rfl rfl (fun w1 he => ?_) ?_; rotate_left; ( have x00 := (he.cell (p := ⟨w.heap.size, 0, none⟩) C0.out); have x01 := (he.cell (p := ⟨w.heap.size, 1, none⟩) C1.out); have e0 := he.cell K0.out; have e1 := he.cell K1.out; have e2 := he.cell K2.out; go_simp; rfl); simp only [Act.put, List.setIfInBounds_toArray, List.set_cons_zero, List.set_cons_succ])
            (refine LexW.pure (v := ?_) rfl rfl (fun w1 he => ?_) ?_; rotate_left; ( have x00 := (he.cell (p := ⟨w.heap.size, 0, none⟩) C0.out); have x01 := (he.cell (p := ⟨w.heap.size, 1, none⟩) C1.out); have e0 := he.cell K0.out; have e1 := he.cell K1.out; have e2 := he.cell K2.out; go_simp; rfl); simp only [Act.put, List.setIfInBounds_toArray, List.set_cons_zero, List.set_cons_succ])
            (refine LexW.pure (v := ?_) rfl rfl (fun w1 he => ?_) ?_; rotate_left; ( have x00 := (he.cell (p := ⟨w.heap.size, 0, none⟩) C0.out); have x01 := (he.cell (p := ⟨w.heap.size, 1, none⟩) C1.out); have e0 := he.cell K0.out; have e1 := he.cell K1.out; have e2 := he.cell K2.out; go_simp; rfl); simp only [Act.put, List.setIfInBounds_toArray, List.set_cons_zero, List.set_cons_succ])
            (refine LexW.pure (v := ?_) rfl rfl (fun w1 he => ?_) ?_; rotate_left; ( have x00 := (he.cell (p := ⟨w.heap.size, 0, none⟩) C0.out); have x01 := (he.cell (p := ⟨w.heap.size, 1, none⟩) C1.out); have e0 := he.cell K0.out; have e1 := he.cell K1.out; have e2 := he.cell K2.out; go_simp; rfl); simp only [Act.put, List.setIfInBounds_toArray, List.set_cons_zero, List.set_cons_succ])
            (refine LexW.pure (v := ?_) rfl rfl (fun w1 he => ?_) ?_; rotate_left; ( have x00 := (he.cell (p := ⟨w.heap.size, 0, none⟩) C0.out); have x01 := (he.cell (p := ⟨w.heap.size, 1, none⟩) C1.out); have e0 := he.cell K0.out; have e1 := he.cell K1.out; have e2 := he.cell K2.out; go_simp; rfl); simp only [Act.put, List.setIfInBounds_toArray, List.set_cons_zero, List.set_cons_succ])
            (refine LexW.call (f := ?_) (args := ?_) rfl rfl (fun w1 => ?_) (fun w1 he hdep => ?_) ?_; rotate_left 2; (go_simp; refine ⟨?_, ?_⟩ <;> rfl); ( have H := s_matrix14 p a d cap a2 n2 c2 M2 w1 (by omega) (by omega) (by omega) (by omega) HRL2.out (HX2.out.ext he); rw [HB2.out] at H; exact H); simp only [Act.put, List.setIfInBounds_toArray, List.set_cons_zero, List.set_cons_succ])
            (refine LexW.pure (v := ?_) rfl rfl (fun w1 he => ?_) ?_; rotate_left; ( have x00 := (he.cell (p := ⟨w.heap.size, 0, none⟩) C0.out); have x01 := (he.cell (p := ⟨w.heap.size, 1, none⟩) C1.out); have e0 := he.cell K0.out; have e1 := he.cell K1.out; have e2 := he.cell K2.out; go_simp; rfl); simp only [Act.put, List.setIfInBounds_toArray, List.set_cons_zero, List.set_cons_succ])
            (refine LexW.pure (v := ?_) rfl rfl (fun w1 he => ?_) ?_; rotate_left; ( have x00 := (he.cell (p := ⟨w.heap.size, 0, none⟩) C0.out); have x01 := (he.cell (p := ⟨w.heap.size, 1, none⟩) C1.out); have e0 := he.cell K0.out; have e1 := he.cell K1.out; have e2 := he.cell K2.out; go_simp; rfl); simp only [Act.put, List.setIfInBounds_toArray, List.set_cons_zero, List.set_cons_succ])
            refine LexW.nil (fun w3 he hkn => ?_)
            have HE := Lib.hid he
            have XZ := Lib.hid ((ext_drew wr).trans he)
            clear he hkn 
            rename World => v4
            replace E := Lib.hid (E.out.trans HE.out)
            replace HX0 := Lib.hid (HX0.out.ext HE.out)
            replace HX1 := Lib.hid (HX1.out.ext HE.out)
            replace HX2 := Lib.hid (HX2.out.ext HE.out)
            replace C0 := Lib.hid (HE.out.cell (p := ⟨w.heap.size, 0, none⟩) C0.out)
            replace C1 := Lib.hid (HE.out.cell (p := ⟨w.heap.size, 1, none⟩) C1.out)
            replace K0 := Lib.hid (HE.out.cell K0.out)
            replace K1 := Lib.hid (HE.out.cell K1.out)
            replace K2 := Lib.hid (HE.out.cell K2.out)
            clear HE
            go_wp2_with (fail)
            go_ret
            exact ⟨ret_int (code15_no HCC.out.symm HQL.out (.inr (.inr (.inl HB2.out)))).symm, E.out⟩
          | true =>
            have XW := HE
            have x00 := C0.out
            have x01 := C1.out
            go_wp2_with (fail)
            clear x00 x01
            replace E := Lib.hid (E.out.trans (ext_drew wr))
            replace HX0 := Lib.hid (HX0.out.ext (ext_drew wr))
            replace HX1 := Lib.hid (HX1.out.ext (ext_drew wr))
            replace HX2 := Lib.hid (HX2.out.ext (ext_drew wr))
            replace C0 := Lib.hid ((ext_drew wr).cell (p := ⟨w.heap.size, 0, none⟩) C0.out)
            replace C1 := Lib.hid ((ext_drew wr).cell (p := ⟨w.heap.size, 1, none⟩) C1.out)
            replace K0 := Lib.hid ((ext_drew wr).cell K0.out)
            replace K1 := Lib.hid ((ext_drew wr).cell K1.out)
            replace K2 := Lib.hid ((ext_drew wr).cell K2.out)
            refine wp_region_lex [(6, .val (.bool true)), (15, .val (.bool true)), (25, .val (.bool true))] (by kernel_rfl) (by kernel_rfl) ?_
            (refine LexW.pure (v := ?_) rfl rfl (fun w1 he => ?_) ?_; rotate_left; ( have x00 := (he.cell (p := ⟨w.heap.size, 0, none⟩) C0.out); have x01 := (he.cell (p := ⟨w.heap.size, 1, none⟩) C1.out); have e0 := he.cell K0.out; have e1 := he.cell K1.out; have e2 := he.cell K2.out; go_simp; rfl); simp only [Act.put, List.setIfInBounds_toArray, List.set_cons_zero, List.set_cons_succ])
            (refine LexW.pure (v := ?_) rfl rfl (fun w1 he => ?_) ?_; rotate_left; ( have x00 := (he.cell (p := ⟨w.heap.size, 0, none⟩) C0.out); have x01 := (he.cell (p := ⟨w.heap.size, 1, none⟩) C1.out); have e0 := he.cell K0.out; have e1 := he.cell K1.out; have e2 := he.cell K2.out; go_simp; rfl); simp only [Act.put, List.setIfInBounds_toArray, List.set_cons_zero, List.set_cons_succ])
            (refine LexW.pure (v := ?_) rfl rfl (fun w1 he => ?_) ?_; rotate_left; ( have x00 := (he.cell (p := ⟨w.heap.size, 0, none⟩) C0.out); have x01 := (he.cell (p := ⟨w.heap.size, 1, none⟩) C1.out); have e0 := he.cell K0.out; have e1 := he.cell K1.out; have e2 := he.cell K2.out; go_simp; rfl); simp only [Act.put, List.setIfInBounds_toArray, List.set_cons_zero, List.set_cons_succ])
            (refine LexW.pure (v := ?_) rfl rfl (fun w1 he => ?_) ?_; rotate_left; ( have x00 := (he.cell (p := ⟨w.heap.size, 0, none⟩) C0.out); have x01 := (he.cell (p := ⟨w.heap.size, 1, none⟩) C1.out); have e0 := he.cell K0.out; have e1 := he.cell K1.out; have e2 := he.cell K2.out; go_simp; rfl); simp only [Act.put, List.setIfInBounds_toArray, List.set_cons_zero, List.set_cons_succ])
            (refine LexW.pure (v := ?_) rfl rfl (fun w1 he => ?_) ?_; rotate_left; ( have x00 := (he.cell (p := ⟨w.heap.size, 0, none⟩) C0.out); have x01 := (he.cell (p := ⟨w.heap.size, 1, none⟩) C1.out); have e0 := he.cell K0.out; have e1 := he.cell K1.out; have e2 := he.cell K2.out; go_simp; rfl); simp only [Act.put, List.setIfInBounds_toArray, List.set_cons_zero, List.set_cons_succ])
            (refine LexW.pure (v := ?_) rfl rfl (fun w1 he => ?_) ?_; rotate_left; ( have x00 := (he.cell (p := ⟨w.heap.size, 0, none⟩) C0.out); have x01 := (he.cell (p := ⟨w.heap.size, 1, none⟩) C1.out); have e0 := he.cell K0.out; have e1 := he.cell K1.out; have e2 := he.cell K2.out; go_simp; rfl); simp only [Act.put, List.setIfInBounds_toArray, List.set_cons_zero, List.set_cons_succ])
            (refine LexW.call (f := ?_) (args := ?_) rfl rfl (fun w1 => ?_) (fun w1 he hdep => ?_) ?_; rotate_left 2; (go_simp; refine ⟨?_, ?_⟩ <;> rfl); ( have H := s_matrix14 p a d cap a0 n0 c0 M0 w1 (by omega) (by omega) (by omega) (by omega) HRL0.out (HX0.out.ext he); rw [HB0.out] at H; exact H); simp only [Act.put, List.setIfInBounds_toArray, List.set_cons_zero, List.set_cons_succ])
            (refine LexW.pure (v := ?_) rfl rfl (fun w1 he => ?_) ?_; rotate_left; ( have x00 := (he.cell (p := ⟨w.heap.size, 0, none⟩) C0.out); have x01 := (he.cell (p := ⟨w.heap.size, 1, none⟩) C1.out); have e0 := he.cell K0.out; have e1 := he.cell K1.out; have e2 := he.cell K2.out; go_simp; rfl); simp only [Act.put, List.setIfInBounds_toArray, List.set_cons_zero, List.set_cons_succ])
            (refine LexW.pure (v := ?_) rfl rfl (fun w1 he => ?_) ?_; rotate_left; ( have x00 := (he.cell (p := ⟨w.heap.size, 0, none⟩) C0.out); have x01 := (he.cell (p := ⟨w.heap.size, 1, none⟩) C1.out); have e0 := he.cell K0.out; have e1 := he.cell K1.out; have e2 := he.cell K2.out; go_simp; rfl); simp only [Act.put, List.setIfInBounds_toArray, List.set_cons_zero, List.set_cons_succ])
            (refine LexW.pure (v := ?_) rfl rfl (fun w1 he => ?_) ?_; rotate_left; ( have x00 := (he.cell (p := ⟨w.heap.size, 0, none⟩) C0.out); have x01 := (he.cell (p := ⟨w.heap.size, 1, none⟩) C1.out); have e0 := he.cell K0.out; have e1 := he.cell K1.out; have e2 := he.cell K2.out; go_simp; rfl); simp only [Act.put, List.setIfInBounds_toArray, List.set_cons_zero, List.set_cons_succ])
            (refine LexW.pure (v := ?_) rfl rfl (fun w1 he => ?_) ?_; rotate_left; ( have x00 := (he.cell (p := ⟨w.heap.size, 0, none⟩) C0.out); have x01 := (he.cell (p := ⟨w.heap.size, 1, none⟩) C1.out); have e0 := he.cell K0.out; have e1 := he.cell K1.out; have e2 := he.cell K2.out; go_simp; rfl); simp only [Act.put, List.setIfInBounds_toArray, List.set_cons_zero, List.set_cons_succ])
            (refine LexW.pure (v := ?_) rfl rfl (fun w1 he => ?_) ?_; rotate_left; ( have x00 := (he.cell (p := ⟨w.heap.size, 0, none⟩) C0.out); have x01 := (he.cell (p := ⟨w.heap.size, 1, none⟩) C1.out); have e0 := he.cell K0.out; have e1 := he.cell K1.out; have e2 := he.cell K2.out; go_simp; rfl); simp only [Act.put, List.setIfInBounds_toArray, List.set_cons_zero, List.set_cons_succ])
            (refine LexW.pure (v := ?_) rfl rfl (fun w1 he => ?_) ?_; rotate_left; ( have x00 := (he.cell (p := ⟨w.heap.size, 0, none⟩) C0.out); have x01 := (he.cell (p := ⟨w.heap.size, 1, none⟩) C1.out); have e0 := he.cell K0.out; have e1 := he.cell K1.out; have e2 := he.cell K2.out; go_simp; rfl); simp only [Act.put, List.setIfInBounds_toArray, List.set_cons_zero, List.set_cons_succ])
            (refine LexW.pure (v := ?_) rfl rfl (fun w1 he => ?_) ?_; rotate_left; ( have x00 := (he.cell (p := ⟨w.heap.size, 0, none⟩) C0.out); have x01 := (he.cell (p := ⟨w.heap.size, 1, none⟩) C1.out); have e0 := he.cell K0.out; have e1 := he.cell K1.out; have e2 := he.cell K2.out; go_simp; rfl); simp only [Act.put, List.setIfInBounds_toArray, List.set_cons_zero, List.set_cons_succ])
            (refine LexW.pure (v := ?_) rfl rfl (fun w1 he => ?_) ?_; rotate_left; ( have x00 := (he.cell (p := ⟨w.heap.size, 0, none⟩) C0.out); have x01 := (he.cell (p := ⟨w.heap.size, 1, none⟩) C1.out); have e0 := he.cell K0.out; have e1 := he.cell K1.out; have e2 := he.cell K2.out; go_simp; rfl); simp only [Act.put, List.setIfInBounds_toArray, List.set_cons_zero, List.set_cons_succ])
            (refine LexW.call (f := ?_) (args := ?_) rfl rfl (fun w1 => ?_) (fun w1 he hdep => ?_) ?_; rotate_left 2; (go_simp; refine ⟨?_, ?_⟩ <;> rfl); ( have H := s_matrix14 p a d cap a1 n1 c1 M1 w1 (by omega) (by omega) (by omega) (by omega) HRL1.out (HX1.out.ext he); rw [HB1.out] at H; exact H); simp only [Act.put, List.setIfInBounds_toArray, List.set_cons_zero, List.set_cons_succ])
            (refine LexW.pure (v := ?_) rfl rfl (fun w1 he => ?_) ?_; rotate_left; ( have x00 := (he.cell (p := ⟨w.heap.size, 0, none⟩) C0.out); have x01 := (he.cell (p := ⟨w.heap.size, 1, none⟩) C1.out); have e0 := he.cell K0.out; have e1 := he.cell K1.out; have e2 := he.cell K2.out; go_simp; rfl); simp only [Act.put, List.setIfInBounds_toArray, List.set_cons_zero, List.set_cons_succ])
            (refine LexW.pure (v := ?_) rfl rfl (fun w1 he => ?_) ?_; rotate_left; ( have x00 := (he.cell (p := ⟨w.heap.size, 0, none⟩) C0.out); have x01 := (he.cell (p := ⟨w.heap.size, 1, none⟩) C1.out); have e0 := he.cell K0.out; have e1 := he.cell K1.out; have e2 := he.cell K2.out; go_simp; rfl); simp only [Act.put, List.setIfInBounds_toArray, List.set_cons_zero, List.set_cons_succ])
            (refine LexW.pure (v := ?_) rfl rfl (fun w1 he => ?_) ?_; rotate_left; ( have x00 := (he.cell (p := ⟨w.heap.size, 0, none⟩) C0.out); have x01 := (he.cell (p := ⟨w.heap.size, 1, none⟩) C1.out); have e0 := he.cell K0.out; have e1 := he.cell K1.out; have e2 := he.cell K2.out; go_simp; rfl); simp only [Act.put, List.setIfInBounds_toArray, List.set_cons_zero, List.set_cons_succ])
            (refine LexW.pure (v := ?_) rfl rfl (fun w1 he => ?_) ?_; rotate_left; ( have x00 := (he.cell (p := ⟨w.heap.size, 0, none⟩) C0.out); have x01 := (he.cell (p := ⟨w.heap.size, 1, none⟩) C1.out); have e0 := he.cell K0.out; have e1 := he.cell K1.out; have e2 := he.cell K2.out; go_simp; rfl); simp only [Act.put, List.setIfInBounds_toArray, List.set_cons_zero, List.set_cons_succ])
            (refine LexW.pure (v := ?_) rfl rfl (fun w1 he => ?_) ?_; rotate_left; ( have x00 := (he.cell (p := ⟨w.heap.size, 0, none⟩) C0.out); have x01 := (he.cell (p := ⟨w.heap.size, 1, none⟩) C1.out); have e0 := he.cell K0.out; have e1 := he.cell K1.out; have e2 := he.cell K2.out; go_simp; rfl); simp only [Act.put, List.setIfInBounds_toArray, List.set_cons_zero, List.set_cons_succ])
            (refine LexW.pure (v := ?_) rfl rfl (fun w1 he => ?_) ?_; rotate_left; ( have x00 := (he.cell (p := ⟨w.heap.size, 0, none⟩) C0.out); have x01 := (he.cell (p := ⟨w.heap.size, 1, none⟩) C1.out); have e0 := he.cell K0.out; have e1 := he.cell K1.out; have e2 := he.cell K2.out; go_simp; rfl); simp only [Act.put, List.setIfInBounds_toArray, List.set_cons_zero, List.set_cons_succ])
            (refine LexW.pure (v := ?_) rfl rfl (fun w1 he => ?_) ?_; rotate_left; ( have x00 := (he.cell (p := ⟨w.heap.size, 0, none⟩) C0.out); have x01 := (he.cell (p := ⟨w.heap.size, 1, none⟩) C1.out); have e0 := he.cell K0.out; have e1 := he.cell K1.out; have e2 := he.cell K2.out; go_simp; rfl); simp only [Act.put, List.setIfInBounds_toArray, List.set_cons_zero, List.set_cons_succ])
            (refine LexW.pure (v := ?_) rfl rfl (fun w1 he => ?_) ?_; rotate_left; ( have x00 := (he.cell (p := ⟨w.heap.size, 0, none⟩) C0.out); have x01 := (he.cell (p := ⟨w.heap.size, 1, none⟩) C1.out); have e0 := he.cell K0.out; have e1 := he.cell K1.out; have e2 := he.cell K2.out; go_simp; rfl); simp only [Act.put, List.setIfInBounds_toArray, List.set_cons_zero, List.set_cons_succ])
            (refine LexW.pure (v := ?_) rfl rfl (fun w1 he => ?_) ?_; rotate_left; ( have x00 := (he.cell (p := ⟨w.heap.size, 0, none⟩) C0.out); have x01 := (he.cell (p := ⟨w.heap.size, 1, none⟩) C1.out); have e0 := he.cell K0.out; have e1 := he.cell K1.out; have e2 := he.cell K2.out; go_simp; rfl); simp only [Act.put, List.setIfInBounds_toArray, List.set_cons_zero, List.set_cons_succ])
            (refine LexW.call (f := ?_) (args := ?_) rfl rfl (fun w1 => ?_) (fun w1 he hdep => ?_) ?_; rotate_left 2; (go_simp; refine ⟨?_, ?_⟩ <;> rfl); ( have H := s_matrix14 p a d cap a2 n2 c2 M2 w1 (by omega) (by omega) (by omega) (by omega) HRL2.out (HX2.out.ext he); rw [HB2.out] at H; exact H); simp only [Act.put, List.setIfInBounds_toArray, List.set_cons_zero, List.set_cons_succ])
            (refine LexW.pure (v := ?_) rfl rfl (fun w1 he => ?_) ?_; rotate_left; ( have x00 := (he.cell (p := ⟨w.heap.size, 0, none⟩) C0.out); have x01 := (he.cell (p := ⟨w.heap.size, 1, none⟩) C1.out); have e0 := he.cell K0.out; have e1 := he.cell K1.out; have e2 := he.cell K2.out; go_simp; rfl); simp only [Act.put, List.setIfInBounds_toArray, List.set_cons_zero, List.set_cons_succ])
            (refine LexW.pure (v := ?_) rfl rfl (fun w1 he => ?_) ?_; rotate_left; ( have x00 := (he.cell (p := ⟨w.heap.size, 0, none⟩) C0.out); have x01 := (he.cell (p := ⟨w.heap.size, 1, none⟩) C1.out); have e0 := he.cell K0.out; have e1 := he.cell K1.out; have e2 := he.cell K2.out; go_simp; rfl); simp only [Act.put, List.setIfInBounds_toArray, List.set_cons_zero, List.set_cons_succ])
            refine LexW.nil (fun w3 he hkn => ?_)
            have HE := Lib.hid he
            have XZ := Lib.hid ((ext_drew wr).trans he)
            clear he hkn 
            rename World => v5
            replace E := Lib.hid (E.out.trans HE.out)
            replace HX0 := Lib.hid (HX0.out.ext HE.out)
            replace HX1 := Lib.hid (HX1.out.ext HE.out)
            replace HX2 := Lib.hid (HX2.out.ext HE.out)
            replace C0 := Lib.hid (HE.out.cell (p := ⟨w.heap.size, 0, none⟩) C0.out)
            replace C1 := Lib.hid (HE.out.cell (p := ⟨w.heap.size, 1, none⟩) C1.out)
            replace K0 := Lib.hid (HE.out.cell K0.out)
            replace K1 := Lib.hid (HE.out.cell K1.out)
            replace K2 := Lib.hid (HE.out.cell K2.out)
            clear HE
            go_wp2_with (fail)
            go_roundw
            case rel => exact ⟨1, by omega, by go_num, Lib.hid (fun _ => ⟨HB0.out, HB1.out, HB2.out⟩), Lib.hid (fun h => absurd h (by omega)), Lib.hid (XW.out.trans XZ.out)⟩
            case measure => simp [intOf]
    · skip
      replace E := Lib.hid (E.out.trans HE.out)
      replace HX3 := Lib.hid (HX3.out.ext HE.out)
      replace HX4 := Lib.hid (HX4.out.ext HE.out)
      replace HX5 := Lib.hid (HX5.out.ext HE.out)
      replace C0 := Lib.hid (HE.out.cell (p := ⟨w.heap.size, 0, none⟩) C0.out)
      replace C1 := Lib.hid (HE.out.cell (p := ⟨w.heap.size, 1, none⟩) C1.out)
      replace K3 := Lib.hid (HE.out.cell K3.out)
      replace K4 := Lib.hid (HE.out.cell K4.out)
      replace K5 := Lib.hid (HE.out.cell K5.out)
      obtain ⟨b0, hb0⟩ : ∃ b, b = matE p d M3 := ⟨_, rfl⟩
      have HB0 := Lib.hid hb0.symm
      clear hb0
      obtain ⟨b1, hb1⟩ : ∃ b, b = matE p d M4 := ⟨_, rfl⟩
      have HB1 := Lib.hid hb1.symm
      clear hb1
      obtain ⟨b2, hb2⟩ : ∃ b, b = matE p d M5 := ⟨_, rfl⟩
      have HB2 := Lib.hid hb2.symm
      clear hb2
      clear HQ HX0 K0 HRL0 hn0 HX1 K1 HRL1 hn1 HX2 K2 HRL2 hn2
      cases b0 with
      | false =>
        have x00 := C0.out
        have x01 := C1.out
        go_wp2_with (fail)
        clear x00 x01
        replace E := Lib.hid (E.out.trans (ext_drew wr))
        replace HX3 := Lib.hid (HX3.out.ext (ext_drew wr))
        replace HX4 := Lib.hid (HX4.out.ext (ext_drew wr))
        replace HX5 := Lib.hid (HX5.out.ext (ext_drew wr))
        replace C0 := Lib.hid ((ext_drew wr).cell (p := ⟨w.heap.size, 0, none⟩) C0.out)
        replace C1 := Lib.hid ((ext_drew wr).cell (p := ⟨w.heap.size, 1, none⟩) C1.out)
        replace K3 := Lib.hid ((ext_drew wr).cell K3.out)
        replace K4 := Lib.hid ((ext_drew wr).cell K4.out)
        replace K5 := Lib.hid ((ext_drew wr).cell K5.out)
        refine wp_region_lex [(6, .val (.bool false))] (by kernel_rfl) (by kernel_rfl) ?_
        (refine LexW.pure (v := ?_) rfl rfl (fun w1 he => ?_) ?_; rotate_left; ( have x00 := (he.cell (p := ⟨w.heap.size, 0, none⟩) C0.out); have x01 := (he.cell (p := ⟨w.heap.size, 1, none⟩) C1.out); have e3 := he.cell K3.out; have e4 := he.cell K4.out; have e5 := he.cell K5.out; go_simp; rfl); simp only [Act.put, List.setIfInBounds_toArray, List.set_cons_zero, List.set_cons_succ])
        (refine LexW.pure (v := ?_) rfl rfl (fun w1 he => ?_) ?_; rotate_left; ( have x00 := (he.cell (p := ⟨w.heap.size, 0, none⟩) C0.out); have x01 := (he.cell (p := ⟨w.heap.size, 1, none⟩) C1.out); have e3 := he.cell K3.out; have e4 := he.cell K4.out; have e5 := he.cell K5.out; go_simp; rfl); simp only [Act.put, List.setIfInBounds_toArray, List.set_cons_zero, List.set_cons_succ])
        (refine LexW.pure (v := ?_) rfl rfl (fun w1 he => ?_) ?_; rotate_left; ( have x00 := (he.cell (p := ⟨w.heap.size, 0, none⟩) C0.out); have x01 := (he.cell (p := ⟨w.heap.size, 1, none⟩) C1.out); have e3 := he.cell K3.out; have e4 := he.cell K4.out; have e5 := he.cell K5.out; go_simp; rfl); simp only [Act.put, List.setIfInBounds_toArray, List.set_cons_zero, List.set_cons_succ])
        (refine LexW.pure (v := ?_) rfl rfl (fun w1 he => ?_) ?_; rotate_left; ( have x00 := (he.cell (p := ⟨w.heap.size, 0, none⟩) C0.out); have x01 := (he.cell (p := ⟨w.heap.size, 1, none⟩) C1.out); have e3 := he.cell K3.out; have e4 := he.cell K4.out; have e5 := he.cell K5.out; go_simp; rfl); simp only [Act.put, List.setIfInBounds_toArray, List.set_cons_zero, List.set_cons_succ])
        (refine LexW.pure (v := ?_) rfl rfl (fun w1 he => ?_) ?_; rotate_left; ( have x00 := (he.cell (p := ⟨w.heap.size, 0, none⟩) C0.out); have x01 := (he.cell (p := ⟨w.heap.size, 1, none⟩) C1.out); have e3 := he.cell K3.out; have e4 := he.cell K4.out; have e5 := he.cell K5.out; go_simp; rfl); simp only [Act.put, List.setIfInBounds_toArray, List.set_cons_zero, List.set_cons_succ])
        (refine LexW.pure (v := ?_) rfl rfl (fun w1 he => ?_) ?_; rotate_left; ( have x00 := (he.cell (p := ⟨w.heap.size, 0, none⟩) C0.out); have x01 := (he.cell (p := ⟨w.heap.size, 1, none⟩) C1.out); have e3 := he.cell K3.out; have e4 := he.cell K4.out; have e5 := he.cell K5.out; go_simp; rfl); simp only [Act.put, List.setIfInBounds_toArray, List.set_cons_zero, List.set_cons_succ])
        (refine LexW.call (f := ?_) (args := ?_) rfl rfl (fun w1 => ?_) (fun w1 he hdep => ?_) ?_; rotate_left 2; (go_simp; refine ⟨?_, ?_⟩ <;> rfl); ( have H := s_matrix14 p a d cap a3 n3 c3 M3 w1 (by omega) (by omega) (by omega) (by omega) HRL3.out (HX3.out.ext he); rw [HB0.out] at H; exact H); simp only [Act.put, List.setIfInBounds_toArray, List.set_cons_zero, List.set_cons_succ])
        (refine LexW.pure (v := ?_) rfl rfl (fun w1 he => ?_) ?_; rotate_left; ( have x00 := (he.cell (p := ⟨w.heap.size, 0, none⟩) C0.out); have x01 := (he.cell (p := ⟨w.heap.size, 1, none⟩) C1.out); have e3 := he.cell K3.out; have e4 := he.cell K4.out; have e5 := he.cell K5.out; go_simp; rfl); simp only [Act.put, List.setIfInBounds_toArray, List.set_cons_zero, List.set_cons_succ])
        (refine LexW.pure (v := ?_) rfl rfl (fun w1 he => ?_) ?_; rotate_left; ( have x00 := (he.cell (p := ⟨w.heap.size, 0, none⟩) C0.out); have x01 := (he.cell (p := ⟨w.heap.size, 1, none⟩) C1.out); have e3 := he.cell K3.out; have e4 := he.cell K4.out; have e5 := he.cell K5.out; go_simp; rfl); simp only [Act.put, List.setIfInBounds_toArray, List.set_cons_zero, List.set_cons_succ])
        (refine LexW.skip rfl rfl ?_; simp only [Act.put, List.setIfInBounds_toArray, List.set_cons_zero, List.set_cons_succ])
        (refine LexW.skip rfl rfl ?_; simp only [Act.put, List.setIfInBounds_toArray, List.set_cons_zero, List.set_cons_succ])
        (refine LexW.skip rfl rfl ?_; simp only [Act.put, List.setIfInBounds_toArray, List.set_cons_zero, List.set_cons_succ])
        (refine LexW.skip rfl rfl ?_; simp only [Act.put, List.setIfInBounds_toArray, List.set_cons_zero, List.set_cons_succ])
        (refine LexW.skip rfl rfl ?_; simp only [Act.put, List.setIfInBounds_toArray, List.set_cons_zero, List.set_cons_succ])
        (refine LexW.skip rfl rfl ?_; simp only [Act.put, List.setIfInBounds_toArray, List.set_cons_zero, List.set_cons_succ])
        (refine LexW.skip rfl rfl ?_; simp only [Act.put, List.setIfInBounds_toArray, List.set_cons_zero, List.set_cons_succ])
        (refine LexW.skip rfl rfl ?_; simp only [Act.put, List.setIfInBounds_toArray, List.set_cons_zero, List.set_cons_succ])
        (refine LexW.pure (v := ?_) rfl rfl (fun w1 he => ?_) ?_; rotate_left; ( have x00 := (he.cell (p := ⟨w.heap.size, 0, none⟩) C0.out); have x01 := (he.cell (p := ⟨w.heap.size, 1, none⟩) C1.out); have e3 := he.cell K3.out; have e4 := he.cell K4.out; have e5 := he.cell K5.out; go_simp; rfl); simp only [Act.put, List.setIfInBounds_toArray, List.set_cons_zero, List.set_cons_succ])
        (refine LexW.pure (v := ?_) rfl rfl (fun w1 he => ?_) ?_; rotate_left; ( have x00 := (he.cell (p := ⟨w.heap.size, 0, none⟩) C0.out); have x01 := (he.cell (p := ⟨w.heap.size, 1, none⟩) C1.out); have e3 := he.cell K3.out; have e4 := he.cell K4.out; have e5 := he.cell K5.out; go_simp; rfl); simp only [Act.put, List.setIfInBounds_toArray, List.set_cons_zero, List.set_cons_succ])
        (refine LexW.skip rfl rfl ?_; simp only [Act.put, List.setIfInBounds_toArray, List.set_cons_zero, List.set_cons_succ])
        (refine LexW.skip rfl rfl ?_; simp only [Act.put, List.setIfInBounds_toArray, List.set_cons_zero, List.set_cons_succ])
        (refine LexW.skip rfl rfl ?_; simp only [Act.put, List.setIfInBounds_toArray, List.set_cons_zero, List.set_cons_succ])
        (refine LexW.skip rfl rfl ?_; simp only [Act.put, List.setIfInBounds_toArray, List.set_cons_zero, List.set_cons_succ])
        (refine LexW.skip rfl rfl ?_; simp only [Act.put, List.setIfInBounds_toArray, List.set_cons_zero, List.set_cons_succ])
        (refine LexW.skip rfl rfl ?_; simp only [Act.put, List.setIfInBounds_toArray, List.set_cons_zero, List.set_cons_succ])
        (refine LexW.skip rfl rfl ?_; simp only [Act.put, List.setIfInBounds_toArray, List.set_cons_zero, List.set_cons_succ])
        (refine LexW.skip rfl rfl ?_; simp only [Act.put, List.setIfInBounds_toArray, List.set_cons_zero, List.set_cons_succ])
        (refine LexW.pure (v := ?_) rfl rfl (fun w1 he => ?_) ?_; rotate_left; ( have x00 := (he.cell (p := ⟨w.heap.size, 0, none⟩) C0.out); have x01 := (he.cell (p := ⟨w.heap.size, 1, none⟩) C1.out); have e3 := he.cell K3.out; have e4 := he.cell K4.out; have e5 := he.cell K5.out; go_simp; rfl); simp only [Act.put, List.setIfInBounds_toArray, List.set_cons_zero, List.set_cons_succ])
        refine LexW.nil (fun w3 he hkn => ?_)
        have HE := Lib.hid he
        have XZ := Lib.hid ((ext_drew wr).trans he)
        clear he hkn 
        rename World => v6
        replace E := Lib.hid (E.out.trans HE.out)
        replace HX3 := Lib.hid (HX3.out.ext HE.out)
        replace HX4 := Lib.hid (HX4.out.ext HE.out)
        replace HX5 := Lib.hid (HX5.out.ext HE.out)
        replace C0 := Lib.hid (HE.out.cell (p := ⟨w.heap.size, 0, none⟩) C0.out)
        replace C1 := Lib.hid (HE.out.cell (p := ⟨w.heap.size, 1, none⟩) C1.out)
        replace K3 := Lib.hid (HE.out.cell K3.out)
        replace K4 := Lib.hid (HE.out.cell K4.out)
        replace K5 := Lib.hid (HE.out.cell K5.out)
        clear HE
        go_wp2_with (fail)
        go_ret
        exact ⟨ret_int (code15_no HCC.out.symm HQL.out (.inr (.inr (.inr (.inl HB0.out))))).symm, E.out⟩
      | true =>
        cases b1 with
        | false =>
          have x00 := C0.out
          have x01 := C1.out
          go_wp2_with (fail)
          clear x00 x01
          replace E := Lib.hid (E.out.trans (ext_drew wr))
          replace HX3 := Lib.hid (HX3.out.ext (ext_drew wr))
          replace HX4 := Lib.hid (HX4.out.ext (ext_drew wr))
          replace HX5 := Lib.hid (HX5.out.ext (ext_drew wr))
          replace C0 := Lib.hid ((ext_drew wr).cell (p := ⟨w.heap.size, 0, none⟩) C0.out)
          replace C1 := Lib.hid ((ext_drew wr).cell (p := ⟨w.heap.size, 1, none⟩) C1.out)
          replace K3 := Lib.hid ((ext_drew wr).cell K3.out)
          replace K4 := Lib.hid ((ext_drew wr).cell K4.out)
          replace K5 := Lib.hid ((ext_drew wr).cell K5.out)
          refine wp_region_lex [(6, .val (.bool true)), (15, .val (.bool false))] (by kernel_rfl) (by kernel_rfl) ?_
          (refine LexW.pure (v := ?_) rfl rfl (fun w1 he => ?_) ?_; rotate_left; ( have x00 := (he.cell (p := ⟨w.heap.size, 0, none⟩) C0.out); have x01 := (he.cell (p := ⟨w.heap.size, 1, none⟩) C1.out); have e3 := he.cell K3.out; have e4 := he.cell K4.out; have e5 := he.cell K5.out; go_simp; rfl); simp only [Act.put, List.setIfInBounds_toArray, List.set_cons_zero, List.set_cons_succ])
          (refine LexW.pure (v := ?_) rfl rfl (fun w1 he => ?_) ?_; rotate_left; ( have x00 := (he.cell (p := ⟨w.heap.size, 0, none⟩) C0.out); have x01 := (he.cell (p := ⟨w.heap.size, 1, none⟩) C1.out); have e3 := he.cell K3.out; have e4 := he.cell K4.out; have e5 := he.cell K5.out; go_simp; rfl); simp only [Act.put, List.setIfInBounds_toArray, List.set_cons_zero, List.set_cons_succ])
          (refine LexW.pure (v := ?_) rfl rfl (fun w1 he => ?_) ?_; rotate_left; ( have x00 := (he.cell (p := ⟨w.heap.size, 0, none⟩) C0.out); have x01 := (he.cell (p := ⟨w.heap.size, 1, none⟩) C1.out); have e3 := he.cell K3.out; have e4 := he.cell K4.out; have e5 := he.cell K5.out; go_simp; rfl); simp only [Act.put, List.setIfInBounds_toArray, List.set_cons_zero, List.set_cons_succ])
          (refine LexW.pure (v := ?_) rfl rfl (fun w1 he => ?_) ?_; rotate_left; ( have x00 := (he.cell (p := ⟨w.heap.size, 0, none⟩) C0.out); have x01 := (he.cell (p := ⟨w.heap.size, 1, none⟩) C1.out); have e3 := he.cell K3.out; have e4 := he.cell K4.out; have e5 := he.cell K5.out; go_simp; rfl); simp only [Act.put, List.setIfInBounds_toArray, List.set_cons_zero, List.set_cons_succ])
          (refine LexW.pure (v := ?_) rfl rfl (fun w1 he => ?_) ?_; rotate_left; ( have x00 := (he.cell (p := ⟨w.heap.size, 0, none⟩) C0.out); have x01 := (he.cell (p := ⟨w.heap.size, 1, none⟩) C1.out); have e3 := he.cell K3.out; have e4 := he.cell K4.out; have e5 := he.cell K5.out; go_simp; rfl); simp only [Act.put, List.setIfInBounds_toArray, List.set_cons_zero, List.set_cons_succ])
          (refine LexW.pure (v := ?_) rfl rfl (fun w1 he => ?_) ?_; rotate_left; ( have x00 := (he.cell (p := ⟨w.heap.size, 0, none⟩) C0.out); have x01 := (he.cell (p := ⟨w.heap.size, 1, none⟩) C1.out); have e3 := he.cell K3.out; have e4 := he.cell K4.out; have e5 := he.cell K5.out; go_simp; rfl); simp only [Act.put, List.setIfInBounds_toArray, List.set_cons_zero, List.set_cons_succ])
          (refine LexW.call (f := ?_) (args := ?_) rfl rfl (fun w1 => ?_) (fun w1 he hdep => ?_) ?_; rotate_left 2; (go_simp; refine ⟨?_, ?_⟩ <;> rfl); ( have H := s_matrix14 p a d cap a3 n3 c3 M3 w1 (by omega) (by omega) (by omega) (by omega) HRL3.out (HX3.out.ext he); rw [HB0.out] at H; exact H); simp only [Act.put, List.setIfInBounds_toArray, List.set_cons_zero, List.set_cons_succ])
          (refine LexW.pure (v := ?_) rfl rfl (fun w1 he => ?_) ?_; rotate_left; ( have x00 := (he.cell (p := ⟨w.heap.size, 0, none⟩) C0.out); have x01 := (he.cell (p := ⟨w.heap.size, 1, none⟩) C1.out); have e3 := he.cell K3.out; have e4 := he.cell K4.out; have e5 := he.cell K5.out; go_simp; rfl); simp only [Act.put, List.setIfInBounds_toArray, List.set_cons_zero, List.set_cons_succ])
          (refine LexW.pure (v := ?_) rfl rfl (fun w1 he => ?_) ?_; rotate_left; ( have x00 := (he.cell (p := ⟨w.heap.size, 0, none⟩) C0.out); have x01 := (he.cell (p := ⟨w.heap.size, 1, none⟩) C1.out); have e3 := he.cell K3.out; have e4 := he.cell K4.out; have e5 := he.cell K5.out; go_simp; rfl); simp only [Act.put, List.setIfInBounds_toArray, List.set_cons_zero, List.set_cons_succ])
          (refine LexW.pure (v := ?_) rfl rfl (fun w1 he => ?_) ?_; rotate_left; ( have x00 := (he.cell (p := ⟨w.heap.size, 0, none⟩) C0.out); have x01 := (he.cell (p := ⟨w.heap.size, 1, none⟩) C1.out); have e3 := he.cell K3.out; have e4 := he.cell K4.out; have e5 := he.cell K5.out; go_simp; rfl); simp only [Act.put, List.setIfInBounds_toArray, List.set_cons_zero, List.set_cons_succ])
          (refine LexW.pure (v := ?_) rfl rfl (fun w1 he => ?_) ?_; rotate_left; ( have x00 := (he.cell (p := ⟨w.heap.size, 0, none⟩) C0.out); have x01 := (he.cell (p := ⟨w.heap.size, 1, none⟩) C1.out); have e3 := he.cell K3.out; have e4 := he.cell K4.out; have e5 := he.cell K5.out; go_simp; rfl); simp only [Act.put, List.setIfInBounds_toArray, List.set_cons_zero, List.set_cons_succ])
          (refine LexW.pure (v := ?_) rfl rfl (fun w1 he => ?_) ?_; rotate_left; ( have x00 := (he.cell (p := ⟨w.heap.size, 0, none⟩) C0.out); have x01 := (he.cell (p := ⟨w.heap.size, 1, none⟩) C1.out); have e3 := he.cell K3.out; have e4 := he.cell K4.out; have e5 := he.cell K5.out; go_simp; rfl); simp only [Act.put, List.setIfInBounds_toArray, List.set_cons_zero, List.set_cons_succ])
          (refine LexW.pure (v := ?_) rfl rfl (fun w1 he => ?_) ?_; rotate_left; ( have x00 := (he.cell (p := ⟨w.heap.size, 0, none⟩) C0.out); have x01 := (he.cell (p := ⟨w.heap.size, 1, none⟩) C1.out); have e3 := he.cell K3.out; have e4 := he.cell K4.out; have e5 := he.cell K5.out; go_simp; rfl); simp only [Act.put, List.setIfInBounds_toArray, List.set_cons_zero, List.set_cons_succ])
          (refine LexW.pure (v := ?_) rfl rfl (fun w1 he => ?_) ?_; rotate_left; ( have x00 := (he.cell (p := ⟨w.heap.size, 0, none⟩) C0.out); have x01 := (he.cell (p := ⟨w.heap.size, 1, none⟩) C1.out); have e3 := he.cell K3.out; have e4 := he.cell K4.out; have e5 := he.cell K5.out; go_simp; rfl); simp only [Act.put, List.setIfInBounds_toArray, List.set_cons_zero, List.set_cons_succ])
          (refine LexW.pure (v := ?_) rfl rfl (fun w1 he => ?_) ?_; rotate_left; ( have x00 := (he.cell (p := ⟨w.heap.size, 0, none⟩) C0.out); have x01 := (he.cell (p := ⟨w.heap.size, 1, none⟩) C1.out); have e3 := he.cell K3.out; have e4 := he.cell K4.out; have e5 := he.cell K5.out; go_simp; rfl); simp only [Act.put, List.setIfInBounds_toArray, List.set_cons_zero, List.set_cons_succ])
          (refine LexW.call (f := ?_) (args := ?_) rfl rfl (fun w1 => ?_) (fun w1 he hdep => ?_) ?_; rotate_left 2; (go_simp; refine ⟨?_, ?_⟩ <;> rfl); ( have H := s_matrix14 p a d cap a4 n4 c4 M4 w1 (by omega) (by omega) (by omega) (by omega) HRL4.out (HX4.out.ext he); rw [HB1.out] at H; exact H); simp only [Act.put, List.setIfInBounds_toArray, List.set_cons_zero, List.set_cons_succ])
          (refine LexW.pure (v := ?_) rfl rfl (fun w1 he => ?_) ?_; rotate_left; ( have x00 := (he.cell (p := ⟨w.heap.size, 0, none⟩) C0.out); have x01 := (he.cell (p := ⟨w.heap.size, 1, none⟩) C1.out); have e3 := he.cell K3.out; have e4 := he.cell K4.out; have e5 := he.cell K5.out; go_simp; rfl); simp only [Act.put, List.setIfInBounds_toArray, List.set_cons_zero, List.set_cons_succ])
          (refine LexW.pure (v := ?_) rfl rfl (fun w1 he => ?_) ?_; rotate_left; ( have x00 := (he.cell (p := ⟨w.heap.size, 0, none⟩) C0.out); have x01 := (he.cell (p := ⟨w.heap.size, 1, none⟩) C1.out); have e3 := he.cell K3.out; have e4 := he.cell K4.out; have e5 := he.cell K5.out; go_simp; rfl); simp only [Act.put, List.setIfInBounds_toArray, List.set_cons_zero, List.set_cons_succ])
          (refine LexW.pure (v := ?_) rfl rfl (fun w1 he => ?_) ?_; rotate_left; ( have x00 := (he.cell (p := ⟨w.heap.size, 0, none⟩) C0.out); have x01 := (he.cell (p := ⟨w.heap.size, 1, none⟩) C1.out); have e3 := he.cell K3.out; have e4 := he.cell K4.out; have e5 := he.cell K5.out; go_simp; rfl); simp only [Act.put, List.setIfInBounds_toArray, List.set_cons_zero, List.set_cons_succ])
          (refine LexW.skip rfl rfl ?_; simp only [Act.put, List.setIfInBounds_toArray, List.set_cons_zero, List.set_cons_succ])
          (refine LexW.skip rfl rfl ?_; simp only [Act.put, List.setIfInBounds_toArray, List.set_cons_zero, List.set_cons_succ])
          (refine LexW.skip rfl rfl ?_; simp only [Act.put, List.setIfInBounds_toArray, List.set_cons_zero, List.set_cons_succ])
          (refine LexW.skip rfl rfl ?_; simp only [Act.put, List.setIfInBounds_toArray, List.set_cons_zero, List.set_cons_succ])
          (refine LexW.skip rfl rfl ?_; simp only [Act.put, List.setIfInBounds_toArray, List.set_cons_zero, List.set_cons_succ])
          (refine LexW.skip rfl rfl ?_; simp only [Act.put, List.setIfInBounds_toArray, List.set_cons_zero, List.set_cons_succ])
          (refine LexW.skip rfl rfl ?_; simp only [Act.put, List.setIfInBounds_toArray, List.set_cons_zero, List.set_cons_succ])
          (refine LexW.skip rfl rfl ?_; simp only [Act.put, List.setIfInBounds_toArray, List.set_cons_zero, List.set_cons_succ])
          (refine LexW.pure (v := ?_) rfl rfl (fun w1 he => ?_) ?_; rotate_left; ( have x00 := (he.cell (p := ⟨w.heap.size, 0, none⟩) C0.out); have x01 := (he.cell (p := ⟨w.heap.size, 1, none⟩) C1.out); have e3 := he.cell K3.out; have e4 := he.cell K4.out; have e5 := he.cell K5.out; go_simp; rfl); simp only [Act.put, List.setIfInBounds_toArray, List.set_cons_zero, List.set_cons_succ])
          refine LexW.nil (fun w3 he hkn => ?_)
          have HE := Lib.hid he
          have XZ := Lib.hid ((ext_drew wr).trans he)
          clear he hkn 
          rename World => v7
          replace E := Lib.hid (E.out.trans HE.out)
          replace HX3 := Lib.hid (HX3.out.ext HE.out)
          replace HX4 := Lib.hid (HX4.out.ext HE.out)
          replace HX5 := Lib.hid (HX5.out.ext HE.out)
          replace C0 := Lib.hid (HE.out.cell (p := ⟨w.heap.size, 0, none⟩) C0.out)
          replace C1 := Lib.hid (HE.out.cell (p := ⟨w.heap.size, 1, none⟩) C1.out)
          replace K3 := Lib.hid (HE.out.cell K3.out)
          replace K4 := Lib.hid (HE.out.cell K4.out)
          replace K5 := Lib.hid (HE.out.cell K5.out)
          clear HE
          go_wp2_with (fail)
          go_ret
          exact ⟨ret_int (code15_no HCC.out.symm HQL.out (.inr (.inr (.inr (.inr (.inl HB1.out)))))).symm, E.out⟩
        | true =>
          cases b2 with
          | false =>
            have x00 := C0.out
            have x01 := C1.out
            go_wp2_with (fail)
            clear x00 x01
            replace E := Lib.hid (E.out.trans (ext_drew wr))
            replace HX3 := Lib.hid (HX3.out.ext (ext_drew wr))
            replace HX4 := Lib.hid (HX4.out.ext (ext_drew wr))
            replace HX5 := Lib.hid (HX5.out.ext (ext_drew wr))
            replace C0 := Lib.hid ((ext_drew wr).cell (p := ⟨w.heap.size, 0, none⟩) C0.out)
            replace C1 := Lib.hid ((ext_drew wr).cell (p := ⟨w.heap.size, 1, none⟩) C1.out)
            replace K3 := Lib.hid ((ext_drew wr).cell K3.out)
            replace K4 := Lib.hid ((ext_drew wr).cell K4.out)
            replace K5 := Lib.hid ((ext_drew wr).cell K5.out)
            refine wp_region_lex [(6, .val (.bool true)), (15, .val (.bool true)), (25, .val (.bool false))] (by kernel_rfl) (by kernel_rfl) ?_
            (refine LexW.pure (v := ?_) rfl rfl (fun w1 he => ?_) ?_; rotate_left; ( have x00 := (he.cell (p := ⟨w.heap.size, 0, none⟩) C0.out); have x01 := (he.cell (p := ⟨w.heap.size, 1, none⟩) C1.out); have e3 := he.cell K3.out; have e4 := he.cell K4.out; have e5 := he.cell K5.out; go_simp; rfl); simp only [Act.put, List.setIfInBounds_toArray, List.set_cons_zero, List.set_cons_succ])
            (refine LexW.pure (v := ?_) rfl rfl (fun w1 he => ?_) ?_; rotate_left; ( have x00 := (he.cell (p := ⟨w.heap.size, 0, none⟩) C0.out); have x01 := (he.cell (p := ⟨w.heap.size, 1, none⟩) C1.out); have e3 := he.cell K3.out; have e4 := he.cell K4.out; have e5 := he.cell K5.out; go_simp; rfl); simp only [Act.put, List.setIfInBounds_toArray, List.set_cons_zero, List.set_cons_succ])
            (refine LexW.pure (v := ?_) rfl rfl (fun w1 he => ?_) ?_; rotate_left; ( have x00 := (he.cell (p := ⟨w.heap.size, 0, none⟩) C0.out); have x01 := (he.cell (p := ⟨w.heap.size, 1, none⟩) C1.out); have e3 := he.cell K3.out; have e4 := he.cell K4.out; have e5 := he.cell K5.out; go_simp; rfl); simp only [Act.put, List.setIfInBounds_toArray, List.set_cons_zero, List.set_cons_succ])
            (refine LexW.pure (v := ?_) rfl rfl (fun w1 he => ?_) ?_; rotate_left; ( have x00 := (he.cell (p := ⟨w.heap.size, 0, none⟩) C0.out); have x01 := (he.cell (p := ⟨w.heap.size, 1, none⟩) C1.out); have e3 := he.cell K3.out; have e4 := he.cell K4.out; have e5 := he.cell K5.out; go_simp; rfl); simp only [Act.put, List.setIfInBounds_toArray, List.set_cons_zero, List.set_cons_succ])
            (refine LexW.pure (v := ?_) rfl rfl (fun w1 he => ?_) ?_; rotate_left; ( have x00 := (he.cell (p := ⟨w.heap.size, 0, none⟩) C0.out); have x01 := (he.cell (p := ⟨w.heap.size, 1, none⟩) C1.out); have e3 := he.cell K3.out; have e4 := he.cell K4.out; have e5 := he.cell K5.out; go_simp; rfl); simp only [Act.put, List.setIfInBounds_toArray, List.set_cons_zero, List.set_cons_succ])
            (refine LexW.pure (v := ?_) rfl rfl (fun w1 he => ?_) ?_; rotate_left; ( have x00 := (he.cell (p := ⟨w.heap.size, 0, none⟩) C0.out); have x01 := (he.cell (p := ⟨w.heap.size, 1, none⟩) C1.out); have e3 := he.cell K3.out; have e4 := he.cell K4.out; have e5 := he.cell K5.out; go_simp; rfl); simp only [Act.put, List.setIfInBounds_toArray, List.set_cons_zero, List.set_cons_succ])
            (refine LexW.call (f := ?_) (args := ?_) rfl rfl (fun w1 => ?_) (fun w1 he hdep => ?_) ?_; rotate_left 2; (go_simp; refine ⟨?_, ?_⟩ <;> rfl); ( have H := s_matrix14 p a d cap a3 n3 c3 M3 w1 (by omega) (by omega) (by omega) (by omega) HRL3.out (HX3.out.ext he); rw [HB0.out] at H; exact H); simp only [Act.put, List.setIfInBounds_toArray, List.set_cons_zero, List.set_cons_succ])
            (refine LexW.pure (v := ?_) rfl rfl (fun w1 he => ?_) ?_; rotate_left; ( have x00 := (he.cell (p := ⟨w.heap.size, 0, none⟩) C0.out); have x01 := (he.cell (p := ⟨w.heap.size, 1, none⟩) C1.out); have e3 := he.cell K3.out; have e4 := he.cell K4.out; have e5 := he.cell K5.out; go_simp; rfl); simp only [Act.put, List.setIfInBounds_toArray, List.set_cons_zero, List.set_cons_succ])
            (refine LexW.pure (v := ?_) rfl rfl (fun w1 he => ?_) ?_; rotate_left; ( have x00 := (he.cell (p := ⟨w.heap.size, 0, none⟩) C0.out); have x01 := (he.cell (p := ⟨w.heap.size, 1, none⟩) C1.out); have e3 := he.cell K3.out; have e4 := he.cell K4.out; have e5 := he.cell K5.out; go_simp; rfl); simp only [Act.put, List.setIfInBounds_toArray, List.set_cons_zero, List.set_cons_succ])
            (refine LexW.pure (v := ?_) rfl rfl (fun w1 he => ?_) ?_; rotate_left; ( have x00 := (he.cell (p := ⟨w.heap.size, 0, none⟩) C0.out); have x01 := (he.cell (p := ⟨w.heap.size, 1, none⟩) C1.out); have e3 := he.cell K3.out; have e4 := he.cell K4.out; have e5 := he.cell K5.out; go_simp; rfl); simp only [Act.put, List.setIfInBounds_toArray, List.set_cons_zero, List.set_cons_succ])
            (refine LexW.pure (v := ?_) rfl rfl (fun w1 he => ?_) ?_; rotate_left; ( have x00 := (he.cell (p := ⟨w.heap.size, 0, none⟩) C0.out); have x01 := (he.cell (p := ⟨w.heap.size, 1, none⟩) C1.out); have e3 := he.cell K3.out; have e4 := he.cell K4.out; have e5 := he.cell K5.out; go_simp; rfl); simp only [Act.put, List.setIfInBounds_toArray, List.set_cons_zero, List.set_cons_succ])
            (refine LexW.pure (v := ?_) rfl rfl (fun w1 he => ?_) ?_; rotate_left; ( have x00 := (he.cell (p := ⟨w.heap.size, 0, none⟩) C0.out); have x01 := (he.cell (p := ⟨w.heap.size, 1, none⟩) C1.out); have e3 := he.cell K3.out; have e4 := he.cell K4.out; have e5 := he.cell K5.out; go_simp; rfl); simp only [Act.put, List.setIfInBounds_toArray, List.set_cons_zero, List.set_cons_succ])
            (refine LexW.pure (v := ?_) rfl rfl (fun w1 he => ?_) ?_; rotate_left; ( have x00 := (he.cell (p := ⟨w.heap.size, 0, none⟩) C0.out); have x01 := (he.cell (p := ⟨w.heap.size, 1, none⟩) C1.out); have e3 := he.cell K3.out; have e4 := he.cell K4.out; have e5 := he.cell K5.out; go_simp; rfl); simp only [Act.put, List.setIfInBounds_toArray, List.set_cons_zero, List.set_cons_succ])
            (refine LexW.pure (v := ?_) rfl rfl (fun w1 he => ?_) ?_; rotate_left; ( have x00 := (he.cell (p := ⟨w.heap.size, 0, none⟩) C0.out); have x01 := (he.cell (p := ⟨w.heap.size, 1, none⟩) C1.out); have e3 := he.cell K3.out; have e4 := he.cell K4.out; have e5 := he.cell K5.out; go_simp; rfl); simp only [Act.put, List.setIfInBounds_toArray, List.set_cons_zero, List.set_cons_succ])
            (refine LexW.pure (v := ?_) rfl rfl (fun w1 he => ?_) ?_; rotate_left; ( have x00 := (he.cell (p := ⟨w.heap.size, 0, none⟩) C0.out); have x01 := (he.cell (p := ⟨w.heap.size, 1, none⟩) C1.out); have e3 := he.cell K3.out; have e4 := he.cell K4.out; have e5 := he.cell K5.out; go_simp; rfl); simp only [Act.put, List.setIfInBounds_toArray, List.set_cons_zero, List.set_cons_succ])
            (refine LexW.call (f := ?_) (args := ?_) rfl rfl (fun w1 => ?_) (fun w1 he hdep => ?_) ?_; rotate_left 2; (go_simp; refine ⟨?_, ?_⟩ <;> rfl); ( have H := s_matrix14 p a d cap a4 n4 c4 M4 w1 (by omega) (by omega) (by omega) (by omega) HRL4.out (HX4.out.ext he); rw [HB1.out] at H; exact H); simp only [Act.put, List.setIfInBounds_toArray, List.set_cons_zero, List.set_cons_succ])
            (refine LexW.pure (v := ?_) rfl rfl (fun w1 he => ?_) ?_; rotate_left; ( have x00 := (he.cell (p := ⟨w.heap.size, 0, none⟩) C0.out); have x01 := (he.cell (p := ⟨w.heap.size, 1, none⟩) C1.out); have e3 := he.cell K3.out; have e4 := he.cell K4.out; have e5 := he.cell K5.out; go_simp; rfl); simp only [Act.put, List.setIfInBounds_toArray, List.set_cons_zero, List.set_cons_succ])
            (refine LexW.pure (v := ?_) rfl rfl (fun w1 he => ?_) ?_; rotate_left; ( have x00 := (he.cell (p := ⟨w.heap.size, 0, none⟩) C0.out); have x01 := (he.cell (p := ⟨w.heap.size, 1, none⟩) C1.out); have e3 := he.cell K3.out; have e4 := he.cell K4.out; have e5 := he.cell K5.out; go_simp; rfl); simp only [Act.put, List.setIfInBounds_toArray, List.set_cons_zero, List.set_cons_succ])
            (refine LexW.pure (v := ?_) rfl rfl (fun w1 he => ?_) ?_; rotate_left; ( have x00 := (he.cell (p := ⟨w.heap.size, 0, none⟩) C0.out); have x01 := (he.cell (p := ⟨w.heap.size, 1, none⟩) C1.out); have e3 := he.cell K3.out; have e4 := he.cell K4.out; have e5 := he.cell K5.out; go_simp; rfl); simp only [Act.put, List.setIfInBounds_toArray, List.set_cons_zero, List.set_cons_succ])
            (refine LexW.pure (v := ?_) rfl rfl (fun w1 he => ?_) ?_; rotate_left; ( have x00 := (he.cell (p := ⟨w.heap.size, 0, none⟩) C0.out); have x01 := (he.cell (p := ⟨w.heap.size, 1, none⟩) C1.out); have e3 := he.cell K3.out; have e4 := he.cell K4.out; have e5 := he.cell K5.out; go_simp; rfl); simp only [Act.put, List.setIfInBounds_toArray, List.set_cons_zero, List.set_cons_succ])
            (refine LexW.pure (v := ?_) rfl rfl (fun w1 he => ?_) ?_; rotate_left; ( have x00 := (he.cell (p := ⟨w.heap.size, 0, none⟩) C0.out); have x01 := (he.cell (p := ⟨w.heap.size, 1, none⟩) C1.out); have e3 := he.cell K3.out; have e4 := he.cell K4.out; have e5 := he.cell K5.out; go_simp; rfl); simp only [Act.put, List.setIfInBounds_toArray, List.set_cons_zero, List.set_cons_succ])
            (refine LexW.pure (v := ?_) rfl rfl (fun w1 he => ?_) ?_; rotate_left; ( have x00 := (he.cell (p := ⟨w.heap.size, 0, none⟩) C0.out); have x01 := (he.cell (p := ⟨w.heap.size, 1, none⟩) C1.out); have e3 := he.cell K3.out; have e4 := he.cell K4.out; have e5 := he.cell K5.out; go_simp; rfl); simp only [Act.put, List.setIfInBounds_toArray, List.set_cons_zero, List.set_cons_succ])
            (refine LexW.pure (v := ?_) rfl rfl (fun w1 he => ?_) ?_; rotate_left; ( have x00 := (he.cell (p := ⟨w.heap.size, 0, none⟩) C0.out); have x01 := (he.cell (p := ⟨w.heap.size, 1, none⟩) C1.out); have e3 := he.cell K3.out; have e4 := he.cell K4.out; have e5 := he.cell K5.out; go_simp; rfl); simp only [Act.put, List.setIfInBounds_toArray, List.set_cons_zero, List.set_cons_succ])
            (refine LexW.pure (v := ?_) rfl rfl (fun w1 he => ?_) ?_; rotate_left; ( have x00 := (he.cell (p := ⟨w.heap.size, 0, none⟩) C0.out); have x01 := (he.cell (p := ⟨w.heap.size, 1, none⟩) C1.out); have e3 := he.cell K3.out; have e4 := he.cell K4.out; have e5 := he.cell K5.out; go_simp; rfl); simp only [Act.put, List.setIfInBounds_toArray, List.set_cons_zero, List.set_cons_succ])
            (refine LexW.pure (v := ?_) rfl rfl (fun w1 he => ?_) ?_; rotate_left; ( have x00 := (he.cell (p := ⟨w.heap.size, 0, none⟩) C0.out); have x01 := (he.cell (p := ⟨w.heap.size, 1, none⟩) C1.out); have e3 := he.cell K3.out; have e4 := he.cell K4.out; have e5 := he.cell K5.out; go_simp; rfl); simp only [Act.put, List.setIfInBounds_toArray, List.set_cons_zero, List.set_cons_succ])
            (refine LexW.call (f := ?_) (args := ?_) rfl rfl (fun w1 => ?_) (fun w1 he hdep => ?_) ?_; rotate_left 2; (go_simp; refine ⟨?_, ?_⟩ <;> rfl); ( have H := s_matrix14 p a d cap a5 n5 c5 M5 w1 (by omega) (by omega) (by omega) (by omega) HRL5.out (HX5.out.ext he); rw [HB2.out] at H; exact H); simp only [Act.put, List.setIfInBounds_toArray, List.set_cons_zero, List.set_cons_succ])
            (refine LexW.pure (v := ?_) rfl rfl (fun w1 he => ?_) ?_; rotate_left; ( have x00 := (he.cell (p := ⟨w.heap.size, 0, none⟩) C0.out); have x01 := (he.cell (p := ⟨w.heap.size, 1, none⟩) C1.out); have e3 := he.cell K3.out; have e4 := he.cell K4.out; have e5 := he.cell K5.out; go_simp; rfl); simp only [Act.put, List.setIfInBounds_toArray, List.set_cons_zero, List.set_cons_succ])
            (refine LexW.pure (v := ?_) rfl rfl (fun w1 he => ?_) ?_; rotate_left; ( have x00 := (he.cell (p := ⟨w.heap.size, 0, none⟩) C0.out); have x01 := (he.cell (p := ⟨w.heap.size, 1, none⟩) C1.out); have e3 := he.cell K3.out; have e4 := he.cell K4.out; have e5 := he.cell K5.out; go_simp; rfl); simp only [Act.put, List.setIfInBounds_toArray, List.set_cons_zero, List.set_cons_succ])
            refine LexW.nil (fun w3 he hkn => ?_)
            have HE := Lib.hid he
            have XZ := Lib.hid ((ext_drew wr).trans he)
            clear he hkn 
            rename World => v8
            replace E := Lib.hid (E.out.trans HE.out)
            replace HX3 := Lib.hid (HX3.out.ext HE.out)
            replace HX4 := Lib.hid (HX4.out.ext HE.out)
            replace HX5 := Lib.hid (HX5.out.ext HE.out)
            replace C0 := Lib.hid (HE.out.cell (p := ⟨w.heap.size, 0, none⟩) C0.out)
            replace C1 := Lib.hid (HE.out.cell (p := ⟨w.heap.size, 1, none⟩) C1.out)
            replace K3 := Lib.hid (HE.out.cell K3.out)
            replace K4 := Lib.hid (HE.out.cell K4.out)
            replace K5 := Lib.hid (HE.out.cell K5.out)
            clear HE
            go_wp2_with (fail)
            go_ret
            exact ⟨ret_int (code15_no HCC.out.symm HQL.out (.inr (.inr (.inr (.inr (.inr (HB2.out))))))).symm, E.out⟩
          | true =>
            have XW := HE
            have x00 := C0.out
            have x01 := C1.out
            go_wp2_with (fail)
            clear x00 x01
            replace E := Lib.hid (E.out.trans (ext_drew wr))
            replace HX3 := Lib.hid (HX3.out.ext (ext_drew wr))
            replace HX4 := Lib.hid (HX4.out.ext (ext_drew wr))
            replace HX5 := Lib.hid (HX5.out.ext (ext_drew wr))
            replace C0 := Lib.hid ((ext_drew wr).cell (p := ⟨w.heap.size, 0, none⟩) C0.out)
            replace C1 := Lib.hid ((ext_drew wr).cell (p := ⟨w.heap.size, 1, none⟩) C1.out)
            replace K3 := Lib.hid ((ext_drew wr).cell K3.out)
            replace K4 := Lib.hid ((ext_drew wr).cell K4.out)
            replace K5 := Lib.hid ((ext_drew wr).cell K5.out)
            refine wp_region_lex [(6, .val (.bool true)), (15, .val (.bool true)), (25, .val (.bool true))] (by kernel_rfl) (by kernel_rfl) ?_
            (refine LexW.pure (v := ?_) rfl rfl (fun w1 he => ?_) ?_; rotate_left; ( have x00 := (he.cell (p := ⟨w.heap.size, 0, none⟩) C0.out); have x01 := (he.cell (p := ⟨w.heap.size, 1, none⟩) C1.out); have e3 := he.cell K3.out; have e4 := he.cell K4.out; have e5 := he.cell K5.out; go_simp; rfl); simp only [Act.put, List.setIfInBounds_toArray, List.set_cons_zero, List.set_cons_succ])
            (refine LexW.pure (v := ?_) rfl rfl (fun w1 he => ?_) ?_; rotate_left; ( have x00 := (he.cell (p := ⟨w.heap.size, 0, none⟩) C0.out); have x01 := (he.cell (p := ⟨w.heap.size, 1, none⟩) C1.out); have e3 := he.cell K3.out; have e4 := he.cell K4.out; have e5 := he.cell K5.out; go_simp; rfl); simp only [Act.put, List.setIfInBounds_toArray, List.set_cons_zero, List.set_cons_succ])
            (refine LexW.pure (v := ?_) rfl rfl (fun w1 he => ?_) ?_; rotate_left; ( have x00 := (he.cell (p := ⟨w.heap.size, 0, none⟩) C0.out); have x01 := (he.cell (p := ⟨w.heap.size, 1, none⟩) C1.out); have e3 := he.cell K3.out; have e4 := he.cell K4.out; have e5 := he.cell K5.out; go_simp; rfl); simp only [Act.put, List.setIfInBounds_toArray, List.set_cons_zero, List.set_cons_succ])
            (refine LexW.pure (v := ?_) rfl rfl (fun w1 he => ?_) ?_; rotate_left; ( have x00 := (he.cell (p := ⟨w.heap.size, 0, none⟩) C0.out); have x01 := (he.cell (p := ⟨w.heap.size, 1, none⟩) C1.out); have e3 := he.cell K3.out; have e4 := he.cell K4.out; have e5 := he.cell K5.out; go_simp; rfl); simp only [Act.put, List.setIfInBounds_toArray, List.set_cons_zero, List.set_cons_succ])
            (refine LexW.pure (v := ?_) rfl rfl (fun w1 he => ?_) ?_; rotate_left; ( have x00 := (he.cell (p := ⟨w.heap.size, 0, none⟩) C0.out); have x01 := (he.cell (p := ⟨w.heap.size, 1, none⟩) C1.out); have e3 := he.cell K3.out; have e4 := he.cell K4.out; have e5 := he.cell K5.out; go_simp; rfl); simp only [Act.put, List.setIfInBounds_toArray, List.set_cons_zero, List.set_cons_succ])
            (refine LexW.pure (v := ?_) rfl rfl (fun w1 he => ?_) ?_; rotate_left; ( have x00 := (he.cell (p := ⟨w.heap.size, 0, none⟩) C0.out); have x01 := (he.cell (p := ⟨w.heap.size, 1, none⟩) C1.out); have e3 := he.cell K3.out; have e4 := he.cell K4.out; have e5 := he.cell K5.out; go_simp; rfl); simp only [Act.put, List.setIfInBounds_toArray, List.set_cons_zero, List.set_cons_succ])
            (refine LexW.call (f := ?_) (args := ?_) rfl rfl (fun w1 => ?_) (fun w1 he hdep => ?_) ?_; rotate_left 2; (go_simp; refine ⟨?_, ?_⟩ <;> rfl); ( have H := s_matrix14 p a d cap a3 n3 c3 M3 w1 (by omega) (by omega) (by omega) (by omega) HRL3.out (HX3.out.ext he); rw [HB0.out] at H; exact H); simp only [Act.put, List.setIfInBounds_toArray, List.set_cons_zero, List.set_cons_succ])
            (refine LexW.pure (v := ?_) rfl rfl (fun w1 he => ?_) ?_; rotate_left; ( have x00 := (he.cell (p := ⟨w.heap.size, 0, none⟩) C0.out); have x01 := (he.cell (p := ⟨w.heap.size, 1, none⟩) C1.out); have e3 := he.cell K3.out; have e4 := he.cell K4.out; have e5 := he.cell K5.out; go_simp; rfl); simp only [Act.put, List.setIfInBounds_toArray, List.set_cons_zero, List.set_cons_succ])
            (refine LexW.pure (v := ?_) rfl rfl (fun w1 he => ?_) ?_; rotate_left; ( have x00 := (he.cell (p := ⟨w.heap.size, 0, none⟩) C0.out); have x01 := (he.cell (p := ⟨w.heap.size, 1, none⟩) C1.out); have e3 := he.cell K3.out; have e4 := he.cell K4.out; have e5 := he.cell K5.out; go_simp; rfl); simp only [Act.put, List.setIfInBounds_toArray, List.set_cons_zero, List.set_cons_succ])
            (refine LexW.pure (v := ?_) rfl rfl (fun w1 he => ?_) ?_; rotate_left; ( have x00 := (he.cell (p := ⟨w.heap.size, 0, none⟩) C0.out); have x01 := (he.cell (p := ⟨w.heap.size, 1, none⟩) C1.out); have e3 := he.cell K3.out; have e4 := he.cell K4.out; have e5 := he.cell K5.out; go_simp; rfl); simp only [Act.put, List.setIfInBounds_toArray, List.set_cons_zero, List.set_cons_succ])
            (refine LexW.pure (v := ?_) rfl rfl (fun w1 he => ?_) ?_; rotate_left; ( have x00 := (he.cell (p := ⟨w.heap.size, 0, none⟩) C0.out); have x01 := (he.cell (p := ⟨w.heap.size, 1, none⟩) C1.out); have e3 := he.cell K3.out; have e4 := he.cell K4.out; have e5 := he.cell K5.out; go_simp; rfl); simp only [Act.put, List.setIfInBounds_toArray, List.set_cons_zero, List.set_cons_succ])
            (refine LexW.pure (v := ?_) rfl rfl (fun w1 he => ?_) ?_; rotate_left; ( have x00 := (he.cell (p := ⟨w.heap.size, 0, none⟩) C0.out); have x01 := (he.cell (p := ⟨w.heap.size, 1, none⟩) C1.out); have e3 := he.cell K3.out; have e4 := he.cell K4.out; have e5 := he.cell K5.out; go_simp; rfl); simp only [Act.put, List.setIfInBounds_toArray, List.set_cons_zero, List.set_cons_succ])
            (refine LexW.pure (v := ?_) rfl rfl (fun w1 he => ?_) ?_; rotate_left; ( have x00 := (he.cell (p := ⟨w.heap.size, 0, none⟩) C0.out); have x01 := (he.cell (p := ⟨w.heap.size, 1, none⟩) C1.out); have e3 := he.cell K3.out; have e4 := he.cell K4.out; have e5 := he.cell K5.out; go_simp; rfl); simp only [Act.put, List.setIfInBounds_toArray, List.set_cons_zero, List.set_cons_succ])
            (refine LexW.pure (v := ?_) rfl rfl (fun w1 he => ?_) ?_; rotate_left; ( have x00 := (he.cell (p := ⟨w.heap.size, 0, none⟩) C0.out); have x01 := (he.cell (p := ⟨w.heap.size, 1, none⟩) C1.out); have e3 := he.cell K3.out; have e4 := he.cell K4.out; have e5 := he.cell K5.out; go_simp; rfl); simp only [Act.put, List.setIfInBounds_toArray, List.set_cons_zero, List.set_cons_succ])
            (refine LexW.pure (v := ?_) rfl rfl (fun w1 he => ?_) ?_; rotate_left; ( have x00 := (he.cell (p := ⟨w.heap.size, 0, none⟩) C0.out); have x01 := (he.cell (p := ⟨w.heap.size, 1, none⟩) C1.out); have e3 := he.cell K3.out; have e4 := he.cell K4.out; have e5 := he.cell K5.out; go_simp; rfl); simp only [Act.put, List.setIfInBounds_toArray, List.set_cons_zero, List.set_cons_succ])
            (refine LexW.call (f := ?_) (args := ?_) rfl rfl (fun w1 => ?_) (fun w1 he hdep => ?_) ?_; rotate_left 2; (go_simp; refine ⟨?_, ?_⟩ <;> rfl); ( have H := s_matrix14 p a d cap a4 n4 c4 M4 w1 (by omega) (by omega) (by omega) (by omega) HRL4.out (HX4.out.ext he); rw [HB1.out] at H; exact H); simp only [Act.put, List.setIfInBounds_toArray, List.set_cons_zero, List.set_cons_succ])
            (refine LexW.pure (v := ?_) rfl rfl (fun w1 he => ?_) ?_; rotate_left; ( have x00 := (he.cell (p := ⟨w.heap.size, 0, none⟩) C0.out); have x01 := (he.cell (p := ⟨w.heap.size, 1, none⟩) C1.out); have e3 := he.cell K3.out; have e4 := he.cell K4.out; have e5 := he.cell K5.out; go_simp; rfl); simp only [Act.put, List.setIfInBounds_toArray, List.set_cons_zero, List.set_cons_succ])
            (refine LexW.pure (v := ?_) rfl rfl (fun w1 he => ?_) ?_; rotate_left; ( have x00 := (he.cell (p := ⟨w.heap.size, 0, none⟩) C0.out); have x01 := (he.cell (p := ⟨w.heap.size, 1, none⟩) C1.out); have e3 := he.cell K3.out; have e4 := he.cell K4.out; have e5 := he.cell K5.out; go_simp; rfl); simp only [Act.put, List.setIfInBounds_toArray, List.set_cons_zero, List.set_cons_succ])
            (refine LexW.pure (v := ?_) rfl rfl (fun w1 he => ?_) ?_; rotate_left; ( have x00 := (he.cell (p := ⟨w.heap.size, 0, none⟩) C0.out); have x01 := (he.cell (p := ⟨w.heap.size, 1, none⟩) C1.out); have e3 := he.cell K3.out; have e4 := he.cell K4.out; have e5 := he.cell K5.out; go_simp; rfl); simp only [Act.put, List.setIfInBounds_toArray, List.set_cons_zero, List.set_cons_succ])
            (refine LexW.pure (v := ?_) rfl rfl (fun w1 he => ?_) ?_; rotate_left; ( have x00 := (he.cell (p := ⟨w.heap.size, 0, none⟩) C0.out); have x01 := (he.cell (p := ⟨w.heap.size, 1, none⟩) C1.out); have e3 := he.cell K3.out; have e4 := he.cell K4.out; have e5 := he.cell K5.out; go_simp; rfl); simp only [Act.put, List.setIfInBounds_toArray, List.set_cons_zero, List.set_cons_succ])
            (refine LexW.pure (v := ?_) rfl rfl (fun w1 he => ?_) ?_; rotate_left; ( have x00 := (he.cell (p := ⟨w.heap.size, 0, none⟩) C0.out); have x01 := (he.cell (p := ⟨w.heap.size, 1, none⟩) C1.out); have e3 := he.cell K3.out; have e4 := he.cell K4.out; have e5 := he.cell K5.out; go_simp; rfl); simp only [Act.put, List.setIfInBounds_toArray, List.set_cons_zero, List.set_cons_succ])
            (refine LexW.pure (v := ?_) rfl rfl (fun w1 he => ?_) ?_; rotate_left; ( have x00 := (he.cell (p := ⟨w.heap.size, 0, none⟩) C0.out); have x01 := (he.cell (p := ⟨w.heap.size, 1, none⟩) C1.out); have e3 := he.cell K3.out; have e4 := he.cell K4.out; have e5 := he.cell K5.out; go_simp; rfl); simp only [Act.put, List.setIfInBounds_toArray, List.set_cons_zero, List.set_cons_succ])
            (refine LexW.pure (v := ?_) rfl rfl (fun w1 he => ?_) ?_; rotate_left; ( have x00 := (he.cell (p := ⟨w.heap.size, 0, none⟩) C0.out); have x01 := (he.cell (p := ⟨w.heap.size, 1, none⟩) C1.out); have e3 := he.cell K3.out; have e4 := he.cell K4.out; have e5 := he.cell K5.out; go_simp; rfl); simp only [Act.put, List.setIfInBounds_toArray, List.set_cons_zero, List.set_cons_succ])
            (refine LexW.pure (v := ?_) rfl rfl (fun w1 he => ?_) ?_; rotate_left; ( have x00 := (he.cell (p := ⟨w.heap.size, 0, none⟩) C0.out); have x01 := (he.cell (p := ⟨w.heap.size, 1, none⟩) C1.out); have e3 := he.cell K3.out; have e4 := he.cell K4.out; have e5 := he.cell K5.out; go_simp; rfl); simp only [Act.put, List.setIfInBounds_toArray, List.set_cons_zero, List.set_cons_succ])
            (refine LexW.pure (v := ?_) rfl rfl (fun w1 he => ?_) ?_; rotate_left; ( have x00 := (he.cell (p := ⟨w.heap.size, 0, none⟩) C0.out); have x01 := (he.cell (p := ⟨w.heap.size, 1, none⟩) C1.out); have e3 := he.cell K3.out; have e4 := he.cell K4.out; have e5 := he.cell K5.out; go_simp; rfl); simp only [Act.put, List.setIfInBounds_toArray, List.set_cons_zero, List.set_cons_succ])
            (refine LexW.call (f := ?_) (args := ?_) rfl rfl (fun w1 => ?_) (fun w1 he hdep => ?_) ?_; rotate_left 2; (go_simp; refine ⟨?_, ?_⟩ <;> rfl); ( have H := s_matrix14 p a d cap a5 n5 c5 M5 w1 (by omega) (by omega) (by omega) (by omega) HRL5.out (HX5.out.ext he); rw [HB2.out] at H; exact H); simp only [Act.put, List.setIfInBounds_toArray, List.set_cons_zero, List.set_cons_succ])
            (refine LexW.pure (v := ?_) rfl rfl (fun w1 he => ?_) ?_; rotate_left; ( have x00 := (he.cell (p := ⟨w.heap.size, 0, none⟩) C0.out); have x01 := (he.cell (p := ⟨w.heap.size, 1, none⟩) C1.out); have e3 := he.cell K3.out; have e4 := he.cell K4.out; have e5 := he.cell K5.out; go_simp; rfl); simp only [Act.put, List.setIfInBounds_toArray, List.set_cons_zero, List.set_cons_succ])
            (refine LexW.pure (v := ?_) rfl rfl (fun w1 he => ?_) ?_; rotate_left; ( have x00 := (he.cell (p := ⟨w.heap.size, 0, none⟩) C0.out); have x01 := (he.cell (p := ⟨w.heap.size, 1, none⟩) C1.out); have e3 := he.cell K3.out; have e4 := he.cell K4.out; have e5 := he.cell K5.out; go_simp; rfl); simp only [Act.put, List.setIfInBounds_toArray, List.set_cons_zero, List.set_cons_succ])
            refine LexW.nil (fun w3 he hkn => ?_)
            have HE := Lib.hid he
            have XZ := Lib.hid ((ext_drew wr).trans he)
            clear he hkn 
            rename World => v9
            replace E := Lib.hid (E.out.trans HE.out)
            replace HX3 := Lib.hid (HX3.out.ext HE.out)
            replace HX4 := Lib.hid (HX4.out.ext HE.out)
            replace HX5 := Lib.hid (HX5.out.ext HE.out)
            replace C0 := Lib.hid (HE.out.cell (p := ⟨w.heap.size, 0, none⟩) C0.out)
            replace C1 := Lib.hid (HE.out.cell (p := ⟨w.heap.size, 1, none⟩) C1.out)
            replace K3 := Lib.hid (HE.out.cell K3.out)
            replace K4 := Lib.hid (HE.out.cell K4.out)
            replace K5 := Lib.hid (HE.out.cell K5.out)
            clear HE
            go_wp2_with (fail)
            go_roundw
            case rel => exact ⟨2, by omega, by go_num, Lib.hid (fun _ => HT1.out (by omega)), Lib.hid (fun h => ⟨HB0.out, HB1.out, HB2.out⟩), Lib.hid (XW.out.trans XZ.out)⟩
            case measure => simp [intOf]
    · have HY := Lib.hid (code15_yes HCC.out.symm HQL.out (HT1.out (by omega)).1 (HT1.out (by omega)).2.1 (HT1.out (by omega)).2.2 (HT2.out (by omega)).1 (HT2.out (by omega)).2.1 (HT2.out (by omega)).2.2)
      have E9 := Lib.hid (E.out.trans HE.out)
      go_wp2_with (fail)
      go_ret
      exact ⟨ret_int HY.out.symm, E9.out⟩
end Go.Proofs.Ythflmmgolegonaa
