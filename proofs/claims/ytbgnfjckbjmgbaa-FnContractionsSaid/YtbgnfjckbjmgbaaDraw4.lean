/-
  Draws of multivectors.
  No condition.
-/
import Derived.Test.YtbgnfjckbjmgbaaDrawP
import Derived.Test.YtbgnfjckbjmgbaaKit
import Derived.Test.YtbgnfjckbjmgbaaVec
import Derived.Test.YtbgnfjckbjmgbaaTop5
namespace Go.Proofs.Ytbgnfjckbjmgbaa
set_option maxRecDepth 100000
open Go.RowKit

set_option maxHeartbeats 1000000 in
theorem s_partW (a : Option Addr) (n cap : Nat) (xs : List Int) (k : Int) (w : World) (hn : n ≤ 64) (hx : RdC w a n xs) :
    Calls Try.prog 194 #[.slice a n cap, .int .i64 k] w fun e w' => ∃ g ys, e = .returned (.slice (some ⟨g, 0, none⟩) n n) ∧ OwnC w.heap.size w' (some ⟨g, 0, none⟩) n n ys ∧ Ext w w' := by
  obtain ⟨w0, hmk, hown0, hext0⟩ := make_ints w n (by omega)
  have HX := Lib.hid hx
  clear hx
  obtain ⟨g, hg⟩ : ∃ g, g = w.heap.size := ⟨_, rfl⟩
  rw [← hg] at hmk
  have HOwn0 := Lib.hid hown0
  have HExt0 := Lib.hid hext0
  clear hown0 hext0
  have hge : w.heap.size ≤ g := by omega
  have HG := Lib.hid hg
  clear hg
  go_enter Try.func194, Try.ntmps194
  go_wp2_with (fail)
  go_loopw [6] (fun i wr => ∃ (j : Nat) (ys : List Int), j ≤ n ∧ i = .int .i64 j ∧ Hid (OwnC w.heap.size wr (some ⟨g, 0, none⟩) n n ys) ∧ Hid (Ext w wr)) (fun i _ => n - (intOf i).toNat)
  case atStart => exact ⟨0, List.replicate n 0, Nat.zero_le _, rfl, Lib.hid (by have := HOwn0.out; rw [← HG.out] at this ⊢; exact this), HExt0⟩
  case round =>
    obtain ⟨j, ys, hj, rfl, HO, HE⟩ := hrel
    clear HExt0 HOwn0 hmk
    by_cases hlt : j < n
    · obtain ⟨b, off, rfl, hc⟩ := HX.out.2 j hlt
      go_wp2_with (fail)
      refine Calls.mono (s_grade j wr (by omega)) ?_
      rintro e w1 ⟨rfl, g1⟩
      have hc' := (HE.out.trans g1).cell hc
      have HO1 := Lib.hid (HO.out.ext g1)
      have HE1 := Lib.hid (HE.out.trans g1)
      have hcg := HO1.out.cell hlt
      have hfz := HO1.out.frozen j
      clear g1 hc HO HE
      by_cases hk : (popc j : Int) = k
      · have hkb : ((popc j : Int) == k) = true := by simp [hk]
        clear hk
        go_wp2_with (fail)
        go_roundw
        case rel => exact ⟨j + 1, _, by omega, by go_num, Lib.hid (HO1.out.store hlt _), Lib.hid (HE1.out.setCell hge _)⟩
        case measure => simp [intOf]; omega
      · have hkb : ((popc j : Int) == k) = false := by simp [hk]
        clear hk
        go_wp2_with (fail)
        go_roundw
        case rel => exact ⟨j + 1, _, by omega, by go_num, HO1, HE1⟩
        case measure => simp [intOf]; omega
    · go_wp2_with (fail)
      go_ret
      exact ⟨g, ys, rfl, HO.out, HE.out⟩

namespace Chg
/-- A row of the call's own, behind the source, of a length and with a property. -/
def SPred.ownP (S : SrcP) (B n : Nat) (P : List Int → Prop) (hB : S.g < B) : SPred (Drw.rel S) :=
  ⟨fun v w => ∃ g cap xs, v = .slice (some ⟨g, 0, none⟩) n cap ∧ P xs ∧ OwnC B w (some ⟨g, 0, none⟩) n cap xs, fun _ _ _ ⟨g, cap, xs, h1, h2, h3⟩ he => ⟨g, cap, xs, h1, h2, Drw.own he h3 hB⟩⟩
end Chg

theorem isB_Good {p : Int} {n : Nat} {xs : List Int} (h : xs.length = n) (hb : isB p xs = true) : Good p n xs := good_isB h hb

set_option maxHeartbeats 8000000 in
set_option maxRecDepth 100000 in
theorem s_draw4 {N : Nat} (S : SrcP) (B : Nat) (p : Int) (a : Option Addr) (d cap : Nat) (qs : List Int) (w : World) (hS : Src S w) (hB : S.g < B) (hN : N = 2 ^ d) (hs : spaceB p qs = true) (hq : OwnC B w a d cap qs) :
    Calls Try.prog 164 #[.pointer (some ⟨S.g, 0, none⟩), .agg #[.int .i64 p, .slice a d cap]] w fun e w' => ∃ g c xs, e = .returned (.slice (some ⟨g, 0, none⟩) N c) ∧ OwnC w.heap.size w' (some ⟨g, 0, none⟩) N c xs ∧ Drw S w w' := by
  have HS := Lib.hid hS
  have hlt := hS.lt
  obtain ⟨hpr, hd1, hd6, hqb⟩ := space_of hs
  have hpb := prime_bd hpr
  have hdl := hq.1
  rw [hdl] at hd1 hd6
  have HN := Lib.hid hN
  have hN6 : N ≤ 64 := by rw [hN]; exact pow_le64 hd6
  have hN1 : 0 < N := by rw [hN]; exact pow_pos' d
  have HD := Lib.hid hdl
  have HQB := Lib.hid hqb
  have HSP := Lib.hid hs
  obtain ⟨ga, hga⟩ : ∃ ga, a = some ⟨ga, 0, none⟩ := by
    obtain ⟨g, _, hg, _⟩ := hq.row hd1
    exact ⟨g, hg⟩
  subst hga
  obtain ⟨O, hO⟩ : ∃ O, O = w.heap.size := ⟨_, rfl⟩
  obtain ⟨W, hW⟩ : ∃ W, W = w.alloc (.cells #[.int .i64 p, .slice (some ⟨ga, 0, none⟩) d cap] 26) := ⟨_, rfl⟩
  have hgW : Ext w W := by rw [hW]; exact ext_alloc _ _
  have G := Lib.hid (Drw.of_ext (S := S) hgW)
  have HC := Lib.hid (show SpAt W O p (.slice (some ⟨ga, 0, none⟩) d cap) by rw [hW, hO]; exact ⟨by simp, by simp, by simp, by simp⟩)
  have HQ := Lib.hid (hq.ext hgW)
  have hgO : O ≠ S.g := by omega
  have hOw : w.heap.size ≤ O := by omega
  clear hS hN hdl hqb hq hgW hs
  go_enter Try.func164, Try.ntmps164
  have c0 := HC.out.c0
  have c1 := HC.out.c1
  go_wp2_with (fail)
  rw [← hO, ← hW]
  have HW := Lib.hid hW
  clear hO hW
  refine Calls.mono (s_zeroN HN.out p (some ⟨ga, 0, none⟩) cap W hd6) ?_
  rintro e v1 ⟨g0, rfl, ho, gg⟩
  replace gg := Drw.of_ext (S := S) gg
  have hg0 := ho.base_le.1
  have hOl := HC.out.lt
  have hgl := HQ.out.base_le.2
  have hOg : O ≠ g0 := by omega
  have hgg0 : ga ≠ g0 := by omega
  clear hg0 hOl hgl
  have R0 := Lib.hid (ho.mono (show w.heap.size ≤ _ from G.out.size))
  clear ho
  replace G := Lib.hid (G.out.trans gg)
  replace HC := Lib.hid (HC.out.drw gg hgO)
  replace HQ := Lib.hid (gg.own HQ.out hB)
  clear gg
  have c0 := HC.out.c0
  have c1 := HC.out.c1
  go_wp2_with (fail)
  clear c0 c1
  refine Calls.mono (s_next S 5 v1 (G.out.src HS.out) (by decide)) ?_
  rintro e v2 ⟨r, rfl, _, gg⟩
  replace G := Lib.hid (G.out.trans gg)
  replace HC := Lib.hid (HC.out.drw gg hgO)
  replace HQ := Lib.hid (gg.own HQ.out hB)
  replace R0 := Lib.hid (gg.own R0.out hlt)
  clear gg
  by_cases h0 : r = 0
  · subst h0
    have c0 := HC.out.c0
    have c1 := HC.out.c1
    go_wp2_with (fail)
    clear c0 c1
    have gg := Drw.of_ext (S := S) (ext_drew v2)
    replace G := Lib.hid (G.out.trans gg)
    replace HC := Lib.hid (HC.out.drw gg hgO)
    replace HQ := Lib.hid (gg.own HQ.out hB)
    replace R0 := Lib.hid (gg.own R0.out hlt)
    clear gg
    refine Chg.wp_region_lex (E := Drw.rel S) [(7, .ownP S w.heap.size d (Good p d) hlt), (8, .ownP S w.heap.size N (Good p N) hlt)] (by kernel_rfl) (by kernel_rfl) ?_
    (refine Chg.LexW.pure (v := ?_) rfl rfl (fun w1 he => ?_) ?_; rotate_left; ( have he' : Drw S _ _ := he; have x0 := he'.cell (p := ⟨O, 0, none⟩) hgO HC.out.c0; have x1 := he'.cell (p := ⟨O, 1, none⟩) hgO HC.out.c1; go_simp; rfl); simp only [Act.put, List.setIfInBounds_toArray, List.set_cons_zero, List.set_cons_succ])
    (refine Chg.LexW.pure (v := ?_) rfl rfl (fun w1 he => ?_) ?_; rotate_left; ( have he' : Drw S _ _ := he; have x0 := he'.cell (p := ⟨O, 0, none⟩) hgO HC.out.c0; have x1 := he'.cell (p := ⟨O, 1, none⟩) hgO HC.out.c1; go_simp; rfl); simp only [Act.put, List.setIfInBounds_toArray, List.set_cons_zero, List.set_cons_succ])
    (refine Chg.LexW.pure (v := ?_) rfl rfl (fun w1 he => ?_) ?_; rotate_left; ( have he' : Drw S _ _ := he; have x0 := he'.cell (p := ⟨O, 0, none⟩) hgO HC.out.c0; have x1 := he'.cell (p := ⟨O, 1, none⟩) hgO HC.out.c1; go_simp; rfl); simp only [Act.put, List.setIfInBounds_toArray, List.set_cons_zero, List.set_cons_succ])
    (refine Chg.LexW.pure (v := ?_) rfl rfl (fun w1 he => ?_) ?_; rotate_left; ( have he' : Drw S _ _ := he; have x0 := he'.cell (p := ⟨O, 0, none⟩) hgO HC.out.c0; have x1 := he'.cell (p := ⟨O, 1, none⟩) hgO HC.out.c1; go_simp; rfl); simp only [Act.put, List.setIfInBounds_toArray, List.set_cons_zero, List.set_cons_succ])
    (refine Chg.LexW.pure (v := ?_) rfl rfl (fun w1 he => ?_) ?_; rotate_left; ( have he' : Drw S _ _ := he; have x0 := he'.cell (p := ⟨O, 0, none⟩) hgO HC.out.c0; have x1 := he'.cell (p := ⟨O, 1, none⟩) hgO HC.out.c1; go_simp; rfl); simp only [Act.put, List.setIfInBounds_toArray, List.set_cons_zero, List.set_cons_succ])
    (refine Chg.LexW.pure (v := ?_) rfl rfl (fun w1 he => ?_) ?_; rotate_left; ( have he' : Drw S _ _ := he; have x0 := he'.cell (p := ⟨O, 0, none⟩) hgO HC.out.c0; have x1 := he'.cell (p := ⟨O, 1, none⟩) hgO HC.out.c1; go_simp; rfl); simp only [Act.put, List.setIfInBounds_toArray, List.set_cons_zero, List.set_cons_succ])
    (refine Chg.LexW.pure (v := ?_) rfl rfl (fun w1 he => ?_) ?_; rotate_left; ( have he' : Drw S _ _ := he; have x0 := he'.cell (p := ⟨O, 0, none⟩) hgO HC.out.c0; have x1 := he'.cell (p := ⟨O, 1, none⟩) hgO HC.out.c1; go_simp; rfl); simp only [Act.put, List.setIfInBounds_toArray, List.set_cons_zero, List.set_cons_succ])
    (refine Chg.LexW.callR (f := ?_) (args := ?_) rfl rfl (fun w1 => ?_) (fun w1 he hdep => ?_) (fun v hv => ?_); rotate_left 2; (go_simp; refine ⟨?_, ?_⟩ <;> rfl); ( have he' : Drw S _ _ := he; (refine Calls.mono (s_dlist S p d _ ((G.out.trans he').src HS.out) (by omega) (by omega)) ?_; rintro e w9 ⟨a9, c9, x9, rfl, ho9, hb9, g9⟩; obtain ⟨g8, _, rfl, _⟩ := ho9.row (by omega); exact ⟨_, rfl, g9, g8, c9, x9, rfl, isB_Good ho9.1 (hb9 (by omega)), ho9.mono (Nat.le_trans G.out.size he'.size)⟩)); simp only [Act.put, List.setIfInBounds_toArray, List.set_cons_zero, List.set_cons_succ])
    obtain ⟨_, g28, c28, x28, rfl, _⟩ := hv
    (refine Chg.LexW.callR (f := ?_) (args := ?_) rfl rfl (fun w1 => ?_) (fun w1 he hdep => ?_) (fun v hv => ?_); rotate_left 2; (go_simp; refine ⟨?_, ?_⟩ <;> rfl); ( have he' : Drw S _ _ := he; obtain ⟨_, _, y28, q28, p28, r28⟩ : (Chg.SPred.ownP S w.heap.size d (Good p d) hlt).holds (.slice (some ⟨g28, 0, none⟩) d c28) w1 := hdep (7, 28) (by decide +kernel); cases q28; (refine Calls.mono (s_vector HN.out p (some ⟨ga, 0, none⟩) cap _ _ y28 w1 hd6 r28.rd) ?_; rintro e w9 ⟨g9, rfl, ho9, x9⟩; exact ⟨_, rfl, Drw.of_ext x9, g9, _, _, rfl, vec_good (by omega) p28, ho9.mono (Nat.le_trans G.out.size he'.size)⟩)); simp only [Act.put, List.setIfInBounds_toArray, List.set_cons_zero, List.set_cons_succ])
    obtain ⟨_, g29, c29, x29, rfl, _⟩ := hv
    (refine Chg.LexW.pure (v := ?_) rfl rfl (fun w1 he => ?_) ?_; rotate_left; ( have he' : Drw S _ _ := he; have x0 := he'.cell (p := ⟨O, 0, none⟩) hgO HC.out.c0; have x1 := he'.cell (p := ⟨O, 1, none⟩) hgO HC.out.c1; go_simp; rfl); simp only [Act.put, List.setIfInBounds_toArray, List.set_cons_zero, List.set_cons_succ])
    refine Chg.LexW.nil (fun v3 he hkn => ?_)
    have gg : Drw S v2.drew v3 := he
    obtain ⟨_, _, y29, q29, p29, r29⟩ : (Chg.SPred.ownP S w.heap.size N (Good p N) hlt).holds (.slice (some ⟨g29, 0, none⟩) N c29) _ := hkn (8, _) (by simp)
    cases q29
    have R9 := Lib.hid r29
    replace G := Lib.hid (G.out.trans gg)
    replace HC := Lib.hid (HC.out.drw gg hgO)
    replace HQ := Lib.hid (gg.own HQ.out hB)
    replace R0 := Lib.hid (gg.own R0.out hlt)
    clear gg he hkn
    go_wp2_with (fail)
    go_ret
    first | exact ⟨_, _, _, rfl, R9.out, G.out⟩ | exact ⟨_, _, rfl, ⟨_, R9.out⟩, G.out⟩
  by_cases h1 : r = 1
  · subst h1
    have c0 := HC.out.c0
    have c1 := HC.out.c1
    go_wp2_with (fail)
    clear c0 c1
    refine Calls.mono (s_oneN HN.out p (some ⟨ga, 0, none⟩) cap v2 hd6) ?_
    rintro e v3 ⟨g1, rfl, ho, gg⟩
    replace gg := Drw.of_ext (S := S) gg
    have R1 := Lib.hid (ho.mono (show w.heap.size ≤ _ from G.out.size))
    clear ho
    replace G := Lib.hid (G.out.trans gg)
    replace HC := Lib.hid (HC.out.drw gg hgO)
    replace HQ := Lib.hid (gg.own HQ.out hB)
    replace R0 := Lib.hid (gg.own R0.out hlt)
    clear gg
    have c0 := HC.out.c0
    have c1 := HC.out.c1
    go_wp2_with (fail)
    clear c0 c1
    refine Calls.mono (s_next S 4 v3 (G.out.src HS.out) (by decide)) ?_
    rintro e v4 ⟨k, rfl, hk, gg⟩
    replace G := Lib.hid (G.out.trans gg)
    replace HC := Lib.hid (HC.out.drw gg hgO)
    replace HQ := Lib.hid (gg.own HQ.out hB)
    replace R0 := Lib.hid (gg.own R0.out hlt)
    replace R1 := Lib.hid (gg.own R1.out hlt)
    clear gg
    obtain ⟨m, rfl⟩ : ∃ m : Nat, k = (m : Int) := ⟨k.toNat, by have := hk.2 (by decide); omega⟩
    have hm4 : m < 4 := by have := hk.2 (by decide); omega
    clear hk
    have c0 := HC.out.c0
    have c1 := HC.out.c1
    go_wp2_with (fail)
    clear c0 c1
    go_loopw [5, 6] (fun o i wr => ∃ (g c j : Nat) (xs : List Int), j ≤ m ∧ i = .int .i64 ((m - j : Nat) : Int) ∧ o = .slice (some ⟨g, 0, none⟩) N c ∧ Hid (Good p N xs) ∧ Hid (OwnC w.heap.size wr (some ⟨g, 0, none⟩) N c xs) ∧ Hid (SpAt wr O p (.slice (some ⟨ga, 0, none⟩) d cap)) ∧ Hid (OwnC B wr (some ⟨ga, 0, none⟩) d cap qs) ∧ Hid (Drw S w wr)) (fun _ i _ => (intOf i).toNat)
    case atStart => exact ⟨g1, _, 0, _, Nat.zero_le _, by simp, rfl, Lib.hid (blade_good (by omega)), R1, HC, HQ, G⟩
    case round =>
      clear R0 R1 HC HQ G
      obtain ⟨g, c, j, xs, hj, rfl, rfl, HG, R1, HC, HQ, G⟩ := hrel
      by_cases hjm : j < m
      · obtain ⟨t, ht⟩ : ∃ t : Nat, m - j = t + 1 := ⟨m - j - 1, by omega⟩
        rw [ht]
        have c0 := HC.out.c0
        have c1 := HC.out.c1
        go_wp2_with (fail)
        clear c0 c1
        have gg := Drw.of_ext (S := S) (ext_drew wr)
        replace G := Lib.hid (G.out.trans gg)
        replace HC := Lib.hid (HC.out.drw gg hgO)
        replace HQ := Lib.hid (gg.own HQ.out hB)
        replace R1 := Lib.hid (gg.own R1.out hlt)
        clear gg
        refine Chg.wp_region_lex (E := Drw.rel S) [(9, .ownP S w.heap.size d (Good p d) hlt), (10, .ownP S w.heap.size N (Good p N) hlt), (11, .ownP S w.heap.size N (Good p N) hlt)] (by kernel_rfl) (by kernel_rfl) ?_
        (refine Chg.LexW.pure (v := ?_) rfl rfl (fun w1 he => ?_) ?_; rotate_left; ( have he' : Drw S _ _ := he; have x0 := he'.cell (p := ⟨O, 0, none⟩) hgO HC.out.c0; have x1 := he'.cell (p := ⟨O, 1, none⟩) hgO HC.out.c1; go_simp; rfl); simp only [Act.put, List.setIfInBounds_toArray, List.set_cons_zero, List.set_cons_succ])
        (refine Chg.LexW.pure (v := ?_) rfl rfl (fun w1 he => ?_) ?_; rotate_left; ( have he' : Drw S _ _ := he; have x0 := he'.cell (p := ⟨O, 0, none⟩) hgO HC.out.c0; have x1 := he'.cell (p := ⟨O, 1, none⟩) hgO HC.out.c1; go_simp; rfl); simp only [Act.put, List.setIfInBounds_toArray, List.set_cons_zero, List.set_cons_succ])
        (refine Chg.LexW.pure (v := ?_) rfl rfl (fun w1 he => ?_) ?_; rotate_left; ( have he' : Drw S _ _ := he; have x0 := he'.cell (p := ⟨O, 0, none⟩) hgO HC.out.c0; have x1 := he'.cell (p := ⟨O, 1, none⟩) hgO HC.out.c1; go_simp; rfl); simp only [Act.put, List.setIfInBounds_toArray, List.set_cons_zero, List.set_cons_succ])
        (refine Chg.LexW.pure (v := ?_) rfl rfl (fun w1 he => ?_) ?_; rotate_left; ( have he' : Drw S _ _ := he; have x0 := he'.cell (p := ⟨O, 0, none⟩) hgO HC.out.c0; have x1 := he'.cell (p := ⟨O, 1, none⟩) hgO HC.out.c1; go_simp; rfl); simp only [Act.put, List.setIfInBounds_toArray, List.set_cons_zero, List.set_cons_succ])
        (refine Chg.LexW.pure (v := ?_) rfl rfl (fun w1 he => ?_) ?_; rotate_left; ( have he' : Drw S _ _ := he; have x0 := he'.cell (p := ⟨O, 0, none⟩) hgO HC.out.c0; have x1 := he'.cell (p := ⟨O, 1, none⟩) hgO HC.out.c1; go_simp; rfl); simp only [Act.put, List.setIfInBounds_toArray, List.set_cons_zero, List.set_cons_succ])
        (refine Chg.LexW.pure (v := ?_) rfl rfl (fun w1 he => ?_) ?_; rotate_left; ( have he' : Drw S _ _ := he; have x0 := he'.cell (p := ⟨O, 0, none⟩) hgO HC.out.c0; have x1 := he'.cell (p := ⟨O, 1, none⟩) hgO HC.out.c1; go_simp; rfl); simp only [Act.put, List.setIfInBounds_toArray, List.set_cons_zero, List.set_cons_succ])
        (refine Chg.LexW.pure (v := ?_) rfl rfl (fun w1 he => ?_) ?_; rotate_left; ( have he' : Drw S _ _ := he; have x0 := he'.cell (p := ⟨O, 0, none⟩) hgO HC.out.c0; have x1 := he'.cell (p := ⟨O, 1, none⟩) hgO HC.out.c1; go_simp; rfl); simp only [Act.put, List.setIfInBounds_toArray, List.set_cons_zero, List.set_cons_succ])
        (refine Chg.LexW.pure (v := ?_) rfl rfl (fun w1 he => ?_) ?_; rotate_left; ( have he' : Drw S _ _ := he; have x0 := he'.cell (p := ⟨O, 0, none⟩) hgO HC.out.c0; have x1 := he'.cell (p := ⟨O, 1, none⟩) hgO HC.out.c1; go_simp; rfl); simp only [Act.put, List.setIfInBounds_toArray, List.set_cons_zero, List.set_cons_succ])
        (refine Chg.LexW.pure (v := ?_) rfl rfl (fun w1 he => ?_) ?_; rotate_left; ( have he' : Drw S _ _ := he; have x0 := he'.cell (p := ⟨O, 0, none⟩) hgO HC.out.c0; have x1 := he'.cell (p := ⟨O, 1, none⟩) hgO HC.out.c1; go_simp; rfl); simp only [Act.put, List.setIfInBounds_toArray, List.set_cons_zero, List.set_cons_succ])
        (refine Chg.LexW.callR (f := ?_) (args := ?_) rfl rfl (fun w1 => ?_) (fun w1 he hdep => ?_) (fun v hv => ?_); rotate_left 2; (go_simp; refine ⟨?_, ?_⟩ <;> rfl); ( have he' : Drw S _ _ := he; (refine Calls.mono (s_dlist S p d _ ((G.out.trans he').src HS.out) (by omega) (by omega)) ?_; rintro e w9 ⟨a9, c9, x9, rfl, ho9, hb9, g9⟩; obtain ⟨g8, _, rfl, _⟩ := ho9.row (by omega); exact ⟨_, rfl, g9, g8, c9, x9, rfl, isB_Good ho9.1 (hb9 (by omega)), ho9.mono (Nat.le_trans G.out.size he'.size)⟩)); simp only [Act.put, List.setIfInBounds_toArray, List.set_cons_zero, List.set_cons_succ])
        obtain ⟨_, g49, c49, x49, rfl, _⟩ := hv
        (refine Chg.LexW.callR (f := ?_) (args := ?_) rfl rfl (fun w1 => ?_) (fun w1 he hdep => ?_) (fun v hv => ?_); rotate_left 2; (go_simp; refine ⟨?_, ?_⟩ <;> rfl); ( have he' : Drw S _ _ := he; obtain ⟨_, _, y49, q49, p49, r49⟩ : (Chg.SPred.ownP S w.heap.size d (Good p d) hlt).holds (.slice (some ⟨g49, 0, none⟩) d c49) w1 := hdep (9, 49) (by decide +kernel); cases q49; (refine Calls.mono (s_vector HN.out p (some ⟨ga, 0, none⟩) cap _ _ y49 w1 hd6 r49.rd) ?_; rintro e w9 ⟨g9, rfl, ho9, x9⟩; exact ⟨_, rfl, Drw.of_ext x9, g9, _, _, rfl, vec_good (by omega) p49, ho9.mono (Nat.le_trans G.out.size he'.size)⟩)); simp only [Act.put, List.setIfInBounds_toArray, List.set_cons_zero, List.set_cons_succ])
        obtain ⟨_, g50, c50, x50, rfl, _⟩ := hv
        (refine Chg.LexW.callR (f := ?_) (args := ?_) rfl rfl (fun w1 => ?_) (fun w1 he hdep => ?_) (fun v hv => ?_); rotate_left 2; (go_simp; refine ⟨?_, ?_⟩ <;> rfl); ( have he' : Drw S _ _ := he; obtain ⟨_, _, y50, q50, p50, r50⟩ : (Chg.SPred.ownP S w.heap.size N (Good p N) hlt).holds (.slice (some ⟨g50, 0, none⟩) N c50) w1 := hdep (10, 50) (by decide +kernel); cases q50; (refine Calls.mono (s_timesN HN.out p (some ⟨ga, 0, none⟩) cap qs _ _ _ _ xs y50 w1 hd6 (by omega) (by omega) (he'.own HQ.out hB).rd HQB.out (he'.own R1.out hlt).rd r50.rd (good_bits HG.out) (good_bits p50)) ?_; rintro e w9 ⟨g9, rfl, ho9, x9⟩; exact ⟨_, rfl, Drw.of_ext x9, g9, _, _, rfl, by rw [HN.out, ← HD.out]; exact prod_good (by omega), ho9.mono (Nat.le_trans G.out.size he'.size)⟩)); simp only [Act.put, List.setIfInBounds_toArray, List.set_cons_zero, List.set_cons_succ])
        obtain ⟨_, g51, c51, x51, rfl, _⟩ := hv
        (refine Chg.LexW.pure (v := ?_) rfl rfl (fun w1 he => ?_) ?_; rotate_left; ( have he' : Drw S _ _ := he; have x0 := he'.cell (p := ⟨O, 0, none⟩) hgO HC.out.c0; have x1 := he'.cell (p := ⟨O, 1, none⟩) hgO HC.out.c1; go_simp; rfl); simp only [Act.put, List.setIfInBounds_toArray, List.set_cons_zero, List.set_cons_succ])
        refine Chg.LexW.nil (fun v5 he hkn => ?_)
        have gg : Drw S wr.drew v5 := he
        obtain ⟨_, _, y51, q51, p51, r51⟩ : (Chg.SPred.ownP S w.heap.size N (Good p N) hlt).holds (.slice (some ⟨g51, 0, none⟩) N c51) _ := hkn (11, _) (by simp)
        cases q51
        have R9 := Lib.hid r51
        have P9 := Lib.hid p51
        replace G := Lib.hid (G.out.trans gg)
        replace HC := Lib.hid (HC.out.drw gg hgO)
        replace HQ := Lib.hid (gg.own HQ.out hB)
        replace R1 := Lib.hid (gg.own R1.out hlt)
        clear gg he hkn
        go_wp2_with (fail)
        go_roundw
        case rel => exact ⟨_, _, j + 1, _, by omega, by go_num, rfl, P9, R9, HC, HQ, G⟩
        case measure => simp [intOf]
      · have hz : m - j = 0 := by omega
        rw [hz]
        go_wp2_with (fail)
        go_ret
        exact ⟨_, _, _, rfl, R1.out, G.out⟩
  by_cases h2 : r = 2
  · subst h2
    have c0 := HC.out.c0
    have c1 := HC.out.c1
    go_wp2_with (fail)
    clear c0 c1
    have hwd : wrap64 ((d : Int) + 1) = (d : Int) + 1 := by unfold wrap64; omega
    refine Calls.mono (s_next S ((d : Int) + 1) v2 (G.out.src HS.out) (by omega)) ?_
    rintro e v3 ⟨k, rfl, hk, gg⟩
    replace G := Lib.hid (G.out.trans gg)
    replace HC := Lib.hid (HC.out.drw gg hgO)
    replace HQ := Lib.hid (gg.own HQ.out hB)
    replace R0 := Lib.hid (gg.own R0.out hlt)
    clear gg
    have c0 := HC.out.c0
    have c1 := HC.out.c1
    go_wp2_with (fail)
    clear c0 c1
    have gg := Drw.of_ext (S := S) (ext_drew v3)
    replace G := Lib.hid (G.out.trans gg)
    replace HC := Lib.hid (HC.out.drw gg hgO)
    replace HQ := Lib.hid (gg.own HQ.out hB)
    replace R0 := Lib.hid (gg.own R0.out hlt)
    clear gg
    refine Chg.wp_region_lex (E := Drw.rel S) [(4, .val (.int .i64 N)), (5, .ownP S w.heap.size N (Good p N) hlt), (7, .ownP S w.heap.size N (fun _ => True) hlt)] (by kernel_rfl) (by kernel_rfl) ?_
    (refine Chg.LexW.pure (v := ?_) rfl rfl (fun w1 he => ?_) ?_; rotate_left; ( have he' : Drw S _ _ := he; have x0 := he'.cell (p := ⟨O, 0, none⟩) hgO HC.out.c0; have x1 := he'.cell (p := ⟨O, 1, none⟩) hgO HC.out.c1; go_simp; rfl); simp only [Act.put, List.setIfInBounds_toArray, List.set_cons_zero, List.set_cons_succ])
    (refine Chg.LexW.pure (v := ?_) rfl rfl (fun w1 he => ?_) ?_; rotate_left; ( have he' : Drw S _ _ := he; have x0 := he'.cell (p := ⟨O, 0, none⟩) hgO HC.out.c0; have x1 := he'.cell (p := ⟨O, 1, none⟩) hgO HC.out.c1; go_simp; rfl); simp only [Act.put, List.setIfInBounds_toArray, List.set_cons_zero, List.set_cons_succ])
    (refine Chg.LexW.pure (v := ?_) rfl rfl (fun w1 he => ?_) ?_; rotate_left; ( have he' : Drw S _ _ := he; have x0 := he'.cell (p := ⟨O, 0, none⟩) hgO HC.out.c0; have x1 := he'.cell (p := ⟨O, 1, none⟩) hgO HC.out.c1; go_simp; rfl); simp only [Act.put, List.setIfInBounds_toArray, List.set_cons_zero, List.set_cons_succ])
    (refine Chg.LexW.pure (v := ?_) rfl rfl (fun w1 he => ?_) ?_; rotate_left; ( have he' : Drw S _ _ := he; have x0 := he'.cell (p := ⟨O, 0, none⟩) hgO HC.out.c0; have x1 := he'.cell (p := ⟨O, 1, none⟩) hgO HC.out.c1; go_simp; rfl); simp only [Act.put, List.setIfInBounds_toArray, List.set_cons_zero, List.set_cons_succ])
    (refine Chg.LexW.call (f := ?_) (args := ?_) rfl rfl (fun w1 => ?_) (fun w1 he hdep => ?_) ?_; rotate_left 2; (go_simp; refine ⟨?_, ?_⟩ <;> rfl); ( have he' : Drw S _ _ := he; have H := s_size p (some ⟨ga, 0, none⟩) d cap w1 hd6; rw [← HN.out] at H; exact H.mono fun e w' h => ⟨h.1, Drw.of_ext h.2⟩); simp only [Act.put, List.setIfInBounds_toArray, List.set_cons_zero, List.set_cons_succ])
    (refine Chg.LexW.callR (f := ?_) (args := ?_) rfl rfl (fun w1 => ?_) (fun w1 he hdep => ?_) (fun v hv => ?_); rotate_left 2; (go_simp; refine ⟨?_, ?_⟩ <;> rfl); ( have he' : Drw S _ _ := he; (refine Calls.mono (s_dlist S p N _ ((G.out.trans he').src HS.out) (by omega) (by omega)) ?_; rintro e w9 ⟨a9, c9, x9, rfl, ho9, hb9, g9⟩; obtain ⟨g8, _, rfl, _⟩ := ho9.row (by omega); exact ⟨_, rfl, g9, g8, c9, x9, rfl, isB_Good ho9.1 (hb9 (by omega)), ho9.mono (Nat.le_trans G.out.size he'.size)⟩)); simp only [Act.put, List.setIfInBounds_toArray, List.set_cons_zero, List.set_cons_succ])
    obtain ⟨_, g65, c65, x65, rfl, _⟩ := hv
    (refine Chg.LexW.pure (v := ?_) rfl rfl (fun w1 he => ?_) ?_; rotate_left; ( have he' : Drw S _ _ := he; have x0 := he'.cell (p := ⟨O, 0, none⟩) hgO HC.out.c0; have x1 := he'.cell (p := ⟨O, 1, none⟩) hgO HC.out.c1; go_simp; rfl); simp only [Act.put, List.setIfInBounds_toArray, List.set_cons_zero, List.set_cons_succ])
    (refine Chg.LexW.callR (f := ?_) (args := ?_) rfl rfl (fun w1 => ?_) (fun w1 he hdep => ?_) (fun v hv => ?_); rotate_left 2; (go_simp; refine ⟨?_, ?_⟩ <;> rfl); ( have he' : Drw S _ _ := he; obtain ⟨_, _, y65, q65, p65, r65⟩ : (Chg.SPred.ownP S w.heap.size N (Good p N) hlt).holds (.slice (some ⟨g65, 0, none⟩) N c65) w1 := hdep (5, 65) (by decide +kernel); cases q65; (refine Calls.mono (s_partW _ N _ y65 k w1 (by omega) r65.rd) ?_; rintro e w9 ⟨g9, y9, rfl, ho9, x9⟩; exact ⟨_, rfl, Drw.of_ext x9, g9, _, _, rfl, trivial, ho9.mono (Nat.le_trans G.out.size he'.size)⟩)); simp only [Act.put, List.setIfInBounds_toArray, List.set_cons_zero, List.set_cons_succ])
    obtain ⟨_, g67, c67, x67, rfl, _⟩ := hv
    (refine Chg.LexW.pure (v := ?_) rfl rfl (fun w1 he => ?_) ?_; rotate_left; ( have he' : Drw S _ _ := he; have x0 := he'.cell (p := ⟨O, 0, none⟩) hgO HC.out.c0; have x1 := he'.cell (p := ⟨O, 1, none⟩) hgO HC.out.c1; go_simp; rfl); simp only [Act.put, List.setIfInBounds_toArray, List.set_cons_zero, List.set_cons_succ])
    refine Chg.LexW.nil (fun v4 he hkn => ?_)
    have gg : Drw S v3.drew v4 := he
    obtain ⟨_, _, y67, q67, p67, r67⟩ : (Chg.SPred.ownP S w.heap.size N (fun _ => True) hlt).holds (.slice (some ⟨g67, 0, none⟩) N c67) _ := hkn (7, _) (by simp)
    cases q67
    have R9 := Lib.hid r67
    replace G := Lib.hid (G.out.trans gg)
    replace HC := Lib.hid (HC.out.drw gg hgO)
    replace HQ := Lib.hid (gg.own HQ.out hB)
    replace R0 := Lib.hid (gg.own R0.out hlt)
    clear gg he hkn
    go_wp2_with (fail)
    go_ret
    first | exact ⟨_, _, _, rfl, R9.out, G.out⟩ | exact ⟨_, _, rfl, ⟨_, R9.out⟩, G.out⟩
  by_cases h3 : r = 3
  · subst h3
    have c0 := HC.out.c0
    have c1 := HC.out.c1
    go_wp2_with (fail)
    clear c0 c1
    refine Calls.mono (s_next S 4 v2 (G.out.src HS.out) (by decide)) ?_
    rintro e v3 ⟨k, rfl, hk, gg⟩
    replace G := Lib.hid (G.out.trans gg)
    replace HC := Lib.hid (HC.out.drw gg hgO)
    replace HQ := Lib.hid (gg.own HQ.out hB)
    replace R0 := Lib.hid (gg.own R0.out hlt)
    clear gg
    obtain ⟨m, rfl⟩ : ∃ m : Nat, k = (m : Int) := ⟨k.toNat, by have := hk.2 (by decide); omega⟩
    have hm4 : m < 4 := by have := hk.2 (by decide); omega
    clear hk
    have c0 := HC.out.c0
    have c1 := HC.out.c1
    go_wp2_with (fail)
    clear c0 c1
    go_loopw [8] (fun i wr => ∃ (j : Nat) (xs : List Int), j ≤ m ∧ i = .int .i64 ((m - j : Nat) : Int) ∧ Hid (OwnC w.heap.size wr (some ⟨g0, 0, none⟩) N N xs) ∧ Hid (SpAt wr O p (.slice (some ⟨ga, 0, none⟩) d cap)) ∧ Hid (OwnC B wr (some ⟨ga, 0, none⟩) d cap qs) ∧ Hid (Drw S w wr)) (fun i _ => (intOf i).toNat)
    case atStart => exact ⟨0, _, Nat.zero_le _, by simp, R0, HC, HQ, G⟩
    case round =>
      clear R0 HC HQ G
      obtain ⟨j, xs, hj, rfl, R0, HC, HQ, G⟩ := hrel
      by_cases hjm : j < m
      · obtain ⟨t, ht⟩ : ∃ t : Nat, m - j = t + 1 := ⟨m - j - 1, by omega⟩
        rw [ht]
        have c0 := HC.out.c0
        have c1 := HC.out.c1
        go_wp2_with (fail)
        clear c0 c1
        have gg := Drw.of_ext (S := S) (ext_drew wr)
        replace G := Lib.hid (G.out.trans gg)
        replace HC := Lib.hid (HC.out.drw gg hgO)
        replace HQ := Lib.hid (gg.own HQ.out hB)
        replace R0 := Lib.hid (gg.own R0.out hlt)
        clear gg
        refine Chg.wp_region_lex_tail (E := Drw.rel S) 10 [(3, .val (.int .i64 N)), (4, .lt S N), (8, .lt S p)] (by kernel_rfl) (by kernel_rfl) ?_
        simp only [List.take, List.drop]
        (refine Chg.LexW.pure (v := ?_) rfl rfl (fun w1 he => ?_) ?_; rotate_left; ( have he' : Drw S _ _ := he; have x0 := he'.cell (p := ⟨O, 0, none⟩) hgO HC.out.c0; have x1 := he'.cell (p := ⟨O, 1, none⟩) hgO HC.out.c1; go_simp; rfl); simp only [Act.put, List.setIfInBounds_toArray, List.set_cons_zero, List.set_cons_succ])
        (refine Chg.LexW.pure (v := ?_) rfl rfl (fun w1 he => ?_) ?_; rotate_left; ( have he' : Drw S _ _ := he; have x0 := he'.cell (p := ⟨O, 0, none⟩) hgO HC.out.c0; have x1 := he'.cell (p := ⟨O, 1, none⟩) hgO HC.out.c1; go_simp; rfl); simp only [Act.put, List.setIfInBounds_toArray, List.set_cons_zero, List.set_cons_succ])
        (refine Chg.LexW.pure (v := ?_) rfl rfl (fun w1 he => ?_) ?_; rotate_left; ( have he' : Drw S _ _ := he; have x0 := he'.cell (p := ⟨O, 0, none⟩) hgO HC.out.c0; have x1 := he'.cell (p := ⟨O, 1, none⟩) hgO HC.out.c1; go_simp; rfl); simp only [Act.put, List.setIfInBounds_toArray, List.set_cons_zero, List.set_cons_succ])
        (refine Chg.LexW.call (f := ?_) (args := ?_) rfl rfl (fun w1 => ?_) (fun w1 he hdep => ?_) ?_; rotate_left 2; (go_simp; refine ⟨?_, ?_⟩ <;> rfl); ( have he' : Drw S _ _ := he; have H := s_size p (some ⟨ga, 0, none⟩) d cap w1 hd6; rw [← HN.out] at H; exact H.mono fun e w' h => ⟨h.1, Drw.of_ext h.2⟩); simp only [Act.put, List.setIfInBounds_toArray, List.set_cons_zero, List.set_cons_succ])
        (refine Chg.LexW.callR (f := ?_) (args := ?_) rfl rfl (fun w1 => ?_) (fun w1 he hdep => ?_) (fun v hv => ?_); rotate_left 2; (go_simp; refine ⟨?_, ?_⟩ <;> rfl); ( have he' : Drw S _ _ := he; (refine Calls.mono (s_next S N _ ((G.out.trans he').src HS.out) (by omega)) ?_; rintro e w9 ⟨r9, rfl, hr9, g9⟩; exact ⟨_, rfl, g9, r9, rfl, hr9.2 (by omega)⟩)); simp only [Act.put, List.setIfInBounds_toArray, List.set_cons_zero, List.set_cons_succ])
        obtain ⟨_, k0, rfl, hk0, hk1⟩ := hv
        obtain ⟨kk, rfl⟩ : ∃ kk : Nat, k0 = (kk : Int) := ⟨k0.toNat, by omega⟩
        have hkN : kk < N := by omega
        (refine Chg.LexW.pure (v := ?_) rfl rfl (fun w1 he => ?_) ?_; rotate_left; ( have he' : Drw S _ _ := he; have x0 := he'.cell (p := ⟨O, 0, none⟩) hgO HC.out.c0; have x1 := he'.cell (p := ⟨O, 1, none⟩) hgO HC.out.c1; go_simp; rfl); simp only [Act.put, List.setIfInBounds_toArray, List.set_cons_zero, List.set_cons_succ])
        (refine Chg.LexW.pure (v := ?_) rfl rfl (fun w1 he => ?_) ?_; rotate_left; ( have he' : Drw S _ _ := he; have x0 := he'.cell (p := ⟨O, 0, none⟩) hgO HC.out.c0; have x1 := he'.cell (p := ⟨O, 1, none⟩) hgO HC.out.c1; go_simp; rfl); simp only [Act.put, List.setIfInBounds_toArray, List.set_cons_zero, List.set_cons_succ])
        (refine Chg.LexW.pure (v := ?_) rfl rfl (fun w1 he => ?_) ?_; rotate_left; ( have he' : Drw S _ _ := he; have x0 := he'.cell (p := ⟨O, 0, none⟩) hgO HC.out.c0; have x1 := he'.cell (p := ⟨O, 1, none⟩) hgO HC.out.c1; go_simp; rfl); simp only [Act.put, List.setIfInBounds_toArray, List.set_cons_zero, List.set_cons_succ])
        (refine Chg.LexW.callR (f := ?_) (args := ?_) rfl rfl (fun w1 => ?_) (fun w1 he hdep => ?_) (fun v hv => ?_); rotate_left 2; (go_simp; refine ⟨?_, ?_⟩ <;> rfl); ( have he' : Drw S _ _ := he; (refine Calls.mono (s_next S p _ ((G.out.trans he').src HS.out) (by omega)) ?_; rintro e w9 ⟨r9, rfl, hr9, g9⟩; exact ⟨_, rfl, g9, r9, rfl, hr9.2 (by omega)⟩)); simp only [Act.put, List.setIfInBounds_toArray, List.set_cons_zero, List.set_cons_succ])
        obtain ⟨_, v0, rfl, _, _⟩ := hv
        (refine Chg.LexW.pure (v := ?_) rfl rfl (fun w1 he => ?_) ?_; rotate_left; ( have he' : Drw S _ _ := he; have x0 := he'.cell (p := ⟨O, 0, none⟩) hgO HC.out.c0; have x1 := he'.cell (p := ⟨O, 1, none⟩) hgO HC.out.c1; go_simp; rfl); simp only [Act.put, List.setIfInBounds_toArray, List.set_cons_zero, List.set_cons_succ])
        refine Chg.LexW.nil (fun v4 he hkn => ?_)
        have gg : Drw S wr.drew v4 := he
        replace G := Lib.hid (G.out.trans gg)
        replace HC := Lib.hid (HC.out.drw gg hgO)
        replace HQ := Lib.hid (gg.own HQ.out hB)
        replace R0 := Lib.hid (gg.own R0.out hlt)
        clear gg he hkn
        have cz := R0.out.cell hkN
        have fz := R0.out.frozen kk
        have bz := R0.out.base_le
        go_wp2_with (fail)
        go_roundw
        case rel => exact ⟨j + 1, _, by omega, by go_num, Lib.hid (R0.out.store hkN _), Lib.hid (HC.out.other (show g0 ≠ O from fun h => hOg h.symm) _), Lib.hid (HQ.out.keep (fun g hg => Below.heap_setCell _ _ _ _ (by simp only [Option.some.injEq, Addr.mk.injEq, and_true] at hg; rw [← hg]; exact hgg0))), Lib.hid (G.out.setCell bz.1 _)⟩
        case measure => simp [intOf]
      · have hz : m - j = 0 := by omega
        rw [hz]
        go_wp2_with (fail)
        go_ret
        exact ⟨_, _, _, rfl, R0.out, G.out⟩
  have b0 : (r == 0) = false := by simp [h0]
  have b1 : (r == 1) = false := by simp [h1]
  have b2 : (r == 2) = false := by simp [h2]
  have b3 : (r == 3) = false := by simp [h3]
  have c0 := HC.out.c0
  have c1 := HC.out.c1
  go_wp2_with (fail)
  clear c0 c1
  have gg := Drw.of_ext (S := S) (ext_drew v2)
  replace G := Lib.hid (G.out.trans gg)
  replace HC := Lib.hid (HC.out.drw gg hgO)
  replace HQ := Lib.hid (gg.own HQ.out hB)
  replace R0 := Lib.hid (gg.own R0.out hlt)
  clear gg
  refine Chg.wp_region_lex (E := Drw.rel S) [(4, .val (.int .i64 N)), (5, .ownP S w.heap.size N (Good p N) hlt)] (by kernel_rfl) (by kernel_rfl) ?_
  (refine Chg.LexW.pure (v := ?_) rfl rfl (fun w1 he => ?_) ?_; rotate_left; ( have he' : Drw S _ _ := he; have x0 := he'.cell (p := ⟨O, 0, none⟩) hgO HC.out.c0; have x1 := he'.cell (p := ⟨O, 1, none⟩) hgO HC.out.c1; go_simp; rfl); simp only [Act.put, List.setIfInBounds_toArray, List.set_cons_zero, List.set_cons_succ])
  (refine Chg.LexW.pure (v := ?_) rfl rfl (fun w1 he => ?_) ?_; rotate_left; ( have he' : Drw S _ _ := he; have x0 := he'.cell (p := ⟨O, 0, none⟩) hgO HC.out.c0; have x1 := he'.cell (p := ⟨O, 1, none⟩) hgO HC.out.c1; go_simp; rfl); simp only [Act.put, List.setIfInBounds_toArray, List.set_cons_zero, List.set_cons_succ])
  (refine Chg.LexW.pure (v := ?_) rfl rfl (fun w1 he => ?_) ?_; rotate_left; ( have he' : Drw S _ _ := he; have x0 := he'.cell (p := ⟨O, 0, none⟩) hgO HC.out.c0; have x1 := he'.cell (p := ⟨O, 1, none⟩) hgO HC.out.c1; go_simp; rfl); simp only [Act.put, List.setIfInBounds_toArray, List.set_cons_zero, List.set_cons_succ])
  (refine Chg.LexW.pure (v := ?_) rfl rfl (fun w1 he => ?_) ?_; rotate_left; ( have he' : Drw S _ _ := he; have x0 := he'.cell (p := ⟨O, 0, none⟩) hgO HC.out.c0; have x1 := he'.cell (p := ⟨O, 1, none⟩) hgO HC.out.c1; go_simp; rfl); simp only [Act.put, List.setIfInBounds_toArray, List.set_cons_zero, List.set_cons_succ])
  (refine Chg.LexW.call (f := ?_) (args := ?_) rfl rfl (fun w1 => ?_) (fun w1 he hdep => ?_) ?_; rotate_left 2; (go_simp; refine ⟨?_, ?_⟩ <;> rfl); ( have he' : Drw S _ _ := he; have H := s_size p (some ⟨ga, 0, none⟩) d cap w1 hd6; rw [← HN.out] at H; exact H.mono fun e w' h => ⟨h.1, Drw.of_ext h.2⟩); simp only [Act.put, List.setIfInBounds_toArray, List.set_cons_zero, List.set_cons_succ])
  (refine Chg.LexW.callR (f := ?_) (args := ?_) rfl rfl (fun w1 => ?_) (fun w1 he hdep => ?_) (fun v hv => ?_); rotate_left 2; (go_simp; refine ⟨?_, ?_⟩ <;> rfl); ( have he' : Drw S _ _ := he; (refine Calls.mono (s_dlist S p N _ ((G.out.trans he').src HS.out) (by omega) (by omega)) ?_; rintro e w9 ⟨a9, c9, x9, rfl, ho9, hb9, g9⟩; obtain ⟨g8, _, rfl, _⟩ := ho9.row (by omega); exact ⟨_, rfl, g9, g8, c9, x9, rfl, isB_Good ho9.1 (hb9 (by omega)), ho9.mono (Nat.le_trans G.out.size he'.size)⟩)); simp only [Act.put, List.setIfInBounds_toArray, List.set_cons_zero, List.set_cons_succ])
  obtain ⟨_, g18, c18, x18, rfl, _⟩ := hv
  (refine Chg.LexW.pure (v := ?_) rfl rfl (fun w1 he => ?_) ?_; rotate_left; ( have he' : Drw S _ _ := he; have x0 := he'.cell (p := ⟨O, 0, none⟩) hgO HC.out.c0; have x1 := he'.cell (p := ⟨O, 1, none⟩) hgO HC.out.c1; go_simp; rfl); simp only [Act.put, List.setIfInBounds_toArray, List.set_cons_zero, List.set_cons_succ])
  refine Chg.LexW.nil (fun v3 he hkn => ?_)
  have gg : Drw S v2.drew v3 := he
  obtain ⟨_, _, y18, q18, p18, r18⟩ : (Chg.SPred.ownP S w.heap.size N (Good p N) hlt).holds (.slice (some ⟨g18, 0, none⟩) N c18) _ := hkn (5, _) (by simp)
  cases q18
  have R9 := Lib.hid r18
  replace G := Lib.hid (G.out.trans gg)
  replace HC := Lib.hid (HC.out.drw gg hgO)
  replace HQ := Lib.hid (gg.own HQ.out hB)
  replace R0 := Lib.hid (gg.own R0.out hlt)
  clear gg he hkn
  go_wp2_with (fail)
  go_ret
  first | exact ⟨_, _, _, rfl, R9.out, G.out⟩ | exact ⟨_, _, rfl, ⟨_, R9.out⟩, G.out⟩
end Go.Proofs.Ytbgnfjckbjmgbaa
