/-
  Contracts and plain laws, part 6: DrawP, Draw4, Draw4S, TopB, AlgB.
  No condition.
-/
import Derived.Test.YtbgnfjckbjmgbaaPart5
import Derived.Test.YtbgnfjckbjmgbaaPart3
import Derived.Test.YtbgnfjckbjmgbaaPart4
import Derived.Test.YtbgnfjckbjmgbaaPart2
/-
  Draws of a space and two lists.
  No condition.
-/
namespace Go.Proofs.Ytbgnfjckbjmgbaa
set_option maxRecDepth 100000
open Go.RowKit

/-- A row of the call's own, behind the source. -/
def Chg.SPred.own (S : SrcP) (B M : Nat) (hB : S.g < B) : Chg.SPred (Drw.rel S) :=
  ⟨fun v w => ∃ a m cap xs, v = .slice a m cap ∧ m ≤ M ∧ OwnC B w a m cap xs, fun _ _ _ ⟨a, m, cap, xs, h1, h2, h3⟩ he => ⟨a, m, cap, xs, h1, h2, Drw.own he h3 hB⟩⟩

set_option maxHeartbeats 4000000 in
set_option maxRecDepth 100000 in
theorem s_drawPairOf (ca : Option Addr) (n cap : Nat) (w : World) (hn : n ≤ 4096) (hb : RdY w ca n) :
    Calls Try.prog 11 #[.slice ca n cap] w fun e w' => ∃ p a d c qs a1 m1 c1 x1 a2 m2 c2 x2, e = .returned (.tuple #[.agg #[.int .i64 p, .slice a d c], .slice a1 m1 c1, .slice a2 m2 c2]) ∧ 0 ≤ p ∧ p ≤ 17 ∧ d ≤ 7 ∧ m1 ≤ 8 ∧ m2 ≤ 8 ∧ OwnC w.heap.size w' a d c qs ∧ OwnC w.heap.size w' a1 m1 c1 x1 ∧ OwnC w.heap.size w' a2 m2 c2 x2 ∧ Ext w w' := by
  obtain ⟨W, hW⟩ : ∃ W, W = w.alloc (.cells #[.int .i64 0, .slice none 0 0] 26) := ⟨_, rfl⟩
  have gW : Ext w W := by rw [hW]; exact ext_alloc _ _
  have HZ := Lib.hid (show W.heap.size = w.heap.size + 1 by rw [hW]; simp)
  have HR := Lib.hid (show SpAt W w.heap.size 0 (.slice none 0 0) by rw [hW]; exact ⟨by simp, by simp, by simp, by simp⟩)
  have HW := Lib.hid hW
  have GW := Lib.hid gW
  have HB := Lib.hid (hb.ext gW)
  clear gW hW hb
  go_enter Try.func11, Try.ntmps11
  go_wp2_with (fail)
  rw [← HW.out]
  refine Calls.mono (s_from ca n cap W hn HB.out) ?_
  rintro e w1 ⟨g, rfl, hg, hS, g1⟩
  obtain ⟨S, hSe⟩ : ∃ S : SrcP, S = ⟨g, ca, n, cap⟩ := ⟨_, rfl⟩
  obtain rfl : g = S.g := by rw [hSe]
  rw [← hSe] at hS
  have HS := Lib.hid hS
  have HR1 := Lib.hid (HR.out.ext g1)
  have G1 := Lib.hid (GW.out.trans g1)
  have hgR : w.heap.size ≠ S.g := by have := HZ.out; omega
  have hgw : w.heap.size + 1 ≤ S.g := by have := HZ.out; omega
  have hlt := hS.lt
  clear hg hS g1 hSe HR
  go_wp2_with (fail)
  refine Calls.mono (s_spoil3 S w1 HS.out) ?_
  rintro e w2 ⟨p, a, d, c, qs, rfl, hp0, hp1, hd, ho, g2⟩
  obtain ⟨W2, hW2⟩ : ∃ W2, W2 = w2.alloc (.cells #[.int .i64 p, .slice a d c] 26) := ⟨_, rfl⟩
  obtain ⟨O, hO⟩ : ∃ O, O = w2.heap.size := ⟨_, rfl⟩
  have gW2 : Ext w2 W2.drew := by rw [hW2]; exact (ext_alloc _ _).trans (ext_drew _)
  have hOA : SpAt W2.drew O p (.slice a d c) := by
    have : SpAt W2 O p (.slice a d c) := by rw [hW2, hO]; exact ⟨by simp, by simp, by simp, by simp⟩
    exact this.ext (ext_drew _)
  have HOA := Lib.hid hOA
  have HR2 := Lib.hid ((HR1.out.drw g2 hgR).ext gW2)
  have HQ2 := Lib.hid ((ho.mono (show S.g + 1 ≤ _ from hlt)).ext gW2)
  have G2 := Lib.hid (g2.ext gW2)
  have hgO : O ≠ S.g := by rw [hO]; have := g2.size; omega
  go_wp2_with (fail)
  rw [← hW2, ← hO]
  have HS2 := Lib.hid (G2.out.src HS.out)
  clear hO gW2 ho g2 hW2 hOA HR1
  refine Chg.wp_region_lex_tail (E := Drw.rel S) 7 [(3, .own S (S.g + 1) 8 (Nat.lt_succ_self _)), (6, .own S (S.g + 1) 8 (Nat.lt_succ_self _))] (by kernel_rfl) (by kernel_rfl) ?_
  simp only [List.take, List.drop]
  (refine Chg.LexW.pure (v := ?_) rfl rfl (fun w1 he => ?_) ?_; rotate_left; ( have he' : Drw S W2.drew _ := he; have x0 := he'.cell (p := ⟨O, 0, none⟩) hgO HOA.out.c0; have x1 := he'.cell (p := ⟨O, 1, none⟩) hgO HOA.out.c1; go_simp; rfl); simp only [Act.put, List.setIfInBounds_toArray, List.set_cons_zero, List.set_cons_succ])
  (refine Chg.LexW.pure (v := ?_) rfl rfl (fun w1 he => ?_) ?_; rotate_left; ( have he' : Drw S W2.drew _ := he; have x0 := he'.cell (p := ⟨O, 0, none⟩) hgO HOA.out.c0; have x1 := he'.cell (p := ⟨O, 1, none⟩) hgO HOA.out.c1; go_simp; rfl); simp only [Act.put, List.setIfInBounds_toArray, List.set_cons_zero, List.set_cons_succ])
  (refine Chg.LexW.pure (v := ?_) rfl rfl (fun w1 he => ?_) ?_; rotate_left; ( have he' : Drw S W2.drew _ := he; have x0 := he'.cell (p := ⟨O, 0, none⟩) hgO HOA.out.c0; have x1 := he'.cell (p := ⟨O, 1, none⟩) hgO HOA.out.c1; go_simp; rfl); simp only [Act.put, List.setIfInBounds_toArray, List.set_cons_zero, List.set_cons_succ])
  (refine Chg.LexW.callR (f := ?_) (args := ?_) rfl rfl (fun w1 => ?_) (fun w1 he hdep => ?_) (fun v hv => ?_); rotate_left 2; (go_simp; refine ⟨?_, ?_⟩ <;> rfl); ( have he' : Drw S W2.drew _ := he; refine Calls.mono (s_drawVec S p a d c w1 (he'.src HS2.out) (by omega) (by omega)) ?_; rintro e w9 ⟨a9, c9, m9, x9, rfl, hm9, ho9, g9⟩; exact ⟨_, rfl, g9, a9, m9, c9, x9, rfl, by omega, ho9.mono (Nat.le_trans HS2.out.lt he'.size)⟩); simp only [Act.put, List.setIfInBounds_toArray, List.set_cons_zero, List.set_cons_succ])
  obtain ⟨_, a1, m1, c1, x1, rfl, _⟩ := hv
  (refine Chg.LexW.pure (v := ?_) rfl rfl (fun w1 he => ?_) ?_; rotate_left; ( have he' : Drw S W2.drew _ := he; have x0 := he'.cell (p := ⟨O, 0, none⟩) hgO HOA.out.c0; have x1 := he'.cell (p := ⟨O, 1, none⟩) hgO HOA.out.c1; go_simp; rfl); simp only [Act.put, List.setIfInBounds_toArray, List.set_cons_zero, List.set_cons_succ])
  (refine Chg.LexW.pure (v := ?_) rfl rfl (fun w1 he => ?_) ?_; rotate_left; ( have he' : Drw S W2.drew _ := he; have x0 := he'.cell (p := ⟨O, 0, none⟩) hgO HOA.out.c0; have x1 := he'.cell (p := ⟨O, 1, none⟩) hgO HOA.out.c1; go_simp; rfl); simp only [Act.put, List.setIfInBounds_toArray, List.set_cons_zero, List.set_cons_succ])
  (refine Chg.LexW.callR (f := ?_) (args := ?_) rfl rfl (fun w1 => ?_) (fun w1 he hdep => ?_) (fun v hv => ?_); rotate_left 2; (go_simp; refine ⟨?_, ?_⟩ <;> rfl); ( have he' : Drw S W2.drew _ := he; refine Calls.mono (s_drawVec S p a d c w1 (he'.src HS2.out) (by omega) (by omega)) ?_; rintro e w9 ⟨a9, c9, m9, x9, rfl, hm9, ho9, g9⟩; exact ⟨_, rfl, g9, a9, m9, c9, x9, rfl, by omega, ho9.mono (Nat.le_trans HS2.out.lt he'.size)⟩); simp only [Act.put, List.setIfInBounds_toArray, List.set_cons_zero, List.set_cons_succ])
  obtain ⟨_, a2, m2, c2, x2, rfl, _⟩ := hv
  refine Chg.LexW.nil (fun w3 he hkn => ?_)
  have he' : Drw S W2.drew w3 := he
  obtain ⟨a1', m1', c1', x1', q1, hm1, ho1⟩ : (Chg.SPred.own S (S.g + 1) 8 (Nat.lt_succ_self _)).holds (.slice a1 m1 c1) w3 := hkn (3, _) (by simp)
  obtain ⟨a2', m2', c2', x2', q2, hm2, ho2⟩ : (Chg.SPred.own S (S.g + 1) 8 (Nat.lt_succ_self _)).holds (.slice a2 m2 c2) w3 := hkn (6, _) (by simp)
  cases q1
  cases q2
  have HR3 := Lib.hid (HR2.out.drw he' hgR)
  have HQ3 := Lib.hid (he'.own HQ2.out (Nat.lt_succ_self _))
  have HO1 := Lib.hid ho1
  have HO2 := Lib.hid ho2
  have G3 := Lib.hid (G2.out.trans he')
  have r0 := HR3.out.c0
  have r1 := HR3.out.c1
  have f0 := HR3.out.f0
  have f1 := HR3.out.f1
  clear he he' hkn ho1 ho2
  go_wp2_with (fail)
  refine bodyPost_ret (v := .tuple #[.agg #[.int .i64 p, .slice a d c], .slice a1 m1 c1, .slice a2 m2 c2]) (by simp [results, Try.results11, go_sem, r0, r1]) rfl ⟨p, a, d, c, qs, a1, m1, c1, x1', a2, m2, c2, x2', rfl, hp0, hp1, hd, hm1, hm2, ?_, ?_, ?_, ?_⟩
  · exact ((HQ3.out.other (by simp; omega) _).other (by simp; omega) _).mono (by omega)
  · exact ((HO1.out.other (by simp; omega) _).other (by simp; omega) _).mono (by omega)
  · exact ((HO2.out.other (by simp; omega) _).other (by simp; omega) _).mono (by omega)
  · exact ((G3.out.toExt G1.out (by omega)).setCell (by simp) _).setCell (by simp) _
end Go.Proofs.Ytbgnfjckbjmgbaa

/-
  Draws of multivectors.
  No condition.
-/
namespace Go.Proofs.Ytbgnfjckbjmgbaa
set_option maxRecDepth 100000
open Go.RowKit

set_option maxHeartbeats 1000000 in
theorem s_partW (a : Option Addr) (n cap : Nat) (xs : List Int) (k : Int) (w : World) (hn : n ≤ 64) (hx : RdC w a n xs) :
    Calls Try.prog 194 #[.slice a n cap, .int .i64 k] w fun e w' => ∃ g ys, e = .returned (.slice (some ⟨g, 0, none⟩) n n) ∧ OwnC w.heap.size w' (some ⟨g, 0, none⟩) n n ys ∧ Ext w w' := by
  obtain ⟨w0, hmk, hown0, hext0⟩ := make_ints w n (by omega)
  have HX := Lib.hid hx
  clear hx
  obtain ⟨g, hg⟩ : ∃ g, g = w.heap.size := ⟨_, rfl⟩
  rw [← hg] at hmk
  have HOwn0 := Lib.hid hown0
  have HExt0 := Lib.hid hext0
  clear hown0 hext0
  have hge : w.heap.size ≤ g := by omega
  have HG := Lib.hid hg
  clear hg
  go_enter Try.func194, Try.ntmps194
  go_wp2_with (fail)
  go_loopw [6] (fun i wr => ∃ (j : Nat) (ys : List Int), j ≤ n ∧ i = .int .i64 j ∧ Hid (OwnC w.heap.size wr (some ⟨g, 0, none⟩) n n ys) ∧ Hid (Ext w wr)) (fun i _ => n - (intOf i).toNat)
  case atStart => exact ⟨0, List.replicate n 0, Nat.zero_le _, rfl, Lib.hid (by have := HOwn0.out; rw [← HG.out] at this ⊢; exact this), HExt0⟩
  case round =>
    obtain ⟨j, ys, hj, rfl, HO, HE⟩ := hrel
    clear HExt0 HOwn0 hmk
    by_cases hlt : j < n
    · obtain ⟨b, off, rfl, hc⟩ := HX.out.2 j hlt
      go_wp2_with (fail)
      refine Calls.mono (s_grade j wr (by omega)) ?_
      rintro e w1 ⟨rfl, g1⟩
      have hc' := (HE.out.trans g1).cell hc
      have HO1 := Lib.hid (HO.out.ext g1)
      have HE1 := Lib.hid (HE.out.trans g1)
      have hcg := HO1.out.cell hlt
      have hfz := HO1.out.frozen j
      clear g1 hc HO HE
      by_cases hk : (popc j : Int) = k
      · have hkb : ((popc j : Int) == k) = true := by simp [hk]
        clear hk
        go_wp2_with (fail)
        go_roundw
        case rel => exact ⟨j + 1, _, by omega, by go_num, Lib.hid (HO1.out.store hlt _), Lib.hid (HE1.out.setCell hge _)⟩
        case measure => simp [intOf]; omega
      · have hkb : ((popc j : Int) == k) = false := by simp [hk]
        clear hk
        go_wp2_with (fail)
        go_roundw
        case rel => exact ⟨j + 1, _, by omega, by go_num, HO1, HE1⟩
        case measure => simp [intOf]; omega
    · go_wp2_with (fail)
      go_ret
      exact ⟨g, ys, rfl, HO.out, HE.out⟩

namespace Chg
/-- A row of the call's own, behind the source, of a length and with a property. -/
def SPred.ownP (S : SrcP) (B n : Nat) (P : List Int → Prop) (hB : S.g < B) : SPred (Drw.rel S) :=
  ⟨fun v w => ∃ g cap xs, v = .slice (some ⟨g, 0, none⟩) n cap ∧ P xs ∧ OwnC B w (some ⟨g, 0, none⟩) n cap xs, fun _ _ _ ⟨g, cap, xs, h1, h2, h3⟩ he => ⟨g, cap, xs, h1, h2, Drw.own he h3 hB⟩⟩
end Chg

theorem isB_Good {p : Int} {n : Nat} {xs : List Int} (h : xs.length = n) (hb : isB p xs = true) : Good p n xs := good_isB h hb

set_option maxHeartbeats 8000000 in
set_option maxRecDepth 100000 in
theorem s_draw4 {N : Nat} (S : SrcP) (B : Nat) (p : Int) (a : Option Addr) (d cap : Nat) (qs : List Int) (w : World) (hS : Src S w) (hB : S.g < B) (hN : N = 2 ^ d) (hs : spaceB p qs = true) (hq : OwnC B w a d cap qs) :
    Calls Try.prog 164 #[.pointer (some ⟨S.g, 0, none⟩), .agg #[.int .i64 p, .slice a d cap]] w fun e w' => ∃ g c xs, e = .returned (.slice (some ⟨g, 0, none⟩) N c) ∧ OwnC w.heap.size w' (some ⟨g, 0, none⟩) N c xs ∧ Drw S w w' := by
  have HS := Lib.hid hS
  have hlt := hS.lt
  obtain ⟨hpr, hd1, hd6, hqb⟩ := space_of hs
  have hpb := prime_bd hpr
  have hdl := hq.1
  rw [hdl] at hd1 hd6
  have HN := Lib.hid hN
  have hN6 : N ≤ 64 := by rw [hN]; exact pow_le64 hd6
  have hN1 : 0 < N := by rw [hN]; exact pow_pos' d
  have HD := Lib.hid hdl
  have HQB := Lib.hid hqb
  have HSP := Lib.hid hs
  obtain ⟨ga, hga⟩ : ∃ ga, a = some ⟨ga, 0, none⟩ := by
    obtain ⟨g, _, hg, _⟩ := hq.row hd1
    exact ⟨g, hg⟩
  subst hga
  obtain ⟨O, hO⟩ : ∃ O, O = w.heap.size := ⟨_, rfl⟩
  obtain ⟨W, hW⟩ : ∃ W, W = w.alloc (.cells #[.int .i64 p, .slice (some ⟨ga, 0, none⟩) d cap] 26) := ⟨_, rfl⟩
  have hgW : Ext w W := by rw [hW]; exact ext_alloc _ _
  have G := Lib.hid (Drw.of_ext (S := S) hgW)
  have HC := Lib.hid (show SpAt W O p (.slice (some ⟨ga, 0, none⟩) d cap) by rw [hW, hO]; exact ⟨by simp, by simp, by simp, by simp⟩)
  have HQ := Lib.hid (hq.ext hgW)
  have hgO : O ≠ S.g := by omega
  have hOw : w.heap.size ≤ O := by omega
  clear hS hN hdl hqb hq hgW hs
  go_enter Try.func164, Try.ntmps164
  have c0 := HC.out.c0
  have c1 := HC.out.c1
  go_wp2_with (fail)
  rw [← hO, ← hW]
  have HW := Lib.hid hW
  clear hO hW
  refine Calls.mono (s_zeroN HN.out p (some ⟨ga, 0, none⟩) cap W hd6) ?_
  rintro e v1 ⟨g0, rfl, ho, gg⟩
  replace gg := Drw.of_ext (S := S) gg
  have hg0 := ho.base_le.1
  have hOl := HC.out.lt
  have hgl := HQ.out.base_le.2
  have hOg : O ≠ g0 := by omega
  have hgg0 : ga ≠ g0 := by omega
  clear hg0 hOl hgl
  have R0 := Lib.hid (ho.mono (show w.heap.size ≤ _ from G.out.size))
  clear ho
  replace G := Lib.hid (G.out.trans gg)
  replace HC := Lib.hid (HC.out.drw gg hgO)
  replace HQ := Lib.hid (gg.own HQ.out hB)
  clear gg
  have c0 := HC.out.c0
  have c1 := HC.out.c1
  go_wp2_with (fail)
  clear c0 c1
  refine Calls.mono (s_next S 5 v1 (G.out.src HS.out) (by decide)) ?_
  rintro e v2 ⟨r, rfl, _, gg⟩
  replace G := Lib.hid (G.out.trans gg)
  replace HC := Lib.hid (HC.out.drw gg hgO)
  replace HQ := Lib.hid (gg.own HQ.out hB)
  replace R0 := Lib.hid (gg.own R0.out hlt)
  clear gg
  by_cases h0 : r = 0
  · subst h0
    have c0 := HC.out.c0
    have c1 := HC.out.c1
    go_wp2_with (fail)
    clear c0 c1
    have gg := Drw.of_ext (S := S) (ext_drew v2)
    replace G := Lib.hid (G.out.trans gg)
    replace HC := Lib.hid (HC.out.drw gg hgO)
    replace HQ := Lib.hid (gg.own HQ.out hB)
    replace R0 := Lib.hid (gg.own R0.out hlt)
    clear gg
    refine Chg.wp_region_lex (E := Drw.rel S) [(7, .ownP S w.heap.size d (Good p d) hlt), (8, .ownP S w.heap.size N (Good p N) hlt)] (by kernel_rfl) (by kernel_rfl) ?_
    (refine Chg.LexW.pure (v := ?_) rfl rfl (fun w1 he => ?_) ?_; rotate_left; ( have he' : Drw S _ _ := he; have x0 := he'.cell (p := ⟨O, 0, none⟩) hgO HC.out.c0; have x1 := he'.cell (p := ⟨O, 1, none⟩) hgO HC.out.c1; go_simp; rfl); simp only [Act.put, List.setIfInBounds_toArray, List.set_cons_zero, List.set_cons_succ])
    (refine Chg.LexW.pure (v := ?_) rfl rfl (fun w1 he => ?_) ?_; rotate_left; ( have he' : Drw S _ _ := he; have x0 := he'.cell (p := ⟨O, 0, none⟩) hgO HC.out.c0; have x1 := he'.cell (p := ⟨O, 1, none⟩) hgO HC.out.c1; go_simp; rfl); simp only [Act.put, List.setIfInBounds_toArray, List.set_cons_zero, List.set_cons_succ])
    (refine Chg.LexW.pure (v := ?_) rfl rfl (fun w1 he => ?_) ?_; rotate_left; ( have he' : Drw S _ _ := he; have x0 := he'.cell (p := ⟨O, 0, none⟩) hgO HC.out.c0; have x1 := he'.cell (p := ⟨O, 1, none⟩) hgO HC.out.c1; go_simp; rfl); simp only [Act.put, List.setIfInBounds_toArray, List.set_cons_zero, List.set_cons_succ])
    (refine Chg.LexW.pure (v := ?_) rfl rfl (fun w1 he => ?_) ?_; rotate_left; ( have he' : Drw S _ _ := he; have x0 := he'.cell (p := ⟨O, 0, none⟩) hgO HC.out.c0; have x1 := he'.cell (p := ⟨O, 1, none⟩) hgO HC.out.c1; go_simp; rfl); simp only [Act.put, List.setIfInBounds_toArray, List.set_cons_zero, List.set_cons_succ])
    (refine Chg.LexW.pure (v := ?_) rfl rfl (fun w1 he => ?_) ?_; rotate_left; ( have he' : Drw S _ _ := he; have x0 := he'.cell (p := ⟨O, 0, none⟩) hgO HC.out.c0; have x1 := he'.cell (p := ⟨O, 1, none⟩) hgO HC.out.c1; go_simp; rfl); simp only [Act.put, List.setIfInBounds_toArray, List.set_cons_zero, List.set_cons_succ])
    (refine Chg.LexW.pure (v := ?_) rfl rfl (fun w1 he => ?_) ?_; rotate_left; ( have he' : Drw S _ _ := he; have x0 := he'.cell (p := ⟨O, 0, none⟩) hgO HC.out.c0; have x1 := he'.cell (p := ⟨O, 1, none⟩) hgO HC.out.c1; go_simp; rfl); simp only [Act.put, List.setIfInBounds_toArray, List.set_cons_zero, List.set_cons_succ])
    (refine Chg.LexW.pure (v := ?_) rfl rfl (fun w1 he => ?_) ?_; rotate_left; ( have he' : Drw S _ _ := he; have x0 := he'.cell (p := ⟨O, 0, none⟩) hgO HC.out.c0; have x1 := he'.cell (p := ⟨O, 1, none⟩) hgO HC.out.c1; go_simp; rfl); simp only [Act.put, List.setIfInBounds_toArray, List.set_cons_zero, List.set_cons_succ])
    (refine Chg.LexW.callR (f := ?_) (args := ?_) rfl rfl (fun w1 => ?_) (fun w1 he hdep => ?_) (fun v hv => ?_); rotate_left 2; (go_simp; refine ⟨?_, ?_⟩ <;> rfl); ( have he' : Drw S _ _ := he; (refine Calls.mono (s_dlist S p d _ ((G.out.trans he').src HS.out) (by omega) (by omega)) ?_; rintro e w9 ⟨a9, c9, x9, rfl, ho9, hb9, g9⟩; obtain ⟨g8, _, rfl, _⟩ := ho9.row (by omega); exact ⟨_, rfl, g9, g8, c9, x9, rfl, isB_Good ho9.1 (hb9 (by omega)), ho9.mono (Nat.le_trans G.out.size he'.size)⟩)); simp only [Act.put, List.setIfInBounds_toArray, List.set_cons_zero, List.set_cons_succ])
    obtain ⟨_, g28, c28, x28, rfl, _⟩ := hv
    (refine Chg.LexW.callR (f := ?_) (args := ?_) rfl rfl (fun w1 => ?_) (fun w1 he hdep => ?_) (fun v hv => ?_); rotate_left 2; (go_simp; refine ⟨?_, ?_⟩ <;> rfl); ( have he' : Drw S _ _ := he; obtain ⟨_, _, y28, q28, p28, r28⟩ : (Chg.SPred.ownP S w.heap.size d (Good p d) hlt).holds (.slice (some ⟨g28, 0, none⟩) d c28) w1 := hdep (7, 28) (by decide +kernel); cases q28; (refine Calls.mono (s_vector HN.out p (some ⟨ga, 0, none⟩) cap _ _ y28 w1 hd6 r28.rd) ?_; rintro e w9 ⟨g9, rfl, ho9, x9⟩; exact ⟨_, rfl, Drw.of_ext x9, g9, _, _, rfl, vec_good (by omega) p28, ho9.mono (Nat.le_trans G.out.size he'.size)⟩)); simp only [Act.put, List.setIfInBounds_toArray, List.set_cons_zero, List.set_cons_succ])
    obtain ⟨_, g29, c29, x29, rfl, _⟩ := hv
    (refine Chg.LexW.pure (v := ?_) rfl rfl (fun w1 he => ?_) ?_; rotate_left; ( have he' : Drw S _ _ := he; have x0 := he'.cell (p := ⟨O, 0, none⟩) hgO HC.out.c0; have x1 := he'.cell (p := ⟨O, 1, none⟩) hgO HC.out.c1; go_simp; rfl); simp only [Act.put, List.setIfInBounds_toArray, List.set_cons_zero, List.set_cons_succ])
    refine Chg.LexW.nil (fun v3 he hkn => ?_)
    have gg : Drw S v2.drew v3 := he
    obtain ⟨_, _, y29, q29, p29, r29⟩ : (Chg.SPred.ownP S w.heap.size N (Good p N) hlt).holds (.slice (some ⟨g29, 0, none⟩) N c29) _ := hkn (8, _) (by simp)
    cases q29
    have R9 := Lib.hid r29
    replace G := Lib.hid (G.out.trans gg)
    replace HC := Lib.hid (HC.out.drw gg hgO)
    replace HQ := Lib.hid (gg.own HQ.out hB)
    replace R0 := Lib.hid (gg.own R0.out hlt)
    clear gg he hkn
    go_wp2_with (fail)
    go_ret
    first | exact ⟨_, _, _, rfl, R9.out, G.out⟩ | exact ⟨_, _, rfl, ⟨_, R9.out⟩, G.out⟩
  by_cases h1 : r = 1
  · subst h1
    have c0 := HC.out.c0
    have c1 := HC.out.c1
    go_wp2_with (fail)
    clear c0 c1
    refine Calls.mono (s_oneN HN.out p (some ⟨ga, 0, none⟩) cap v2 hd6) ?_
    rintro e v3 ⟨g1, rfl, ho, gg⟩
    replace gg := Drw.of_ext (S := S) gg
    have R1 := Lib.hid (ho.mono (show w.heap.size ≤ _ from G.out.size))
    clear ho
    replace G := Lib.hid (G.out.trans gg)
    replace HC := Lib.hid (HC.out.drw gg hgO)
    replace HQ := Lib.hid (gg.own HQ.out hB)
    replace R0 := Lib.hid (gg.own R0.out hlt)
    clear gg
    have c0 := HC.out.c0
    have c1 := HC.out.c1
    go_wp2_with (fail)
    clear c0 c1
    refine Calls.mono (s_next S 4 v3 (G.out.src HS.out) (by decide)) ?_
    rintro e v4 ⟨k, rfl, hk, gg⟩
    replace G := Lib.hid (G.out.trans gg)
    replace HC := Lib.hid (HC.out.drw gg hgO)
    replace HQ := Lib.hid (gg.own HQ.out hB)
    replace R0 := Lib.hid (gg.own R0.out hlt)
    replace R1 := Lib.hid (gg.own R1.out hlt)
    clear gg
    obtain ⟨m, rfl⟩ : ∃ m : Nat, k = (m : Int) := ⟨k.toNat, by have := hk.2 (by decide); omega⟩
    have hm4 : m < 4 := by have := hk.2 (by decide); omega
    clear hk
    have c0 := HC.out.c0
    have c1 := HC.out.c1
    go_wp2_with (fail)
    clear c0 c1
    go_loopw [5, 6] (fun o i wr => ∃ (g c j : Nat) (xs : List Int), j ≤ m ∧ i = .int .i64 ((m - j : Nat) : Int) ∧ o = .slice (some ⟨g, 0, none⟩) N c ∧ Hid (Good p N xs) ∧ Hid (OwnC w.heap.size wr (some ⟨g, 0, none⟩) N c xs) ∧ Hid (SpAt wr O p (.slice (some ⟨ga, 0, none⟩) d cap)) ∧ Hid (OwnC B wr (some ⟨ga, 0, none⟩) d cap qs) ∧ Hid (Drw S w wr)) (fun _ i _ => (intOf i).toNat)
    case atStart => exact ⟨g1, _, 0, _, Nat.zero_le _, by simp, rfl, Lib.hid (blade_good (by omega)), R1, HC, HQ, G⟩
    case round =>
      clear R0 R1 HC HQ G
      obtain ⟨g, c, j, xs, hj, rfl, rfl, HG, R1, HC, HQ, G⟩ := hrel
      by_cases hjm : j < m
      · obtain ⟨t, ht⟩ : ∃ t : Nat, m - j = t + 1 := ⟨m - j - 1, by omega⟩
        rw [ht]
        have c0 := HC.out.c0
        have c1 := HC.out.c1
        go_wp2_with (fail)
        clear c0 c1
        have gg := Drw.of_ext (S := S) (ext_drew wr)
        replace G := Lib.hid (G.out.trans gg)
        replace HC := Lib.hid (HC.out.drw gg hgO)
        replace HQ := Lib.hid (gg.own HQ.out hB)
        replace R1 := Lib.hid (gg.own R1.out hlt)
        clear gg
        refine Chg.wp_region_lex (E := Drw.rel S) [(9, .ownP S w.heap.size d (Good p d) hlt), (10, .ownP S w.heap.size N (Good p N) hlt), (11, .ownP S w.heap.size N (Good p N) hlt)] (by kernel_rfl) (by kernel_rfl) ?_
        (refine Chg.LexW.pure (v := ?_) rfl rfl (fun w1 he => ?_) ?_; rotate_left; ( have he' : Drw S _ _ := he; have x0 := he'.cell (p := ⟨O, 0, none⟩) hgO HC.out.c0; have x1 := he'.cell (p := ⟨O, 1, none⟩) hgO HC.out.c1; go_simp; rfl); simp only [Act.put, List.setIfInBounds_toArray, List.set_cons_zero, List.set_cons_succ])
        (refine Chg.LexW.pure (v := ?_) rfl rfl (fun w1 he => ?_) ?_; rotate_left; ( have he' : Drw S _ _ := he; have x0 := he'.cell (p := ⟨O, 0, none⟩) hgO HC.out.c0; have x1 := he'.cell (p := ⟨O, 1, none⟩) hgO HC.out.c1; go_simp; rfl); simp only [Act.put, List.setIfInBounds_toArray, List.set_cons_zero, List.set_cons_succ])
        (refine Chg.LexW.pure (v := ?_) rfl rfl (fun w1 he => ?_) ?_; rotate_left; ( have he' : Drw S _ _ := he; have x0 := he'.cell (p := ⟨O, 0, none⟩) hgO HC.out.c0; have x1 := he'.cell (p := ⟨O, 1, none⟩) hgO HC.out.c1; go_simp; rfl); simp only [Act.put, List.setIfInBounds_toArray, List.set_cons_zero, List.set_cons_succ])
        (refine Chg.LexW.pure (v := ?_) rfl rfl (fun w1 he => ?_) ?_; rotate_left; ( have he' : Drw S _ _ := he; have x0 := he'.cell (p := ⟨O, 0, none⟩) hgO HC.out.c0; have x1 := he'.cell (p := ⟨O, 1, none⟩) hgO HC.out.c1; go_simp; rfl); simp only [Act.put, List.setIfInBounds_toArray, List.set_cons_zero, List.set_cons_succ])
        (refine Chg.LexW.pure (v := ?_) rfl rfl (fun w1 he => ?_) ?_; rotate_left; ( have he' : Drw S _ _ := he; have x0 := he'.cell (p := ⟨O, 0, none⟩) hgO HC.out.c0; have x1 := he'.cell (p := ⟨O, 1, none⟩) hgO HC.out.c1; go_simp; rfl); simp only [Act.put, List.setIfInBounds_toArray, List.set_cons_zero, List.set_cons_succ])
        (refine Chg.LexW.pure (v := ?_) rfl rfl (fun w1 he => ?_) ?_; rotate_left; ( have he' : Drw S _ _ := he; have x0 := he'.cell (p := ⟨O, 0, none⟩) hgO HC.out.c0; have x1 := he'.cell (p := ⟨O, 1, none⟩) hgO HC.out.c1; go_simp; rfl); simp only [Act.put, List.setIfInBounds_toArray, List.set_cons_zero, List.set_cons_succ])
        (refine Chg.LexW.pure (v := ?_) rfl rfl (fun w1 he => ?_) ?_; rotate_left; ( have he' : Drw S _ _ := he; have x0 := he'.cell (p := ⟨O, 0, none⟩) hgO HC.out.c0; have x1 := he'.cell (p := ⟨O, 1, none⟩) hgO HC.out.c1; go_simp; rfl); simp only [Act.put, List.setIfInBounds_toArray, List.set_cons_zero, List.set_cons_succ])
        (refine Chg.LexW.pure (v := ?_) rfl rfl (fun w1 he => ?_) ?_; rotate_left; ( have he' : Drw S _ _ := he; have x0 := he'.cell (p := ⟨O, 0, none⟩) hgO HC.out.c0; have x1 := he'.cell (p := ⟨O, 1, none⟩) hgO HC.out.c1; go_simp; rfl); simp only [Act.put, List.setIfInBounds_toArray, List.set_cons_zero, List.set_cons_succ])
        (refine Chg.LexW.pure (v := ?_) rfl rfl (fun w1 he => ?_) ?_; rotate_left; ( have he' : Drw S _ _ := he; have x0 := he'.cell (p := ⟨O, 0, none⟩) hgO HC.out.c0; have x1 := he'.cell (p := ⟨O, 1, none⟩) hgO HC.out.c1; go_simp; rfl); simp only [Act.put, List.setIfInBounds_toArray, List.set_cons_zero, List.set_cons_succ])
        (refine Chg.LexW.callR (f := ?_) (args := ?_) rfl rfl (fun w1 => ?_) (fun w1 he hdep => ?_) (fun v hv => ?_); rotate_left 2; (go_simp; refine ⟨?_, ?_⟩ <;> rfl); ( have he' : Drw S _ _ := he; (refine Calls.mono (s_dlist S p d _ ((G.out.trans he').src HS.out) (by omega) (by omega)) ?_; rintro e w9 ⟨a9, c9, x9, rfl, ho9, hb9, g9⟩; obtain ⟨g8, _, rfl, _⟩ := ho9.row (by omega); exact ⟨_, rfl, g9, g8, c9, x9, rfl, isB_Good ho9.1 (hb9 (by omega)), ho9.mono (Nat.le_trans G.out.size he'.size)⟩)); simp only [Act.put, List.setIfInBounds_toArray, List.set_cons_zero, List.set_cons_succ])
        obtain ⟨_, g49, c49, x49, rfl, _⟩ := hv
        (refine Chg.LexW.callR (f := ?_) (args := ?_) rfl rfl (fun w1 => ?_) (fun w1 he hdep => ?_) (fun v hv => ?_); rotate_left 2; (go_simp; refine ⟨?_, ?_⟩ <;> rfl); ( have he' : Drw S _ _ := he; obtain ⟨_, _, y49, q49, p49, r49⟩ : (Chg.SPred.ownP S w.heap.size d (Good p d) hlt).holds (.slice (some ⟨g49, 0, none⟩) d c49) w1 := hdep (9, 49) (by decide +kernel); cases q49; (refine Calls.mono (s_vector HN.out p (some ⟨ga, 0, none⟩) cap _ _ y49 w1 hd6 r49.rd) ?_; rintro e w9 ⟨g9, rfl, ho9, x9⟩; exact ⟨_, rfl, Drw.of_ext x9, g9, _, _, rfl, vec_good (by omega) p49, ho9.mono (Nat.le_trans G.out.size he'.size)⟩)); simp only [Act.put, List.setIfInBounds_toArray, List.set_cons_zero, List.set_cons_succ])
        obtain ⟨_, g50, c50, x50, rfl, _⟩ := hv
        (refine Chg.LexW.callR (f := ?_) (args := ?_) rfl rfl (fun w1 => ?_) (fun w1 he hdep => ?_) (fun v hv => ?_); rotate_left 2; (go_simp; refine ⟨?_, ?_⟩ <;> rfl); ( have he' : Drw S _ _ := he; obtain ⟨_, _, y50, q50, p50, r50⟩ : (Chg.SPred.ownP S w.heap.size N (Good p N) hlt).holds (.slice (some ⟨g50, 0, none⟩) N c50) w1 := hdep (10, 50) (by decide +kernel); cases q50; (refine Calls.mono (s_timesN HN.out p (some ⟨ga, 0, none⟩) cap qs _ _ _ _ xs y50 w1 hd6 (by omega) (by omega) (he'.own HQ.out hB).rd HQB.out (he'.own R1.out hlt).rd r50.rd (good_bits HG.out) (good_bits p50)) ?_; rintro e w9 ⟨g9, rfl, ho9, x9⟩; exact ⟨_, rfl, Drw.of_ext x9, g9, _, _, rfl, by rw [HN.out, ← HD.out]; exact prod_good (by omega), ho9.mono (Nat.le_trans G.out.size he'.size)⟩)); simp only [Act.put, List.setIfInBounds_toArray, List.set_cons_zero, List.set_cons_succ])
        obtain ⟨_, g51, c51, x51, rfl, _⟩ := hv
        (refine Chg.LexW.pure (v := ?_) rfl rfl (fun w1 he => ?_) ?_; rotate_left; ( have he' : Drw S _ _ := he; have x0 := he'.cell (p := ⟨O, 0, none⟩) hgO HC.out.c0; have x1 := he'.cell (p := ⟨O, 1, none⟩) hgO HC.out.c1; go_simp; rfl); simp only [Act.put, List.setIfInBounds_toArray, List.set_cons_zero, List.set_cons_succ])
        refine Chg.LexW.nil (fun v5 he hkn => ?_)
        have gg : Drw S wr.drew v5 := he
        obtain ⟨_, _, y51, q51, p51, r51⟩ : (Chg.SPred.ownP S w.heap.size N (Good p N) hlt).holds (.slice (some ⟨g51, 0, none⟩) N c51) _ := hkn (11, _) (by simp)
        cases q51
        have R9 := Lib.hid r51
        have P9 := Lib.hid p51
        replace G := Lib.hid (G.out.trans gg)
        replace HC := Lib.hid (HC.out.drw gg hgO)
        replace HQ := Lib.hid (gg.own HQ.out hB)
        replace R1 := Lib.hid (gg.own R1.out hlt)
        clear gg he hkn
        go_wp2_with (fail)
        go_roundw
        case rel => exact ⟨_, _, j + 1, _, by omega, by go_num, rfl, P9, R9, HC, HQ, G⟩
        case measure => simp [intOf]
      · have hz : m - j = 0 := by omega
        rw [hz]
        go_wp2_with (fail)
        go_ret
        exact ⟨_, _, _, rfl, R1.out, G.out⟩
  by_cases h2 : r = 2
  · subst h2
    have c0 := HC.out.c0
    have c1 := HC.out.c1
    go_wp2_with (fail)
    clear c0 c1
    have hwd : wrap64 ((d : Int) + 1) = (d : Int) + 1 := by unfold wrap64; omega
    refine Calls.mono (s_next S ((d : Int) + 1) v2 (G.out.src HS.out) (by omega)) ?_
    rintro e v3 ⟨k, rfl, hk, gg⟩
    replace G := Lib.hid (G.out.trans gg)
    replace HC := Lib.hid (HC.out.drw gg hgO)
    replace HQ := Lib.hid (gg.own HQ.out hB)
    replace R0 := Lib.hid (gg.own R0.out hlt)
    clear gg
    have c0 := HC.out.c0
    have c1 := HC.out.c1
    go_wp2_with (fail)
    clear c0 c1
    have gg := Drw.of_ext (S := S) (ext_drew v3)
    replace G := Lib.hid (G.out.trans gg)
    replace HC := Lib.hid (HC.out.drw gg hgO)
    replace HQ := Lib.hid (gg.own HQ.out hB)
    replace R0 := Lib.hid (gg.own R0.out hlt)
    clear gg
    refine Chg.wp_region_lex (E := Drw.rel S) [(4, .val (.int .i64 N)), (5, .ownP S w.heap.size N (Good p N) hlt), (7, .ownP S w.heap.size N (fun _ => True) hlt)] (by kernel_rfl) (by kernel_rfl) ?_
    (refine Chg.LexW.pure (v := ?_) rfl rfl (fun w1 he => ?_) ?_; rotate_left; ( have he' : Drw S _ _ := he; have x0 := he'.cell (p := ⟨O, 0, none⟩) hgO HC.out.c0; have x1 := he'.cell (p := ⟨O, 1, none⟩) hgO HC.out.c1; go_simp; rfl); simp only [Act.put, List.setIfInBounds_toArray, List.set_cons_zero, List.set_cons_succ])
    (refine Chg.LexW.pure (v := ?_) rfl rfl (fun w1 he => ?_) ?_; rotate_left; ( have he' : Drw S _ _ := he; have x0 := he'.cell (p := ⟨O, 0, none⟩) hgO HC.out.c0; have x1 := he'.cell (p := ⟨O, 1, none⟩) hgO HC.out.c1; go_simp; rfl); simp only [Act.put, List.setIfInBounds_toArray, List.set_cons_zero, List.set_cons_succ])
    (refine Chg.LexW.pure (v := ?_) rfl rfl (fun w1 he => ?_) ?_; rotate_left; ( have he' : Drw S _ _ := he; have x0 := he'.cell (p := ⟨O, 0, none⟩) hgO HC.out.c0; have x1 := he'.cell (p := ⟨O, 1, none⟩) hgO HC.out.c1; go_simp; rfl); simp only [Act.put, List.setIfInBounds_toArray, List.set_cons_zero, List.set_cons_succ])
    (refine Chg.LexW.pure (v := ?_) rfl rfl (fun w1 he => ?_) ?_; rotate_left; ( have he' : Drw S _ _ := he; have x0 := he'.cell (p := ⟨O, 0, none⟩) hgO HC.out.c0; have x1 := he'.cell (p := ⟨O, 1, none⟩) hgO HC.out.c1; go_simp; rfl); simp only [Act.put, List.setIfInBounds_toArray, List.set_cons_zero, List.set_cons_succ])
    (refine Chg.LexW.call (f := ?_) (args := ?_) rfl rfl (fun w1 => ?_) (fun w1 he hdep => ?_) ?_; rotate_left 2; (go_simp; refine ⟨?_, ?_⟩ <;> rfl); ( have he' : Drw S _ _ := he; have H := s_size p (some ⟨ga, 0, none⟩) d cap w1 hd6; rw [← HN.out] at H; exact H.mono fun e w' h => ⟨h.1, Drw.of_ext h.2⟩); simp only [Act.put, List.setIfInBounds_toArray, List.set_cons_zero, List.set_cons_succ])
    (refine Chg.LexW.callR (f := ?_) (args := ?_) rfl rfl (fun w1 => ?_) (fun w1 he hdep => ?_) (fun v hv => ?_); rotate_left 2; (go_simp; refine ⟨?_, ?_⟩ <;> rfl); ( have he' : Drw S _ _ := he; (refine Calls.mono (s_dlist S p N _ ((G.out.trans he').src HS.out) (by omega) (by omega)) ?_; rintro e w9 ⟨a9, c9, x9, rfl, ho9, hb9, g9⟩; obtain ⟨g8, _, rfl, _⟩ := ho9.row (by omega); exact ⟨_, rfl, g9, g8, c9, x9, rfl, isB_Good ho9.1 (hb9 (by omega)), ho9.mono (Nat.le_trans G.out.size he'.size)⟩)); simp only [Act.put, List.setIfInBounds_toArray, List.set_cons_zero, List.set_cons_succ])
    obtain ⟨_, g65, c65, x65, rfl, _⟩ := hv
    (refine Chg.LexW.pure (v := ?_) rfl rfl (fun w1 he => ?_) ?_; rotate_left; ( have he' : Drw S _ _ := he; have x0 := he'.cell (p := ⟨O, 0, none⟩) hgO HC.out.c0; have x1 := he'.cell (p := ⟨O, 1, none⟩) hgO HC.out.c1; go_simp; rfl); simp only [Act.put, List.setIfInBounds_toArray, List.set_cons_zero, List.set_cons_succ])
    (refine Chg.LexW.callR (f := ?_) (args := ?_) rfl rfl (fun w1 => ?_) (fun w1 he hdep => ?_) (fun v hv => ?_); rotate_left 2; (go_simp; refine ⟨?_, ?_⟩ <;> rfl); ( have he' : Drw S _ _ := he; obtain ⟨_, _, y65, q65, p65, r65⟩ : (Chg.SPred.ownP S w.heap.size N (Good p N) hlt).holds (.slice (some ⟨g65, 0, none⟩) N c65) w1 := hdep (5, 65) (by decide +kernel); cases q65; (refine Calls.mono (s_partW _ N _ y65 k w1 (by omega) r65.rd) ?_; rintro e w9 ⟨g9, y9, rfl, ho9, x9⟩; exact ⟨_, rfl, Drw.of_ext x9, g9, _, _, rfl, trivial, ho9.mono (Nat.le_trans G.out.size he'.size)⟩)); simp only [Act.put, List.setIfInBounds_toArray, List.set_cons_zero, List.set_cons_succ])
    obtain ⟨_, g67, c67, x67, rfl, _⟩ := hv
    (refine Chg.LexW.pure (v := ?_) rfl rfl (fun w1 he => ?_) ?_; rotate_left; ( have he' : Drw S _ _ := he; have x0 := he'.cell (p := ⟨O, 0, none⟩) hgO HC.out.c0; have x1 := he'.cell (p := ⟨O, 1, none⟩) hgO HC.out.c1; go_simp; rfl); simp only [Act.put, List.setIfInBounds_toArray, List.set_cons_zero, List.set_cons_succ])
    refine Chg.LexW.nil (fun v4 he hkn => ?_)
    have gg : Drw S v3.drew v4 := he
    obtain ⟨_, _, y67, q67, p67, r67⟩ : (Chg.SPred.ownP S w.heap.size N (fun _ => True) hlt).holds (.slice (some ⟨g67, 0, none⟩) N c67) _ := hkn (7, _) (by simp)
    cases q67
    have R9 := Lib.hid r67
    replace G := Lib.hid (G.out.trans gg)
    replace HC := Lib.hid (HC.out.drw gg hgO)
    replace HQ := Lib.hid (gg.own HQ.out hB)
    replace R0 := Lib.hid (gg.own R0.out hlt)
    clear gg he hkn
    go_wp2_with (fail)
    go_ret
    first | exact ⟨_, _, _, rfl, R9.out, G.out⟩ | exact ⟨_, _, rfl, ⟨_, R9.out⟩, G.out⟩
  by_cases h3 : r = 3
  · subst h3
    have c0 := HC.out.c0
    have c1 := HC.out.c1
    go_wp2_with (fail)
    clear c0 c1
    refine Calls.mono (s_next S 4 v2 (G.out.src HS.out) (by decide)) ?_
    rintro e v3 ⟨k, rfl, hk, gg⟩
    replace G := Lib.hid (G.out.trans gg)
    replace HC := Lib.hid (HC.out.drw gg hgO)
    replace HQ := Lib.hid (gg.own HQ.out hB)
    replace R0 := Lib.hid (gg.own R0.out hlt)
    clear gg
    obtain ⟨m, rfl⟩ : ∃ m : Nat, k = (m : Int) := ⟨k.toNat, by have := hk.2 (by decide); omega⟩
    have hm4 : m < 4 := by have := hk.2 (by decide); omega
    clear hk
    have c0 := HC.out.c0
    have c1 := HC.out.c1
    go_wp2_with (fail)
    clear c0 c1
    go_loopw [8] (fun i wr => ∃ (j : Nat) (xs : List Int), j ≤ m ∧ i = .int .i64 ((m - j : Nat) : Int) ∧ Hid (OwnC w.heap.size wr (some ⟨g0, 0, none⟩) N N xs) ∧ Hid (SpAt wr O p (.slice (some ⟨ga, 0, none⟩) d cap)) ∧ Hid (OwnC B wr (some ⟨ga, 0, none⟩) d cap qs) ∧ Hid (Drw S w wr)) (fun i _ => (intOf i).toNat)
    case atStart => exact ⟨0, _, Nat.zero_le _, by simp, R0, HC, HQ, G⟩
    case round =>
      clear R0 HC HQ G
      obtain ⟨j, xs, hj, rfl, R0, HC, HQ, G⟩ := hrel
      by_cases hjm : j < m
      · obtain ⟨t, ht⟩ : ∃ t : Nat, m - j = t + 1 := ⟨m - j - 1, by omega⟩
        rw [ht]
        have c0 := HC.out.c0
        have c1 := HC.out.c1
        go_wp2_with (fail)
        clear c0 c1
        have gg := Drw.of_ext (S := S) (ext_drew wr)
        replace G := Lib.hid (G.out.trans gg)
        replace HC := Lib.hid (HC.out.drw gg hgO)
        replace HQ := Lib.hid (gg.own HQ.out hB)
        replace R0 := Lib.hid (gg.own R0.out hlt)
        clear gg
        refine Chg.wp_region_lex_tail (E := Drw.rel S) 10 [(3, .val (.int .i64 N)), (4, .lt S N), (8, .lt S p)] (by kernel_rfl) (by kernel_rfl) ?_
        simp only [List.take, List.drop]
        (refine Chg.LexW.pure (v := ?_) rfl rfl (fun w1 he => ?_) ?_; rotate_left; ( have he' : Drw S _ _ := he; have x0 := he'.cell (p := ⟨O, 0, none⟩) hgO HC.out.c0; have x1 := he'.cell (p := ⟨O, 1, none⟩) hgO HC.out.c1; go_simp; rfl); simp only [Act.put, List.setIfInBounds_toArray, List.set_cons_zero, List.set_cons_succ])
        (refine Chg.LexW.pure (v := ?_) rfl rfl (fun w1 he => ?_) ?_; rotate_left; ( have he' : Drw S _ _ := he; have x0 := he'.cell (p := ⟨O, 0, none⟩) hgO HC.out.c0; have x1 := he'.cell (p := ⟨O, 1, none⟩) hgO HC.out.c1; go_simp; rfl); simp only [Act.put, List.setIfInBounds_toArray, List.set_cons_zero, List.set_cons_succ])
        (refine Chg.LexW.pure (v := ?_) rfl rfl (fun w1 he => ?_) ?_; rotate_left; ( have he' : Drw S _ _ := he; have x0 := he'.cell (p := ⟨O, 0, none⟩) hgO HC.out.c0; have x1 := he'.cell (p := ⟨O, 1, none⟩) hgO HC.out.c1; go_simp; rfl); simp only [Act.put, List.setIfInBounds_toArray, List.set_cons_zero, List.set_cons_succ])
        (refine Chg.LexW.call (f := ?_) (args := ?_) rfl rfl (fun w1 => ?_) (fun w1 he hdep => ?_) ?_; rotate_left 2; (go_simp; refine ⟨?_, ?_⟩ <;> rfl); ( have he' : Drw S _ _ := he; have H := s_size p (some ⟨ga, 0, none⟩) d cap w1 hd6; rw [← HN.out] at H; exact H.mono fun e w' h => ⟨h.1, Drw.of_ext h.2⟩); simp only [Act.put, List.setIfInBounds_toArray, List.set_cons_zero, List.set_cons_succ])
        (refine Chg.LexW.callR (f := ?_) (args := ?_) rfl rfl (fun w1 => ?_) (fun w1 he hdep => ?_) (fun v hv => ?_); rotate_left 2; (go_simp; refine ⟨?_, ?_⟩ <;> rfl); ( have he' : Drw S _ _ := he; (refine Calls.mono (s_next S N _ ((G.out.trans he').src HS.out) (by omega)) ?_; rintro e w9 ⟨r9, rfl, hr9, g9⟩; exact ⟨_, rfl, g9, r9, rfl, hr9.2 (by omega)⟩)); simp only [Act.put, List.setIfInBounds_toArray, List.set_cons_zero, List.set_cons_succ])
        obtain ⟨_, k0, rfl, hk0, hk1⟩ := hv
        obtain ⟨kk, rfl⟩ : ∃ kk : Nat, k0 = (kk : Int) := ⟨k0.toNat, by omega⟩
        have hkN : kk < N := by omega
        (refine Chg.LexW.pure (v := ?_) rfl rfl (fun w1 he => ?_) ?_; rotate_left; ( have he' : Drw S _ _ := he; have x0 := he'.cell (p := ⟨O, 0, none⟩) hgO HC.out.c0; have x1 := he'.cell (p := ⟨O, 1, none⟩) hgO HC.out.c1; go_simp; rfl); simp only [Act.put, List.setIfInBounds_toArray, List.set_cons_zero, List.set_cons_succ])
        (refine Chg.LexW.pure (v := ?_) rfl rfl (fun w1 he => ?_) ?_; rotate_left; ( have he' : Drw S _ _ := he; have x0 := he'.cell (p := ⟨O, 0, none⟩) hgO HC.out.c0; have x1 := he'.cell (p := ⟨O, 1, none⟩) hgO HC.out.c1; go_simp; rfl); simp only [Act.put, List.setIfInBounds_toArray, List.set_cons_zero, List.set_cons_succ])
        (refine Chg.LexW.pure (v := ?_) rfl rfl (fun w1 he => ?_) ?_; rotate_left; ( have he' : Drw S _ _ := he; have x0 := he'.cell (p := ⟨O, 0, none⟩) hgO HC.out.c0; have x1 := he'.cell (p := ⟨O, 1, none⟩) hgO HC.out.c1; go_simp; rfl); simp only [Act.put, List.setIfInBounds_toArray, List.set_cons_zero, List.set_cons_succ])
        (refine Chg.LexW.callR (f := ?_) (args := ?_) rfl rfl (fun w1 => ?_) (fun w1 he hdep => ?_) (fun v hv => ?_); rotate_left 2; (go_simp; refine ⟨?_, ?_⟩ <;> rfl); ( have he' : Drw S _ _ := he; (refine Calls.mono (s_next S p _ ((G.out.trans he').src HS.out) (by omega)) ?_; rintro e w9 ⟨r9, rfl, hr9, g9⟩; exact ⟨_, rfl, g9, r9, rfl, hr9.2 (by omega)⟩)); simp only [Act.put, List.setIfInBounds_toArray, List.set_cons_zero, List.set_cons_succ])
        obtain ⟨_, v0, rfl, _, _⟩ := hv
        (refine Chg.LexW.pure (v := ?_) rfl rfl (fun w1 he => ?_) ?_; rotate_left; ( have he' : Drw S _ _ := he; have x0 := he'.cell (p := ⟨O, 0, none⟩) hgO HC.out.c0; have x1 := he'.cell (p := ⟨O, 1, none⟩) hgO HC.out.c1; go_simp; rfl); simp only [Act.put, List.setIfInBounds_toArray, List.set_cons_zero, List.set_cons_succ])
        refine Chg.LexW.nil (fun v4 he hkn => ?_)
        have gg : Drw S wr.drew v4 := he
        replace G := Lib.hid (G.out.trans gg)
        replace HC := Lib.hid (HC.out.drw gg hgO)
        replace HQ := Lib.hid (gg.own HQ.out hB)
        replace R0 := Lib.hid (gg.own R0.out hlt)
        clear gg he hkn
        have cz := R0.out.cell hkN
        have fz := R0.out.frozen kk
        have bz := R0.out.base_le
        go_wp2_with (fail)
        go_roundw
        case rel => exact ⟨j + 1, _, by omega, by go_num, Lib.hid (R0.out.store hkN _), Lib.hid (HC.out.other (show g0 ≠ O from fun h => hOg h.symm) _), Lib.hid (HQ.out.keep (fun g hg => Below.heap_setCell _ _ _ _ (by simp only [Option.some.injEq, Addr.mk.injEq, and_true] at hg; rw [← hg]; exact hgg0))), Lib.hid (G.out.setCell bz.1 _)⟩
        case measure => simp [intOf]
      · have hz : m - j = 0 := by omega
        rw [hz]
        go_wp2_with (fail)
        go_ret
        exact ⟨_, _, _, rfl, R0.out, G.out⟩
  have b0 : (r == 0) = false := by simp [h0]
  have b1 : (r == 1) = false := by simp [h1]
  have b2 : (r == 2) = false := by simp [h2]
  have b3 : (r == 3) = false := by simp [h3]
  have c0 := HC.out.c0
  have c1 := HC.out.c1
  go_wp2_with (fail)
  clear c0 c1
  have gg := Drw.of_ext (S := S) (ext_drew v2)
  replace G := Lib.hid (G.out.trans gg)
  replace HC := Lib.hid (HC.out.drw gg hgO)
  replace HQ := Lib.hid (gg.own HQ.out hB)
  replace R0 := Lib.hid (gg.own R0.out hlt)
  clear gg
  refine Chg.wp_region_lex (E := Drw.rel S) [(4, .val (.int .i64 N)), (5, .ownP S w.heap.size N (Good p N) hlt)] (by kernel_rfl) (by kernel_rfl) ?_
  (refine Chg.LexW.pure (v := ?_) rfl rfl (fun w1 he => ?_) ?_; rotate_left; ( have he' : Drw S _ _ := he; have x0 := he'.cell (p := ⟨O, 0, none⟩) hgO HC.out.c0; have x1 := he'.cell (p := ⟨O, 1, none⟩) hgO HC.out.c1; go_simp; rfl); simp only [Act.put, List.setIfInBounds_toArray, List.set_cons_zero, List.set_cons_succ])
  (refine Chg.LexW.pure (v := ?_) rfl rfl (fun w1 he => ?_) ?_; rotate_left; ( have he' : Drw S _ _ := he; have x0 := he'.cell (p := ⟨O, 0, none⟩) hgO HC.out.c0; have x1 := he'.cell (p := ⟨O, 1, none⟩) hgO HC.out.c1; go_simp; rfl); simp only [Act.put, List.setIfInBounds_toArray, List.set_cons_zero, List.set_cons_succ])
  (refine Chg.LexW.pure (v := ?_) rfl rfl (fun w1 he => ?_) ?_; rotate_left; ( have he' : Drw S _ _ := he; have x0 := he'.cell (p := ⟨O, 0, none⟩) hgO HC.out.c0; have x1 := he'.cell (p := ⟨O, 1, none⟩) hgO HC.out.c1; go_simp; rfl); simp only [Act.put, List.setIfInBounds_toArray, List.set_cons_zero, List.set_cons_succ])
  (refine Chg.LexW.pure (v := ?_) rfl rfl (fun w1 he => ?_) ?_; rotate_left; ( have he' : Drw S _ _ := he; have x0 := he'.cell (p := ⟨O, 0, none⟩) hgO HC.out.c0; have x1 := he'.cell (p := ⟨O, 1, none⟩) hgO HC.out.c1; go_simp; rfl); simp only [Act.put, List.setIfInBounds_toArray, List.set_cons_zero, List.set_cons_succ])
  (refine Chg.LexW.call (f := ?_) (args := ?_) rfl rfl (fun w1 => ?_) (fun w1 he hdep => ?_) ?_; rotate_left 2; (go_simp; refine ⟨?_, ?_⟩ <;> rfl); ( have he' : Drw S _ _ := he; have H := s_size p (some ⟨ga, 0, none⟩) d cap w1 hd6; rw [← HN.out] at H; exact H.mono fun e w' h => ⟨h.1, Drw.of_ext h.2⟩); simp only [Act.put, List.setIfInBounds_toArray, List.set_cons_zero, List.set_cons_succ])
  (refine Chg.LexW.callR (f := ?_) (args := ?_) rfl rfl (fun w1 => ?_) (fun w1 he hdep => ?_) (fun v hv => ?_); rotate_left 2; (go_simp; refine ⟨?_, ?_⟩ <;> rfl); ( have he' : Drw S _ _ := he; (refine Calls.mono (s_dlist S p N _ ((G.out.trans he').src HS.out) (by omega) (by omega)) ?_; rintro e w9 ⟨a9, c9, x9, rfl, ho9, hb9, g9⟩; obtain ⟨g8, _, rfl, _⟩ := ho9.row (by omega); exact ⟨_, rfl, g9, g8, c9, x9, rfl, isB_Good ho9.1 (hb9 (by omega)), ho9.mono (Nat.le_trans G.out.size he'.size)⟩)); simp only [Act.put, List.setIfInBounds_toArray, List.set_cons_zero, List.set_cons_succ])
  obtain ⟨_, g18, c18, x18, rfl, _⟩ := hv
  (refine Chg.LexW.pure (v := ?_) rfl rfl (fun w1 he => ?_) ?_; rotate_left; ( have he' : Drw S _ _ := he; have x0 := he'.cell (p := ⟨O, 0, none⟩) hgO HC.out.c0; have x1 := he'.cell (p := ⟨O, 1, none⟩) hgO HC.out.c1; go_simp; rfl); simp only [Act.put, List.setIfInBounds_toArray, List.set_cons_zero, List.set_cons_succ])
  refine Chg.LexW.nil (fun v3 he hkn => ?_)
  have gg : Drw S v2.drew v3 := he
  obtain ⟨_, _, y18, q18, p18, r18⟩ : (Chg.SPred.ownP S w.heap.size N (Good p N) hlt).holds (.slice (some ⟨g18, 0, none⟩) N c18) _ := hkn (5, _) (by simp)
  cases q18
  have R9 := Lib.hid r18
  replace G := Lib.hid (G.out.trans gg)
  replace HC := Lib.hid (HC.out.drw gg hgO)
  replace HQ := Lib.hid (gg.own HQ.out hB)
  replace R0 := Lib.hid (gg.own R0.out hlt)
  clear gg he hkn
  go_wp2_with (fail)
  go_ret
  first | exact ⟨_, _, _, rfl, R9.out, G.out⟩ | exact ⟨_, _, rfl, ⟨_, R9.out⟩, G.out⟩
end Go.Proofs.Ytbgnfjckbjmgbaa

/-
  Draws of multivectors, some of which are none; of a space and two of them.
  No condition.
-/
namespace Go.Proofs.Ytbgnfjckbjmgbaa
set_option maxRecDepth 100000
open Go.RowKit

theorem own_pair (w : World) (x y : Int) : OwnC w.heap.size (w.alloc (.cells #[.int .i64 x, .int .i64 y] 2)) (some ⟨w.heap.size, 0, none⟩) 2 2 [x, y] :=
  ⟨rfl, ⟨rfl, .inr ⟨w.heap.size, 2, #[.int .i64 x, .int .i64 y], rfl, Nat.le_refl _, heap_alloc_new w _, Nat.le_refl _, by unfold maxLen; omega, by simp, by simp⟩⟩⟩

set_option maxHeartbeats 8000000 in
set_option maxRecDepth 100000 in
theorem s_spoil4 (S : SrcP) (B : Nat) (p : Int) (a : Option Addr) (d cap : Nat) (qs : List Int) (w : World) (hS : Src S w) (hB : S.g < B) (hd : d ≤ 7) (hq : OwnC B w a d cap qs) :
    Calls Try.prog 102 #[.pointer (some ⟨S.g, 0, none⟩), .agg #[.int .i64 p, .slice a d cap]] w fun e w' => ∃ b c m xs, e = .returned (.slice b m c) ∧ m ≤ 65 ∧ OwnC w.heap.size w' b m c xs ∧ Drw S w w' := by
  have HS := Lib.hid hS
  have hlt := hS.lt
  obtain ⟨O, hO⟩ : ∃ O, O = w.heap.size := ⟨_, rfl⟩
  obtain ⟨W, hW⟩ : ∃ W, W = w.alloc (.cells #[.int .i64 p, .slice a d cap] 26) := ⟨_, rfl⟩
  have hgW : Ext w W := by rw [hW]; exact ext_alloc _ _
  have G := Lib.hid (Drw.of_ext (S := S) hgW)
  have HC := Lib.hid (show SpAt W O p (.slice a d cap) by rw [hW, hO]; exact ⟨by simp, by simp, by simp, by simp⟩)
  have HQ := Lib.hid (hq.ext hgW)
  have hgO : O ≠ S.g := by omega
  have hOw : w.heap.size ≤ O := by omega
  have HDL := Lib.hid hq.1
  clear hS hq hgW
  go_enter Try.func102, Try.ntmps102
  have c0 := HC.out.c0
  have c1 := HC.out.c1
  go_wp2_with (fail)
  rw [← hO, ← hW]
  have HW := Lib.hid hW
  clear hO hW c0 c1
  refine Calls.mono (s_is p a d cap qs W (by omega) HQ.out.rd) ?_
  rintro e v1 ⟨rfl, gg⟩
  replace gg := Drw.of_ext (S := S) gg
  replace G := Lib.hid (G.out.trans gg)
  replace HC := Lib.hid (HC.out.drw gg hgO)
  replace HQ := Lib.hid (gg.own HQ.out hB)
  clear gg
  cases hs : spaceB p qs
  · skip
    go_wp2_with (fail)
    go_ret
    exact ⟨_, _, _, _, rfl, by omega, (own_pair v1 1 0).mono G.out.size, G.out.alloc _⟩
  obtain ⟨hpr, hd1, hd6, hqb⟩ := space_of hs
  have hpb := prime_bd hpr
  rw [HDL.out] at hd1 hd6
  obtain ⟨N, hN⟩ : ∃ N, N = 2 ^ d := ⟨_, rfl⟩
  have hN6 : N ≤ 64 := by rw [hN]; exact pow_le64 hd6
  have hN1 : 0 < N := by rw [hN]; exact pow_pos' d
  have HN := Lib.hid hN
  have HSP := Lib.hid hs
  clear hN hqb hs
  have c0 := HC.out.c0
  have c1 := HC.out.c1
  go_wp2_with (fail)
  clear c0 c1
  refine Calls.mono (s_draw4 S B p a d cap qs v1 (G.out.src HS.out) hB HN.out HSP.out HQ.out) ?_
  rintro e v2 ⟨g0, cc, xs, rfl, ho, gg⟩
  have hg0 := ho.base_le.1
  have hOl := HC.out.lt
  have hOg : O ≠ g0 := by omega
  clear hg0 hOl
  have R0 := Lib.hid (ho.mono (show w.heap.size ≤ _ from G.out.size))
  clear ho
  replace G := Lib.hid (G.out.trans gg)
  replace HC := Lib.hid (HC.out.drw gg hgO)
  replace HQ := Lib.hid (gg.own HQ.out hB)
  clear gg
  have c0 := HC.out.c0
  have c1 := HC.out.c1
  go_wp2_with (fail)
  clear c0 c1
  refine Calls.mono (s_next S 30 v2 (G.out.src HS.out) (by decide)) ?_
  rintro e v3 ⟨r, rfl, _, gg⟩
  replace G := Lib.hid (G.out.trans gg)
  replace HC := Lib.hid (HC.out.drw gg hgO)
  replace HQ := Lib.hid (gg.own HQ.out hB)
  replace R0 := Lib.hid (gg.own R0.out hlt)
  clear gg
  by_cases h0 : r = 0
  · subst h0
    go_wp2_with (at_builtin; refine wpList_push rfl (.tmp 17) (.tmp 18) rfl rfl rfl (v := 0) (R0.out.ext (ext_alloc _ _)) ?hc ?hn ?hB ?hk)
    case hc => simp
    case hn => omega
    case hB => have := G.out.size; simp; omega
    case hk =>
      intro g' cap2 w6 ho6 hg6 he6
      have HO3 := Lib.hid ho6
      have G3 := Lib.hid ((G.out.alloc _).grown hg6 (fun k hk => R0.out.blk k hk))
      clear ho6 hg6 he6
      go_wp2_with (fail)
      go_ret
      exact ⟨_, _, _, _, rfl, by omega, HO3.out, G3.out⟩
  by_cases h1 : r = 1
  · subst h1
    have c0 := HC.out.c0
    have c1 := HC.out.c1
    go_wp2_with (fail)
    clear c0 c1
    have gg := Drw.of_ext (S := S) (ext_drew v3)
    replace G := Lib.hid (G.out.trans gg)
    replace HC := Lib.hid (HC.out.drw gg hgO)
    replace HQ := Lib.hid (gg.own HQ.out hB)
    replace R0 := Lib.hid (gg.own R0.out hlt)
    clear gg
    refine Chg.wp_region_lex_tail (E := Drw.rel S) 11 [(3, .val (.int .i64 N)), (4, .lt S N), (8, .lit S 2 [-1, p]), (9, .some_ S)] (by kernel_rfl) (by kernel_rfl) ?_
    simp only [List.take, List.drop]
    (refine Chg.LexW.pure (v := ?_) rfl rfl (fun w1 he => ?_) ?_; rotate_left; ( have he' : Drw S _ _ := he; have x0 := he'.cell (p := ⟨O, 0, none⟩) hgO HC.out.c0; have x1 := he'.cell (p := ⟨O, 1, none⟩) hgO HC.out.c1; go_simp; rfl); simp only [Act.put, List.setIfInBounds_toArray, List.set_cons_zero, List.set_cons_succ])
    (refine Chg.LexW.pure (v := ?_) rfl rfl (fun w1 he => ?_) ?_; rotate_left; ( have he' : Drw S _ _ := he; have x0 := he'.cell (p := ⟨O, 0, none⟩) hgO HC.out.c0; have x1 := he'.cell (p := ⟨O, 1, none⟩) hgO HC.out.c1; go_simp; rfl); simp only [Act.put, List.setIfInBounds_toArray, List.set_cons_zero, List.set_cons_succ])
    (refine Chg.LexW.pure (v := ?_) rfl rfl (fun w1 he => ?_) ?_; rotate_left; ( have he' : Drw S _ _ := he; have x0 := he'.cell (p := ⟨O, 0, none⟩) hgO HC.out.c0; have x1 := he'.cell (p := ⟨O, 1, none⟩) hgO HC.out.c1; go_simp; rfl); simp only [Act.put, List.setIfInBounds_toArray, List.set_cons_zero, List.set_cons_succ])
    (refine Chg.LexW.call (f := ?_) (args := ?_) rfl rfl (fun w1 => ?_) (fun w1 he hdep => ?_) ?_; rotate_left 2; (go_simp; refine ⟨?_, ?_⟩ <;> rfl); ( have he' : Drw S _ _ := he; have H := s_size p a d cap w1 hd6; rw [← HN.out] at H; exact H.mono fun e w' h => ⟨h.1, Drw.of_ext h.2⟩); simp only [Act.put, List.setIfInBounds_toArray, List.set_cons_zero, List.set_cons_succ])
    (refine Chg.LexW.callR (f := ?_) (args := ?_) rfl rfl (fun w1 => ?_) (fun w1 he hdep => ?_) (fun v hv => ?_); rotate_left 2; (go_simp; refine ⟨?_, ?_⟩ <;> rfl); ( have he' : Drw S _ _ := he; (refine Calls.mono (s_next S N _ ((G.out.trans he').src HS.out) (by omega)) ?_; rintro e w9 ⟨r9, rfl, hr9, g9⟩; exact ⟨_, rfl, g9, r9, rfl, hr9.2 (by omega)⟩)); simp only [Act.put, List.setIfInBounds_toArray, List.set_cons_zero, List.set_cons_succ])
    obtain ⟨_, k0, rfl, hk0, hk1⟩ := hv
    obtain ⟨kk, rfl⟩ : ∃ kk : Nat, k0 = (kk : Int) := ⟨k0.toNat, by omega⟩
    have hkN : kk < N := by omega
    (refine Chg.LexW.pure (v := ?_) rfl rfl (fun w1 he => ?_) ?_; rotate_left; ( have he' : Drw S _ _ := he; have x0 := he'.cell (p := ⟨O, 0, none⟩) hgO HC.out.c0; have x1 := he'.cell (p := ⟨O, 1, none⟩) hgO HC.out.c1; go_simp; rfl); simp only [Act.put, List.setIfInBounds_toArray, List.set_cons_zero, List.set_cons_succ])
    (refine Chg.LexW.pure (v := ?_) rfl rfl (fun w1 he => ?_) ?_; rotate_left; ( have he' : Drw S _ _ := he; have x0 := he'.cell (p := ⟨O, 0, none⟩) hgO HC.out.c0; have x1 := he'.cell (p := ⟨O, 1, none⟩) hgO HC.out.c1; go_simp; rfl); simp only [Act.put, List.setIfInBounds_toArray, List.set_cons_zero, List.set_cons_succ])
    (refine Chg.LexW.pure (v := ?_) rfl rfl (fun w1 he => ?_) ?_; rotate_left; ( have he' : Drw S _ _ := he; have x0 := he'.cell (p := ⟨O, 0, none⟩) hgO HC.out.c0; have x1 := he'.cell (p := ⟨O, 1, none⟩) hgO HC.out.c1; go_simp; rfl); simp only [Act.put, List.setIfInBounds_toArray, List.set_cons_zero, List.set_cons_succ])
    (refine Chg.LexW.rel rfl rfl (fun w1 he hdep => ?_) (fun v hv => ?_); ( have he' : Drw S _ _ := he; exact ⟨.slice (some ⟨w1.heap.size, 0, none⟩) 2 2, w1.alloc (.cells #[.int .i64 (-1), .int .i64 p] 2), (by go_simp), Drw.of_ext (ext_alloc _ _), _, rfl, rdC_lit w1 _ [-1, p], (by have := he'.size; have := G.out.size; omega)⟩); simp only [Act.put, List.setIfInBounds_toArray, List.set_cons_zero, List.set_cons_succ])
    obtain ⟨_, b5, rfl, _⟩ := hv
    (refine Chg.LexW.callR (f := ?_) (args := ?_) rfl rfl (fun w1 => ?_) (fun w1 he hdep => ?_) (fun v hv => ?_); rotate_left 2; (go_simp; refine ⟨?_, ?_⟩ <;> rfl); ( have he' : Drw S _ _ := he; obtain ⟨_, q5, r5, r5'⟩ : (Chg.SPred.lit S 2 [-1, p]).holds (.slice (some ⟨b5, 0, none⟩) 2 2) w1 := hdep (8, 30) (by decide +kernel); cases q5; refine Calls.mono (s_pick S b5 2 2 [-1, p] w1 ((G.out.trans he').src HS.out) (by decide) (by decide) r5 r5') ?_; rintro e w3 ⟨q, rfl, _, x3⟩; exact ⟨_, rfl, x3, q, rfl⟩); simp only [Act.put, List.setIfInBounds_toArray, List.set_cons_zero, List.set_cons_succ])
    obtain ⟨_, v0, rfl⟩ := hv
    (refine Chg.LexW.pure (v := ?_) rfl rfl (fun w1 he => ?_) ?_; rotate_left; ( have he' : Drw S _ _ := he; have x0 := he'.cell (p := ⟨O, 0, none⟩) hgO HC.out.c0; have x1 := he'.cell (p := ⟨O, 1, none⟩) hgO HC.out.c1; go_simp; rfl); simp only [Act.put, List.setIfInBounds_toArray, List.set_cons_zero, List.set_cons_succ])
    refine Chg.LexW.nil (fun v4 he hkn => ?_)
    have gg : Drw S v3.drew v4 := he
    replace G := Lib.hid (G.out.trans gg)
    replace HC := Lib.hid (HC.out.drw gg hgO)
    replace HQ := Lib.hid (gg.own HQ.out hB)
    replace R0 := Lib.hid (gg.own R0.out hlt)
    clear gg he hkn
    have cz := R0.out.cell hkN
    have fz := R0.out.frozen kk
    have bz := R0.out.base_le
    go_wp2_with (fail)
    go_ret
    exact ⟨_, _, _, _, rfl, by omega, R0.out.store hkN _, G.out.setCell bz.1 _⟩
  have b0 : (r == 0) = false := by simp [h0]
  have b1 : (r == 1) = false := by simp [h1]
  go_wp2_with (fail)
  go_ret
  exact ⟨_, _, _, _, rfl, by omega, R0.out, G.out⟩
set_option maxHeartbeats 4000000 in
set_option maxRecDepth 100000 in
theorem s_l04Two (ca : Option Addr) (n cap : Nat) (w : World) (hn : n ≤ 4096) (hb : RdY w ca n) :
    Calls Try.prog 82 #[.slice ca n cap] w fun e w' => ∃ p a d c qs a1 m1 c1 x1 a2 m2 c2 x2, e = .returned (.tuple #[.agg #[.int .i64 p, .slice a d c], .slice a1 m1 c1, .slice a2 m2 c2]) ∧ 0 ≤ p ∧ p ≤ 17 ∧ d ≤ 7 ∧ m1 ≤ 65 ∧ m2 ≤ 65 ∧ OwnC w.heap.size w' a d c qs ∧ OwnC w.heap.size w' a1 m1 c1 x1 ∧ OwnC w.heap.size w' a2 m2 c2 x2 ∧ Ext w w' := by
  obtain ⟨W, hW⟩ : ∃ W, W = w.alloc (.cells #[.int .i64 0, .slice none 0 0] 26) := ⟨_, rfl⟩
  have gW : Ext w W := by rw [hW]; exact ext_alloc _ _
  have HZ := Lib.hid (show W.heap.size = w.heap.size + 1 by rw [hW]; simp)
  have HR := Lib.hid (show SpAt W w.heap.size 0 (.slice none 0 0) by rw [hW]; exact ⟨by simp, by simp, by simp, by simp⟩)
  have HW := Lib.hid hW
  have GW := Lib.hid gW
  have HB := Lib.hid (hb.ext gW)
  clear gW hW hb
  go_enter Try.func82, Try.ntmps82
  go_wp2_with (fail)
  rw [← HW.out]
  refine Calls.mono (s_from ca n cap W hn HB.out) ?_
  rintro e w1 ⟨g, rfl, hg, hS, g1⟩
  obtain ⟨S, hSe⟩ : ∃ S : SrcP, S = ⟨g, ca, n, cap⟩ := ⟨_, rfl⟩
  obtain rfl : g = S.g := by rw [hSe]
  rw [← hSe] at hS
  have HS := Lib.hid hS
  have HR1 := Lib.hid (HR.out.ext g1)
  have G1 := Lib.hid (GW.out.trans g1)
  have hgR : w.heap.size ≠ S.g := by have := HZ.out; omega
  have hgw : w.heap.size + 1 ≤ S.g := by have := HZ.out; omega
  have hlt := hS.lt
  clear hg hS g1 hSe HR
  go_wp2_with (fail)
  refine Calls.mono (s_spoil3 S w1 HS.out) ?_
  rintro e w2 ⟨p, a, d, c, qs, rfl, hp0, hp1, hd, ho, g2⟩
  obtain ⟨W2, hW2⟩ : ∃ W2, W2 = w2.alloc (.cells #[.int .i64 p, .slice a d c] 26) := ⟨_, rfl⟩
  obtain ⟨O, hO⟩ : ∃ O, O = w2.heap.size := ⟨_, rfl⟩
  have gW2 : Ext w2 W2.drew := by rw [hW2]; exact (ext_alloc _ _).trans (ext_drew _)
  have hOA : SpAt W2.drew O p (.slice a d c) := by
    have : SpAt W2 O p (.slice a d c) := by rw [hW2, hO]; exact ⟨by simp, by simp, by simp, by simp⟩
    exact this.ext (ext_drew _)
  have HOA := Lib.hid hOA
  have HR2 := Lib.hid ((HR1.out.drw g2 hgR).ext gW2)
  have HQ2 := Lib.hid ((ho.mono (show S.g + 1 ≤ _ from hlt)).ext gW2)
  have G2 := Lib.hid (g2.ext gW2)
  have hgO : O ≠ S.g := by rw [hO]; have := g2.size; omega
  go_wp2_with (fail)
  rw [← hW2, ← hO]
  have HS2 := Lib.hid (G2.out.src HS.out)
  clear hO gW2 ho g2 hW2 hOA HR1
  refine Chg.wp_region_lex_tail (E := Drw.rel S) 7 [(3, .own S (S.g + 1) 65 (Nat.lt_succ_self _)), (6, .own S (S.g + 1) 65 (Nat.lt_succ_self _))] (by kernel_rfl) (by kernel_rfl) ?_
  simp only [List.take, List.drop]
  (refine Chg.LexW.pure (v := ?_) rfl rfl (fun w1 he => ?_) ?_; rotate_left; ( have he' : Drw S W2.drew _ := he; have x0 := he'.cell (p := ⟨O, 0, none⟩) hgO HOA.out.c0; have x1 := he'.cell (p := ⟨O, 1, none⟩) hgO HOA.out.c1; go_simp; rfl); simp only [Act.put, List.setIfInBounds_toArray, List.set_cons_zero, List.set_cons_succ])
  (refine Chg.LexW.pure (v := ?_) rfl rfl (fun w1 he => ?_) ?_; rotate_left; ( have he' : Drw S W2.drew _ := he; have x0 := he'.cell (p := ⟨O, 0, none⟩) hgO HOA.out.c0; have x1 := he'.cell (p := ⟨O, 1, none⟩) hgO HOA.out.c1; go_simp; rfl); simp only [Act.put, List.setIfInBounds_toArray, List.set_cons_zero, List.set_cons_succ])
  (refine Chg.LexW.pure (v := ?_) rfl rfl (fun w1 he => ?_) ?_; rotate_left; ( have he' : Drw S W2.drew _ := he; have x0 := he'.cell (p := ⟨O, 0, none⟩) hgO HOA.out.c0; have x1 := he'.cell (p := ⟨O, 1, none⟩) hgO HOA.out.c1; go_simp; rfl); simp only [Act.put, List.setIfInBounds_toArray, List.set_cons_zero, List.set_cons_succ])
  (refine Chg.LexW.callR (f := ?_) (args := ?_) rfl rfl (fun w1 => ?_) (fun w1 he hdep => ?_) (fun v hv => ?_); rotate_left 2; (go_simp; refine ⟨?_, ?_⟩ <;> rfl); ( have he' : Drw S W2.drew _ := he; refine Calls.mono (s_spoil4 S (S.g + 1) p a d c qs w1 (he'.src HS2.out) (Nat.lt_succ_self _) (by omega) (he'.own HQ2.out (Nat.lt_succ_self _))) ?_; rintro e w9 ⟨a9, c9, m9, x9, rfl, hm9, ho9, g9⟩; exact ⟨_, rfl, g9, a9, m9, c9, x9, rfl, by omega, ho9.mono (Nat.le_trans HS2.out.lt he'.size)⟩); simp only [Act.put, List.setIfInBounds_toArray, List.set_cons_zero, List.set_cons_succ])
  obtain ⟨_, a1, m1, c1, x1, rfl, _⟩ := hv
  (refine Chg.LexW.pure (v := ?_) rfl rfl (fun w1 he => ?_) ?_; rotate_left; ( have he' : Drw S W2.drew _ := he; have x0 := he'.cell (p := ⟨O, 0, none⟩) hgO HOA.out.c0; have x1 := he'.cell (p := ⟨O, 1, none⟩) hgO HOA.out.c1; go_simp; rfl); simp only [Act.put, List.setIfInBounds_toArray, List.set_cons_zero, List.set_cons_succ])
  (refine Chg.LexW.pure (v := ?_) rfl rfl (fun w1 he => ?_) ?_; rotate_left; ( have he' : Drw S W2.drew _ := he; have x0 := he'.cell (p := ⟨O, 0, none⟩) hgO HOA.out.c0; have x1 := he'.cell (p := ⟨O, 1, none⟩) hgO HOA.out.c1; go_simp; rfl); simp only [Act.put, List.setIfInBounds_toArray, List.set_cons_zero, List.set_cons_succ])
  (refine Chg.LexW.callR (f := ?_) (args := ?_) rfl rfl (fun w1 => ?_) (fun w1 he hdep => ?_) (fun v hv => ?_); rotate_left 2; (go_simp; refine ⟨?_, ?_⟩ <;> rfl); ( have he' : Drw S W2.drew _ := he; refine Calls.mono (s_spoil4 S (S.g + 1) p a d c qs w1 (he'.src HS2.out) (Nat.lt_succ_self _) (by omega) (he'.own HQ2.out (Nat.lt_succ_self _))) ?_; rintro e w9 ⟨a9, c9, m9, x9, rfl, hm9, ho9, g9⟩; exact ⟨_, rfl, g9, a9, m9, c9, x9, rfl, by omega, ho9.mono (Nat.le_trans HS2.out.lt he'.size)⟩); simp only [Act.put, List.setIfInBounds_toArray, List.set_cons_zero, List.set_cons_succ])
  obtain ⟨_, a2, m2, c2, x2, rfl, _⟩ := hv
  refine Chg.LexW.nil (fun w3 he hkn => ?_)
  have he' : Drw S W2.drew w3 := he
  obtain ⟨a1', m1', c1', x1', q1, hm1, ho1⟩ : (Chg.SPred.own S (S.g + 1) 65 (Nat.lt_succ_self _)).holds (.slice a1 m1 c1) w3 := hkn (3, _) (by simp)
  obtain ⟨a2', m2', c2', x2', q2, hm2, ho2⟩ : (Chg.SPred.own S (S.g + 1) 65 (Nat.lt_succ_self _)).holds (.slice a2 m2 c2) w3 := hkn (6, _) (by simp)
  cases q1
  cases q2
  have HR3 := Lib.hid (HR2.out.drw he' hgR)
  have HQ3 := Lib.hid (he'.own HQ2.out (Nat.lt_succ_self _))
  have HO1 := Lib.hid ho1
  have HO2 := Lib.hid ho2
  have G3 := Lib.hid (G2.out.trans he')
  have r0 := HR3.out.c0
  have r1 := HR3.out.c1
  have f0 := HR3.out.f0
  have f1 := HR3.out.f1
  clear he he' hkn ho1 ho2
  go_wp2_with (fail)
  refine bodyPost_ret (v := .tuple #[.agg #[.int .i64 p, .slice a d c], .slice a1 m1 c1, .slice a2 m2 c2]) (by simp [results, Try.results82, go_sem, r0, r1]) rfl ⟨p, a, d, c, qs, a1, m1, c1, x1', a2, m2, c2, x2', rfl, hp0, hp1, hd, hm1, hm2, ?_, ?_, ?_, ?_⟩
  · exact ((HQ3.out.other (by simp; omega) _).other (by simp; omega) _).mono (by omega)
  · exact ((HO1.out.other (by simp; omega) _).other (by simp; omega) _).mono (by omega)
  · exact ((HO2.out.other (by simp; omega) _).other (by simp; omega) _).mono (by omega)
  · exact ((G3.out.toExt G1.out (by omega)).setCell (by simp) _).setCell (by simp) _
set_option maxHeartbeats 4000000 in
theorem s_drawGeometricProduct (ca : Option Addr) (n cap : Nat) (w : World) (hn : n ≤ 4096) (hb : RdY w ca n) :
    Calls Try.prog 22 #[.slice ca n cap] w fun e w' => ∃ p a d c qs a1 m1 c1 x1 a2 m2 c2 x2, e = .returned (.tuple #[.agg #[.int .i64 p, .slice a d c], .slice a1 m1 c1, .slice a2 m2 c2]) ∧ 0 ≤ p ∧ p ≤ 17 ∧ d ≤ 7 ∧ m1 ≤ 65 ∧ m2 ≤ 65 ∧ OwnC w.heap.size w' a d c qs ∧ OwnC w.heap.size w' a1 m1 c1 x1 ∧ OwnC w.heap.size w' a2 m2 c2 x2 ∧ Ext w w' := by
  obtain ⟨W, hW⟩ : ∃ W, W = w.alloc (.cells #[.int .i64 0, .slice none 0 0] 26) := ⟨_, rfl⟩
  have gW : Ext w W := by rw [hW]; exact ext_alloc _ _
  have HZ := Lib.hid (show W.heap.size = w.heap.size + 1 by rw [hW]; simp)
  have HR := Lib.hid (show SpAt W w.heap.size 0 (.slice none 0 0) by rw [hW]; exact ⟨by simp, by simp, by simp, by simp⟩)
  have HW := Lib.hid hW
  have GW := Lib.hid gW
  have HB := Lib.hid (hb.ext gW)
  clear gW hW hb
  go_enter Try.func22, Try.ntmps22
  go_wp2_with (fail)
  rw [← HW.out]
  refine Calls.mono (s_l04Two ca n cap W hn HB.out) ?_
  rintro e w1 ⟨p, a, d, c, qs, a1, m1, c1, x1, a2, m2, c2, x2, rfl, hp0, hp1, hd, hm1, hm2, ho, ho1, ho2, g1⟩
  have hR1 := HR.out.ext g1
  have r0 := hR1.c0
  have r1 := hR1.c1
  have f0 := hR1.f0
  have f1 := hR1.f1
  have lR := hR1.lt
  have hz := HZ.out
  have HQ := Lib.hid ho
  have HO1 := Lib.hid ho1
  have HO2 := Lib.hid ho2
  have G1 := Lib.hid (GW.out.trans g1)
  have HF := ((hR1.set0 p).set1 (.slice a d c)).ext (ext_alloc _ (.cells #[.int .i64 p, .slice a d c] 26))
  have r0' := HF.c0
  have r1' := HF.c1
  clear ho ho1 ho2 g1 hR1 HF
  go_wp2_with (fail)
  refine bodyPost_ret (v := .tuple #[.agg #[.int .i64 p, .slice a d c], .slice a1 m1 c1, .slice a2 m2 c2]) (by simp [results, Try.results22, go_sem, r0', r1']) rfl ⟨p, a, d, c, qs, a1, m1, c1, x1, a2, m2, c2, x2, rfl, hp0, hp1, hd, hm1, hm2, ?_, ?_, ?_, ?_⟩
  · exact (((HQ.out.other (by simp; omega) _).other (by simp; omega) _).ext (ext_alloc _ _)).mono (by omega)
  · exact (((HO1.out.other (by simp; omega) _).other (by simp; omega) _).ext (ext_alloc _ _)).mono (by omega)
  · exact (((HO2.out.other (by simp; omega) _).other (by simp; omega) _).ext (ext_alloc _ _)).mono (by omega)
  · exact ((G1.out.setCell (by simp) _).setCell (by simp) _).alloc _
set_option maxHeartbeats 4000000 in
theorem s_drawLeftContraction (ca : Option Addr) (n cap : Nat) (w : World) (hn : n ≤ 4096) (hb : RdY w ca n) :
    Calls Try.prog 33 #[.slice ca n cap] w fun e w' => ∃ p a d c qs a1 m1 c1 x1 a2 m2 c2 x2, e = .returned (.tuple #[.agg #[.int .i64 p, .slice a d c], .slice a1 m1 c1, .slice a2 m2 c2]) ∧ 0 ≤ p ∧ p ≤ 17 ∧ d ≤ 7 ∧ m1 ≤ 65 ∧ m2 ≤ 65 ∧ OwnC w.heap.size w' a d c qs ∧ OwnC w.heap.size w' a1 m1 c1 x1 ∧ OwnC w.heap.size w' a2 m2 c2 x2 ∧ Ext w w' := by
  obtain ⟨W, hW⟩ : ∃ W, W = w.alloc (.cells #[.int .i64 0, .slice none 0 0] 26) := ⟨_, rfl⟩
  have gW : Ext w W := by rw [hW]; exact ext_alloc _ _
  have HZ := Lib.hid (show W.heap.size = w.heap.size + 1 by rw [hW]; simp)
  have HR := Lib.hid (show SpAt W w.heap.size 0 (.slice none 0 0) by rw [hW]; exact ⟨by simp, by simp, by simp, by simp⟩)
  have HW := Lib.hid hW
  have GW := Lib.hid gW
  have HB := Lib.hid (hb.ext gW)
  clear gW hW hb
  go_enter Try.func33, Try.ntmps33
  go_wp2_with (fail)
  rw [← HW.out]
  refine Calls.mono (s_l04Two ca n cap W hn HB.out) ?_
  rintro e w1 ⟨p, a, d, c, qs, a1, m1, c1, x1, a2, m2, c2, x2, rfl, hp0, hp1, hd, hm1, hm2, ho, ho1, ho2, g1⟩
  have hR1 := HR.out.ext g1
  have r0 := hR1.c0
  have r1 := hR1.c1
  have f0 := hR1.f0
  have f1 := hR1.f1
  have lR := hR1.lt
  have hz := HZ.out
  have HQ := Lib.hid ho
  have HO1 := Lib.hid ho1
  have HO2 := Lib.hid ho2
  have G1 := Lib.hid (GW.out.trans g1)
  have HF := ((hR1.set0 p).set1 (.slice a d c)).ext (ext_alloc _ (.cells #[.int .i64 p, .slice a d c] 26))
  have r0' := HF.c0
  have r1' := HF.c1
  clear ho ho1 ho2 g1 hR1 HF
  go_wp2_with (fail)
  refine bodyPost_ret (v := .tuple #[.agg #[.int .i64 p, .slice a d c], .slice a1 m1 c1, .slice a2 m2 c2]) (by simp [results, Try.results33, go_sem, r0', r1']) rfl ⟨p, a, d, c, qs, a1, m1, c1, x1, a2, m2, c2, x2, rfl, hp0, hp1, hd, hm1, hm2, ?_, ?_, ?_, ?_⟩
  · exact (((HQ.out.other (by simp; omega) _).other (by simp; omega) _).ext (ext_alloc _ _)).mono (by omega)
  · exact (((HO1.out.other (by simp; omega) _).other (by simp; omega) _).ext (ext_alloc _ _)).mono (by omega)
  · exact (((HO2.out.other (by simp; omega) _).other (by simp; omega) _).ext (ext_alloc _ _)).mono (by omega)
  · exact ((G1.out.setCell (by simp) _).setCell (by simp) _).alloc _
set_option maxHeartbeats 4000000 in
theorem s_drawWedgeProduct (ca : Option Addr) (n cap : Nat) (w : World) (hn : n ≤ 4096) (hb : RdY w ca n) :
    Calls Try.prog 62 #[.slice ca n cap] w fun e w' => ∃ p a d c qs a1 m1 c1 x1 a2 m2 c2 x2, e = .returned (.tuple #[.agg #[.int .i64 p, .slice a d c], .slice a1 m1 c1, .slice a2 m2 c2]) ∧ 0 ≤ p ∧ p ≤ 17 ∧ d ≤ 7 ∧ m1 ≤ 65 ∧ m2 ≤ 65 ∧ OwnC w.heap.size w' a d c qs ∧ OwnC w.heap.size w' a1 m1 c1 x1 ∧ OwnC w.heap.size w' a2 m2 c2 x2 ∧ Ext w w' := by
  obtain ⟨W, hW⟩ : ∃ W, W = w.alloc (.cells #[.int .i64 0, .slice none 0 0] 26) := ⟨_, rfl⟩
  have gW : Ext w W := by rw [hW]; exact ext_alloc _ _
  have HZ := Lib.hid (show W.heap.size = w.heap.size + 1 by rw [hW]; simp)
  have HR := Lib.hid (show SpAt W w.heap.size 0 (.slice none 0 0) by rw [hW]; exact ⟨by simp, by simp, by simp, by simp⟩)
  have HW := Lib.hid hW
  have GW := Lib.hid gW
  have HB := Lib.hid (hb.ext gW)
  clear gW hW hb
  go_enter Try.func62, Try.ntmps62
  go_wp2_with (fail)
  rw [← HW.out]
  refine Calls.mono (s_l04Two ca n cap W hn HB.out) ?_
  rintro e w1 ⟨p, a, d, c, qs, a1, m1, c1, x1, a2, m2, c2, x2, rfl, hp0, hp1, hd, hm1, hm2, ho, ho1, ho2, g1⟩
  have hR1 := HR.out.ext g1
  have r0 := hR1.c0
  have r1 := hR1.c1
  have f0 := hR1.f0
  have f1 := hR1.f1
  have lR := hR1.lt
  have hz := HZ.out
  have HQ := Lib.hid ho
  have HO1 := Lib.hid ho1
  have HO2 := Lib.hid ho2
  have G1 := Lib.hid (GW.out.trans g1)
  have HF := ((hR1.set0 p).set1 (.slice a d c)).ext (ext_alloc _ (.cells #[.int .i64 p, .slice a d c] 26))
  have r0' := HF.c0
  have r1' := HF.c1
  clear ho ho1 ho2 g1 hR1 HF
  go_wp2_with (fail)
  refine bodyPost_ret (v := .tuple #[.agg #[.int .i64 p, .slice a d c], .slice a1 m1 c1, .slice a2 m2 c2]) (by simp [results, Try.results62, go_sem, r0', r1']) rfl ⟨p, a, d, c, qs, a1, m1, c1, x1, a2, m2, c2, x2, rfl, hp0, hp1, hd, hm1, hm2, ?_, ?_, ?_, ?_⟩
  · exact (((HQ.out.other (by simp; omega) _).other (by simp; omega) _).ext (ext_alloc _ _)).mono (by omega)
  · exact (((HO1.out.other (by simp; omega) _).other (by simp; omega) _).ext (ext_alloc _ _)).mono (by omega)
  · exact (((HO2.out.other (by simp; omega) _).other (by simp; omega) _).ext (ext_alloc _ _)).mono (by omega)
  · exact ((G1.out.setCell (by simp) _).setCell (by simp) _).alloc _
end Go.Proofs.Ytbgnfjckbjmgbaa

/-
  The listed functions of unduals, brackets, scalar products.
  No condition.
-/
namespace Go.Proofs.Ytbgnfjckbjmgbaa
set_option maxRecDepth 100000
open Go.RowKit


set_option maxHeartbeats 400000 in
theorem c_UndualOf_bad (p : Int) (a : Option Addr) (d cap : Nat) (qs : List Int) (ax1 : Option Addr) (n1 cx1 : Nat) (xs1 : List Int) (w : World) (hd : d ≤ 4194304) (hn1 : n1 ≤ 4194304) (hq : RdC w a d qs) (hx1 : RdC w ax1 n1 xs1) (hc : codeR p qs [xs1] ≠ 0) :
    Calls Try.prog 50 #[.agg #[.int .i64 p, .slice a d cap], .slice ax1 n1 cx1] w fun e w' => ∃ ra rc, e = .returned (.tuple #[.slice ra 0 rc, .int .i64 (codeR p qs [xs1])]) ∧ OwnC w.heap.size w' ra 0 rc [] ∧ Ext w w' := by
  have hcb : (codeR p qs [xs1] != 0) = true := by simp [hc]
  clear hc
  go_enter Try.func50, Try.ntmps50
  go_wp2_with (go_at_call 111; refine (c_checkRegular p a d cap qs _ 1 _ [xs1] _ hd (by omega) (len_one (by rw [hx1.1]; exact hn1)) (hq.ext ((ext_alloc _ _).alloc _)) (rdR_one (a := ax1) (n := _) (cap := cx1) (by simp) (hx1.ext ((ext_alloc _ _).alloc _)))).mono ?_; rintro e w1 ⟨rfl, g1⟩)
  go_ret2
  exact ⟨none, 0, rfl, own_nil _ _, ((ext_alloc _ _).alloc _).trans g1⟩

set_option maxHeartbeats 4000000 in
set_option maxRecDepth 100000 in
theorem c_UndualOf_ok (p : Int) (a : Option Addr) (d cap : Nat) (qs : List Int) (ax1 : Option Addr) (n1 cx1 : Nat) (xs1 : List Int) (w : World) (hd : d ≤ 4194304) (hn1 : n1 ≤ 4194304) (hq : RdC w a d qs) (hx1 : RdC w ax1 n1 xs1) (hc : codeR p qs [xs1] = 0) :
    Calls Try.prog 50 #[.agg #[.int .i64 p, .slice a d cap], .slice ax1 n1 cx1] w fun e w' => ∃ ra rc, e = .returned (.tuple #[.slice ra n1 rc, .int .i64 0]) ∧ OwnC w.heap.size w' ra n1 rc (prodL p qs tkL xs1 (fullL d)) ∧ Ext w w' := by
  obtain ⟨hcm, hrg⟩ := codeR_zero hc
  obtain ⟨hs, hxm1⟩ := codeM_one hcm
  clear hcm hrg
  obtain ⟨hpr, hd1, hd6, hqb⟩ := space_of hs
  have hpb := prime_bd hpr
  obtain ⟨hxl1, hxb1⟩ := multi_of hxm1
  rw [hq.1] at hxl1 hd6
  have hN : n1 = 2 ^ d := hx1.1.symm.trans hxl1
  have HN := Lib.hid hN
  have HPR := Lib.hid hpr
  have HQB := Lib.hid hqb
  have HXB1 := Lib.hid hxb1
  clear hs hxm1 hqb hxb1 hxl1 hpr hd1 hN
  have HC := Lib.hid hc
  have hcb : ((0 : Int) != 0) = false := by simp
  clear hc
  go_enter Try.func50, Try.ntmps50
  go_wp2_with (go_at_call 111; refine (c_checkRegular p a d cap qs _ 1 _ [xs1] _ hd (by omega) (len_one (by rw [hx1.1]; exact hn1)) (hq.ext ((ext_alloc _ _).alloc _)) (rdR_one (a := ax1) (n := _) (cap := cx1) (by simp) (hx1.ext ((ext_alloc _ _).alloc _)))).mono ?_; rintro e w1 ⟨rfl, g1⟩; rw [HC.out]; have hq0 : w1.cell? ⟨w.heap.size, 0, none⟩ = some (.int .i64 p) := g1.cell (by simp); have hq1 : w1.cell? ⟨w.heap.size, 1, none⟩ = some (.slice a d cap) := g1.cell (by simp))
  have G1 := Lib.hid (((ext_alloc w (.cells #[.int .i64 p, .slice a d cap] 26)).alloc (.cells #[.slice ax1 n1 cx1] 24)).trans g1)
  clear g1 hq0 hq1
  refine (c_undual HN.out p a cap qs ax1 cx1 xs1 w1 (by omega) (by omega) (by omega) (hq.ext G1.out) HQB.out (hx1.ext G1.out) HXB1.out).mono ?_
  rintro e w2 ⟨g, rfl, ho, g2⟩
  have G2 := Lib.hid g2
  clear g2
  go_wp2_with (fail)
  go_ret2
  exact ⟨some ⟨g, 0, none⟩, _, rfl, ho.mono G1.out.size, G1.out.trans G2.out⟩


set_option maxHeartbeats 400000 in
theorem c_BracketOf_bad (p : Int) (a : Option Addr) (d cap : Nat) (qs : List Int) (ax1 : Option Addr) (n1 cx1 : Nat) (xs1 : List Int) (ax2 : Option Addr) (n2 cx2 : Nat) (xs2 : List Int) (w : World) (hd : d ≤ 4194304) (hn1 : n1 ≤ 4194304) (hn2 : n2 ≤ 4194304) (hq : RdC w a d qs) (hx1 : RdC w ax1 n1 xs1) (hx2 : RdC w ax2 n2 xs2) (hc : codeM p qs [xs1, xs2] ≠ 0) :
    Calls Try.prog 19 #[.agg #[.int .i64 p, .slice a d cap], .slice ax1 n1 cx1, .slice ax2 n2 cx2] w fun e w' => ∃ ra rc, e = .returned (.tuple #[.slice ra 0 rc, .int .i64 (codeM p qs [xs1, xs2])]) ∧ OwnC w.heap.size w' ra 0 rc [] ∧ Ext w w' := by
  have hcb : (codeM p qs [xs1, xs2] != 0) = true := by simp [hc]
  clear hc
  go_enter Try.func19, Try.ntmps19
  go_wp2_with (go_at_call 79; refine (c_checkMultis p a d cap qs _ 2 _ [xs1, xs2] _ hd (by omega) (len_two (by rw [hx1.1]; exact hn1) (by rw [hx2.1]; exact hn2)) (hq.ext ((ext_alloc _ _).alloc _)) (rdR_two (a := ax1) (b := ax2) (n := _) (m := _) (ca := cx1) (cb := cx2) (by simp) (by simp) (hx1.ext ((ext_alloc _ _).alloc _)) (hx2.ext ((ext_alloc _ _).alloc _)))).mono ?_; rintro e w1 ⟨rfl, g1⟩)
  go_ret2
  exact ⟨none, 0, rfl, own_nil _ _, ((ext_alloc _ _).alloc _).trans g1⟩

set_option maxHeartbeats 4000000 in
set_option maxRecDepth 100000 in
theorem c_BracketOf_ok (p : Int) (a : Option Addr) (d cap : Nat) (qs : List Int) (ax1 : Option Addr) (n1 cx1 : Nat) (xs1 : List Int) (ax2 : Option Addr) (n2 cx2 : Nat) (xs2 : List Int) (w : World) (hd : d ≤ 4194304) (hn1 : n1 ≤ 4194304) (hn2 : n2 ≤ 4194304) (hq : RdC w a d qs) (hx1 : RdC w ax1 n1 xs1) (hx2 : RdC w ax2 n2 xs2) (hc : codeM p qs [xs1, xs2] = 0) :
    Calls Try.prog 19 #[.agg #[.int .i64 p, .slice a d cap], .slice ax1 n1 cx1, .slice ax2 n2 cx2] w fun e w' => ∃ ra rc, e = .returned (.tuple #[.slice ra n1 rc, .int .i64 0]) ∧ OwnC w.heap.size w' ra n1 rc (plusL p (prodL p qs tkA xs1 xs2) (prodL p qs tkA xs2 xs1) (-1) n1) ∧ Ext w w' := by
  obtain ⟨hs, hxm1, hxm2⟩ := codeM_two hc
  obtain ⟨hpr, hd1, hd6, hqb⟩ := space_of hs
  have hpb := prime_bd hpr
  obtain ⟨hxl1, hxb1⟩ := multi_of hxm1
  obtain ⟨hxl2, hxb2⟩ := multi_of hxm2
  rw [hq.1] at hxl1 hxl2 hd6
  have hN : n1 = 2 ^ d := hx1.1.symm.trans hxl1
  obtain rfl : n1 = n2 := hN.trans (hx2.1.symm.trans hxl2).symm
  have HN := Lib.hid hN
  have HQB := Lib.hid hqb
  have HXB1 := Lib.hid hxb1
  have HXB2 := Lib.hid hxb2
  clear hs hxm1 hxm2 hqb hxb1 hxb2 hxl1 hxl2 hpr hd1 hN
  have HC := Lib.hid hc
  have hcb : ((0 : Int) != 0) = false := by simp
  clear hc
  go_enter Try.func19, Try.ntmps19
  go_wp2_with (go_at_call 79; refine (c_checkMultis p a d cap qs _ 2 _ [xs1, xs2] _ hd (by omega) (len_two (by rw [hx1.1]; exact hn1) (by rw [hx2.1]; exact hn2)) (hq.ext ((ext_alloc _ _).alloc _)) (rdR_two (a := ax1) (b := ax2) (n := _) (m := _) (ca := cx1) (cb := cx2) (by simp) (by simp) (hx1.ext ((ext_alloc _ _).alloc _)) (hx2.ext ((ext_alloc _ _).alloc _)))).mono ?_; rintro e w1 ⟨rfl, g1⟩; rw [HC.out]; have hq0 : w1.cell? ⟨w.heap.size, 0, none⟩ = some (.int .i64 p) := g1.cell (by simp); have hq1 : w1.cell? ⟨w.heap.size, 1, none⟩ = some (.slice a d cap) := g1.cell (by simp))
  have G1 := Lib.hid (((ext_alloc w (.cells #[.int .i64 p, .slice a d cap] 26)).alloc (.cells #[.slice ax1 n1 cx1, .slice ax2 n1 cx2] 24)).trans g1)
  clear g1 hq0 hq1
  refine (c_bracket HN.out p a cap qs ax1 cx1 xs1 ax2 cx2 xs2 w1 (by omega) (by omega) (by omega) (hq.ext G1.out) HQB.out (hx1.ext G1.out) HXB1.out (hx2.ext G1.out) HXB2.out).mono ?_
  rintro e w2 ⟨g, rc, rfl, ho, g2⟩
  have G2 := Lib.hid g2
  clear g2
  go_wp2_with (fail)
  go_ret2
  exact ⟨some ⟨g, 0, none⟩, _, rfl, ho.mono G1.out.size, G1.out.trans G2.out⟩


set_option maxHeartbeats 400000 in
theorem c_ScalarProduct_bad (p : Int) (a : Option Addr) (d cap : Nat) (qs : List Int) (ax1 : Option Addr) (n1 cx1 : Nat) (xs1 : List Int) (ax2 : Option Addr) (n2 cx2 : Nat) (xs2 : List Int) (w : World) (hd : d ≤ 4194304) (hn1 : n1 ≤ 4194304) (hn2 : n2 ≤ 4194304) (hq : RdC w a d qs) (hx1 : RdC w ax1 n1 xs1) (hx2 : RdC w ax2 n2 xs2) (hc : codeM p qs [xs1, xs2] ≠ 0) :
    Calls Try.prog 39 #[.agg #[.int .i64 p, .slice a d cap], .slice ax1 n1 cx1, .slice ax2 n2 cx2] w fun e w' => e = .returned (.tuple #[.int .i64 0, .int .i64 (codeM p qs [xs1, xs2])]) ∧ Ext w w' := by
  have hcb : (codeM p qs [xs1, xs2] != 0) = true := by simp [hc]
  clear hc
  go_enter Try.func39, Try.ntmps39
  go_wp2_with (go_at_call 79; refine (c_checkMultis p a d cap qs _ 2 _ [xs1, xs2] _ hd (by omega) (len_two (by rw [hx1.1]; exact hn1) (by rw [hx2.1]; exact hn2)) (hq.ext ((ext_alloc _ _).alloc _)) (rdR_two (a := ax1) (b := ax2) (n := _) (m := _) (ca := cx1) (cb := cx2) (by simp) (by simp) (hx1.ext ((ext_alloc _ _).alloc _)) (hx2.ext ((ext_alloc _ _).alloc _)))).mono ?_; rintro e w1 ⟨rfl, g1⟩)
  go_ret2
  exact ⟨rfl, ((ext_alloc _ _).alloc _).trans g1⟩

set_option maxHeartbeats 4000000 in
set_option maxRecDepth 100000 in
theorem c_ScalarProduct_ok (p : Int) (a : Option Addr) (d cap : Nat) (qs : List Int) (ax1 : Option Addr) (n1 cx1 : Nat) (xs1 : List Int) (ax2 : Option Addr) (n2 cx2 : Nat) (xs2 : List Int) (w : World) (hd : d ≤ 4194304) (hn1 : n1 ≤ 4194304) (hn2 : n2 ≤ 4194304) (hq : RdC w a d qs) (hx1 : RdC w ax1 n1 xs1) (hx2 : RdC w ax2 n2 xs2) (hc : codeM p qs [xs1, xs2] = 0) :
    Calls Try.prog 39 #[.agg #[.int .i64 p, .slice a d cap], .slice ax1 n1 cx1, .slice ax2 n2 cx2] w fun e w' => e = .returned (.tuple #[.int .i64 (scalL p qs xs1 xs2), .int .i64 0]) ∧ Ext w w' := by
  obtain ⟨hs, hxm1, hxm2⟩ := codeM_two hc
  obtain ⟨hpr, hd1, hd6, hqb⟩ := space_of hs
  have hpb := prime_bd hpr
  obtain ⟨hxl1, hxb1⟩ := multi_of hxm1
  obtain ⟨hxl2, hxb2⟩ := multi_of hxm2
  rw [hq.1] at hxl1 hxl2 hd6
  have hN : n1 = 2 ^ d := hx1.1.symm.trans hxl1
  obtain rfl : n1 = n2 := hN.trans (hx2.1.symm.trans hxl2).symm
  have HN := Lib.hid hN
  have HQB := Lib.hid hqb
  have HXB1 := Lib.hid hxb1
  have HXB2 := Lib.hid hxb2
  clear hs hxm1 hxm2 hqb hxb1 hxb2 hxl1 hxl2 hpr hd1 hN
  have HC := Lib.hid hc
  have hcb : ((0 : Int) != 0) = false := by simp
  clear hc
  go_enter Try.func39, Try.ntmps39
  go_wp2_with (go_at_call 79; refine (c_checkMultis p a d cap qs _ 2 _ [xs1, xs2] _ hd (by omega) (len_two (by rw [hx1.1]; exact hn1) (by rw [hx2.1]; exact hn2)) (hq.ext ((ext_alloc _ _).alloc _)) (rdR_two (a := ax1) (b := ax2) (n := _) (m := _) (ca := cx1) (cb := cx2) (by simp) (by simp) (hx1.ext ((ext_alloc _ _).alloc _)) (hx2.ext ((ext_alloc _ _).alloc _)))).mono ?_; rintro e w1 ⟨rfl, g1⟩; rw [HC.out]; have hq0 : w1.cell? ⟨w.heap.size, 0, none⟩ = some (.int .i64 p) := g1.cell (by simp); have hq1 : w1.cell? ⟨w.heap.size, 1, none⟩ = some (.slice a d cap) := g1.cell (by simp))
  have G1 := Lib.hid (((ext_alloc w (.cells #[.int .i64 p, .slice a d cap] 26)).alloc (.cells #[.slice ax1 n1 cx1, .slice ax2 n1 cx2] 24)).trans g1)
  have HS0 := Lib.hid ((ext_drew _).cell hq0)
  have HS1 := Lib.hid ((ext_drew _).cell hq1)
  have GW := Lib.hid (G1.out.trans (ext_drew _))
  have HQ := Lib.hid hq
  have HX := Lib.hid hx1
  have HY := Lib.hid hx2
  have HGX := Lib.hid (good_isB hx1.1 HXB1.out)
  have HGY := Lib.hid (good_isB hx2.1 HXB2.out)
  have hN6 : n1 ≤ 64 := by rw [HN.out]; exact pow_le64 hd6
  have hN1 : 1 ≤ n1 := by rw [HN.out]; exact pow_pos' d
  have hN0 : ¬ n1 = 0 := by omega
  obtain ⟨b1, o1, hax, _⟩ := hx1.2 0 (by omega)
  subst hax
  obtain ⟨V, hV⟩ : ∃ V, V = scalL p qs xs1 xs2 := ⟨_, rfl⟩
  have HVV := Lib.hid hV
  have HV := Lib.hid (show nth (timesL p qs [signL p revB xs1 n1, xs2]) 0 = V by rw [prod_two (by rw [hq.1, HN.out]) (by omega) (sign_good (by omega) HGX.out), hV, scalL, hq.1, HN.out])
  clear g1 hq0 hq1 hx1 hx2 hq hV
  refine wp_region_lex [(3, .ownS w.heap.size n1 (signL p revB xs1 n1)), (5, .rows 2 [signL p revB xs1 n1, xs2]), (6, .ownG w.heap.size n1 (timesL p qs [signL p revB xs1 n1, xs2])), (7, .cell (V)), (8, .val (.int .i64 (V)))] (by kernel_rfl) (by kernel_rfl) ?_
  (refine LexW.pure (v := ?_) rfl rfl (fun w1 he => ?_) ?_; rotate_left; ( have e1 := he.cell HS0.out; have e2 := he.cell HS1.out; go_simp; rfl); simp only [Act.put, List.setIfInBounds_toArray, List.set_cons_zero, List.set_cons_succ])
  (refine LexW.pure (v := ?_) rfl rfl (fun w1 he => ?_) ?_; rotate_left; ( have e1 := he.cell HS0.out; have e2 := he.cell HS1.out; go_simp; rfl); simp only [Act.put, List.setIfInBounds_toArray, List.set_cons_zero, List.set_cons_succ])
  (refine LexW.pure (v := ?_) rfl rfl (fun w1 he => ?_) ?_; rotate_left; ( have e1 := he.cell HS0.out; have e2 := he.cell HS1.out; go_simp; rfl); simp only [Act.put, List.setIfInBounds_toArray, List.set_cons_zero, List.set_cons_succ])
  (refine LexW.callR (f := ?_) (args := ?_) rfl rfl (fun w1 => ?_) (fun w1 he hdep => ?_) (fun v hv => ?_); rotate_left 2; (go_simp; refine ⟨?_, ?_⟩ <;> rfl); ( refine (c_reverse p a d cap b1 o1 n1 cx1 xs1 w1 (by omega) (by omega) (by omega) hN6 (HX.out.ext (GW.out.trans he)) HGX.out).mono ?_; rintro e w2 ⟨g, rc, rfl, ho, g2⟩; exact ⟨_, rfl, g2, g, rc, rfl, ho.mono (Nat.le_trans GW.out.size he.size)⟩); simp only [Act.put, List.setIfInBounds_toArray, List.set_cons_zero, List.set_cons_succ])
  obtain ⟨_, g20, c20, rfl, _⟩ := hv
  (refine LexW.pure (v := ?_) rfl rfl (fun w1 he => ?_) ?_; rotate_left; ( have e1 := he.cell HS0.out; have e2 := he.cell HS1.out; go_simp; rfl); simp only [Act.put, List.setIfInBounds_toArray, List.set_cons_zero, List.set_cons_succ])
  (refine LexW.rel rfl rfl (fun w1 he hdep => ?_) (fun v hv => ?_); ( obtain ⟨_, _, q20, r20⟩ : (SPred.ownS w.heap.size n1 (signL p revB xs1 n1)).holds (.slice (some ⟨g20, 0, none⟩) n1 c20) w1 := hdep (3, 20) (by decide +kernel); cases q20; exact ⟨.slice (some ⟨w1.heap.size, 0, none⟩) 2 2, w1.alloc (.cells #[.slice (some ⟨g20, 0, none⟩) n1 c20, .slice ax2 n1 cx2] 24), (by go_simp), ext_alloc _ _, _, rfl, rdR_two (a := (some ⟨g20, 0, none⟩)) (b := ax2) (n := n1) (m := n1) (ca := c20) (cb := cx2) (by simp) (by simp) ((r20.rd).ext (ext_alloc _ _)) ((HY.out.ext (GW.out.trans he)).ext (ext_alloc _ _))⟩); simp only [Act.put, List.setIfInBounds_toArray, List.set_cons_zero, List.set_cons_succ])
  obtain ⟨_, g22, rfl, _⟩ := hv
  (refine LexW.callR (f := ?_) (args := ?_) rfl rfl (fun w1 => ?_) (fun w1 he hdep => ?_) (fun v hv => ?_); rotate_left 2; (go_simp; refine ⟨?_, ?_⟩ <;> rfl); ( obtain ⟨_, q22, r22⟩ : (SPred.rows 2 [signL p revB xs1 n1, xs2]).holds (.slice (some ⟨g22, 0, none⟩) 2 2) w1 := hdep (5, 22) (by decide +kernel); cases q22; refine (c_timesN HN.out p a cap qs _ 2 2 [signL p revB xs1 n1, xs2] w1 (by omega) (by omega) (by omega) (by omega) (HQ.out.ext (GW.out.trans he)) HQB.out r22 (good_pair (sign_good (by omega) HGX.out) HGY.out)).mono ?_; rintro e w2 ⟨g, rfl, ho, g2⟩; exact ⟨_, rfl, g2, g, rfl, ho.mono (Nat.le_trans GW.out.size he.size)⟩); simp only [Act.put, List.setIfInBounds_toArray, List.set_cons_zero, List.set_cons_succ])
  obtain ⟨_, g23, rfl, _⟩ := hv
  (refine LexW.rel rfl rfl (fun w1 he hdep => ?_) (fun v hv => ?_); ( obtain ⟨_, q23, r23⟩ : (SPred.ownG w.heap.size n1 (timesL p qs [signL p revB xs1 n1, xs2])).holds (.slice (some ⟨g23, 0, none⟩) n1 n1) w1 := hdep (6, 23) (by decide +kernel); cases q23; exact ⟨.pointer (some ⟨g23, 0, none⟩), w1, (by go_simp), Ext.refl _, g23, 0, rfl, ((r23.cell hN1).trans (by rw [HV.out]))⟩); simp only [Act.put, List.setIfInBounds_toArray, List.set_cons_zero, List.set_cons_succ])
  obtain ⟨_, b24, o24, rfl, _⟩ := hv
  (refine LexW.relV rfl rfl (fun w1 he hdep => ?_) ?_; ( obtain ⟨_, _, q24, r24⟩ : (SPred.cell (V)).holds (.pointer (some ⟨b24, o24, none⟩)) w1 := hdep (7, 24) (by decide +kernel); cases q24; exact ⟨w1, (by go_simp), Ext.refl _⟩); simp only [Act.put, List.setIfInBounds_toArray, List.set_cons_zero, List.set_cons_succ])
  (refine LexW.pure (v := ?_) rfl rfl (fun w1 he => ?_) ?_; rotate_left; ( have e1 := he.cell HS0.out; have e2 := he.cell HS1.out; go_simp; rfl); simp only [Act.put, List.setIfInBounds_toArray, List.set_cons_zero, List.set_cons_succ])
  (refine LexW.pure (v := ?_) rfl rfl (fun w1 he => ?_) ?_; rotate_left; ( have e1 := he.cell HS0.out; have e2 := he.cell HS1.out; go_simp; rfl); simp only [Act.put, List.setIfInBounds_toArray, List.set_cons_zero, List.set_cons_succ])
  refine LexW.nil (fun w3 he hkn => ?_)
  have HE := Lib.hid (GW.out.trans he)
  clear he hkn 
  go_wp2_with (fail)
  go_ret2
  exact ⟨by rw [← HVV.out]; rfl, HE.out⟩

end Go.Proofs.Ytbgnfjckbjmgbaa

/-
  The wedge product, contractions, reverses and duals in plain numbers.
  No condition. No program in sight.
-/
namespace Go.Proofs.Ytbgnfjckbjmgbaa
set_option maxRecDepth 100000
open Go.RowKit

/-! ### Products of parts are associative where their conditions agree -/
/-- The coefficient of a product of parts. -/
def tkI (tk : Nat → Nat → Bool) (a b : Nat) : Int := if tk a b = true then 1 else 0
theorem prodT_nth {p : Int} {qs x y : List Int} {tk : Nat → Nat → Bool} (hp : 1 ≤ p) {k : Nat} (hk : k < 2 ^ qs.length) :
    nth (prodL p qs tk x y) k = (sumN (2 ^ qs.length) fun i => tkI tk i (i ^^^ k) * (nth x i * nth y (i ^^^ k) * facZ qs i (i ^^^ k) qs.length)) % p := by
  rw [prod_nth1 hp hk]
  refine sumN_emod fun i hi => ?_
  unfold tkI
  split
  · rw [Int.one_mul]; exact mul_emod_congr rfl fac_emod
  · rw [Int.zero_mul]
/-- (x 1 y) 2 z = x 3 (y 4 z) -/
theorem prodT_assoc {p : Int} {qs x y z : List Int} {t1 t2 t3 t4 : Nat → Nat → Bool} (hp : 1 ≤ p) (hd : qs.length ≤ 6)
    (ht : ∀ a, a < 2 ^ qs.length → ∀ b, b < 2 ^ qs.length → ∀ c, c < 2 ^ qs.length → (t1 a b && t2 (a ^^^ b) c) = (t4 b c && t3 a (b ^^^ c))) :
    prodL p qs t2 (prodL p qs t1 x y) z = prodL p qs t3 x (prodL p qs t4 y z) := by
  have hN := pow_le64 hd
  have hT : ∀ a, a < 2 ^ qs.length → ∀ b, b < 2 ^ qs.length → ∀ c, c < 2 ^ qs.length → tkI t1 a b * tkI t2 (a ^^^ b) c = tkI t4 b c * tkI t3 a (b ^^^ c) := fun a ha b hb c hc => by
    have := ht a ha b hb c hc
    unfold tkI
    cases h1 : t1 a b <;> cases h2 : t2 (a ^^^ b) c <;> cases h3 : t4 b c <;> cases h4 : t3 a (b ^^^ c) <;> simp_all
  refine ext_nth (by rw [(prod_good hp).1, (prod_good hp).1]) fun k hk => ?_
  rw [(prod_good hp).1] at hk
  rw [prodT_nth hp hk, prodT_nth hp hk]
  have e1 : ∀ m, m < 2 ^ qs.length → (tkI t2 m (m ^^^ k) * (nth (prodL p qs t1 x y) m * nth z (m ^^^ k) * facZ qs m (m ^^^ k) qs.length)) % p =
      (sumN (2 ^ qs.length) fun a => tkI t1 a (a ^^^ m) * (nth x a * nth y (a ^^^ m) * facZ qs a (a ^^^ m) qs.length) * (tkI t2 m (m ^^^ k) * (nth z (m ^^^ k) * facZ qs m (m ^^^ k) qs.length))) % p := fun m hm => by
    rw [prodT_nth hp hm, sumN_mulr, Int.mul_assoc (_ % p), Int.mul_left_comm]
    exact mul_emod_congr (Int.emod_emod _ _) rfl
  have e2 : ∀ a, a < 2 ^ qs.length → (tkI t3 a (a ^^^ k) * (nth x a * nth (prodL p qs t4 y z) (a ^^^ k) * facZ qs a (a ^^^ k) qs.length)) % p =
      (sumN (2 ^ qs.length) fun m => tkI t1 a (a ^^^ m) * (nth x a * nth y (a ^^^ m) * facZ qs a (a ^^^ m) qs.length) * (tkI t2 m (m ^^^ k) * (nth z (m ^^^ k) * facZ qs m (m ^^^ k) qs.length))) % p := fun a ha => by
    rw [prodT_nth hp (Nat.xor_lt_two_pow ha hk), ← sumN_xor hd ha]
    have : (tkI t3 a (a ^^^ k) * (nth x a * ((sumN (2 ^ qs.length) fun m => tkI t4 (a ^^^ m) (a ^^^ m ^^^ (a ^^^ k)) * (nth y (a ^^^ m) * nth z (a ^^^ m ^^^ (a ^^^ k)) * facZ qs (a ^^^ m) (a ^^^ m ^^^ (a ^^^ k)) qs.length)) % p) * facZ qs a (a ^^^ k) qs.length)) % p =
        (tkI t3 a (a ^^^ k) * nth x a * (sumN (2 ^ qs.length) fun m => tkI t4 (a ^^^ m) (a ^^^ m ^^^ (a ^^^ k)) * (nth y (a ^^^ m) * nth z (a ^^^ m ^^^ (a ^^^ k)) * facZ qs (a ^^^ m) (a ^^^ m ^^^ (a ^^^ k)) qs.length)) * facZ qs a (a ^^^ k) qs.length) % p := by
      rw [← Int.mul_assoc, ← Int.mul_assoc]
      exact mul_emod_congr (mul_emod_congr rfl (Int.emod_emod _ _)) rfl
    rw [this, ← sumN_mul, ← sumN_mulr]
    congr 1
    refine sumN_congr fun m hm => ?_
    rw [xor_cancel]
    have ham := Nat.xor_lt_two_pow ha hm
    have hmk := Nat.xor_lt_two_pow hm hk
    have hc := facZ_cocycle (qs := qs) (a := a) (b := a ^^^ m) (c := m ^^^ k) (by omega) (Nat.lt_of_lt_of_le ham hN) qs.length hd
    have hT' := hT a ha (a ^^^ m) ham (m ^^^ k) hmk
    have x1 : a ^^^ (a ^^^ m) = m := by rw [← Nat.xor_assoc, Nat.xor_self, Nat.zero_xor]
    have x2 : a ^^^ m ^^^ (m ^^^ k) = a ^^^ k := by rw [Nat.xor_assoc, ← Nat.xor_assoc m m k, Nat.xor_self, Nat.zero_xor]
    rw [x1, x2] at hc hT'
    rw [show tkI t1 a (a ^^^ m) * (nth x a * nth y (a ^^^ m) * facZ qs a (a ^^^ m) qs.length) * (tkI t2 m (m ^^^ k) * (nth z (m ^^^ k) * facZ qs m (m ^^^ k) qs.length)) = nth x a * nth y (a ^^^ m) * nth z (m ^^^ k) * ((facZ qs a (a ^^^ m) qs.length * facZ qs m (m ^^^ k) qs.length) * (tkI t1 a (a ^^^ m) * tkI t2 m (m ^^^ k))) by ac_rfl, hc, hT']
    ac_rfl
  rw [sumN_emod e1, sumN_emod e2, sumN_swap]

theorem bit_all {a b : Nat} (ha : a < 64) (hb : b < 64) (h : ∀ i, i < 6 → a.testBit i = b.testBit i) : a = b := by
  apply Nat.eq_of_testBit_eq
  intro i
  by_cases hi : i < 6
  · exact h i hi
  · rw [Nat.testBit_lt_two_pow (Nat.lt_of_lt_of_le ha (by exact Nat.pow_le_pow_right (by omega) (show 6 ≤ i by omega) : 2 ^ 6 ≤ 2 ^ i)), Nat.testBit_lt_two_pow (Nat.lt_of_lt_of_le hb (by exact Nat.pow_le_pow_right (by omega) (show 6 ≤ i by omega) : 2 ^ 6 ≤ 2 ^ i))]
theorem tkW_iff {a b : Nat} : tkW a b = true ↔ ∀ i, (a.testBit i && b.testBit i) = false := by
  unfold tkW
  rw [beq_iff_eq]
  constructor
  · intro h i
    rw [← Nat.testBit_and, h, Nat.zero_testBit]
  · intro h
    apply Nat.eq_of_testBit_eq
    intro i
    rw [Nat.testBit_and, h i, Nat.zero_testBit]
theorem tkL_iff {a b : Nat} : tkL a b = true ↔ ∀ i, a.testBit i = true → b.testBit i = true := by
  unfold tkL
  rw [beq_iff_eq]
  constructor
  · intro h i hi
    have : (a &&& b).testBit i = true := by rw [h]; exact hi
    rw [Nat.testBit_and] at this
    simp_all
  · intro h
    apply Nat.eq_of_testBit_eq
    intro i
    rw [Nat.testBit_and]
    cases ha : a.testBit i
    · rfl
    · rw [h i ha]; rfl
theorem wedge_tk (a b c : Nat) : (tkW a b && tkW (a ^^^ b) c) = (tkW b c && tkW a (b ^^^ c)) := by
  rw [Bool.eq_iff_iff]
  simp only [Bool.and_eq_true, tkW_iff, Nat.testBit_xor]
  constructor
  · rintro ⟨h1, h2⟩
    refine ⟨fun i => ?_, fun i => ?_⟩ <;> (have h3 := h1 i; have h4 := h2 i; revert h3 h4; cases a.testBit i <;> cases b.testBit i <;> cases c.testBit i <;> simp)
  · rintro ⟨h1, h2⟩
    refine ⟨fun i => ?_, fun i => ?_⟩ <;> (have h3 := h1 i; have h4 := h2 i; revert h3 h4; cases a.testBit i <;> cases b.testBit i <;> cases c.testBit i <;> simp)
/-- The wedge product is associative. -/
theorem wedge_assoc {p : Int} {qs x y z : List Int} (hp : 1 ≤ p) (hd : qs.length ≤ 6) : prodL p qs tkW (prodL p qs tkW x y) z = prodL p qs tkW x (prodL p qs tkW y z) :=
  prodT_assoc hp hd fun a _ b _ c _ => wedge_tk a b c
theorem left_tk (a b c : Nat) : (tkW a b && tkL (a ^^^ b) c) = (tkL b c && tkL a (b ^^^ c)) := by
  rw [Bool.eq_iff_iff]
  simp only [Bool.and_eq_true, tkW_iff, tkL_iff, Nat.testBit_xor]
  constructor
  · rintro ⟨h1, h2⟩
    refine ⟨fun i => ?_, fun i => ?_⟩ <;> (have h3 := h1 i; have h4 := h2 i; revert h3 h4; cases a.testBit i <;> cases b.testBit i <;> cases c.testBit i <;> simp)
  · rintro ⟨h1, h2⟩
    refine ⟨fun i => ?_, fun i => ?_⟩ <;> (have h3 := h1 i; have h4 := h2 i; revert h3 h4; cases a.testBit i <;> cases b.testBit i <;> cases c.testBit i <;> simp)
/-- The left contraction of a wedge product. -/
theorem left_wedge {p : Int} {qs x y z : List Int} (hp : 1 ≤ p) (hd : qs.length ≤ 6) : prodL p qs tkL (prodL p qs tkW x y) z = prodL p qs tkL x (prodL p qs tkL y z) :=
  prodT_assoc hp hd fun a _ b _ c _ => left_tk a b c

/-! ### Sums and multiples -/
theorem prod_plus_right {p k : Int} {qs x y z : List Int} {tk : Nat → Nat → Bool} (hp : 1 ≤ p) : prodL p qs tk x (plusL p y z k (2 ^ qs.length)) = plusL p (prodL p qs tk x y) (prodL p qs tk x z) k (2 ^ qs.length) := by
  refine ext_nth (by rw [(prod_good hp).1, plusL_len]) fun i hi => ?_
  rw [(prod_good hp).1] at hi
  rw [plusL_nth hi, prodT_nth hp hi, plusN, prodT_nth hp hi, prodT_nth hp hi, Int.emod_add_emod, Int.add_comm (sumN _ _), ← Int.emod_add_emod, Int.mul_emod, Int.emod_emod, ← Int.mul_emod, Int.emod_add_emod, ← sumN_mul, ← sumN_add]
  refine sumN_emod fun a ha => ?_
  rw [plusL_nth (Nat.xor_lt_two_pow ha hi), plusN]
  have : ∀ u v f s : Int, (s * (u * ((v) % p) * f)) % p = (s * (u * v * f)) % p := fun u v f s => mul_emod_congr rfl (mul_emod_congr (mul_emod_congr rfl (Int.emod_emod _ _)) rfl)
  rw [this]
  congr 1
  rw [Int.mul_add, Int.add_mul, Int.mul_add, Int.add_comm]
  congr 1
  ac_rfl
theorem prod_plus_left {p k : Int} {qs x y z : List Int} {tk : Nat → Nat → Bool} (hp : 1 ≤ p) : prodL p qs tk (plusL p x y k (2 ^ qs.length)) z = plusL p (prodL p qs tk x z) (prodL p qs tk y z) k (2 ^ qs.length) := by
  refine ext_nth (by rw [(prod_good hp).1, plusL_len]) fun i hi => ?_
  rw [(prod_good hp).1] at hi
  rw [plusL_nth hi, prodT_nth hp hi, plusN, prodT_nth hp hi, prodT_nth hp hi, Int.emod_add_emod, Int.add_comm (sumN _ _), ← Int.emod_add_emod, Int.mul_emod, Int.emod_emod, ← Int.mul_emod, Int.emod_add_emod, ← sumN_mul, ← sumN_add]
  refine sumN_emod fun a ha => ?_
  rw [plusL_nth ha, plusN]
  have : ∀ u v f s : Int, (s * (v % p * u * f)) % p = (s * (v * u * f)) % p := fun u v f s => mul_emod_congr rfl (mul_emod_congr (mul_emod_congr (Int.emod_emod _ _) rfl) rfl)
  rw [this]
  congr 1
  rw [Int.add_mul, Int.add_mul, Int.mul_add, Int.add_comm]
  congr 1
  ac_rfl

end Go.Proofs.Ytbgnfjckbjmgbaa
