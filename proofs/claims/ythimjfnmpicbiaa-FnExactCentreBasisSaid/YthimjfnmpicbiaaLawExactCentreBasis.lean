/-
  The walk of the law FnExactCentreBasis: it returns true and leaves what was there as it was.
  No condition.
-/
import Derived.Test.YthimjfnmpicbiaaLawB
import Derived.Test.YthimjfnmpicbiaaCBas
namespace Go.Proofs.Ythimjfnmpicbiaa
set_option maxRecDepth 100000
open Go.RowKit

set_option maxHeartbeats 2000000 in
set_option maxRecDepth 100000 in
theorem w_CentreBasis_big (p : Int) (a : Option Addr) (d cap : Nat) (qs : List Int) (w : World) (_hq : RdC w a d qs) (hmd : d ≤ maxLen)  (hb : 1048576 < d) :
    Calls Try.prog 7 #[.agg #[.int .i64 p, .slice a d cap]] w fun e w' => e = .returned (.bool true) ∧ Ext w w' := by
  have HB := Lib.hid hb
  clear hb
  by_cases hd : 1048576 < d
  · have HS := Lib.hid (szN_neg (left := 1048576) (n := d) (by omega))
    go_enter Try.func7, Try.ntmps7
    go_wp2_with (go_at_call 15; refine (l_szSpace _ _ _ _ _ _ (by omega) (by omega) hmd).mono ?_; rintro e w1 ⟨rfl, g1⟩; rw [HS.out])
    go_ret
    exact ⟨rfl, (ext_alloc _ _).trans g1⟩
  exact absurd HB.out (by omega)

set_option maxHeartbeats 8000000 in
set_option maxRecDepth 100000 in
theorem w_CentreBasis (p : Int) (a : Option Addr) (d cap : Nat) (qs : List Int) (w : World) (hd : d ≤ 1048576)  (hq : RdC w a d qs)  (rn : Nat) (ys : List (List Int)) (c : Int) (hrn : rn ≤ 1048576) (hrT : cntR ys rn ≤ 1048576)
    (hs : ∀ (a : Option Addr) (cap : Nat) (w : World), RdC w a d qs → Calls Try.prog 36 #[.agg #[.int .i64 p, .slice a d cap]] w fun e w' => ∃ ra rc, e = .returned (.tuple #[.slice ra rn rc, .int .i64 c]) ∧ OwnR w.heap.size w' ra rn rc ys ∧ Ext w w')
    (hi : ∀ (a : Option Addr) (cap : Nat) (w : World), RdC w a d qs → Calls Try.prog 37 #[.agg #[.int .i64 p, .slice a d cap]] w fun e w' => ∃ ra rc, e = .returned (.tuple #[.slice ra rn rc, .int .i64 c]) ∧ OwnR w.heap.size w' ra rn rc ys ∧ Ext w w') :
    Calls Try.prog 7 #[.agg #[.int .i64 p, .slice a d cap]] w fun e w' => e = .returned (.bool true) ∧ Ext w w' := by
  have HS := Lib.hid (szN_pos (left := 1048576) (n := d) (by omega))
  have HQ0 := Lib.hid hq
  have Hs := Lib.hid hs
  have Hi := Lib.hid hi
  have hccb : (c != c) = false := by simp
  have HLy : Hid (∀ j, j < rn → (nthR ys j).length ≤ 4194304) := Lib.hid (fun j hj => Nat.le_trans (cntR_row ys hj) (by omega))
  clear hs hi hq
  go_enter Try.func7, Try.ntmps7
  go_wp2_with (go_at_call 15; refine (l_szSpace _ _ _ _ _ _ (by omega) (by omega) (by unfold maxLen; omega)).mono ?_; rintro e w1 ⟨rfl, g1⟩; rw [HS.out]; have hcl := Ext.cells g1; have hz := g1.size'; simp only [World.size_alloc] at hcl hz)
  have E1 : Hid (Ext w w1) := (ext_alloc w (.cells #[.int .i64 p, .slice a d cap] 24)).trans g1
  have c0_1 : Hid (w1.cell? ⟨w.heap.size, 0, none⟩ = some (.int .i64 p)) := g1.cell (by simp)
  have c1_1 : Hid (w1.cell? ⟨w.heap.size, 1, none⟩ = some (.slice a d cap)) := g1.cell (by simp)
  have Zb : Hid (w.heap.size < w1.heap.size) := hz
  clear hcl hz g1
  refine (l_toSpace p a d cap qs _ (by omega) (HQ0.out.ext E1.out)).mono ?_
  rintro e w3 ⟨g1, rfl, o2, x2⟩
  have X2 := Lib.hid x2
  have O2 := Lib.hid o2
  have DA0 : Hid (∀ g, (some ⟨g1, 0, none⟩ : Option Addr) = some ⟨g, 0, none⟩ → (w1).heap.size ≤ g ∧ g < (w3).heap.size) := OwnC.base_of O2.out
  clear x2 o2
  have E2 : Hid (Ext w w3) := E1.out.trans X2.out
  have c0_2 : Hid ((w3).cell? ⟨w.heap.size, 0, none⟩ = some (.int .i64 p)) := (X2.out).cell c0_1.out
  have c1_2 : Hid ((w3).cell? ⟨w.heap.size, 1, none⟩ = some (.slice a d cap)) := (X2.out).cell c1_1.out
  have Z2 : Hid ((w1).heap.size ≤ (w3).heap.size) := (X2.out).size'
  clear E1 c0_1 c1_1
  go_wp2_with (fail)
  refine (Hs.out _ _ _ O2.out.rd).mono ?_
  rintro e w4 ⟨ra0, rc0, rfl, o3, x3⟩
  have X3 := Lib.hid x3
  have O3 := Lib.hid o3.high
  clear x3 o3
  have E3 : Hid (Ext w w4) := E2.out.trans X3.out
  have c0_3 : Hid ((w4).cell? ⟨w.heap.size, 0, none⟩ = some (.int .i64 p)) := (X3.out).cell c0_2.out
  have c1_3 : Hid ((w4).cell? ⟨w.heap.size, 1, none⟩ = some (.slice a d cap)) := (X3.out).cell c1_2.out
  have SA0_3 := Lib.hid (O2.out.ext X3.out)
  have Z3 : Hid ((w3).heap.size ≤ (w4).heap.size) := (X3.out).size'
  clear E2 c0_2 c1_2 O2
  clear SA0_3 DA0
  have hc0 := c0_3.out
  have hc1 := c1_3.out
  go_wp2_with (fail)
  clear hc0 hc1
  refine (l_toSpace p a d cap qs _ (by omega) (HQ0.out.ext E3.out)).mono ?_
  rintro e w5 ⟨g2, rfl, o4, x4⟩
  have X4 := Lib.hid x4
  have O4 := Lib.hid o4
  have DX0 : Hid (∀ g, (some ⟨g2, 0, none⟩ : Option Addr) = some ⟨g, 0, none⟩ → (w4).heap.size ≤ g ∧ g < (w5).heap.size) := OwnC.base_of O4.out
  clear x4 o4
  have E4 : Hid (Ext w w5) := E3.out.trans X4.out
  have c0_4 : Hid ((w5).cell? ⟨w.heap.size, 0, none⟩ = some (.int .i64 p)) := (X4.out).cell c0_3.out
  have c1_4 : Hid ((w5).cell? ⟨w.heap.size, 1, none⟩ = some (.slice a d cap)) := (X4.out).cell c1_3.out
  have SW_4 := Lib.hid (O3.out.ext X4.out)
  have Z4 : Hid ((w4).heap.size ≤ (w5).heap.size) := (X4.out).size'
  clear E3 c0_3 c1_3 O3
  have XB := Lib.hid (ext_alloc w5 (.cells #[.int .i64 p, .slice (some ⟨g2, 0, none⟩) d d] 30))
  have E5 : Hid (Ext w (w5.alloc (.cells #[.int .i64 p, .slice (some ⟨g2, 0, none⟩) d d] 30))) := E4.out.trans XB.out
  have c0_5 : Hid (((w5.alloc (.cells #[.int .i64 p, .slice (some ⟨g2, 0, none⟩) d d] 30))).cell? ⟨w.heap.size, 0, none⟩ = some (.int .i64 p)) := (XB.out).cell c0_4.out
  have c1_5 : Hid (((w5.alloc (.cells #[.int .i64 p, .slice (some ⟨g2, 0, none⟩) d d] 30))).cell? ⟨w.heap.size, 1, none⟩ = some (.slice a d cap)) := (XB.out).cell c1_4.out
  have SW_5 := Lib.hid (SW_4.out.ext XB.out)
  have SX0_5 := Lib.hid (O4.out.ext XB.out)
  have Z5 : Hid ((w5).heap.size ≤ ((w5.alloc (.cells #[.int .i64 p, .slice (some ⟨g2, 0, none⟩) d d] 30))).heap.size) := (XB.out).size'
  clear E4 c0_4 c1_4 SW_4 O4
  have b0_5 : Hid ((w5.alloc (.cells #[.int .i64 p, .slice (some ⟨g2, 0, none⟩) d d] 30)).cell? ⟨w5.heap.size, 0, none⟩ = some (.int .i64 p)) := by show _ = _; simp
  have b1_5 : Hid ((w5.alloc (.cells #[.int .i64 p, .slice (some ⟨g2, 0, none⟩) d d] 30)).cell? ⟨w5.heap.size, 1, none⟩ = some (.slice (some ⟨g2, 0, none⟩) d d)) := by show _ = _; simp
  have Zx0 : Hid (w5.heap.size < (w5.alloc (.cells #[.int .i64 p, .slice (some ⟨g2, 0, none⟩) d d] 30)).heap.size) := by show _ < _; simp
  have hb0 := b0_5.out
  have hb1 := b1_5.out
  go_wp2_with (fail)
  clear hb0 hb1
  refine (Hi.out _ _ _ SX0_5.out.rd).mono ?_
  rintro e w6 ⟨ra1, rc1, rfl, o5, x5⟩
  have X5 := Lib.hid x5
  have O5 := Lib.hid o5.high
  clear x5 o5
  have E6 : Hid (Ext w w6) := E5.out.trans X5.out
  have c0_6 : Hid ((w6).cell? ⟨w.heap.size, 0, none⟩ = some (.int .i64 p)) := (X5.out).cell c0_5.out
  have c1_6 : Hid ((w6).cell? ⟨w.heap.size, 1, none⟩ = some (.slice a d cap)) := (X5.out).cell c1_5.out
  have b0_6 : Hid ((w6).cell? ⟨w5.heap.size, 0, none⟩ = some (.int .i64 p)) := (X5.out).cell b0_5.out
  have b1_6 : Hid ((w6).cell? ⟨w5.heap.size, 1, none⟩ = some (.slice (some ⟨g2, 0, none⟩) d d)) := (X5.out).cell b1_5.out
  have SW_6 := Lib.hid (SW_5.out.ext X5.out)
  have SX0_6 := Lib.hid (SX0_5.out.ext X5.out)
  have Z6 : Hid (((w5.alloc (.cells #[.int .i64 p, .slice (some ⟨g2, 0, none⟩) d d] 30))).heap.size ≤ (w6).heap.size) := (X5.out).size'
  clear E5 c0_5 c1_5 b0_5 b1_5 SW_5 SX0_5
  go_wp2_with (fail)
  have H := l_eqRows ra1 ra0 rn rn rc1 rc0 ys ys w6 (by omega) (by omega) HLy.out HLy.out O5.out.low.rd SW_6.out.low.rd
  rw [eqR_self] at H
  refine (H).mono ?_
  rintro e w7 ⟨rfl, x6⟩
  have X6 := Lib.hid x6
  clear x6
  have E7 : Hid (Ext w w7) := E6.out.trans X6.out
  have c0_7 : Hid ((w7).cell? ⟨w.heap.size, 0, none⟩ = some (.int .i64 p)) := (X6.out).cell c0_6.out
  have c1_7 : Hid ((w7).cell? ⟨w.heap.size, 1, none⟩ = some (.slice a d cap)) := (X6.out).cell c1_6.out
  have b0_7 : Hid ((w7).cell? ⟨w5.heap.size, 0, none⟩ = some (.int .i64 p)) := (X6.out).cell b0_6.out
  have b1_7 : Hid ((w7).cell? ⟨w5.heap.size, 1, none⟩ = some (.slice (some ⟨g2, 0, none⟩) d d)) := (X6.out).cell b1_6.out
  have SW_7 := Lib.hid (SW_6.out.ext X6.out)
  have SX0_7 := Lib.hid (SX0_6.out.ext X6.out)
  have SG_7 := Lib.hid (O5.out.ext X6.out)
  have Z7 : Hid ((w6).heap.size ≤ (w7).heap.size) := (X6.out).size'
  clear E6 c0_6 c1_6 b0_6 b1_6 SW_6 SX0_6 O5
  clear H
  have Hc0 : Hid ((w7).drew.cell? ⟨w.heap.size, 0, none⟩ = some (.int .i64 p)) := (ext_drew _).cell c0_7.out
  have Hc1 : Hid ((w7).drew.cell? ⟨w.heap.size, 1, none⟩ = some (.slice a d cap)) := (ext_drew _).cell c1_7.out
  have Hb0 : Hid ((w7).drew.cell? ⟨w5.heap.size, 0, none⟩ = some (.int .i64 p)) := (ext_drew _).cell b0_7.out
  have Hb1 : Hid ((w7).drew.cell? ⟨w5.heap.size, 1, none⟩ = some (.slice (some ⟨g2, 0, none⟩) d d)) := (ext_drew _).cell b1_7.out
  have HR0 : Hid (RdC (w7).drew (some ⟨g2, 0, none⟩) d qs) := (SX0_7.out.rd).ext (ext_drew _)
  have HR1 : Hid (RdC (w7).drew a d qs) := HQ0.out.ext (E7.out.trans (ext_drew _))
  go_wp2_with (fail)
  refine wp_region_lex [(2, .sp p d qs), (3, .val (.bool true))] (by kernel_rfl) (by kernel_rfl) ?_
  repeat' first | (refine LexW.pure (v := ?_) rfl rfl (fun w1 he => ?_) ?_; rotate_left; ( have hc0 := he.cell Hc0.out; have hc1 := he.cell Hc1.out; have hb0 := he.cell Hb0.out; have hb1 := he.cell Hb1.out; go_simp; rfl); simp only [Act.put, List.setIfInBounds_toArray, List.set_cons_zero, List.set_cons_succ]) | (refine LexW.callR (f := ?_) (args := ?_) rfl rfl (fun w1 => ?_) (fun w1 he hdep => ?_) (fun v hv => ?_); rotate_left 2; (go_simp; refine ⟨?_, ?_⟩ <;> rfl); ( refine (l_toSpace p a d cap qs w1 (by omega) (HR1.out.ext he)).mono ?_; rintro e w2 ⟨g8, rfl, o8, x8⟩; exact ⟨_, rfl, x8, g8, rfl, o8.rd⟩); simp only [Act.put, List.setIfInBounds_toArray, List.set_cons_zero, List.set_cons_succ]) | (refine LexW.call (f := ?_) (args := ?_) rfl rfl (fun w1 => ?_) (fun w1 he hdep => ?_) ?_; rotate_left 2; (go_simp; refine ⟨?_, ?_⟩ <;> rfl); ( obtain ⟨g8, h8, r8⟩ : (SPred.sp p d qs).holds _ w1 := hdep (2, 43) (by decide +kernel); subst h8; have H := l_eqSpace p _ _ d d d d qs qs w1 (by omega) (by omega) (HR0.out.ext he) r8; rw [eqB_self] at H; exact H); simp only [Act.put, List.setIfInBounds_toArray, List.set_cons_zero, List.set_cons_succ])
  refine LexW.nil (fun w8 he hk => ?_)
  have X7 : Hid (Ext w7 w8) := (ext_drew _).trans he
  clear he hk Hc0 Hc1 Hb0 Hb1 HR0 HR1
  have E8 : Hid (Ext w w8) := E7.out.trans X7.out
  have c0_8 : Hid ((w8).cell? ⟨w.heap.size, 0, none⟩ = some (.int .i64 p)) := (X7.out).cell c0_7.out
  have c1_8 : Hid ((w8).cell? ⟨w.heap.size, 1, none⟩ = some (.slice a d cap)) := (X7.out).cell c1_7.out
  have b0_8 : Hid ((w8).cell? ⟨w5.heap.size, 0, none⟩ = some (.int .i64 p)) := (X7.out).cell b0_7.out
  have b1_8 : Hid ((w8).cell? ⟨w5.heap.size, 1, none⟩ = some (.slice (some ⟨g2, 0, none⟩) d d)) := (X7.out).cell b1_7.out
  have SW_8 := Lib.hid (SW_7.out.ext X7.out)
  have SX0_8 := Lib.hid (SX0_7.out.ext X7.out)
  have SG_8 := Lib.hid (SG_7.out.ext X7.out)
  have Z8 : Hid ((w7).heap.size ≤ (w8).heap.size) := (X7.out).size'
  clear E7 c0_7 c1_7 b0_7 b1_7 SW_7 SX0_7 SG_7
  have hb0 := b0_8.out
  have hb1 := b1_8.out
  go_wp2_with (fail)
  clear hb0 hb1
  refine (l_markSpace _ p (some ⟨g2, 0, none⟩) d d qs (1) _ (by omega) (by omega) (by omega) SX0_8.out).mono ?_
  rintro e w9 ⟨rfl, o8, x8⟩
  have O8 := Lib.hid o8
  have X8 : Hid (WroteIn (w4).heap.size (w5).heap.size w8 w9) := x8.inR DX0.out
  clear x8 o8
  have E9 : Hid (Ext w w9) := X8.out.ext E8.out (by have z0 := Zb.out; have z1 := Z2.out; have z2 := Z3.out; have z3 := Z4.out; have z4 := Z5.out; have z5 := Zx0.out; have z6 := Z6.out; have z7 := Z7.out; have z8 := Z8.out; omega)
  have c0_9 : Hid ((w9).cell? ⟨w.heap.size, 0, none⟩ = some (.int .i64 p)) := X8.out.cell c0_8.out (by show w.heap.size < (w4).heap.size ∨ (w5).heap.size ≤ w.heap.size; have z0 := Zb.out; have z1 := Z2.out; have z2 := Z3.out; have z3 := Z4.out; have z4 := Z5.out; have z5 := Zx0.out; have z6 := Z6.out; have z7 := Z7.out; have z8 := Z8.out; omega)
  have c1_9 : Hid ((w9).cell? ⟨w.heap.size, 1, none⟩ = some (.slice a d cap)) := X8.out.cell c1_8.out (by show w.heap.size < (w4).heap.size ∨ (w5).heap.size ≤ w.heap.size; have z0 := Zb.out; have z1 := Z2.out; have z2 := Z3.out; have z3 := Z4.out; have z4 := Z5.out; have z5 := Zx0.out; have z6 := Z6.out; have z7 := Z7.out; have z8 := Z8.out; omega)
  have b0_9 : Hid ((w9).cell? ⟨w5.heap.size, 0, none⟩ = some (.int .i64 p)) := X8.out.cell b0_8.out (by show w5.heap.size < (w4).heap.size ∨ (w5).heap.size ≤ w5.heap.size; have z0 := Zb.out; have z1 := Z2.out; have z2 := Z3.out; have z3 := Z4.out; have z4 := Z5.out; have z5 := Zx0.out; have z6 := Z6.out; have z7 := Z7.out; have z8 := Z8.out; omega)
  have b1_9 : Hid ((w9).cell? ⟨w5.heap.size, 1, none⟩ = some (.slice (some ⟨g2, 0, none⟩) d d)) := X8.out.cell b1_8.out (by show w5.heap.size < (w4).heap.size ∨ (w5).heap.size ≤ w5.heap.size; have z0 := Zb.out; have z1 := Z2.out; have z2 := Z3.out; have z3 := Z4.out; have z4 := Z5.out; have z5 := Zx0.out; have z6 := Z6.out; have z7 := Z7.out; have z8 := Z8.out; omega)
  have SW_9 := Lib.hid (X8.out.ownR SW_8.out (by have z0 := Zb.out; have z1 := Z2.out; have z2 := Z3.out; have z3 := Z4.out; have z4 := Z5.out; have z5 := Zx0.out; have z6 := Z6.out; have z7 := Z7.out; have z8 := Z8.out; omega))
  have SG_9 := Lib.hid (X8.out.ownR SG_8.out (by have z0 := Zb.out; have z1 := Z2.out; have z2 := Z3.out; have z3 := Z4.out; have z4 := Z5.out; have z5 := Zx0.out; have z6 := Z6.out; have z7 := Z7.out; have z8 := Z8.out; omega))
  have Z9 : Hid ((w8).heap.size ≤ (w9).heap.size) := X8.out.size
  clear E8 c0_8 c1_8 b0_8 b1_8 SW_8 SG_8 SX0_8
  have hkneg : ¬ (1 + (d : Int)) < 0 := by omega
  go_wp2_with (fail)
  have H := l_eqRows ra1 ra0 rn rn rc1 rc0 ys ys w9 (by omega) (by omega) HLy.out HLy.out SG_9.out.low.rd SW_9.out.low.rd
  rw [eqR_self] at H
  refine (H).mono ?_
  rintro e w10 ⟨rfl, x9⟩
  have X9 := Lib.hid x9
  clear x9
  have E10 : Hid (Ext w w10) := E9.out.trans X9.out
  have c0_10 : Hid ((w10).cell? ⟨w.heap.size, 0, none⟩ = some (.int .i64 p)) := (X9.out).cell c0_9.out
  have c1_10 : Hid ((w10).cell? ⟨w.heap.size, 1, none⟩ = some (.slice a d cap)) := (X9.out).cell c1_9.out
  have b0_10 : Hid ((w10).cell? ⟨w5.heap.size, 0, none⟩ = some (.int .i64 p)) := (X9.out).cell b0_9.out
  have b1_10 : Hid ((w10).cell? ⟨w5.heap.size, 1, none⟩ = some (.slice (some ⟨g2, 0, none⟩) d d)) := (X9.out).cell b1_9.out
  have SW_10 := Lib.hid (SW_9.out.ext X9.out)
  have SX0_10 := Lib.hid (O8.out.ext X9.out)
  have SG_10 := Lib.hid (SG_9.out.ext X9.out)
  have Z10 : Hid ((w9).heap.size ≤ (w10).heap.size) := (X9.out).size'
  clear E9 c0_9 c1_9 b0_9 b1_9 SW_9 O8 SG_9
  clear H
  clear hkneg
  clear SX0_10 DX0
  go_wp2_with (fail)
  refine (l_markRows ((w5.alloc (.cells #[.int .i64 p, .slice (some ⟨g2, 0, none⟩) d d] 30))).heap.size (w6).heap.size ra1 rn rc1 ys 1 _ (by omega) (by omega) (by omega) (by omega) SG_10.out).mono ?_
  rintro e w11 ⟨rfl, o10, x10⟩
  have O10 := Lib.hid o10
  have X10 : Hid (WroteIn ((w5.alloc (.cells #[.int .i64 p, .slice (some ⟨g2, 0, none⟩) d d] 30))).heap.size (w6).heap.size w10 w11) := x10
  clear x10 o10
  have E11 : Hid (Ext w w11) := X10.out.ext E10.out (by have z0 := Zb.out; have z1 := Z2.out; have z2 := Z3.out; have z3 := Z4.out; have z4 := Z5.out; have z5 := Zx0.out; have z6 := Z6.out; have z7 := Z7.out; have z8 := Z8.out; have z9 := Z9.out; have z10 := Z10.out; omega)
  have c0_11 : Hid ((w11).cell? ⟨w.heap.size, 0, none⟩ = some (.int .i64 p)) := X10.out.cell c0_10.out (by show w.heap.size < ((w5.alloc (.cells #[.int .i64 p, .slice (some ⟨g2, 0, none⟩) d d] 30))).heap.size ∨ (w6).heap.size ≤ w.heap.size; have z0 := Zb.out; have z1 := Z2.out; have z2 := Z3.out; have z3 := Z4.out; have z4 := Z5.out; have z5 := Zx0.out; have z6 := Z6.out; have z7 := Z7.out; have z8 := Z8.out; have z9 := Z9.out; have z10 := Z10.out; omega)
  have c1_11 : Hid ((w11).cell? ⟨w.heap.size, 1, none⟩ = some (.slice a d cap)) := X10.out.cell c1_10.out (by show w.heap.size < ((w5.alloc (.cells #[.int .i64 p, .slice (some ⟨g2, 0, none⟩) d d] 30))).heap.size ∨ (w6).heap.size ≤ w.heap.size; have z0 := Zb.out; have z1 := Z2.out; have z2 := Z3.out; have z3 := Z4.out; have z4 := Z5.out; have z5 := Zx0.out; have z6 := Z6.out; have z7 := Z7.out; have z8 := Z8.out; have z9 := Z9.out; have z10 := Z10.out; omega)
  have b0_11 : Hid ((w11).cell? ⟨w5.heap.size, 0, none⟩ = some (.int .i64 p)) := X10.out.cell b0_10.out (by show w5.heap.size < ((w5.alloc (.cells #[.int .i64 p, .slice (some ⟨g2, 0, none⟩) d d] 30))).heap.size ∨ (w6).heap.size ≤ w5.heap.size; have z0 := Zb.out; have z1 := Z2.out; have z2 := Z3.out; have z3 := Z4.out; have z4 := Z5.out; have z5 := Zx0.out; have z6 := Z6.out; have z7 := Z7.out; have z8 := Z8.out; have z9 := Z9.out; have z10 := Z10.out; omega)
  have b1_11 : Hid ((w11).cell? ⟨w5.heap.size, 1, none⟩ = some (.slice (some ⟨g2, 0, none⟩) d d)) := X10.out.cell b1_10.out (by show w5.heap.size < ((w5.alloc (.cells #[.int .i64 p, .slice (some ⟨g2, 0, none⟩) d d] 30))).heap.size ∨ (w6).heap.size ≤ w5.heap.size; have z0 := Zb.out; have z1 := Z2.out; have z2 := Z3.out; have z3 := Z4.out; have z4 := Z5.out; have z5 := Zx0.out; have z6 := Z6.out; have z7 := Z7.out; have z8 := Z8.out; have z9 := Z9.out; have z10 := Z10.out; omega)
  have SW_11 := Lib.hid (X10.out.ownR SW_10.out (by have z0 := Zb.out; have z1 := Z2.out; have z2 := Z3.out; have z3 := Z4.out; have z4 := Z5.out; have z5 := Zx0.out; have z6 := Z6.out; have z7 := Z7.out; have z8 := Z8.out; have z9 := Z9.out; have z10 := Z10.out; omega))
  have Z11 : Hid ((w10).heap.size ≤ (w11).heap.size) := X10.out.size
  clear E10 c0_10 c1_10 b0_10 b1_10 SW_10 SG_10
  go_wp2_with (fail)
  refine (l_heldRows ra1 rn rc1 ys 1 _ (by omega) (by omega) (by omega) (by omega) O10.out.low.rd).mono ?_
  rintro e w12 ⟨rfl, x11⟩
  have X11 := Lib.hid x11
  clear x11
  have E12 : Hid (Ext w w12) := E11.out.trans X11.out
  have c0_12 : Hid ((w12).cell? ⟨w.heap.size, 0, none⟩ = some (.int .i64 p)) := (X11.out).cell c0_11.out
  have c1_12 : Hid ((w12).cell? ⟨w.heap.size, 1, none⟩ = some (.slice a d cap)) := (X11.out).cell c1_11.out
  have b0_12 : Hid ((w12).cell? ⟨w5.heap.size, 0, none⟩ = some (.int .i64 p)) := (X11.out).cell b0_11.out
  have b1_12 : Hid ((w12).cell? ⟨w5.heap.size, 1, none⟩ = some (.slice (some ⟨g2, 0, none⟩) d d)) := (X11.out).cell b1_11.out
  have SW_12 := Lib.hid (SW_11.out.ext X11.out)
  have SG_12 := Lib.hid (O10.out.ext X11.out)
  have Z12 : Hid ((w11).heap.size ≤ (w12).heap.size) := (X11.out).size'
  clear E11 c0_11 c1_11 b0_11 b1_11 SW_11 O10
  have hqm : ((1 + (cntR ys rn : Int)) != (1 + (cntR ys rn : Int))) = false := by simp
  have hqn : ¬ (1 + (cntR ys rn : Int)) < 0 := by omega
  have hc0 := c0_12.out
  have hc1 := c1_12.out
  go_wp2_with (fail)
  clear hc0 hc1
  refine (l_toSpace p a d cap qs _ (by omega) (HQ0.out.ext E12.out)).mono ?_
  rintro e w13 ⟨g3, rfl, o12, x12⟩
  have X12 := Lib.hid x12
  have O12 := Lib.hid o12
  have DB0 : Hid (∀ g, (some ⟨g3, 0, none⟩ : Option Addr) = some ⟨g, 0, none⟩ → (w12).heap.size ≤ g ∧ g < (w13).heap.size) := OwnC.base_of O12.out
  clear x12 o12
  have E13 : Hid (Ext w w13) := E12.out.trans X12.out
  have c0_13 : Hid ((w13).cell? ⟨w.heap.size, 0, none⟩ = some (.int .i64 p)) := (X12.out).cell c0_12.out
  have c1_13 : Hid ((w13).cell? ⟨w.heap.size, 1, none⟩ = some (.slice a d cap)) := (X12.out).cell c1_12.out
  have b0_13 : Hid ((w13).cell? ⟨w5.heap.size, 0, none⟩ = some (.int .i64 p)) := (X12.out).cell b0_12.out
  have b1_13 : Hid ((w13).cell? ⟨w5.heap.size, 1, none⟩ = some (.slice (some ⟨g2, 0, none⟩) d d)) := (X12.out).cell b1_12.out
  have SW_13 := Lib.hid (SW_12.out.ext X12.out)
  have SG_13 := Lib.hid (SG_12.out.ext X12.out)
  have Z13 : Hid ((w12).heap.size ≤ (w13).heap.size) := (X12.out).size'
  clear E12 c0_12 c1_12 b0_12 b1_12 SW_12 SG_12
  go_wp2_with (fail)
  refine (Hi.out _ _ _ O12.out.rd).mono ?_
  rintro e w14 ⟨ra2, rc2, rfl, o13, x13⟩
  have X13 := Lib.hid x13
  have O13 := Lib.hid o13.high
  clear x13 o13
  have E14 : Hid (Ext w w14) := E13.out.trans X13.out
  have c0_14 : Hid ((w14).cell? ⟨w.heap.size, 0, none⟩ = some (.int .i64 p)) := (X13.out).cell c0_13.out
  have c1_14 : Hid ((w14).cell? ⟨w.heap.size, 1, none⟩ = some (.slice a d cap)) := (X13.out).cell c1_13.out
  have b0_14 : Hid ((w14).cell? ⟨w5.heap.size, 0, none⟩ = some (.int .i64 p)) := (X13.out).cell b0_13.out
  have b1_14 : Hid ((w14).cell? ⟨w5.heap.size, 1, none⟩ = some (.slice (some ⟨g2, 0, none⟩) d d)) := (X13.out).cell b1_13.out
  have SW_14 := Lib.hid (SW_13.out.ext X13.out)
  have SG_14 := Lib.hid (SG_13.out.ext X13.out)
  have SB0_14 := Lib.hid (O12.out.ext X13.out)
  have Z14 : Hid ((w13).heap.size ≤ (w14).heap.size) := (X13.out).size'
  clear E13 c0_13 c1_13 b0_13 b1_13 SW_13 SG_13 O12
  go_wp2_with (fail)
  have H := l_eqRows ra2 ra0 rn rn rc2 rc0 ys ys w14 (by omega) (by omega) HLy.out HLy.out O13.out.low.rd SW_14.out.low.rd
  rw [eqR_self] at H
  refine (H).mono ?_
  rintro e w15 ⟨rfl, x14⟩
  have X14 := Lib.hid x14
  clear x14
  have E15 : Hid (Ext w w15) := E14.out.trans X14.out
  have c0_15 : Hid ((w15).cell? ⟨w.heap.size, 0, none⟩ = some (.int .i64 p)) := (X14.out).cell c0_14.out
  have c1_15 : Hid ((w15).cell? ⟨w.heap.size, 1, none⟩ = some (.slice a d cap)) := (X14.out).cell c1_14.out
  have b0_15 : Hid ((w15).cell? ⟨w5.heap.size, 0, none⟩ = some (.int .i64 p)) := (X14.out).cell b0_14.out
  have b1_15 : Hid ((w15).cell? ⟨w5.heap.size, 1, none⟩ = some (.slice (some ⟨g2, 0, none⟩) d d)) := (X14.out).cell b1_14.out
  have SW_15 := Lib.hid (SW_14.out.ext X14.out)
  have SG_15 := Lib.hid (SG_14.out.ext X14.out)
  have SB0_15 := Lib.hid (SB0_14.out.ext X14.out)
  have SH_15 := Lib.hid (O13.out.ext X14.out)
  have Z15 : Hid ((w14).heap.size ≤ (w15).heap.size) := (X14.out).size'
  clear E14 c0_14 c1_14 b0_14 b1_14 SW_14 SG_14 SB0_14 O13
  clear H
  go_wp2_with (fail)
  refine (l_heldRows ra1 rn rc1 ys 1 _ (by omega) (by omega) (by omega) (by omega) SG_15.out.low.rd).mono ?_
  rintro e w16 ⟨rfl, x15⟩
  have X15 := Lib.hid x15
  clear x15
  have E16 : Hid (Ext w w16) := E15.out.trans X15.out
  have c0_16 : Hid ((w16).cell? ⟨w.heap.size, 0, none⟩ = some (.int .i64 p)) := (X15.out).cell c0_15.out
  have c1_16 : Hid ((w16).cell? ⟨w.heap.size, 1, none⟩ = some (.slice a d cap)) := (X15.out).cell c1_15.out
  have b0_16 : Hid ((w16).cell? ⟨w5.heap.size, 0, none⟩ = some (.int .i64 p)) := (X15.out).cell b0_15.out
  have b1_16 : Hid ((w16).cell? ⟨w5.heap.size, 1, none⟩ = some (.slice (some ⟨g2, 0, none⟩) d d)) := (X15.out).cell b1_15.out
  have SW_16 := Lib.hid (SW_15.out.ext X15.out)
  have SG_16 := Lib.hid (SG_15.out.ext X15.out)
  have SB0_16 := Lib.hid (SB0_15.out.ext X15.out)
  have SH_16 := Lib.hid (SH_15.out.ext X15.out)
  have Z16 : Hid ((w15).heap.size ≤ (w16).heap.size) := (X15.out).size'
  clear E15 c0_15 c1_15 b0_15 b1_15 SW_15 SG_15 SB0_15 SH_15
  go_wp2_with (fail)
  go_ret
  exact ⟨rfl, E16.out⟩

theorem law_ExactCentreBasis (w : World) (p : Int) (a : Option Addr) (d cap : Nat) (qs : List Int) (hq : RdC w a d qs) (hmd : d ≤ maxLen) :
    Calls Try.prog 7 #[.agg #[.int .i64 p, .slice a d cap]] w fun e w' => e = .returned (.bool true) ∧ Ext w w' := by
  by_cases hb : 1048576 < d
  · exact w_CentreBasis_big p a d cap qs w hq hmd  hb
  · have hd : d ≤ 1048576 := by omega
    by_cases hc : codeA p qs [] = 0
    · exact w_CentreBasis p a d cap qs w hd  hq  (cbL p qs).length (cbL p qs) 0 (by have hs := space_of (codeA_nil1 hc).1; exact (cb_cnt hs.1 hs.2.2.1).1) (by have hs := space_of (codeA_nil1 hc).1; exact (cb_cnt hs.1 hs.2.2.1).2)
        (fun a cap w hq => s_CentreBasis_ok p a d cap qs w (by omega) hq hc) (fun a cap w hq => c_CentreBasis_ok p a d cap qs w (by omega) hq hc)
    · exact w_CentreBasis p a d cap qs w hd  hq  0 [] _ (by omega) (by simp [cntR])
        (fun a cap w hq => s_CentreBasis_bad p a d cap qs w (by omega) hq hc) (fun a cap w hq => c_CentreBasis_bad p a d cap qs w (by omega) hq hc)

end Go.Proofs.Ythimjfnmpicbiaa
