/-
  The walk of the law FnExactSphereThrough: it returns true and leaves what was there as it was.
  No condition.
-/
import Derived.Test.YtnabpmafcflljaaPart1
import Derived.Test.YtnabpmafcflljaaPart7
namespace Go.Proofs.Ytnabpmafcflljaa
set_option maxRecDepth 100000
open Go.RowKit

set_option maxHeartbeats 2000000 in
set_option maxRecDepth 100000 in
theorem w_SphereThrough_big (p : Int) (a : Option Addr) (d cap : Nat) (qs : List Int) (ax1 : Option Addr) (n1 cx1 : Nat) (xs1 : List (List Int)) (w : World) (_hq : RdC w a d qs) (hmd : d ≤ maxLen) (_hx1 : RdR w ax1 n1 xs1) (_hmn1 : n1 ≤ maxLen) (_hml1 : ∀ j, j < n1 → (nthR xs1 j).length ≤ maxLen) (hb : 1048576 < d ∨ (d ≤ 1048576 ∧ szR (1048576 - (d : Int)) xs1 < 0)) :
    Calls Try.prog 3 #[.agg #[.int .i64 p, .slice a d cap], .slice ax1 n1 cx1] w fun e w' => e = .returned (.bool true) ∧ Ext w w' := by
  have HX1 := Lib.hid _hx1
  have HML1 := Lib.hid _hml1
  clear _hx1 _hml1
  have HB := Lib.hid hb
  clear hb
  by_cases hd : 1048576 < d
  · have HS := Lib.hid (szN_neg (left := 1048576) (n := d) (by omega))
    go_enter Try.func3, Try.ntmps3
    go_wp2_with (go_at_call 8; refine (l_szSpace _ _ _ _ _ _ (by omega) (by omega) hmd).mono ?_; rintro e w1 ⟨rfl, g1⟩; rw [HS.out])
    go_ret
    exact ⟨rfl, (ext_alloc _ _).trans g1⟩
  have hz1 : szR (1048576 - (d : Int)) xs1 < 0 := by
    have h := HB.out
    have h0 : True := by trivial
    omega
  have HS := Lib.hid (szN_pos (left := 1048576) (n := d) (by omega))
  have HL1 := Lib.hid (szR_lt hz1)
  clear HB
  go_enter Try.func3, Try.ntmps3
  go_wp2_with (go_at_call 8; refine (l_szSpace _ _ _ _ _ _ (by omega) (by omega) hmd).mono ?_; rintro e w1 ⟨rfl, g1⟩; rw [HS.out]; have G := Lib.hid ((ext_alloc _ _).trans g1); clear g1)
  refine (l_szRows ax1 n1 cx1 xs1 (1048576 - (d : Int)) _ (by omega) (by omega) _hmn1 HML1.out (HX1.out.ext G.out)).mono ?_
  rintro e w2 ⟨rfl, g0⟩
  have G0 := Lib.hid (G.out.trans g0)
  clear g0 G
  have G := G0
  rw [HL1.out]
  go_wp2_with (fail)
  go_ret
  exact ⟨rfl, G.out⟩

set_option maxHeartbeats 8000000 in
set_option maxRecDepth 100000 in
theorem w_SphereThrough (p : Int) (a : Option Addr) (d cap : Nat) (qs : List Int) (ax1 : Option Addr) (n1 cx1 : Nat) (xs1 : List (List Int)) (w : World) (hd : d ≤ 1048576) (hn1 : n1 ≤ 1048576) (hT1 : cntR xs1 n1 ≤ 1048576) (hsz1 : 0 ≤ szR (1048576 - (d : Int)) xs1) (hq : RdC w a d qs) (hx1 : RdR w ax1 n1 xs1) (rn : Nat) (ys : List Int) (c : Int) (hrn : rn ≤ 1048576)
    (hs : ∀ (a : Option Addr) (cap : Nat) (ax1 : Option Addr) (cx1 : Nat) (w : World), RdC w a d qs → RdR w ax1 n1 xs1 → Calls Try.prog 10 #[.agg #[.int .i64 p, .slice a d cap], .slice ax1 n1 cx1] w fun e w' => ∃ ra rc, e = .returned (.tuple #[.slice ra rn rc, .int .i64 c]) ∧ OwnC w.heap.size w' ra rn rc ys ∧ Ext w w')
    (hi : ∀ (a : Option Addr) (cap : Nat) (ax1 : Option Addr) (cx1 : Nat) (w : World), RdC w a d qs → RdR w ax1 n1 xs1 → Calls Try.prog 13 #[.agg #[.int .i64 p, .slice a d cap], .slice ax1 n1 cx1] w fun e w' => ∃ ra rc, e = .returned (.tuple #[.slice ra rn rc, .int .i64 c]) ∧ OwnC w.heap.size w' ra rn rc ys ∧ Ext w w') :
    Calls Try.prog 3 #[.agg #[.int .i64 p, .slice a d cap], .slice ax1 n1 cx1] w fun e w' => e = .returned (.bool true) ∧ Ext w w' := by
  have HS := Lib.hid (szN_pos (left := 1048576) (n := d) (by omega))
  have HQ0 := Lib.hid hq
  have Hs := Lib.hid hs
  have Hi := Lib.hid hi
  have hccb : (c != c) = false := by simp
  have HX1 := Lib.hid hx1
  have HL1 : Hid (∀ j, j < n1 → (nthR xs1 j).length ≤ 4194304) := Lib.hid (fun j hj => Nat.le_trans (cntR_row xs1 hj) (by omega))
  clear hx1
  obtain ⟨z1, hz1e⟩ : ∃ z, z = szR (1048576 - (d : Int)) xs1 := ⟨_, rfl⟩
  rw [← hz1e] at hsz1
  have hzb1 : z1 ≤ 1048576 := by have h := szR_le (left := (1048576 - (d : Int))) (rows := xs1) (by omega); omega
  have hzn1 : ¬ z1 < 0 := by omega
  have HZ1 := Lib.hid hz1e.symm
  clear hz1e
  clear hs hi hq
  go_enter Try.func3, Try.ntmps3
  go_wp2_with (go_at_call 8; refine (l_szSpace _ _ _ _ _ _ (by omega) (by omega) (by unfold maxLen; omega)).mono ?_; rintro e w1 ⟨rfl, g1⟩; rw [HS.out]; have hcl := Ext.cells g1; have hz := g1.size'; simp only [World.size_alloc] at hcl hz)
  have E1 : Hid (Ext w w1) := (ext_alloc w (.cells #[.int .i64 p, .slice a d cap] 24)).trans g1
  have c0_1 : Hid (w1.cell? ⟨w.heap.size, 0, none⟩ = some (.int .i64 p)) := g1.cell (by simp)
  have c1_1 : Hid (w1.cell? ⟨w.heap.size, 1, none⟩ = some (.slice a d cap)) := g1.cell (by simp)
  have Zb : Hid (w.heap.size < w1.heap.size) := hz
  clear hcl hz g1
  refine (l_szRows ax1 n1 cx1 xs1 (1048576 - (d : Int)) _ (by omega) (by omega) (by unfold maxLen; omega) (fun j hj => by have := HL1.out j hj; unfold maxLen; omega) (HX1.out.ext E1.out)).mono ?_
  rintro e w3 ⟨rfl, x2⟩
  have X2 := Lib.hid x2
  clear x2
  have E2 : Hid (Ext w w3) := E1.out.trans X2.out
  have c0_2 : Hid ((w3).cell? ⟨w.heap.size, 0, none⟩ = some (.int .i64 p)) := (X2.out).cell c0_1.out
  have c1_2 : Hid ((w3).cell? ⟨w.heap.size, 1, none⟩ = some (.slice a d cap)) := (X2.out).cell c1_1.out
  have Z2 : Hid ((w1).heap.size ≤ (w3).heap.size) := (X2.out).size'
  clear E1 c0_1 c1_1
  rw [HZ1.out]
  have hc0 := c0_2.out
  have hc1 := c1_2.out
  go_wp2_with (fail)
  clear hc0 hc1
  refine (l_toSpace p a d cap qs _ (by omega) (HQ0.out.ext E2.out)).mono ?_
  rintro e w4 ⟨g1, rfl, o3, x3⟩
  have X3 := Lib.hid x3
  have O3 := Lib.hid o3
  have DA0 : Hid (∀ g, (some ⟨g1, 0, none⟩ : Option Addr) = some ⟨g, 0, none⟩ → (w3).heap.size ≤ g ∧ g < (w4).heap.size) := OwnC.base_of O3.out
  clear x3 o3
  have E3 : Hid (Ext w w4) := E2.out.trans X3.out
  have c0_3 : Hid ((w4).cell? ⟨w.heap.size, 0, none⟩ = some (.int .i64 p)) := (X3.out).cell c0_2.out
  have c1_3 : Hid ((w4).cell? ⟨w.heap.size, 1, none⟩ = some (.slice a d cap)) := (X3.out).cell c1_2.out
  have Z3 : Hid ((w3).heap.size ≤ (w4).heap.size) := (X3.out).size'
  clear E2 c0_2 c1_2
  go_wp2_with (fail)
  refine (l_toRows ax1 n1 cx1 xs1 _ (by omega) HL1.out (HX1.out.ext E3.out)).mono ?_
  rintro e w5 ⟨g2, rfl, o4, x4⟩
  have X4 := Lib.hid x4
  have O4 := Lib.hid o4.high
  clear x4 o4
  have E4 : Hid (Ext w w5) := E3.out.trans X4.out
  have c0_4 : Hid ((w5).cell? ⟨w.heap.size, 0, none⟩ = some (.int .i64 p)) := (X4.out).cell c0_3.out
  have c1_4 : Hid ((w5).cell? ⟨w.heap.size, 1, none⟩ = some (.slice a d cap)) := (X4.out).cell c1_3.out
  have SA0_4 := Lib.hid (O3.out.ext X4.out)
  have Z4 : Hid ((w4).heap.size ≤ (w5).heap.size) := (X4.out).size'
  clear E3 c0_3 c1_3 O3
  go_wp2_with (fail)
  refine (Hs.out _ _ _ _ _ SA0_4.out.rd O4.out.low.rd).mono ?_
  rintro e w6 ⟨ra0, rc0, rfl, o5, x5⟩
  have X5 := Lib.hid x5
  have O5 := Lib.hid o5
  have DW : Hid (∀ g, ra0 = some ⟨g, 0, none⟩ → (w5).heap.size ≤ g ∧ g < (w6).heap.size) := OwnC.base_of O5.out
  clear x5 o5
  have E5 : Hid (Ext w w6) := E4.out.trans X5.out
  have c0_5 : Hid ((w6).cell? ⟨w.heap.size, 0, none⟩ = some (.int .i64 p)) := (X5.out).cell c0_4.out
  have c1_5 : Hid ((w6).cell? ⟨w.heap.size, 1, none⟩ = some (.slice a d cap)) := (X5.out).cell c1_4.out
  have SA0_5 := Lib.hid (SA0_4.out.ext X5.out)
  have SA1_5 := Lib.hid (O4.out.ext X5.out)
  have Z5 : Hid ((w5).heap.size ≤ (w6).heap.size) := (X5.out).size'
  clear E4 c0_4 c1_4 SA0_4 O4
  clear SA0_5 DA0
  clear SA1_5
  have hc0 := c0_5.out
  have hc1 := c1_5.out
  go_wp2_with (fail)
  clear hc0 hc1
  refine (l_toSpace p a d cap qs _ (by omega) (HQ0.out.ext E5.out)).mono ?_
  rintro e w7 ⟨g3, rfl, o6, x6⟩
  have X6 := Lib.hid x6
  have O6 := Lib.hid o6
  have DX0 : Hid (∀ g, (some ⟨g3, 0, none⟩ : Option Addr) = some ⟨g, 0, none⟩ → (w6).heap.size ≤ g ∧ g < (w7).heap.size) := OwnC.base_of O6.out
  clear x6 o6
  have E6 : Hid (Ext w w7) := E5.out.trans X6.out
  have c0_6 : Hid ((w7).cell? ⟨w.heap.size, 0, none⟩ = some (.int .i64 p)) := (X6.out).cell c0_5.out
  have c1_6 : Hid ((w7).cell? ⟨w.heap.size, 1, none⟩ = some (.slice a d cap)) := (X6.out).cell c1_5.out
  have SW_6 := Lib.hid (O5.out.ext X6.out)
  have Z6 : Hid ((w6).heap.size ≤ (w7).heap.size) := (X6.out).size'
  clear E5 c0_5 c1_5 O5
  have XB := Lib.hid (ext_alloc w7 (.cells #[.int .i64 p, .slice (some ⟨g3, 0, none⟩) d d] 30))
  have E7 : Hid (Ext w (w7.alloc (.cells #[.int .i64 p, .slice (some ⟨g3, 0, none⟩) d d] 30))) := E6.out.trans XB.out
  have c0_7 : Hid (((w7.alloc (.cells #[.int .i64 p, .slice (some ⟨g3, 0, none⟩) d d] 30))).cell? ⟨w.heap.size, 0, none⟩ = some (.int .i64 p)) := (XB.out).cell c0_6.out
  have c1_7 : Hid (((w7.alloc (.cells #[.int .i64 p, .slice (some ⟨g3, 0, none⟩) d d] 30))).cell? ⟨w.heap.size, 1, none⟩ = some (.slice a d cap)) := (XB.out).cell c1_6.out
  have SW_7 := Lib.hid (SW_6.out.ext XB.out)
  have SX0_7 := Lib.hid (O6.out.ext XB.out)
  have Z7 : Hid ((w7).heap.size ≤ ((w7.alloc (.cells #[.int .i64 p, .slice (some ⟨g3, 0, none⟩) d d] 30))).heap.size) := (XB.out).size'
  clear E6 c0_6 c1_6 SW_6 O6
  have b0_7 : Hid ((w7.alloc (.cells #[.int .i64 p, .slice (some ⟨g3, 0, none⟩) d d] 30)).cell? ⟨w7.heap.size, 0, none⟩ = some (.int .i64 p)) := by show _ = _; simp
  have b1_7 : Hid ((w7.alloc (.cells #[.int .i64 p, .slice (some ⟨g3, 0, none⟩) d d] 30)).cell? ⟨w7.heap.size, 1, none⟩ = some (.slice (some ⟨g3, 0, none⟩) d d)) := by show _ = _; simp
  have Zx0 : Hid (w7.heap.size < (w7.alloc (.cells #[.int .i64 p, .slice (some ⟨g3, 0, none⟩) d d] 30)).heap.size) := by show _ < _; simp
  go_wp2_with (fail)
  refine (l_toRows ax1 n1 cx1 xs1 _ (by omega) HL1.out (HX1.out.ext E7.out)).mono ?_
  rintro e w8 ⟨g4, rfl, o7, x7⟩
  have X7 := Lib.hid x7
  have O7 := Lib.hid o7.high
  clear x7 o7
  have E8 : Hid (Ext w w8) := E7.out.trans X7.out
  have c0_8 : Hid ((w8).cell? ⟨w.heap.size, 0, none⟩ = some (.int .i64 p)) := (X7.out).cell c0_7.out
  have c1_8 : Hid ((w8).cell? ⟨w.heap.size, 1, none⟩ = some (.slice a d cap)) := (X7.out).cell c1_7.out
  have b0_8 : Hid ((w8).cell? ⟨w7.heap.size, 0, none⟩ = some (.int .i64 p)) := (X7.out).cell b0_7.out
  have b1_8 : Hid ((w8).cell? ⟨w7.heap.size, 1, none⟩ = some (.slice (some ⟨g3, 0, none⟩) d d)) := (X7.out).cell b1_7.out
  have SW_8 := Lib.hid (SW_7.out.ext X7.out)
  have SX0_8 := Lib.hid (SX0_7.out.ext X7.out)
  have Z8 : Hid (((w7.alloc (.cells #[.int .i64 p, .slice (some ⟨g3, 0, none⟩) d d] 30))).heap.size ≤ (w8).heap.size) := (X7.out).size'
  clear E7 c0_7 c1_7 b0_7 b1_7 SW_7 SX0_7
  have hb0 := b0_8.out
  have hb1 := b1_8.out
  go_wp2_with (fail)
  clear hb0 hb1
  refine (Hi.out _ _ _ _ _ SX0_8.out.rd O7.out.low.rd).mono ?_
  rintro e w9 ⟨ra1, rc1, rfl, o8, x8⟩
  have X8 := Lib.hid x8
  have O8 := Lib.hid o8
  have DG : Hid (∀ g, ra1 = some ⟨g, 0, none⟩ → (w8).heap.size ≤ g ∧ g < (w9).heap.size) := OwnC.base_of O8.out
  clear x8 o8
  have E9 : Hid (Ext w w9) := E8.out.trans X8.out
  have c0_9 : Hid ((w9).cell? ⟨w.heap.size, 0, none⟩ = some (.int .i64 p)) := (X8.out).cell c0_8.out
  have c1_9 : Hid ((w9).cell? ⟨w.heap.size, 1, none⟩ = some (.slice a d cap)) := (X8.out).cell c1_8.out
  have b0_9 : Hid ((w9).cell? ⟨w7.heap.size, 0, none⟩ = some (.int .i64 p)) := (X8.out).cell b0_8.out
  have b1_9 : Hid ((w9).cell? ⟨w7.heap.size, 1, none⟩ = some (.slice (some ⟨g3, 0, none⟩) d d)) := (X8.out).cell b1_8.out
  have SW_9 := Lib.hid (SW_8.out.ext X8.out)
  have SX0_9 := Lib.hid (SX0_8.out.ext X8.out)
  have SX1_9 := Lib.hid (O7.out.ext X8.out)
  have Z9 : Hid ((w8).heap.size ≤ (w9).heap.size) := (X8.out).size'
  clear E8 c0_8 c1_8 b0_8 b1_8 SW_8 SX0_8 O7
  go_wp2_with (fail)
  have H := l_eqInts ra1 ra0 rn rn rc1 rc0 ys ys w9 (by omega) (by omega) O8.out.rd SW_9.out.rd
  rw [eqB_self] at H
  refine (H).mono ?_
  rintro e w10 ⟨rfl, x9⟩
  have X9 := Lib.hid x9
  clear x9
  have E10 : Hid (Ext w w10) := E9.out.trans X9.out
  have c0_10 : Hid ((w10).cell? ⟨w.heap.size, 0, none⟩ = some (.int .i64 p)) := (X9.out).cell c0_9.out
  have c1_10 : Hid ((w10).cell? ⟨w.heap.size, 1, none⟩ = some (.slice a d cap)) := (X9.out).cell c1_9.out
  have b0_10 : Hid ((w10).cell? ⟨w7.heap.size, 0, none⟩ = some (.int .i64 p)) := (X9.out).cell b0_9.out
  have b1_10 : Hid ((w10).cell? ⟨w7.heap.size, 1, none⟩ = some (.slice (some ⟨g3, 0, none⟩) d d)) := (X9.out).cell b1_9.out
  have SW_10 := Lib.hid (SW_9.out.ext X9.out)
  have SX0_10 := Lib.hid (SX0_9.out.ext X9.out)
  have SX1_10 := Lib.hid (SX1_9.out.ext X9.out)
  have SG_10 := Lib.hid (O8.out.ext X9.out)
  have Z10 : Hid ((w9).heap.size ≤ (w10).heap.size) := (X9.out).size'
  clear E9 c0_9 c1_9 b0_9 b1_9 SW_9 SX0_9 SX1_9 O8
  clear H
  have Hc0 : Hid ((w10).drew.cell? ⟨w.heap.size, 0, none⟩ = some (.int .i64 p)) := (ext_drew _).cell c0_10.out
  have Hc1 : Hid ((w10).drew.cell? ⟨w.heap.size, 1, none⟩ = some (.slice a d cap)) := (ext_drew _).cell c1_10.out
  have Hb0 : Hid ((w10).drew.cell? ⟨w7.heap.size, 0, none⟩ = some (.int .i64 p)) := (ext_drew _).cell b0_10.out
  have Hb1 : Hid ((w10).drew.cell? ⟨w7.heap.size, 1, none⟩ = some (.slice (some ⟨g3, 0, none⟩) d d)) := (ext_drew _).cell b1_10.out
  have HR0 : Hid (RdC (w10).drew (some ⟨g3, 0, none⟩) d qs) := (SX0_10.out.rd).ext (ext_drew _)
  have HR1 : Hid (RdC (w10).drew a d qs) := HQ0.out.ext (E10.out.trans (ext_drew _))
  go_wp2_with (fail)
  refine wp_region_lex [(2, .sp p d qs), (3, .val (.bool true))] (by kernel_rfl) (by kernel_rfl) ?_
  repeat' first | (refine LexW.pure (v := ?_) rfl rfl (fun w1 he => ?_) ?_; rotate_left; ( have hc0 := he.cell Hc0.out; have hc1 := he.cell Hc1.out; have hb0 := he.cell Hb0.out; have hb1 := he.cell Hb1.out; go_simp; rfl); simp only [Act.put, List.setIfInBounds_toArray, List.set_cons_zero, List.set_cons_succ]) | (refine LexW.callR (f := ?_) (args := ?_) rfl rfl (fun w1 => ?_) (fun w1 he hdep => ?_) (fun v hv => ?_); rotate_left 2; (go_simp; refine ⟨?_, ?_⟩ <;> rfl); ( refine (l_toSpace p a d cap qs w1 (by omega) (HR1.out.ext he)).mono ?_; rintro e w2 ⟨g8, rfl, o8, x8⟩; exact ⟨_, rfl, x8, g8, rfl, o8.rd⟩); simp only [Act.put, List.setIfInBounds_toArray, List.set_cons_zero, List.set_cons_succ]) | (refine LexW.call (f := ?_) (args := ?_) rfl rfl (fun w1 => ?_) (fun w1 he hdep => ?_) ?_; rotate_left 2; (go_simp; refine ⟨?_, ?_⟩ <;> rfl); ( obtain ⟨g8, h8, r8⟩ : (SPred.sp p d qs).holds _ w1 := hdep (2, 56) (by decide +kernel); subst h8; have H := l_eqSpace p _ _ d d d d qs qs w1 (by omega) (by omega) (HR0.out.ext he) r8; rw [eqB_self] at H; exact H); simp only [Act.put, List.setIfInBounds_toArray, List.set_cons_zero, List.set_cons_succ])
  refine LexW.nil (fun w11 he hk => ?_)
  have X10 : Hid (Ext w10 w11) := (ext_drew _).trans he
  clear he hk Hc0 Hc1 Hb0 Hb1 HR0 HR1
  have E11 : Hid (Ext w w11) := E10.out.trans X10.out
  have c0_11 : Hid ((w11).cell? ⟨w.heap.size, 0, none⟩ = some (.int .i64 p)) := (X10.out).cell c0_10.out
  have c1_11 : Hid ((w11).cell? ⟨w.heap.size, 1, none⟩ = some (.slice a d cap)) := (X10.out).cell c1_10.out
  have b0_11 : Hid ((w11).cell? ⟨w7.heap.size, 0, none⟩ = some (.int .i64 p)) := (X10.out).cell b0_10.out
  have b1_11 : Hid ((w11).cell? ⟨w7.heap.size, 1, none⟩ = some (.slice (some ⟨g3, 0, none⟩) d d)) := (X10.out).cell b1_10.out
  have SW_11 := Lib.hid (SW_10.out.ext X10.out)
  have SX0_11 := Lib.hid (SX0_10.out.ext X10.out)
  have SX1_11 := Lib.hid (SX1_10.out.ext X10.out)
  have SG_11 := Lib.hid (SG_10.out.ext X10.out)
  have Z11 : Hid ((w10).heap.size ≤ (w11).heap.size) := (X10.out).size'
  clear E10 c0_10 c1_10 b0_10 b1_10 SW_10 SX0_10 SX1_10 SG_10
  go_wp2_with (fail)
  refine (l_toRows ax1 n1 cx1 xs1 _ (by omega) HL1.out (HX1.out.ext E11.out)).mono ?_
  rintro e w12 ⟨g5, rfl, o11, x11⟩
  have X11 := Lib.hid x11
  have O11 := Lib.hid o11.high
  clear x11 o11
  have E12 : Hid (Ext w w12) := E11.out.trans X11.out
  have c0_12 : Hid ((w12).cell? ⟨w.heap.size, 0, none⟩ = some (.int .i64 p)) := (X11.out).cell c0_11.out
  have c1_12 : Hid ((w12).cell? ⟨w.heap.size, 1, none⟩ = some (.slice a d cap)) := (X11.out).cell c1_11.out
  have b0_12 : Hid ((w12).cell? ⟨w7.heap.size, 0, none⟩ = some (.int .i64 p)) := (X11.out).cell b0_11.out
  have b1_12 : Hid ((w12).cell? ⟨w7.heap.size, 1, none⟩ = some (.slice (some ⟨g3, 0, none⟩) d d)) := (X11.out).cell b1_11.out
  have SW_12 := Lib.hid (SW_11.out.ext X11.out)
  have SX0_12 := Lib.hid (SX0_11.out.ext X11.out)
  have SX1_12 := Lib.hid (SX1_11.out.ext X11.out)
  have SG_12 := Lib.hid (SG_11.out.ext X11.out)
  have Z12 : Hid ((w11).heap.size ≤ (w12).heap.size) := (X11.out).size'
  clear E11 c0_11 c1_11 b0_11 b1_11 SW_11 SX0_11 SX1_11 SG_11
  go_wp2_with (fail)
  have H := l_eqRows (some ⟨g4, 0, none⟩) (some ⟨g5, 0, none⟩) n1 n1 n1 n1 xs1 xs1 w12 (by omega) (by omega) HL1.out HL1.out SX1_12.out.low.rd O11.out.low.rd
  rw [eqR_self] at H
  refine (H).mono ?_
  rintro e w13 ⟨rfl, x12⟩
  have X12 := Lib.hid x12
  clear x12
  have E13 : Hid (Ext w w13) := E12.out.trans X12.out
  have c0_13 : Hid ((w13).cell? ⟨w.heap.size, 0, none⟩ = some (.int .i64 p)) := (X12.out).cell c0_12.out
  have c1_13 : Hid ((w13).cell? ⟨w.heap.size, 1, none⟩ = some (.slice a d cap)) := (X12.out).cell c1_12.out
  have b0_13 : Hid ((w13).cell? ⟨w7.heap.size, 0, none⟩ = some (.int .i64 p)) := (X12.out).cell b0_12.out
  have b1_13 : Hid ((w13).cell? ⟨w7.heap.size, 1, none⟩ = some (.slice (some ⟨g3, 0, none⟩) d d)) := (X12.out).cell b1_12.out
  have SW_13 := Lib.hid (SW_12.out.ext X12.out)
  have SX0_13 := Lib.hid (SX0_12.out.ext X12.out)
  have SX1_13 := Lib.hid (SX1_12.out.ext X12.out)
  have SG_13 := Lib.hid (SG_12.out.ext X12.out)
  have SY1_13 := Lib.hid (O11.out.ext X12.out)
  have Z13 : Hid ((w12).heap.size ≤ (w13).heap.size) := (X12.out).size'
  clear E12 c0_12 c1_12 b0_12 b1_12 SW_12 SX0_12 SX1_12 SG_12 O11
  clear H
  clear SY1_13
  have hb0 := b0_13.out
  have hb1 := b1_13.out
  go_wp2_with (fail)
  clear hb0 hb1
  refine (l_markSpace _ p (some ⟨g3, 0, none⟩) d d qs (1) _ (by omega) (by omega) (by omega) SX0_13.out).mono ?_
  rintro e w14 ⟨rfl, o13, x13⟩
  have O13 := Lib.hid o13
  have X13 : Hid (WroteIn (w6).heap.size (w7).heap.size w13 w14) := x13.inR DX0.out
  clear x13 o13
  have E14 : Hid (Ext w w14) := X13.out.ext E13.out (by have z0 := Zb.out; have z1 := Z2.out; have z2 := Z3.out; have z3 := Z4.out; have z4 := Z5.out; have z5 := Z6.out; have z6 := Z7.out; have z7 := Zx0.out; have z8 := Z8.out; have z9 := Z9.out; have z10 := Z10.out; have z11 := Z11.out; have z12 := Z12.out; have z13 := Z13.out; omega)
  have c0_14 : Hid ((w14).cell? ⟨w.heap.size, 0, none⟩ = some (.int .i64 p)) := X13.out.cell c0_13.out (by show w.heap.size < (w6).heap.size ∨ (w7).heap.size ≤ w.heap.size; have z0 := Zb.out; have z1 := Z2.out; have z2 := Z3.out; have z3 := Z4.out; have z4 := Z5.out; have z5 := Z6.out; have z6 := Z7.out; have z7 := Zx0.out; have z8 := Z8.out; have z9 := Z9.out; have z10 := Z10.out; have z11 := Z11.out; have z12 := Z12.out; have z13 := Z13.out; omega)
  have c1_14 : Hid ((w14).cell? ⟨w.heap.size, 1, none⟩ = some (.slice a d cap)) := X13.out.cell c1_13.out (by show w.heap.size < (w6).heap.size ∨ (w7).heap.size ≤ w.heap.size; have z0 := Zb.out; have z1 := Z2.out; have z2 := Z3.out; have z3 := Z4.out; have z4 := Z5.out; have z5 := Z6.out; have z6 := Z7.out; have z7 := Zx0.out; have z8 := Z8.out; have z9 := Z9.out; have z10 := Z10.out; have z11 := Z11.out; have z12 := Z12.out; have z13 := Z13.out; omega)
  have b0_14 : Hid ((w14).cell? ⟨w7.heap.size, 0, none⟩ = some (.int .i64 p)) := X13.out.cell b0_13.out (by show w7.heap.size < (w6).heap.size ∨ (w7).heap.size ≤ w7.heap.size; have z0 := Zb.out; have z1 := Z2.out; have z2 := Z3.out; have z3 := Z4.out; have z4 := Z5.out; have z5 := Z6.out; have z6 := Z7.out; have z7 := Zx0.out; have z8 := Z8.out; have z9 := Z9.out; have z10 := Z10.out; have z11 := Z11.out; have z12 := Z12.out; have z13 := Z13.out; omega)
  have b1_14 : Hid ((w14).cell? ⟨w7.heap.size, 1, none⟩ = some (.slice (some ⟨g3, 0, none⟩) d d)) := X13.out.cell b1_13.out (by show w7.heap.size < (w6).heap.size ∨ (w7).heap.size ≤ w7.heap.size; have z0 := Zb.out; have z1 := Z2.out; have z2 := Z3.out; have z3 := Z4.out; have z4 := Z5.out; have z5 := Z6.out; have z6 := Z7.out; have z7 := Zx0.out; have z8 := Z8.out; have z9 := Z9.out; have z10 := Z10.out; have z11 := Z11.out; have z12 := Z12.out; have z13 := Z13.out; omega)
  have SW_14 := Lib.hid (X13.out.own SW_13.out (fun g hg => by have h1 := DW.out g hg; have z0 := Zb.out; have z1 := Z2.out; have z2 := Z3.out; have z3 := Z4.out; have z4 := Z5.out; have z5 := Z6.out; have z6 := Z7.out; have z7 := Zx0.out; have z8 := Z8.out; have z9 := Z9.out; have z10 := Z10.out; have z11 := Z11.out; have z12 := Z12.out; have z13 := Z13.out; omega))
  have SX1_14 := Lib.hid (X13.out.ownR SX1_13.out (by have z0 := Zb.out; have z1 := Z2.out; have z2 := Z3.out; have z3 := Z4.out; have z4 := Z5.out; have z5 := Z6.out; have z6 := Z7.out; have z7 := Zx0.out; have z8 := Z8.out; have z9 := Z9.out; have z10 := Z10.out; have z11 := Z11.out; have z12 := Z12.out; have z13 := Z13.out; omega))
  have SG_14 := Lib.hid (X13.out.own SG_13.out (fun g hg => by have h1 := DG.out g hg; have z0 := Zb.out; have z1 := Z2.out; have z2 := Z3.out; have z3 := Z4.out; have z4 := Z5.out; have z5 := Z6.out; have z6 := Z7.out; have z7 := Zx0.out; have z8 := Z8.out; have z9 := Z9.out; have z10 := Z10.out; have z11 := Z11.out; have z12 := Z12.out; have z13 := Z13.out; omega))
  have Z14 : Hid ((w13).heap.size ≤ (w14).heap.size) := X13.out.size
  clear E13 c0_13 c1_13 b0_13 b1_13 SW_13 SX1_13 SG_13 SX0_13
  go_wp2_with (fail)
  refine (l_markRows ((w7.alloc (.cells #[.int .i64 p, .slice (some ⟨g3, 0, none⟩) d d] 30))).heap.size (w8).heap.size (some ⟨g4, 0, none⟩) n1 n1 xs1 (1 + (d : Int)) _ (by omega) (by omega) (by omega) (by omega) SX1_14.out).mono ?_
  rintro e w15 ⟨rfl, o14, x14⟩
  have O14 := Lib.hid o14
  have X14 : Hid (WroteIn ((w7.alloc (.cells #[.int .i64 p, .slice (some ⟨g3, 0, none⟩) d d] 30))).heap.size (w8).heap.size w14 w15) := x14
  clear x14 o14
  have E15 : Hid (Ext w w15) := X14.out.ext E14.out (by have z0 := Zb.out; have z1 := Z2.out; have z2 := Z3.out; have z3 := Z4.out; have z4 := Z5.out; have z5 := Z6.out; have z6 := Z7.out; have z7 := Zx0.out; have z8 := Z8.out; have z9 := Z9.out; have z10 := Z10.out; have z11 := Z11.out; have z12 := Z12.out; have z13 := Z13.out; have z14 := Z14.out; omega)
  have c0_15 : Hid ((w15).cell? ⟨w.heap.size, 0, none⟩ = some (.int .i64 p)) := X14.out.cell c0_14.out (by show w.heap.size < ((w7.alloc (.cells #[.int .i64 p, .slice (some ⟨g3, 0, none⟩) d d] 30))).heap.size ∨ (w8).heap.size ≤ w.heap.size; have z0 := Zb.out; have z1 := Z2.out; have z2 := Z3.out; have z3 := Z4.out; have z4 := Z5.out; have z5 := Z6.out; have z6 := Z7.out; have z7 := Zx0.out; have z8 := Z8.out; have z9 := Z9.out; have z10 := Z10.out; have z11 := Z11.out; have z12 := Z12.out; have z13 := Z13.out; have z14 := Z14.out; omega)
  have c1_15 : Hid ((w15).cell? ⟨w.heap.size, 1, none⟩ = some (.slice a d cap)) := X14.out.cell c1_14.out (by show w.heap.size < ((w7.alloc (.cells #[.int .i64 p, .slice (some ⟨g3, 0, none⟩) d d] 30))).heap.size ∨ (w8).heap.size ≤ w.heap.size; have z0 := Zb.out; have z1 := Z2.out; have z2 := Z3.out; have z3 := Z4.out; have z4 := Z5.out; have z5 := Z6.out; have z6 := Z7.out; have z7 := Zx0.out; have z8 := Z8.out; have z9 := Z9.out; have z10 := Z10.out; have z11 := Z11.out; have z12 := Z12.out; have z13 := Z13.out; have z14 := Z14.out; omega)
  have b0_15 : Hid ((w15).cell? ⟨w7.heap.size, 0, none⟩ = some (.int .i64 p)) := X14.out.cell b0_14.out (by show w7.heap.size < ((w7.alloc (.cells #[.int .i64 p, .slice (some ⟨g3, 0, none⟩) d d] 30))).heap.size ∨ (w8).heap.size ≤ w7.heap.size; have z0 := Zb.out; have z1 := Z2.out; have z2 := Z3.out; have z3 := Z4.out; have z4 := Z5.out; have z5 := Z6.out; have z6 := Z7.out; have z7 := Zx0.out; have z8 := Z8.out; have z9 := Z9.out; have z10 := Z10.out; have z11 := Z11.out; have z12 := Z12.out; have z13 := Z13.out; have z14 := Z14.out; omega)
  have b1_15 : Hid ((w15).cell? ⟨w7.heap.size, 1, none⟩ = some (.slice (some ⟨g3, 0, none⟩) d d)) := X14.out.cell b1_14.out (by show w7.heap.size < ((w7.alloc (.cells #[.int .i64 p, .slice (some ⟨g3, 0, none⟩) d d] 30))).heap.size ∨ (w8).heap.size ≤ w7.heap.size; have z0 := Zb.out; have z1 := Z2.out; have z2 := Z3.out; have z3 := Z4.out; have z4 := Z5.out; have z5 := Z6.out; have z6 := Z7.out; have z7 := Zx0.out; have z8 := Z8.out; have z9 := Z9.out; have z10 := Z10.out; have z11 := Z11.out; have z12 := Z12.out; have z13 := Z13.out; have z14 := Z14.out; omega)
  have SW_15 := Lib.hid (X14.out.own SW_14.out (fun g hg => by have h1 := DW.out g hg; have z0 := Zb.out; have z1 := Z2.out; have z2 := Z3.out; have z3 := Z4.out; have z4 := Z5.out; have z5 := Z6.out; have z6 := Z7.out; have z7 := Zx0.out; have z8 := Z8.out; have z9 := Z9.out; have z10 := Z10.out; have z11 := Z11.out; have z12 := Z12.out; have z13 := Z13.out; have z14 := Z14.out; omega))
  have SX0_15 := Lib.hid (X14.out.own O13.out (fun g hg => by have h1 := DX0.out g hg; have z0 := Zb.out; have z1 := Z2.out; have z2 := Z3.out; have z3 := Z4.out; have z4 := Z5.out; have z5 := Z6.out; have z6 := Z7.out; have z7 := Zx0.out; have z8 := Z8.out; have z9 := Z9.out; have z10 := Z10.out; have z11 := Z11.out; have z12 := Z12.out; have z13 := Z13.out; have z14 := Z14.out; omega))
  have SG_15 := Lib.hid (X14.out.own SG_14.out (fun g hg => by have h1 := DG.out g hg; have z0 := Zb.out; have z1 := Z2.out; have z2 := Z3.out; have z3 := Z4.out; have z4 := Z5.out; have z5 := Z6.out; have z6 := Z7.out; have z7 := Zx0.out; have z8 := Z8.out; have z9 := Z9.out; have z10 := Z10.out; have z11 := Z11.out; have z12 := Z12.out; have z13 := Z13.out; have z14 := Z14.out; omega))
  have Z15 : Hid ((w14).heap.size ≤ (w15).heap.size) := X14.out.size
  clear E14 c0_14 c1_14 b0_14 b1_14 SW_14 O13 SG_14 SX1_14
  have hkneg : ¬ (1 + (d : Int) + (cntR xs1 n1 : Int)) < 0 := by omega
  go_wp2_with (fail)
  have H := l_eqInts ra1 ra0 rn rn rc1 rc0 ys ys w15 (by omega) (by omega) SG_15.out.rd SW_15.out.rd
  rw [eqB_self] at H
  refine (H).mono ?_
  rintro e w16 ⟨rfl, x15⟩
  have X15 := Lib.hid x15
  clear x15
  have E16 : Hid (Ext w w16) := E15.out.trans X15.out
  have c0_16 : Hid ((w16).cell? ⟨w.heap.size, 0, none⟩ = some (.int .i64 p)) := (X15.out).cell c0_15.out
  have c1_16 : Hid ((w16).cell? ⟨w.heap.size, 1, none⟩ = some (.slice a d cap)) := (X15.out).cell c1_15.out
  have b0_16 : Hid ((w16).cell? ⟨w7.heap.size, 0, none⟩ = some (.int .i64 p)) := (X15.out).cell b0_15.out
  have b1_16 : Hid ((w16).cell? ⟨w7.heap.size, 1, none⟩ = some (.slice (some ⟨g3, 0, none⟩) d d)) := (X15.out).cell b1_15.out
  have SW_16 := Lib.hid (SW_15.out.ext X15.out)
  have SX0_16 := Lib.hid (SX0_15.out.ext X15.out)
  have SX1_16 := Lib.hid (O14.out.ext X15.out)
  have SG_16 := Lib.hid (SG_15.out.ext X15.out)
  have Z16 : Hid ((w15).heap.size ≤ (w16).heap.size) := (X15.out).size'
  clear E15 c0_15 c1_15 b0_15 b1_15 SW_15 SX0_15 O14 SG_15
  clear H
  clear hkneg
  clear SX0_16 DX0
  clear SX1_16
  go_wp2_with (fail)
  refine (l_mark _ ra1 rn rc1 ys 1 _ (by omega) (by omega) (by omega) SG_16.out).mono ?_
  rintro e w17 ⟨rfl, o16, x16⟩
  have O16 := Lib.hid o16
  have X16 : Hid (WroteIn (w8).heap.size (w9).heap.size w16 w17) := x16.inR DG.out
  clear x16 o16
  have E17 : Hid (Ext w w17) := X16.out.ext E16.out (by have z0 := Zb.out; have z1 := Z2.out; have z2 := Z3.out; have z3 := Z4.out; have z4 := Z5.out; have z5 := Z6.out; have z6 := Z7.out; have z7 := Zx0.out; have z8 := Z8.out; have z9 := Z9.out; have z10 := Z10.out; have z11 := Z11.out; have z12 := Z12.out; have z13 := Z13.out; have z14 := Z14.out; have z15 := Z15.out; have z16 := Z16.out; omega)
  have c0_17 : Hid ((w17).cell? ⟨w.heap.size, 0, none⟩ = some (.int .i64 p)) := X16.out.cell c0_16.out (by show w.heap.size < (w8).heap.size ∨ (w9).heap.size ≤ w.heap.size; have z0 := Zb.out; have z1 := Z2.out; have z2 := Z3.out; have z3 := Z4.out; have z4 := Z5.out; have z5 := Z6.out; have z6 := Z7.out; have z7 := Zx0.out; have z8 := Z8.out; have z9 := Z9.out; have z10 := Z10.out; have z11 := Z11.out; have z12 := Z12.out; have z13 := Z13.out; have z14 := Z14.out; have z15 := Z15.out; have z16 := Z16.out; omega)
  have c1_17 : Hid ((w17).cell? ⟨w.heap.size, 1, none⟩ = some (.slice a d cap)) := X16.out.cell c1_16.out (by show w.heap.size < (w8).heap.size ∨ (w9).heap.size ≤ w.heap.size; have z0 := Zb.out; have z1 := Z2.out; have z2 := Z3.out; have z3 := Z4.out; have z4 := Z5.out; have z5 := Z6.out; have z6 := Z7.out; have z7 := Zx0.out; have z8 := Z8.out; have z9 := Z9.out; have z10 := Z10.out; have z11 := Z11.out; have z12 := Z12.out; have z13 := Z13.out; have z14 := Z14.out; have z15 := Z15.out; have z16 := Z16.out; omega)
  have b0_17 : Hid ((w17).cell? ⟨w7.heap.size, 0, none⟩ = some (.int .i64 p)) := X16.out.cell b0_16.out (by show w7.heap.size < (w8).heap.size ∨ (w9).heap.size ≤ w7.heap.size; have z0 := Zb.out; have z1 := Z2.out; have z2 := Z3.out; have z3 := Z4.out; have z4 := Z5.out; have z5 := Z6.out; have z6 := Z7.out; have z7 := Zx0.out; have z8 := Z8.out; have z9 := Z9.out; have z10 := Z10.out; have z11 := Z11.out; have z12 := Z12.out; have z13 := Z13.out; have z14 := Z14.out; have z15 := Z15.out; have z16 := Z16.out; omega)
  have b1_17 : Hid ((w17).cell? ⟨w7.heap.size, 1, none⟩ = some (.slice (some ⟨g3, 0, none⟩) d d)) := X16.out.cell b1_16.out (by show w7.heap.size < (w8).heap.size ∨ (w9).heap.size ≤ w7.heap.size; have z0 := Zb.out; have z1 := Z2.out; have z2 := Z3.out; have z3 := Z4.out; have z4 := Z5.out; have z5 := Z6.out; have z6 := Z7.out; have z7 := Zx0.out; have z8 := Z8.out; have z9 := Z9.out; have z10 := Z10.out; have z11 := Z11.out; have z12 := Z12.out; have z13 := Z13.out; have z14 := Z14.out; have z15 := Z15.out; have z16 := Z16.out; omega)
  have SW_17 := Lib.hid (X16.out.own SW_16.out (fun g hg => by have h1 := DW.out g hg; have z0 := Zb.out; have z1 := Z2.out; have z2 := Z3.out; have z3 := Z4.out; have z4 := Z5.out; have z5 := Z6.out; have z6 := Z7.out; have z7 := Zx0.out; have z8 := Z8.out; have z9 := Z9.out; have z10 := Z10.out; have z11 := Z11.out; have z12 := Z12.out; have z13 := Z13.out; have z14 := Z14.out; have z15 := Z15.out; have z16 := Z16.out; omega))
  have Z17 : Hid ((w16).heap.size ≤ (w17).heap.size) := X16.out.size
  clear E16 c0_16 c1_16 b0_16 b1_16 SW_16 SG_16
  go_wp2_with (fail)
  refine (l_held ra1 rn rc1 1 _ (by omega) (by omega) (by omega) O16.out.rd).mono ?_
  rintro e w18 ⟨rfl, x17⟩
  have X17 := Lib.hid x17
  clear x17
  have E18 : Hid (Ext w w18) := E17.out.trans X17.out
  have c0_18 : Hid ((w18).cell? ⟨w.heap.size, 0, none⟩ = some (.int .i64 p)) := (X17.out).cell c0_17.out
  have c1_18 : Hid ((w18).cell? ⟨w.heap.size, 1, none⟩ = some (.slice a d cap)) := (X17.out).cell c1_17.out
  have b0_18 : Hid ((w18).cell? ⟨w7.heap.size, 0, none⟩ = some (.int .i64 p)) := (X17.out).cell b0_17.out
  have b1_18 : Hid ((w18).cell? ⟨w7.heap.size, 1, none⟩ = some (.slice (some ⟨g3, 0, none⟩) d d)) := (X17.out).cell b1_17.out
  have SW_18 := Lib.hid (SW_17.out.ext X17.out)
  have SG_18 := Lib.hid (O16.out.ext X17.out)
  have Z18 : Hid ((w17).heap.size ≤ (w18).heap.size) := (X17.out).size'
  clear E17 c0_17 c1_17 b0_17 b1_17 SW_17 O16
  have hqm : ((1 + (rn : Int)) != (1 + (rn : Int))) = false := by simp
  have hqn : ¬ (1 + (rn : Int)) < 0 := by omega
  have hc0 := c0_18.out
  have hc1 := c1_18.out
  go_wp2_with (fail)
  clear hc0 hc1
  refine (l_toSpace p a d cap qs _ (by omega) (HQ0.out.ext E18.out)).mono ?_
  rintro e w19 ⟨g6, rfl, o18, x18⟩
  have X18 := Lib.hid x18
  have O18 := Lib.hid o18
  have DB0 : Hid (∀ g, (some ⟨g6, 0, none⟩ : Option Addr) = some ⟨g, 0, none⟩ → (w18).heap.size ≤ g ∧ g < (w19).heap.size) := OwnC.base_of O18.out
  clear x18 o18
  have E19 : Hid (Ext w w19) := E18.out.trans X18.out
  have c0_19 : Hid ((w19).cell? ⟨w.heap.size, 0, none⟩ = some (.int .i64 p)) := (X18.out).cell c0_18.out
  have c1_19 : Hid ((w19).cell? ⟨w.heap.size, 1, none⟩ = some (.slice a d cap)) := (X18.out).cell c1_18.out
  have b0_19 : Hid ((w19).cell? ⟨w7.heap.size, 0, none⟩ = some (.int .i64 p)) := (X18.out).cell b0_18.out
  have b1_19 : Hid ((w19).cell? ⟨w7.heap.size, 1, none⟩ = some (.slice (some ⟨g3, 0, none⟩) d d)) := (X18.out).cell b1_18.out
  have SW_19 := Lib.hid (SW_18.out.ext X18.out)
  have SG_19 := Lib.hid (SG_18.out.ext X18.out)
  have Z19 : Hid ((w18).heap.size ≤ (w19).heap.size) := (X18.out).size'
  clear E18 c0_18 c1_18 b0_18 b1_18 SW_18 SG_18
  go_wp2_with (fail)
  refine (l_toRows ax1 n1 cx1 xs1 _ (by omega) HL1.out (HX1.out.ext E19.out)).mono ?_
  rintro e w20 ⟨g7, rfl, o19, x19⟩
  have X19 := Lib.hid x19
  have O19 := Lib.hid o19.high
  clear x19 o19
  have E20 : Hid (Ext w w20) := E19.out.trans X19.out
  have c0_20 : Hid ((w20).cell? ⟨w.heap.size, 0, none⟩ = some (.int .i64 p)) := (X19.out).cell c0_19.out
  have c1_20 : Hid ((w20).cell? ⟨w.heap.size, 1, none⟩ = some (.slice a d cap)) := (X19.out).cell c1_19.out
  have b0_20 : Hid ((w20).cell? ⟨w7.heap.size, 0, none⟩ = some (.int .i64 p)) := (X19.out).cell b0_19.out
  have b1_20 : Hid ((w20).cell? ⟨w7.heap.size, 1, none⟩ = some (.slice (some ⟨g3, 0, none⟩) d d)) := (X19.out).cell b1_19.out
  have SW_20 := Lib.hid (SW_19.out.ext X19.out)
  have SG_20 := Lib.hid (SG_19.out.ext X19.out)
  have SB0_20 := Lib.hid (O18.out.ext X19.out)
  have Z20 : Hid ((w19).heap.size ≤ (w20).heap.size) := (X19.out).size'
  clear E19 c0_19 c1_19 b0_19 b1_19 SW_19 SG_19 O18
  go_wp2_with (fail)
  refine (Hi.out _ _ _ _ _ SB0_20.out.rd O19.out.low.rd).mono ?_
  rintro e w21 ⟨ra2, rc2, rfl, o20, x20⟩
  have X20 := Lib.hid x20
  have O20 := Lib.hid o20
  have DH : Hid (∀ g, ra2 = some ⟨g, 0, none⟩ → (w20).heap.size ≤ g ∧ g < (w21).heap.size) := OwnC.base_of O20.out
  clear x20 o20
  have E21 : Hid (Ext w w21) := E20.out.trans X20.out
  have c0_21 : Hid ((w21).cell? ⟨w.heap.size, 0, none⟩ = some (.int .i64 p)) := (X20.out).cell c0_20.out
  have c1_21 : Hid ((w21).cell? ⟨w.heap.size, 1, none⟩ = some (.slice a d cap)) := (X20.out).cell c1_20.out
  have b0_21 : Hid ((w21).cell? ⟨w7.heap.size, 0, none⟩ = some (.int .i64 p)) := (X20.out).cell b0_20.out
  have b1_21 : Hid ((w21).cell? ⟨w7.heap.size, 1, none⟩ = some (.slice (some ⟨g3, 0, none⟩) d d)) := (X20.out).cell b1_20.out
  have SW_21 := Lib.hid (SW_20.out.ext X20.out)
  have SG_21 := Lib.hid (SG_20.out.ext X20.out)
  have SB0_21 := Lib.hid (SB0_20.out.ext X20.out)
  have SB1_21 := Lib.hid (O19.out.ext X20.out)
  have Z21 : Hid ((w20).heap.size ≤ (w21).heap.size) := (X20.out).size'
  clear E20 c0_20 c1_20 b0_20 b1_20 SW_20 SG_20 SB0_20 O19
  go_wp2_with (fail)
  have H := l_eqInts ra2 ra0 rn rn rc2 rc0 ys ys w21 (by omega) (by omega) O20.out.rd SW_21.out.rd
  rw [eqB_self] at H
  refine (H).mono ?_
  rintro e w22 ⟨rfl, x21⟩
  have X21 := Lib.hid x21
  clear x21
  have E22 : Hid (Ext w w22) := E21.out.trans X21.out
  have c0_22 : Hid ((w22).cell? ⟨w.heap.size, 0, none⟩ = some (.int .i64 p)) := (X21.out).cell c0_21.out
  have c1_22 : Hid ((w22).cell? ⟨w.heap.size, 1, none⟩ = some (.slice a d cap)) := (X21.out).cell c1_21.out
  have b0_22 : Hid ((w22).cell? ⟨w7.heap.size, 0, none⟩ = some (.int .i64 p)) := (X21.out).cell b0_21.out
  have b1_22 : Hid ((w22).cell? ⟨w7.heap.size, 1, none⟩ = some (.slice (some ⟨g3, 0, none⟩) d d)) := (X21.out).cell b1_21.out
  have SW_22 := Lib.hid (SW_21.out.ext X21.out)
  have SG_22 := Lib.hid (SG_21.out.ext X21.out)
  have SB0_22 := Lib.hid (SB0_21.out.ext X21.out)
  have SB1_22 := Lib.hid (SB1_21.out.ext X21.out)
  have SH_22 := Lib.hid (O20.out.ext X21.out)
  have Z22 : Hid ((w21).heap.size ≤ (w22).heap.size) := (X21.out).size'
  clear E21 c0_21 c1_21 b0_21 b1_21 SW_21 SG_21 SB0_21 SB1_21 O20
  clear H
  go_wp2_with (fail)
  refine (l_held ra1 rn rc1 1 _ (by omega) (by omega) (by omega) SG_22.out.rd).mono ?_
  rintro e w23 ⟨rfl, x22⟩
  have X22 := Lib.hid x22
  clear x22
  have E23 : Hid (Ext w w23) := E22.out.trans X22.out
  have c0_23 : Hid ((w23).cell? ⟨w.heap.size, 0, none⟩ = some (.int .i64 p)) := (X22.out).cell c0_22.out
  have c1_23 : Hid ((w23).cell? ⟨w.heap.size, 1, none⟩ = some (.slice a d cap)) := (X22.out).cell c1_22.out
  have b0_23 : Hid ((w23).cell? ⟨w7.heap.size, 0, none⟩ = some (.int .i64 p)) := (X22.out).cell b0_22.out
  have b1_23 : Hid ((w23).cell? ⟨w7.heap.size, 1, none⟩ = some (.slice (some ⟨g3, 0, none⟩) d d)) := (X22.out).cell b1_22.out
  have SW_23 := Lib.hid (SW_22.out.ext X22.out)
  have SG_23 := Lib.hid (SG_22.out.ext X22.out)
  have SB0_23 := Lib.hid (SB0_22.out.ext X22.out)
  have SB1_23 := Lib.hid (SB1_22.out.ext X22.out)
  have SH_23 := Lib.hid (SH_22.out.ext X22.out)
  have Z23 : Hid ((w22).heap.size ≤ (w23).heap.size) := (X22.out).size'
  clear E22 c0_22 c1_22 b0_22 b1_22 SW_22 SG_22 SB0_22 SB1_22 SH_22
  go_wp2_with (fail)
  go_ret
  exact ⟨rfl, E23.out⟩

theorem law_ExactSphereThrough (w : World) (p : Int) (a : Option Addr) (d cap : Nat) (qs : List Int) (hq : RdC w a d qs) (hmd : d ≤ maxLen) (ax1 : Option Addr) (n1 cx1 : Nat) (xs1 : List (List Int)) (hx1 : RdR w ax1 n1 xs1) (hmn1 : n1 ≤ maxLen) (hml1 : ∀ j, j < n1 → (nthR xs1 j).length ≤ maxLen) :
    Calls Try.prog 3 #[.agg #[.int .i64 p, .slice a d cap], .slice ax1 n1 cx1] w fun e w' => e = .returned (.bool true) ∧ Ext w w' := by
  by_cases hb : 1048576 < d ∨ (d ≤ 1048576 ∧ szR (1048576 - (d : Int)) xs1 < 0)
  · exact w_SphereThrough_big p a d cap qs ax1 n1 cx1 xs1 w hq hmd hx1 hmn1 hml1 hb
  · have hd : d ≤ 1048576 := by omega
    have hsz1 : 0 ≤ szR (1048576 - (d : Int)) xs1 := by omega
    have hbd1 := szR_bd hsz1
    rw [hx1.1] at hbd1
    have hn1 : n1 ≤ 1048576 := by omega
    have hT1 : cntR xs1 n1 ≤ 1048576 := by omega
    by_cases hc : codeSp p qs xs1 = 0
    · exact w_SphereThrough p a d cap qs ax1 n1 cx1 xs1 w hd hn1 hT1 hsz1 hq hx1 (d + 2) (sphL p qs xs1) 0 (by obtain ⟨h0, _⟩ := sp_zero hc; obtain ⟨hc0, _⟩ := code18L_zero h0; obtain ⟨_, h4, _⟩ := code18_zero hc0; rw [hq.1] at h4; omega) 
        (fun a cap ax1 cx1 w hq hx1 => s_SphereThrough_ok p a d cap qs ax1 n1 cx1 xs1 w (by omega) (by omega) (fun j hj => Nat.le_trans (cntR_row xs1 hj) (by omega)) hq hx1 hc) (fun a cap ax1 cx1 w hq hx1 => c_SphereThrough_ok p a d cap qs ax1 n1 cx1 xs1 w (by omega) (by omega) (fun j hj => Nat.le_trans (cntR_row xs1 hj) (by omega)) hq hx1 hc)
    · exact w_SphereThrough p a d cap qs ax1 n1 cx1 xs1 w hd hn1 hT1 hsz1 hq hx1 0 [] _ (by omega) 
        (fun a cap ax1 cx1 w hq hx1 => s_SphereThrough_bad p a d cap qs ax1 n1 cx1 xs1 w (by omega) (by omega) (fun j hj => Nat.le_trans (cntR_row xs1 hj) (by omega)) hq hx1 hc) (fun a cap ax1 cx1 w hq hx1 => c_SphereThrough_bad p a d cap qs ax1 n1 cx1 xs1 w (by omega) (by omega) (fun j hj => Nat.le_trans (cntR_row xs1 hj) (by omega)) hq hx1 hc)

end Go.Proofs.Ytnabpmafcflljaa
