/-
  The walk of the law FnExactMatrixBracket: it returns true and leaves what was there as it was.
  No condition.
-/
import Derived.Test.YthflmmgolegonaaPart1
import Derived.Test.YthflmmgolegonaaPart5
namespace Go.Proofs.Ythflmmgolegonaa
set_option maxRecDepth 100000
open Go.RowKit

set_option maxHeartbeats 2000000 in
set_option maxRecDepth 100000 in
theorem w_MatrixBracket_big (p : Int) (a : Option Addr) (d cap : Nat) (qs : List Int) (ax1 : Option Addr) (n1 cx1 : Nat) (xs1 : List (List Int)) (ax2 : Option Addr) (n2 cx2 : Nat) (xs2 : List (List Int)) (w : World) (_hq : RdC w a d qs) (hmd : d ≤ maxLen) (_hx1 : RdR w ax1 n1 xs1) (_hmn1 : n1 ≤ maxLen) (_hml1 : ∀ j, j < n1 → (nthR xs1 j).length ≤ maxLen) (_hx2 : RdR w ax2 n2 xs2) (_hmn2 : n2 ≤ maxLen) (_hml2 : ∀ j, j < n2 → (nthR xs2 j).length ≤ maxLen) (hb : 1048576 < d ∨ (d ≤ 1048576 ∧ szR (1048576 - (d : Int)) xs1 < 0) ∨ (d ≤ 1048576 ∧ 0 ≤ szR (1048576 - (d : Int)) xs1 ∧ szR (szR (1048576 - (d : Int)) xs1) xs2 < 0)) :
    Calls Try.prog 3 #[.agg #[.int .i64 p, .slice a d cap], .slice ax1 n1 cx1, .slice ax2 n2 cx2] w fun e w' => e = .returned (.bool true) ∧ Ext w w' := by
  have HX1 := Lib.hid _hx1
  have HML1 := Lib.hid _hml1
  clear _hx1 _hml1
  have HX2 := Lib.hid _hx2
  have HML2 := Lib.hid _hml2
  clear _hx2 _hml2
  have HB := Lib.hid hb
  clear hb
  by_cases hd : 1048576 < d
  · have HS := Lib.hid (szN_neg (left := 1048576) (n := d) (by omega))
    go_enter Try.func3, Try.ntmps3
    go_wp2_with (go_at_call 6; refine (l_szDoubling _ _ _ _ _ _ (by omega) (by omega) hmd).mono ?_; rintro e w1 ⟨rfl, g1⟩; rw [HS.out])
    go_ret
    exact ⟨rfl, (ext_alloc _ _).trans g1⟩
  by_cases hz1 : szR (1048576 - (d : Int)) xs1 < 0
  ·
    have HS := Lib.hid (szN_pos (left := 1048576) (n := d) (by omega))
    have HL1 := Lib.hid (szR_lt hz1)
    clear HB hz1
    go_enter Try.func3, Try.ntmps3
    go_wp2_with (go_at_call 6; refine (l_szDoubling _ _ _ _ _ _ (by omega) (by omega) hmd).mono ?_; rintro e w1 ⟨rfl, g1⟩; rw [HS.out]; have G := Lib.hid ((ext_alloc _ _).trans g1); clear g1)
    refine (l_szRows ax1 n1 cx1 xs1 (1048576 - (d : Int)) _ (by omega) (by omega) _hmn1 HML1.out (HX1.out.ext G.out)).mono ?_
    rintro e w2 ⟨rfl, g0⟩
    have G0 := Lib.hid (G.out.trans g0)
    clear g0 G
    have G := G0
    rw [HL1.out]
    go_wp2_with (fail)
    go_ret
    exact ⟨rfl, G.out⟩
  have hz2 : szR (szR (1048576 - (d : Int)) xs1) xs2 < 0 := by
    have h := HB.out
    have h0 : 0 ≤ szR (1048576 - (d : Int)) xs1 := by omega
    omega
  have HS := Lib.hid (szN_pos (left := 1048576) (n := d) (by omega))
  obtain ⟨z1, hz1e⟩ : ∃ z, z = szR (1048576 - (d : Int)) xs1 := ⟨_, rfl⟩
  have hb1 : 0 ≤ z1 ∧ z1 ≤ 1048576 := by
    have h := szR_le (left := (1048576 - (d : Int))) (rows := xs1) (by omega); omega
  have hzn1 : ¬ z1 < 0 := by omega
  have HZ1 := Lib.hid hz1e.symm
  rw [← hz1e] at hz2
  have HL2 := Lib.hid (szR_lt hz2)
  clear HB hz2 hz1 hz1e
  go_enter Try.func3, Try.ntmps3
  go_wp2_with (go_at_call 6; refine (l_szDoubling _ _ _ _ _ _ (by omega) (by omega) hmd).mono ?_; rintro e w1 ⟨rfl, g1⟩; rw [HS.out]; have G := Lib.hid ((ext_alloc _ _).trans g1); clear g1)
  refine (l_szRows ax1 n1 cx1 xs1 (1048576 - (d : Int)) _ (by omega) (by omega) _hmn1 HML1.out (HX1.out.ext G.out)).mono ?_
  rintro e w2 ⟨rfl, g0⟩
  have G0 := Lib.hid (G.out.trans g0)
  clear g0 G
  have G := G0
  rw [HZ1.out]
  go_wp2_with (fail)
  refine (l_szRows ax2 n2 cx2 xs2 z1 _ (by omega) (by omega) _hmn2 HML2.out (HX2.out.ext G.out)).mono ?_
  rintro e w3 ⟨rfl, g1⟩
  have G1 := Lib.hid (G.out.trans g1)
  clear g1 G
  have G := G1
  rw [HL2.out]
  go_wp2_with (fail)
  go_ret
  exact ⟨rfl, G.out⟩

set_option maxHeartbeats 8000000 in
set_option maxRecDepth 100000 in
theorem w_MatrixBracket (p : Int) (a : Option Addr) (d cap : Nat) (qs : List Int) (ax1 : Option Addr) (n1 cx1 : Nat) (xs1 : List (List Int)) (ax2 : Option Addr) (n2 cx2 : Nat) (xs2 : List (List Int)) (w : World) (hd : d ≤ 1048576) (hn1 : n1 ≤ 1048576) (hT1 : cntR xs1 n1 ≤ 1048576) (hsz1 : 0 ≤ szR (1048576 - (d : Int)) xs1) (hn2 : n2 ≤ 1048576) (hT2 : cntR xs2 n2 ≤ 1048576) (hsz2 : 0 ≤ szR (szR (1048576 - (d : Int)) xs1) xs2) (hq : RdC w a d qs) (hx1 : RdR w ax1 n1 xs1) (hx2 : RdR w ax2 n2 xs2) (rn : Nat) (ys : List (List Int)) (c : Int) (hrn : rn ≤ 1048576) (hrT : cntR ys rn ≤ 1048576)
    (hs : ∀ (a : Option Addr) (cap : Nat) (ax1 : Option Addr) (cx1 : Nat) (ax2 : Option Addr) (cx2 : Nat) (w : World), RdC w a d qs → RdR w ax1 n1 xs1 → RdR w ax2 n2 xs2 → Calls Try.prog 8 #[.agg #[.int .i64 p, .slice a d cap], .slice ax1 n1 cx1, .slice ax2 n2 cx2] w fun e w' => ∃ ra rc, e = .returned (.tuple #[.slice ra rn rc, .int .i64 c]) ∧ OwnR w.heap.size w' ra rn rc ys ∧ Ext w w')
    (hi : ∀ (a : Option Addr) (cap : Nat) (ax1 : Option Addr) (cx1 : Nat) (ax2 : Option Addr) (cx2 : Nat) (w : World), RdC w a d qs → RdR w ax1 n1 xs1 → RdR w ax2 n2 xs2 → Calls Try.prog 11 #[.agg #[.int .i64 p, .slice a d cap], .slice ax1 n1 cx1, .slice ax2 n2 cx2] w fun e w' => ∃ ra rc, e = .returned (.tuple #[.slice ra rn rc, .int .i64 c]) ∧ OwnR w.heap.size w' ra rn rc ys ∧ Ext w w') :
    Calls Try.prog 3 #[.agg #[.int .i64 p, .slice a d cap], .slice ax1 n1 cx1, .slice ax2 n2 cx2] w fun e w' => e = .returned (.bool true) ∧ Ext w w' := by
  have HS := Lib.hid (szN_pos (left := 1048576) (n := d) (by omega))
  have HQ0 := Lib.hid hq
  have Hs := Lib.hid hs
  have Hi := Lib.hid hi
  have hccb : (c != c) = false := by simp
  have HX1 := Lib.hid hx1
  have HL1 : Hid (∀ j, j < n1 → (nthR xs1 j).length ≤ 4194304) := Lib.hid (fun j hj => Nat.le_trans (cntR_row xs1 hj) (by omega))
  clear hx1
  have HX2 := Lib.hid hx2
  have HL2 : Hid (∀ j, j < n2 → (nthR xs2 j).length ≤ 4194304) := Lib.hid (fun j hj => Nat.le_trans (cntR_row xs2 hj) (by omega))
  clear hx2
  have HLy : Hid (∀ j, j < rn → (nthR ys j).length ≤ 4194304) := Lib.hid (fun j hj => Nat.le_trans (cntR_row ys hj) (by omega))
  obtain ⟨z1, hz1e⟩ : ∃ z, z = szR (1048576 - (d : Int)) xs1 := ⟨_, rfl⟩
  rw [← hz1e] at hsz1 hsz2
  have hzb1 : z1 ≤ 1048576 := by have h := szR_le (left := (1048576 - (d : Int))) (rows := xs1) (by omega); omega
  have hzn1 : ¬ z1 < 0 := by omega
  have HZ1 := Lib.hid hz1e.symm
  clear hz1e
  obtain ⟨z2, hz2e⟩ : ∃ z, z = szR (z1) xs2 := ⟨_, rfl⟩
  rw [← hz2e] at hsz2
  have hzb2 : z2 ≤ 1048576 := by have h := szR_le (left := (z1)) (rows := xs2) (by omega); omega
  have hzn2 : ¬ z2 < 0 := by omega
  have HZ2 := Lib.hid hz2e.symm
  clear hz2e
  clear hs hi hq
  go_enter Try.func3, Try.ntmps3
  go_wp2_with (go_at_call 6; refine (l_szDoubling _ _ _ _ _ _ (by omega) (by omega) (by unfold maxLen; omega)).mono ?_; rintro e w1 ⟨rfl, g1⟩; rw [HS.out]; have hcl := Ext.cells g1; have hz := g1.size'; simp only [World.size_alloc] at hcl hz)
  have E1 : Hid (Ext w w1) := (ext_alloc w (.cells #[.int .i64 p, .slice a d cap] 24)).trans g1
  have c0_1 : Hid (w1.cell? ⟨w.heap.size, 0, none⟩ = some (.int .i64 p)) := g1.cell (by simp)
  have c1_1 : Hid (w1.cell? ⟨w.heap.size, 1, none⟩ = some (.slice a d cap)) := g1.cell (by simp)
  have Zb : Hid (w.heap.size < w1.heap.size) := hz
  clear hcl hz g1
  refine (l_szRows ax1 n1 cx1 xs1 (1048576 - (d : Int)) _ (by omega) (by omega) (by unfold maxLen; omega) (fun j hj => by have := HL1.out j hj; unfold maxLen; omega) (HX1.out.ext E1.out)).mono ?_
  rintro e w3 ⟨rfl, x2⟩
  have X2 := Lib.hid x2
  clear x2
  have E2 : Hid (Ext w w3) := E1.out.trans X2.out
  have c0_2 : Hid ((w3).cell? ⟨w.heap.size, 0, none⟩ = some (.int .i64 p)) := (X2.out).cell c0_1.out
  have c1_2 : Hid ((w3).cell? ⟨w.heap.size, 1, none⟩ = some (.slice a d cap)) := (X2.out).cell c1_1.out
  have Z2 : Hid ((w1).heap.size ≤ (w3).heap.size) := (X2.out).size'
  clear E1 c0_1 c1_1
  rw [HZ1.out]
  go_wp2_with (fail)
  refine (l_szRows ax2 n2 cx2 xs2 z1 _ (by omega) (by omega) (by unfold maxLen; omega) (fun j hj => by have := HL2.out j hj; unfold maxLen; omega) (HX2.out.ext E2.out)).mono ?_
  rintro e w4 ⟨rfl, x3⟩
  have X3 := Lib.hid x3
  clear x3
  have E3 : Hid (Ext w w4) := E2.out.trans X3.out
  have c0_3 : Hid ((w4).cell? ⟨w.heap.size, 0, none⟩ = some (.int .i64 p)) := (X3.out).cell c0_2.out
  have c1_3 : Hid ((w4).cell? ⟨w.heap.size, 1, none⟩ = some (.slice a d cap)) := (X3.out).cell c1_2.out
  have Z3 : Hid ((w3).heap.size ≤ (w4).heap.size) := (X3.out).size'
  clear E2 c0_2 c1_2
  rw [HZ2.out]
  have hc0 := c0_3.out
  have hc1 := c1_3.out
  go_wp2_with (fail)
  clear hc0 hc1
  refine (l_toDoubling p a d cap qs _ (by omega) (HQ0.out.ext E3.out)).mono ?_
  rintro e w5 ⟨g1, rfl, o4, x4⟩
  have X4 := Lib.hid x4
  have O4 := Lib.hid o4
  have DA0 : Hid (∀ g, (some ⟨g1, 0, none⟩ : Option Addr) = some ⟨g, 0, none⟩ → (w4).heap.size ≤ g ∧ g < (w5).heap.size) := OwnC.base_of O4.out
  clear x4 o4
  have E4 : Hid (Ext w w5) := E3.out.trans X4.out
  have c0_4 : Hid ((w5).cell? ⟨w.heap.size, 0, none⟩ = some (.int .i64 p)) := (X4.out).cell c0_3.out
  have c1_4 : Hid ((w5).cell? ⟨w.heap.size, 1, none⟩ = some (.slice a d cap)) := (X4.out).cell c1_3.out
  have Z4 : Hid ((w4).heap.size ≤ (w5).heap.size) := (X4.out).size'
  clear E3 c0_3 c1_3
  go_wp2_with (fail)
  refine (l_toRows ax1 n1 cx1 xs1 _ (by omega) HL1.out (HX1.out.ext E4.out)).mono ?_
  rintro e w6 ⟨g2, rfl, o5, x5⟩
  have X5 := Lib.hid x5
  have O5 := Lib.hid o5.high
  clear x5 o5
  have E5 : Hid (Ext w w6) := E4.out.trans X5.out
  have c0_5 : Hid ((w6).cell? ⟨w.heap.size, 0, none⟩ = some (.int .i64 p)) := (X5.out).cell c0_4.out
  have c1_5 : Hid ((w6).cell? ⟨w.heap.size, 1, none⟩ = some (.slice a d cap)) := (X5.out).cell c1_4.out
  have SA0_5 := Lib.hid (O4.out.ext X5.out)
  have Z5 : Hid ((w5).heap.size ≤ (w6).heap.size) := (X5.out).size'
  clear E4 c0_4 c1_4 O4
  go_wp2_with (fail)
  refine (l_toRows ax2 n2 cx2 xs2 _ (by omega) HL2.out (HX2.out.ext E5.out)).mono ?_
  rintro e w7 ⟨g3, rfl, o6, x6⟩
  have X6 := Lib.hid x6
  have O6 := Lib.hid o6.high
  clear x6 o6
  have E6 : Hid (Ext w w7) := E5.out.trans X6.out
  have c0_6 : Hid ((w7).cell? ⟨w.heap.size, 0, none⟩ = some (.int .i64 p)) := (X6.out).cell c0_5.out
  have c1_6 : Hid ((w7).cell? ⟨w.heap.size, 1, none⟩ = some (.slice a d cap)) := (X6.out).cell c1_5.out
  have SA0_6 := Lib.hid (SA0_5.out.ext X6.out)
  have SA1_6 := Lib.hid (O5.out.ext X6.out)
  have Z6 : Hid ((w6).heap.size ≤ (w7).heap.size) := (X6.out).size'
  clear E5 c0_5 c1_5 SA0_5 O5
  go_wp2_with (fail)
  refine (Hs.out _ _ _ _ _ _ _ SA0_6.out.rd SA1_6.out.low.rd O6.out.low.rd).mono ?_
  rintro e w8 ⟨ra0, rc0, rfl, o7, x7⟩
  have X7 := Lib.hid x7
  have O7 := Lib.hid o7.high
  clear x7 o7
  have E7 : Hid (Ext w w8) := E6.out.trans X7.out
  have c0_7 : Hid ((w8).cell? ⟨w.heap.size, 0, none⟩ = some (.int .i64 p)) := (X7.out).cell c0_6.out
  have c1_7 : Hid ((w8).cell? ⟨w.heap.size, 1, none⟩ = some (.slice a d cap)) := (X7.out).cell c1_6.out
  have SA0_7 := Lib.hid (SA0_6.out.ext X7.out)
  have SA1_7 := Lib.hid (SA1_6.out.ext X7.out)
  have SA2_7 := Lib.hid (O6.out.ext X7.out)
  have Z7 : Hid ((w7).heap.size ≤ (w8).heap.size) := (X7.out).size'
  clear E6 c0_6 c1_6 SA0_6 SA1_6 O6
  clear SA0_7 DA0
  clear SA1_7
  clear SA2_7
  have hc0 := c0_7.out
  have hc1 := c1_7.out
  go_wp2_with (fail)
  clear hc0 hc1
  refine (l_toDoubling p a d cap qs _ (by omega) (HQ0.out.ext E7.out)).mono ?_
  rintro e w9 ⟨g4, rfl, o8, x8⟩
  have X8 := Lib.hid x8
  have O8 := Lib.hid o8
  have DX0 : Hid (∀ g, (some ⟨g4, 0, none⟩ : Option Addr) = some ⟨g, 0, none⟩ → (w8).heap.size ≤ g ∧ g < (w9).heap.size) := OwnC.base_of O8.out
  clear x8 o8
  have E8 : Hid (Ext w w9) := E7.out.trans X8.out
  have c0_8 : Hid ((w9).cell? ⟨w.heap.size, 0, none⟩ = some (.int .i64 p)) := (X8.out).cell c0_7.out
  have c1_8 : Hid ((w9).cell? ⟨w.heap.size, 1, none⟩ = some (.slice a d cap)) := (X8.out).cell c1_7.out
  have SW_8 := Lib.hid (O7.out.ext X8.out)
  have Z8 : Hid ((w8).heap.size ≤ (w9).heap.size) := (X8.out).size'
  clear E7 c0_7 c1_7 O7
  have XB := Lib.hid (ext_alloc w9 (.cells #[.int .i64 p, .slice (some ⟨g4, 0, none⟩) d d] 30))
  have E9 : Hid (Ext w (w9.alloc (.cells #[.int .i64 p, .slice (some ⟨g4, 0, none⟩) d d] 30))) := E8.out.trans XB.out
  have c0_9 : Hid (((w9.alloc (.cells #[.int .i64 p, .slice (some ⟨g4, 0, none⟩) d d] 30))).cell? ⟨w.heap.size, 0, none⟩ = some (.int .i64 p)) := (XB.out).cell c0_8.out
  have c1_9 : Hid (((w9.alloc (.cells #[.int .i64 p, .slice (some ⟨g4, 0, none⟩) d d] 30))).cell? ⟨w.heap.size, 1, none⟩ = some (.slice a d cap)) := (XB.out).cell c1_8.out
  have SW_9 := Lib.hid (SW_8.out.ext XB.out)
  have SX0_9 := Lib.hid (O8.out.ext XB.out)
  have Z9 : Hid ((w9).heap.size ≤ ((w9.alloc (.cells #[.int .i64 p, .slice (some ⟨g4, 0, none⟩) d d] 30))).heap.size) := (XB.out).size'
  clear E8 c0_8 c1_8 SW_8 O8
  have b0_9 : Hid ((w9.alloc (.cells #[.int .i64 p, .slice (some ⟨g4, 0, none⟩) d d] 30)).cell? ⟨w9.heap.size, 0, none⟩ = some (.int .i64 p)) := by show _ = _; simp
  have b1_9 : Hid ((w9.alloc (.cells #[.int .i64 p, .slice (some ⟨g4, 0, none⟩) d d] 30)).cell? ⟨w9.heap.size, 1, none⟩ = some (.slice (some ⟨g4, 0, none⟩) d d)) := by show _ = _; simp
  have Zx0 : Hid (w9.heap.size < (w9.alloc (.cells #[.int .i64 p, .slice (some ⟨g4, 0, none⟩) d d] 30)).heap.size) := by show _ < _; simp
  go_wp2_with (fail)
  refine (l_toRows ax1 n1 cx1 xs1 _ (by omega) HL1.out (HX1.out.ext E9.out)).mono ?_
  rintro e w10 ⟨g5, rfl, o9, x9⟩
  have X9 := Lib.hid x9
  have O9 := Lib.hid o9.high
  clear x9 o9
  have E10 : Hid (Ext w w10) := E9.out.trans X9.out
  have c0_10 : Hid ((w10).cell? ⟨w.heap.size, 0, none⟩ = some (.int .i64 p)) := (X9.out).cell c0_9.out
  have c1_10 : Hid ((w10).cell? ⟨w.heap.size, 1, none⟩ = some (.slice a d cap)) := (X9.out).cell c1_9.out
  have b0_10 : Hid ((w10).cell? ⟨w9.heap.size, 0, none⟩ = some (.int .i64 p)) := (X9.out).cell b0_9.out
  have b1_10 : Hid ((w10).cell? ⟨w9.heap.size, 1, none⟩ = some (.slice (some ⟨g4, 0, none⟩) d d)) := (X9.out).cell b1_9.out
  have SW_10 := Lib.hid (SW_9.out.ext X9.out)
  have SX0_10 := Lib.hid (SX0_9.out.ext X9.out)
  have Z10 : Hid (((w9.alloc (.cells #[.int .i64 p, .slice (some ⟨g4, 0, none⟩) d d] 30))).heap.size ≤ (w10).heap.size) := (X9.out).size'
  clear E9 c0_9 c1_9 b0_9 b1_9 SW_9 SX0_9
  go_wp2_with (fail)
  refine (l_toRows ax2 n2 cx2 xs2 _ (by omega) HL2.out (HX2.out.ext E10.out)).mono ?_
  rintro e w11 ⟨g6, rfl, o10, x10⟩
  have X10 := Lib.hid x10
  have O10 := Lib.hid o10.high
  clear x10 o10
  have E11 : Hid (Ext w w11) := E10.out.trans X10.out
  have c0_11 : Hid ((w11).cell? ⟨w.heap.size, 0, none⟩ = some (.int .i64 p)) := (X10.out).cell c0_10.out
  have c1_11 : Hid ((w11).cell? ⟨w.heap.size, 1, none⟩ = some (.slice a d cap)) := (X10.out).cell c1_10.out
  have b0_11 : Hid ((w11).cell? ⟨w9.heap.size, 0, none⟩ = some (.int .i64 p)) := (X10.out).cell b0_10.out
  have b1_11 : Hid ((w11).cell? ⟨w9.heap.size, 1, none⟩ = some (.slice (some ⟨g4, 0, none⟩) d d)) := (X10.out).cell b1_10.out
  have SW_11 := Lib.hid (SW_10.out.ext X10.out)
  have SX0_11 := Lib.hid (SX0_10.out.ext X10.out)
  have SX1_11 := Lib.hid (O9.out.ext X10.out)
  have Z11 : Hid ((w10).heap.size ≤ (w11).heap.size) := (X10.out).size'
  clear E10 c0_10 c1_10 b0_10 b1_10 SW_10 SX0_10 O9
  have hb0 := b0_11.out
  have hb1 := b1_11.out
  go_wp2_with (fail)
  clear hb0 hb1
  refine (Hi.out _ _ _ _ _ _ _ SX0_11.out.rd SX1_11.out.low.rd O10.out.low.rd).mono ?_
  rintro e w12 ⟨ra1, rc1, rfl, o11, x11⟩
  have X11 := Lib.hid x11
  have O11 := Lib.hid o11.high
  clear x11 o11
  have E12 : Hid (Ext w w12) := E11.out.trans X11.out
  have c0_12 : Hid ((w12).cell? ⟨w.heap.size, 0, none⟩ = some (.int .i64 p)) := (X11.out).cell c0_11.out
  have c1_12 : Hid ((w12).cell? ⟨w.heap.size, 1, none⟩ = some (.slice a d cap)) := (X11.out).cell c1_11.out
  have b0_12 : Hid ((w12).cell? ⟨w9.heap.size, 0, none⟩ = some (.int .i64 p)) := (X11.out).cell b0_11.out
  have b1_12 : Hid ((w12).cell? ⟨w9.heap.size, 1, none⟩ = some (.slice (some ⟨g4, 0, none⟩) d d)) := (X11.out).cell b1_11.out
  have SW_12 := Lib.hid (SW_11.out.ext X11.out)
  have SX0_12 := Lib.hid (SX0_11.out.ext X11.out)
  have SX1_12 := Lib.hid (SX1_11.out.ext X11.out)
  have SX2_12 := Lib.hid (O10.out.ext X11.out)
  have Z12 : Hid ((w11).heap.size ≤ (w12).heap.size) := (X11.out).size'
  clear E11 c0_11 c1_11 b0_11 b1_11 SW_11 SX0_11 SX1_11 O10
  go_wp2_with (fail)
  have H := l_eqRows ra1 ra0 rn rn rc1 rc0 ys ys w12 (by omega) (by omega) HLy.out HLy.out O11.out.low.rd SW_12.out.low.rd
  rw [eqR_self] at H
  refine (H).mono ?_
  rintro e w13 ⟨rfl, x12⟩
  have X12 := Lib.hid x12
  clear x12
  have E13 : Hid (Ext w w13) := E12.out.trans X12.out
  have c0_13 : Hid ((w13).cell? ⟨w.heap.size, 0, none⟩ = some (.int .i64 p)) := (X12.out).cell c0_12.out
  have c1_13 : Hid ((w13).cell? ⟨w.heap.size, 1, none⟩ = some (.slice a d cap)) := (X12.out).cell c1_12.out
  have b0_13 : Hid ((w13).cell? ⟨w9.heap.size, 0, none⟩ = some (.int .i64 p)) := (X12.out).cell b0_12.out
  have b1_13 : Hid ((w13).cell? ⟨w9.heap.size, 1, none⟩ = some (.slice (some ⟨g4, 0, none⟩) d d)) := (X12.out).cell b1_12.out
  have SW_13 := Lib.hid (SW_12.out.ext X12.out)
  have SX0_13 := Lib.hid (SX0_12.out.ext X12.out)
  have SX1_13 := Lib.hid (SX1_12.out.ext X12.out)
  have SX2_13 := Lib.hid (SX2_12.out.ext X12.out)
  have SG_13 := Lib.hid (O11.out.ext X12.out)
  have Z13 : Hid ((w12).heap.size ≤ (w13).heap.size) := (X12.out).size'
  clear E12 c0_12 c1_12 b0_12 b1_12 SW_12 SX0_12 SX1_12 SX2_12 O11
  clear H
  have Hc0 : Hid ((w13).drew.cell? ⟨w.heap.size, 0, none⟩ = some (.int .i64 p)) := (ext_drew _).cell c0_13.out
  have Hc1 : Hid ((w13).drew.cell? ⟨w.heap.size, 1, none⟩ = some (.slice a d cap)) := (ext_drew _).cell c1_13.out
  have Hb0 : Hid ((w13).drew.cell? ⟨w9.heap.size, 0, none⟩ = some (.int .i64 p)) := (ext_drew _).cell b0_13.out
  have Hb1 : Hid ((w13).drew.cell? ⟨w9.heap.size, 1, none⟩ = some (.slice (some ⟨g4, 0, none⟩) d d)) := (ext_drew _).cell b1_13.out
  have HR0 : Hid (RdC (w13).drew (some ⟨g4, 0, none⟩) d qs) := (SX0_13.out.rd).ext (ext_drew _)
  have HR1 : Hid (RdC (w13).drew a d qs) := HQ0.out.ext (E13.out.trans (ext_drew _))
  go_wp2_with (fail)
  refine wp_region_lex [(2, .sp p d qs), (3, .val (.bool true))] (by kernel_rfl) (by kernel_rfl) ?_
  repeat' first | (refine LexW.pure (v := ?_) rfl rfl (fun w1 he => ?_) ?_; rotate_left; ( have hc0 := he.cell Hc0.out; have hc1 := he.cell Hc1.out; have hb0 := he.cell Hb0.out; have hb1 := he.cell Hb1.out; go_simp; rfl); simp only [Act.put, List.setIfInBounds_toArray, List.set_cons_zero, List.set_cons_succ]) | (refine LexW.callR (f := ?_) (args := ?_) rfl rfl (fun w1 => ?_) (fun w1 he hdep => ?_) (fun v hv => ?_); rotate_left 2; (go_simp; refine ⟨?_, ?_⟩ <;> rfl); ( refine (l_toDoubling p a d cap qs w1 (by omega) (HR1.out.ext he)).mono ?_; rintro e w2 ⟨g8, rfl, o8, x8⟩; exact ⟨_, rfl, x8, g8, rfl, o8.rd⟩); simp only [Act.put, List.setIfInBounds_toArray, List.set_cons_zero, List.set_cons_succ]) | (refine LexW.call (f := ?_) (args := ?_) rfl rfl (fun w1 => ?_) (fun w1 he hdep => ?_) ?_; rotate_left 2; (go_simp; refine ⟨?_, ?_⟩ <;> rfl); ( obtain ⟨g8, h8, r8⟩ : (SPred.sp p d qs).holds _ w1 := hdep (2, 69) (by decide +kernel); subst h8; have H := l_eqDoubling p _ _ d d d d qs qs w1 (by omega) (by omega) (HR0.out.ext he) r8; rw [eqB_self] at H; exact H); simp only [Act.put, List.setIfInBounds_toArray, List.set_cons_zero, List.set_cons_succ])
  refine LexW.nil (fun w14 he hk => ?_)
  have X13 : Hid (Ext w13 w14) := (ext_drew _).trans he
  clear he hk Hc0 Hc1 Hb0 Hb1 HR0 HR1
  have E14 : Hid (Ext w w14) := E13.out.trans X13.out
  have c0_14 : Hid ((w14).cell? ⟨w.heap.size, 0, none⟩ = some (.int .i64 p)) := (X13.out).cell c0_13.out
  have c1_14 : Hid ((w14).cell? ⟨w.heap.size, 1, none⟩ = some (.slice a d cap)) := (X13.out).cell c1_13.out
  have b0_14 : Hid ((w14).cell? ⟨w9.heap.size, 0, none⟩ = some (.int .i64 p)) := (X13.out).cell b0_13.out
  have b1_14 : Hid ((w14).cell? ⟨w9.heap.size, 1, none⟩ = some (.slice (some ⟨g4, 0, none⟩) d d)) := (X13.out).cell b1_13.out
  have SW_14 := Lib.hid (SW_13.out.ext X13.out)
  have SX0_14 := Lib.hid (SX0_13.out.ext X13.out)
  have SX1_14 := Lib.hid (SX1_13.out.ext X13.out)
  have SX2_14 := Lib.hid (SX2_13.out.ext X13.out)
  have SG_14 := Lib.hid (SG_13.out.ext X13.out)
  have Z14 : Hid ((w13).heap.size ≤ (w14).heap.size) := (X13.out).size'
  clear E13 c0_13 c1_13 b0_13 b1_13 SW_13 SX0_13 SX1_13 SX2_13 SG_13
  go_wp2_with (fail)
  refine (l_toRows ax1 n1 cx1 xs1 _ (by omega) HL1.out (HX1.out.ext E14.out)).mono ?_
  rintro e w15 ⟨g7, rfl, o14, x14⟩
  have X14 := Lib.hid x14
  have O14 := Lib.hid o14.high
  clear x14 o14
  have E15 : Hid (Ext w w15) := E14.out.trans X14.out
  have c0_15 : Hid ((w15).cell? ⟨w.heap.size, 0, none⟩ = some (.int .i64 p)) := (X14.out).cell c0_14.out
  have c1_15 : Hid ((w15).cell? ⟨w.heap.size, 1, none⟩ = some (.slice a d cap)) := (X14.out).cell c1_14.out
  have b0_15 : Hid ((w15).cell? ⟨w9.heap.size, 0, none⟩ = some (.int .i64 p)) := (X14.out).cell b0_14.out
  have b1_15 : Hid ((w15).cell? ⟨w9.heap.size, 1, none⟩ = some (.slice (some ⟨g4, 0, none⟩) d d)) := (X14.out).cell b1_14.out
  have SW_15 := Lib.hid (SW_14.out.ext X14.out)
  have SX0_15 := Lib.hid (SX0_14.out.ext X14.out)
  have SX1_15 := Lib.hid (SX1_14.out.ext X14.out)
  have SX2_15 := Lib.hid (SX2_14.out.ext X14.out)
  have SG_15 := Lib.hid (SG_14.out.ext X14.out)
  have Z15 : Hid ((w14).heap.size ≤ (w15).heap.size) := (X14.out).size'
  clear E14 c0_14 c1_14 b0_14 b1_14 SW_14 SX0_14 SX1_14 SX2_14 SG_14
  go_wp2_with (fail)
  have H := l_eqRows (some ⟨g5, 0, none⟩) (some ⟨g7, 0, none⟩) n1 n1 n1 n1 xs1 xs1 w15 (by omega) (by omega) HL1.out HL1.out SX1_15.out.low.rd O14.out.low.rd
  rw [eqR_self] at H
  refine (H).mono ?_
  rintro e w16 ⟨rfl, x15⟩
  have X15 := Lib.hid x15
  clear x15
  have E16 : Hid (Ext w w16) := E15.out.trans X15.out
  have c0_16 : Hid ((w16).cell? ⟨w.heap.size, 0, none⟩ = some (.int .i64 p)) := (X15.out).cell c0_15.out
  have c1_16 : Hid ((w16).cell? ⟨w.heap.size, 1, none⟩ = some (.slice a d cap)) := (X15.out).cell c1_15.out
  have b0_16 : Hid ((w16).cell? ⟨w9.heap.size, 0, none⟩ = some (.int .i64 p)) := (X15.out).cell b0_15.out
  have b1_16 : Hid ((w16).cell? ⟨w9.heap.size, 1, none⟩ = some (.slice (some ⟨g4, 0, none⟩) d d)) := (X15.out).cell b1_15.out
  have SW_16 := Lib.hid (SW_15.out.ext X15.out)
  have SX0_16 := Lib.hid (SX0_15.out.ext X15.out)
  have SX1_16 := Lib.hid (SX1_15.out.ext X15.out)
  have SX2_16 := Lib.hid (SX2_15.out.ext X15.out)
  have SG_16 := Lib.hid (SG_15.out.ext X15.out)
  have SY1_16 := Lib.hid (O14.out.ext X15.out)
  have Z16 : Hid ((w15).heap.size ≤ (w16).heap.size) := (X15.out).size'
  clear E15 c0_15 c1_15 b0_15 b1_15 SW_15 SX0_15 SX1_15 SX2_15 SG_15 O14
  clear H
  clear SY1_16
  go_wp2_with (fail)
  refine (l_toRows ax2 n2 cx2 xs2 _ (by omega) HL2.out (HX2.out.ext E16.out)).mono ?_
  rintro e w17 ⟨g8, rfl, o16, x16⟩
  have X16 := Lib.hid x16
  have O16 := Lib.hid o16.high
  clear x16 o16
  have E17 : Hid (Ext w w17) := E16.out.trans X16.out
  have c0_17 : Hid ((w17).cell? ⟨w.heap.size, 0, none⟩ = some (.int .i64 p)) := (X16.out).cell c0_16.out
  have c1_17 : Hid ((w17).cell? ⟨w.heap.size, 1, none⟩ = some (.slice a d cap)) := (X16.out).cell c1_16.out
  have b0_17 : Hid ((w17).cell? ⟨w9.heap.size, 0, none⟩ = some (.int .i64 p)) := (X16.out).cell b0_16.out
  have b1_17 : Hid ((w17).cell? ⟨w9.heap.size, 1, none⟩ = some (.slice (some ⟨g4, 0, none⟩) d d)) := (X16.out).cell b1_16.out
  have SW_17 := Lib.hid (SW_16.out.ext X16.out)
  have SX0_17 := Lib.hid (SX0_16.out.ext X16.out)
  have SX1_17 := Lib.hid (SX1_16.out.ext X16.out)
  have SX2_17 := Lib.hid (SX2_16.out.ext X16.out)
  have SG_17 := Lib.hid (SG_16.out.ext X16.out)
  have Z17 : Hid ((w16).heap.size ≤ (w17).heap.size) := (X16.out).size'
  clear E16 c0_16 c1_16 b0_16 b1_16 SW_16 SX0_16 SX1_16 SX2_16 SG_16
  go_wp2_with (fail)
  have H := l_eqRows (some ⟨g6, 0, none⟩) (some ⟨g8, 0, none⟩) n2 n2 n2 n2 xs2 xs2 w17 (by omega) (by omega) HL2.out HL2.out SX2_17.out.low.rd O16.out.low.rd
  rw [eqR_self] at H
  refine (H).mono ?_
  rintro e w18 ⟨rfl, x17⟩
  have X17 := Lib.hid x17
  clear x17
  have E18 : Hid (Ext w w18) := E17.out.trans X17.out
  have c0_18 : Hid ((w18).cell? ⟨w.heap.size, 0, none⟩ = some (.int .i64 p)) := (X17.out).cell c0_17.out
  have c1_18 : Hid ((w18).cell? ⟨w.heap.size, 1, none⟩ = some (.slice a d cap)) := (X17.out).cell c1_17.out
  have b0_18 : Hid ((w18).cell? ⟨w9.heap.size, 0, none⟩ = some (.int .i64 p)) := (X17.out).cell b0_17.out
  have b1_18 : Hid ((w18).cell? ⟨w9.heap.size, 1, none⟩ = some (.slice (some ⟨g4, 0, none⟩) d d)) := (X17.out).cell b1_17.out
  have SW_18 := Lib.hid (SW_17.out.ext X17.out)
  have SX0_18 := Lib.hid (SX0_17.out.ext X17.out)
  have SX1_18 := Lib.hid (SX1_17.out.ext X17.out)
  have SX2_18 := Lib.hid (SX2_17.out.ext X17.out)
  have SG_18 := Lib.hid (SG_17.out.ext X17.out)
  have SY2_18 := Lib.hid (O16.out.ext X17.out)
  have Z18 : Hid ((w17).heap.size ≤ (w18).heap.size) := (X17.out).size'
  clear E17 c0_17 c1_17 b0_17 b1_17 SW_17 SX0_17 SX1_17 SX2_17 SG_17 O16
  clear H
  clear SY2_18
  have hb0 := b0_18.out
  have hb1 := b1_18.out
  go_wp2_with (fail)
  clear hb0 hb1
  refine (l_markDoubling _ p (some ⟨g4, 0, none⟩) d d qs (1) _ (by omega) (by omega) (by omega) SX0_18.out).mono ?_
  rintro e w19 ⟨rfl, o18, x18⟩
  have O18 := Lib.hid o18
  have X18 : Hid (WroteIn (w8).heap.size (w9).heap.size w18 w19) := x18.inR DX0.out
  clear x18 o18
  have E19 : Hid (Ext w w19) := X18.out.ext E18.out (by have z0 := Zb.out; have z1 := Z2.out; have z2 := Z3.out; have z3 := Z4.out; have z4 := Z5.out; have z5 := Z6.out; have z6 := Z7.out; have z7 := Z8.out; have z8 := Z9.out; have z9 := Zx0.out; have z10 := Z10.out; have z11 := Z11.out; have z12 := Z12.out; have z13 := Z13.out; have z14 := Z14.out; have z15 := Z15.out; have z16 := Z16.out; have z17 := Z17.out; have z18 := Z18.out; omega)
  have c0_19 : Hid ((w19).cell? ⟨w.heap.size, 0, none⟩ = some (.int .i64 p)) := X18.out.cell c0_18.out (by show w.heap.size < (w8).heap.size ∨ (w9).heap.size ≤ w.heap.size; have z0 := Zb.out; have z1 := Z2.out; have z2 := Z3.out; have z3 := Z4.out; have z4 := Z5.out; have z5 := Z6.out; have z6 := Z7.out; have z7 := Z8.out; have z8 := Z9.out; have z9 := Zx0.out; have z10 := Z10.out; have z11 := Z11.out; have z12 := Z12.out; have z13 := Z13.out; have z14 := Z14.out; have z15 := Z15.out; have z16 := Z16.out; have z17 := Z17.out; have z18 := Z18.out; omega)
  have c1_19 : Hid ((w19).cell? ⟨w.heap.size, 1, none⟩ = some (.slice a d cap)) := X18.out.cell c1_18.out (by show w.heap.size < (w8).heap.size ∨ (w9).heap.size ≤ w.heap.size; have z0 := Zb.out; have z1 := Z2.out; have z2 := Z3.out; have z3 := Z4.out; have z4 := Z5.out; have z5 := Z6.out; have z6 := Z7.out; have z7 := Z8.out; have z8 := Z9.out; have z9 := Zx0.out; have z10 := Z10.out; have z11 := Z11.out; have z12 := Z12.out; have z13 := Z13.out; have z14 := Z14.out; have z15 := Z15.out; have z16 := Z16.out; have z17 := Z17.out; have z18 := Z18.out; omega)
  have b0_19 : Hid ((w19).cell? ⟨w9.heap.size, 0, none⟩ = some (.int .i64 p)) := X18.out.cell b0_18.out (by show w9.heap.size < (w8).heap.size ∨ (w9).heap.size ≤ w9.heap.size; have z0 := Zb.out; have z1 := Z2.out; have z2 := Z3.out; have z3 := Z4.out; have z4 := Z5.out; have z5 := Z6.out; have z6 := Z7.out; have z7 := Z8.out; have z8 := Z9.out; have z9 := Zx0.out; have z10 := Z10.out; have z11 := Z11.out; have z12 := Z12.out; have z13 := Z13.out; have z14 := Z14.out; have z15 := Z15.out; have z16 := Z16.out; have z17 := Z17.out; have z18 := Z18.out; omega)
  have b1_19 : Hid ((w19).cell? ⟨w9.heap.size, 1, none⟩ = some (.slice (some ⟨g4, 0, none⟩) d d)) := X18.out.cell b1_18.out (by show w9.heap.size < (w8).heap.size ∨ (w9).heap.size ≤ w9.heap.size; have z0 := Zb.out; have z1 := Z2.out; have z2 := Z3.out; have z3 := Z4.out; have z4 := Z5.out; have z5 := Z6.out; have z6 := Z7.out; have z7 := Z8.out; have z8 := Z9.out; have z9 := Zx0.out; have z10 := Z10.out; have z11 := Z11.out; have z12 := Z12.out; have z13 := Z13.out; have z14 := Z14.out; have z15 := Z15.out; have z16 := Z16.out; have z17 := Z17.out; have z18 := Z18.out; omega)
  have SW_19 := Lib.hid (X18.out.ownR SW_18.out (by have z0 := Zb.out; have z1 := Z2.out; have z2 := Z3.out; have z3 := Z4.out; have z4 := Z5.out; have z5 := Z6.out; have z6 := Z7.out; have z7 := Z8.out; have z8 := Z9.out; have z9 := Zx0.out; have z10 := Z10.out; have z11 := Z11.out; have z12 := Z12.out; have z13 := Z13.out; have z14 := Z14.out; have z15 := Z15.out; have z16 := Z16.out; have z17 := Z17.out; have z18 := Z18.out; omega))
  have SX1_19 := Lib.hid (X18.out.ownR SX1_18.out (by have z0 := Zb.out; have z1 := Z2.out; have z2 := Z3.out; have z3 := Z4.out; have z4 := Z5.out; have z5 := Z6.out; have z6 := Z7.out; have z7 := Z8.out; have z8 := Z9.out; have z9 := Zx0.out; have z10 := Z10.out; have z11 := Z11.out; have z12 := Z12.out; have z13 := Z13.out; have z14 := Z14.out; have z15 := Z15.out; have z16 := Z16.out; have z17 := Z17.out; have z18 := Z18.out; omega))
  have SX2_19 := Lib.hid (X18.out.ownR SX2_18.out (by have z0 := Zb.out; have z1 := Z2.out; have z2 := Z3.out; have z3 := Z4.out; have z4 := Z5.out; have z5 := Z6.out; have z6 := Z7.out; have z7 := Z8.out; have z8 := Z9.out; have z9 := Zx0.out; have z10 := Z10.out; have z11 := Z11.out; have z12 := Z12.out; have z13 := Z13.out; have z14 := Z14.out; have z15 := Z15.out; have z16 := Z16.out; have z17 := Z17.out; have z18 := Z18.out; omega))
  have SG_19 := Lib.hid (X18.out.ownR SG_18.out (by have z0 := Zb.out; have z1 := Z2.out; have z2 := Z3.out; have z3 := Z4.out; have z4 := Z5.out; have z5 := Z6.out; have z6 := Z7.out; have z7 := Z8.out; have z8 := Z9.out; have z9 := Zx0.out; have z10 := Z10.out; have z11 := Z11.out; have z12 := Z12.out; have z13 := Z13.out; have z14 := Z14.out; have z15 := Z15.out; have z16 := Z16.out; have z17 := Z17.out; have z18 := Z18.out; omega))
  have Z19 : Hid ((w18).heap.size ≤ (w19).heap.size) := X18.out.size
  clear E18 c0_18 c1_18 b0_18 b1_18 SW_18 SX1_18 SX2_18 SG_18 SX0_18
  go_wp2_with (fail)
  refine (l_markRows ((w9.alloc (.cells #[.int .i64 p, .slice (some ⟨g4, 0, none⟩) d d] 30))).heap.size (w10).heap.size (some ⟨g5, 0, none⟩) n1 n1 xs1 (1 + (d : Int)) _ (by omega) (by omega) (by omega) (by omega) SX1_19.out).mono ?_
  rintro e w20 ⟨rfl, o19, x19⟩
  have O19 := Lib.hid o19
  have X19 : Hid (WroteIn ((w9.alloc (.cells #[.int .i64 p, .slice (some ⟨g4, 0, none⟩) d d] 30))).heap.size (w10).heap.size w19 w20) := x19
  clear x19 o19
  have E20 : Hid (Ext w w20) := X19.out.ext E19.out (by have z0 := Zb.out; have z1 := Z2.out; have z2 := Z3.out; have z3 := Z4.out; have z4 := Z5.out; have z5 := Z6.out; have z6 := Z7.out; have z7 := Z8.out; have z8 := Z9.out; have z9 := Zx0.out; have z10 := Z10.out; have z11 := Z11.out; have z12 := Z12.out; have z13 := Z13.out; have z14 := Z14.out; have z15 := Z15.out; have z16 := Z16.out; have z17 := Z17.out; have z18 := Z18.out; have z19 := Z19.out; omega)
  have c0_20 : Hid ((w20).cell? ⟨w.heap.size, 0, none⟩ = some (.int .i64 p)) := X19.out.cell c0_19.out (by show w.heap.size < ((w9.alloc (.cells #[.int .i64 p, .slice (some ⟨g4, 0, none⟩) d d] 30))).heap.size ∨ (w10).heap.size ≤ w.heap.size; have z0 := Zb.out; have z1 := Z2.out; have z2 := Z3.out; have z3 := Z4.out; have z4 := Z5.out; have z5 := Z6.out; have z6 := Z7.out; have z7 := Z8.out; have z8 := Z9.out; have z9 := Zx0.out; have z10 := Z10.out; have z11 := Z11.out; have z12 := Z12.out; have z13 := Z13.out; have z14 := Z14.out; have z15 := Z15.out; have z16 := Z16.out; have z17 := Z17.out; have z18 := Z18.out; have z19 := Z19.out; omega)
  have c1_20 : Hid ((w20).cell? ⟨w.heap.size, 1, none⟩ = some (.slice a d cap)) := X19.out.cell c1_19.out (by show w.heap.size < ((w9.alloc (.cells #[.int .i64 p, .slice (some ⟨g4, 0, none⟩) d d] 30))).heap.size ∨ (w10).heap.size ≤ w.heap.size; have z0 := Zb.out; have z1 := Z2.out; have z2 := Z3.out; have z3 := Z4.out; have z4 := Z5.out; have z5 := Z6.out; have z6 := Z7.out; have z7 := Z8.out; have z8 := Z9.out; have z9 := Zx0.out; have z10 := Z10.out; have z11 := Z11.out; have z12 := Z12.out; have z13 := Z13.out; have z14 := Z14.out; have z15 := Z15.out; have z16 := Z16.out; have z17 := Z17.out; have z18 := Z18.out; have z19 := Z19.out; omega)
  have b0_20 : Hid ((w20).cell? ⟨w9.heap.size, 0, none⟩ = some (.int .i64 p)) := X19.out.cell b0_19.out (by show w9.heap.size < ((w9.alloc (.cells #[.int .i64 p, .slice (some ⟨g4, 0, none⟩) d d] 30))).heap.size ∨ (w10).heap.size ≤ w9.heap.size; have z0 := Zb.out; have z1 := Z2.out; have z2 := Z3.out; have z3 := Z4.out; have z4 := Z5.out; have z5 := Z6.out; have z6 := Z7.out; have z7 := Z8.out; have z8 := Z9.out; have z9 := Zx0.out; have z10 := Z10.out; have z11 := Z11.out; have z12 := Z12.out; have z13 := Z13.out; have z14 := Z14.out; have z15 := Z15.out; have z16 := Z16.out; have z17 := Z17.out; have z18 := Z18.out; have z19 := Z19.out; omega)
  have b1_20 : Hid ((w20).cell? ⟨w9.heap.size, 1, none⟩ = some (.slice (some ⟨g4, 0, none⟩) d d)) := X19.out.cell b1_19.out (by show w9.heap.size < ((w9.alloc (.cells #[.int .i64 p, .slice (some ⟨g4, 0, none⟩) d d] 30))).heap.size ∨ (w10).heap.size ≤ w9.heap.size; have z0 := Zb.out; have z1 := Z2.out; have z2 := Z3.out; have z3 := Z4.out; have z4 := Z5.out; have z5 := Z6.out; have z6 := Z7.out; have z7 := Z8.out; have z8 := Z9.out; have z9 := Zx0.out; have z10 := Z10.out; have z11 := Z11.out; have z12 := Z12.out; have z13 := Z13.out; have z14 := Z14.out; have z15 := Z15.out; have z16 := Z16.out; have z17 := Z17.out; have z18 := Z18.out; have z19 := Z19.out; omega)
  have SW_20 := Lib.hid (X19.out.ownR SW_19.out (by have z0 := Zb.out; have z1 := Z2.out; have z2 := Z3.out; have z3 := Z4.out; have z4 := Z5.out; have z5 := Z6.out; have z6 := Z7.out; have z7 := Z8.out; have z8 := Z9.out; have z9 := Zx0.out; have z10 := Z10.out; have z11 := Z11.out; have z12 := Z12.out; have z13 := Z13.out; have z14 := Z14.out; have z15 := Z15.out; have z16 := Z16.out; have z17 := Z17.out; have z18 := Z18.out; have z19 := Z19.out; omega))
  have SX0_20 := Lib.hid (X19.out.own O18.out (fun g hg => by have h1 := DX0.out g hg; have z0 := Zb.out; have z1 := Z2.out; have z2 := Z3.out; have z3 := Z4.out; have z4 := Z5.out; have z5 := Z6.out; have z6 := Z7.out; have z7 := Z8.out; have z8 := Z9.out; have z9 := Zx0.out; have z10 := Z10.out; have z11 := Z11.out; have z12 := Z12.out; have z13 := Z13.out; have z14 := Z14.out; have z15 := Z15.out; have z16 := Z16.out; have z17 := Z17.out; have z18 := Z18.out; have z19 := Z19.out; omega))
  have SX2_20 := Lib.hid (X19.out.ownR SX2_19.out (by have z0 := Zb.out; have z1 := Z2.out; have z2 := Z3.out; have z3 := Z4.out; have z4 := Z5.out; have z5 := Z6.out; have z6 := Z7.out; have z7 := Z8.out; have z8 := Z9.out; have z9 := Zx0.out; have z10 := Z10.out; have z11 := Z11.out; have z12 := Z12.out; have z13 := Z13.out; have z14 := Z14.out; have z15 := Z15.out; have z16 := Z16.out; have z17 := Z17.out; have z18 := Z18.out; have z19 := Z19.out; omega))
  have SG_20 := Lib.hid (X19.out.ownR SG_19.out (by have z0 := Zb.out; have z1 := Z2.out; have z2 := Z3.out; have z3 := Z4.out; have z4 := Z5.out; have z5 := Z6.out; have z6 := Z7.out; have z7 := Z8.out; have z8 := Z9.out; have z9 := Zx0.out; have z10 := Z10.out; have z11 := Z11.out; have z12 := Z12.out; have z13 := Z13.out; have z14 := Z14.out; have z15 := Z15.out; have z16 := Z16.out; have z17 := Z17.out; have z18 := Z18.out; have z19 := Z19.out; omega))
  have Z20 : Hid ((w19).heap.size ≤ (w20).heap.size) := X19.out.size
  clear E19 c0_19 c1_19 b0_19 b1_19 SW_19 O18 SX2_19 SG_19 SX1_19
  go_wp2_with (fail)
  refine (l_markRows (w10).heap.size (w11).heap.size (some ⟨g6, 0, none⟩) n2 n2 xs2 (1 + (d : Int) + (cntR xs1 n1 : Int)) _ (by omega) (by omega) (by omega) (by omega) SX2_20.out).mono ?_
  rintro e w21 ⟨rfl, o20, x20⟩
  have O20 := Lib.hid o20
  have X20 : Hid (WroteIn (w10).heap.size (w11).heap.size w20 w21) := x20
  clear x20 o20
  have E21 : Hid (Ext w w21) := X20.out.ext E20.out (by have z0 := Zb.out; have z1 := Z2.out; have z2 := Z3.out; have z3 := Z4.out; have z4 := Z5.out; have z5 := Z6.out; have z6 := Z7.out; have z7 := Z8.out; have z8 := Z9.out; have z9 := Zx0.out; have z10 := Z10.out; have z11 := Z11.out; have z12 := Z12.out; have z13 := Z13.out; have z14 := Z14.out; have z15 := Z15.out; have z16 := Z16.out; have z17 := Z17.out; have z18 := Z18.out; have z19 := Z19.out; have z20 := Z20.out; omega)
  have c0_21 : Hid ((w21).cell? ⟨w.heap.size, 0, none⟩ = some (.int .i64 p)) := X20.out.cell c0_20.out (by show w.heap.size < (w10).heap.size ∨ (w11).heap.size ≤ w.heap.size; have z0 := Zb.out; have z1 := Z2.out; have z2 := Z3.out; have z3 := Z4.out; have z4 := Z5.out; have z5 := Z6.out; have z6 := Z7.out; have z7 := Z8.out; have z8 := Z9.out; have z9 := Zx0.out; have z10 := Z10.out; have z11 := Z11.out; have z12 := Z12.out; have z13 := Z13.out; have z14 := Z14.out; have z15 := Z15.out; have z16 := Z16.out; have z17 := Z17.out; have z18 := Z18.out; have z19 := Z19.out; have z20 := Z20.out; omega)
  have c1_21 : Hid ((w21).cell? ⟨w.heap.size, 1, none⟩ = some (.slice a d cap)) := X20.out.cell c1_20.out (by show w.heap.size < (w10).heap.size ∨ (w11).heap.size ≤ w.heap.size; have z0 := Zb.out; have z1 := Z2.out; have z2 := Z3.out; have z3 := Z4.out; have z4 := Z5.out; have z5 := Z6.out; have z6 := Z7.out; have z7 := Z8.out; have z8 := Z9.out; have z9 := Zx0.out; have z10 := Z10.out; have z11 := Z11.out; have z12 := Z12.out; have z13 := Z13.out; have z14 := Z14.out; have z15 := Z15.out; have z16 := Z16.out; have z17 := Z17.out; have z18 := Z18.out; have z19 := Z19.out; have z20 := Z20.out; omega)
  have b0_21 : Hid ((w21).cell? ⟨w9.heap.size, 0, none⟩ = some (.int .i64 p)) := X20.out.cell b0_20.out (by show w9.heap.size < (w10).heap.size ∨ (w11).heap.size ≤ w9.heap.size; have z0 := Zb.out; have z1 := Z2.out; have z2 := Z3.out; have z3 := Z4.out; have z4 := Z5.out; have z5 := Z6.out; have z6 := Z7.out; have z7 := Z8.out; have z8 := Z9.out; have z9 := Zx0.out; have z10 := Z10.out; have z11 := Z11.out; have z12 := Z12.out; have z13 := Z13.out; have z14 := Z14.out; have z15 := Z15.out; have z16 := Z16.out; have z17 := Z17.out; have z18 := Z18.out; have z19 := Z19.out; have z20 := Z20.out; omega)
  have b1_21 : Hid ((w21).cell? ⟨w9.heap.size, 1, none⟩ = some (.slice (some ⟨g4, 0, none⟩) d d)) := X20.out.cell b1_20.out (by show w9.heap.size < (w10).heap.size ∨ (w11).heap.size ≤ w9.heap.size; have z0 := Zb.out; have z1 := Z2.out; have z2 := Z3.out; have z3 := Z4.out; have z4 := Z5.out; have z5 := Z6.out; have z6 := Z7.out; have z7 := Z8.out; have z8 := Z9.out; have z9 := Zx0.out; have z10 := Z10.out; have z11 := Z11.out; have z12 := Z12.out; have z13 := Z13.out; have z14 := Z14.out; have z15 := Z15.out; have z16 := Z16.out; have z17 := Z17.out; have z18 := Z18.out; have z19 := Z19.out; have z20 := Z20.out; omega)
  have SW_21 := Lib.hid (X20.out.ownR SW_20.out (by have z0 := Zb.out; have z1 := Z2.out; have z2 := Z3.out; have z3 := Z4.out; have z4 := Z5.out; have z5 := Z6.out; have z6 := Z7.out; have z7 := Z8.out; have z8 := Z9.out; have z9 := Zx0.out; have z10 := Z10.out; have z11 := Z11.out; have z12 := Z12.out; have z13 := Z13.out; have z14 := Z14.out; have z15 := Z15.out; have z16 := Z16.out; have z17 := Z17.out; have z18 := Z18.out; have z19 := Z19.out; have z20 := Z20.out; omega))
  have SX0_21 := Lib.hid (X20.out.own SX0_20.out (fun g hg => by have h1 := DX0.out g hg; have z0 := Zb.out; have z1 := Z2.out; have z2 := Z3.out; have z3 := Z4.out; have z4 := Z5.out; have z5 := Z6.out; have z6 := Z7.out; have z7 := Z8.out; have z8 := Z9.out; have z9 := Zx0.out; have z10 := Z10.out; have z11 := Z11.out; have z12 := Z12.out; have z13 := Z13.out; have z14 := Z14.out; have z15 := Z15.out; have z16 := Z16.out; have z17 := Z17.out; have z18 := Z18.out; have z19 := Z19.out; have z20 := Z20.out; omega))
  have SX1_21 := Lib.hid (X20.out.ownR O19.out (by have z0 := Zb.out; have z1 := Z2.out; have z2 := Z3.out; have z3 := Z4.out; have z4 := Z5.out; have z5 := Z6.out; have z6 := Z7.out; have z7 := Z8.out; have z8 := Z9.out; have z9 := Zx0.out; have z10 := Z10.out; have z11 := Z11.out; have z12 := Z12.out; have z13 := Z13.out; have z14 := Z14.out; have z15 := Z15.out; have z16 := Z16.out; have z17 := Z17.out; have z18 := Z18.out; have z19 := Z19.out; have z20 := Z20.out; omega))
  have SG_21 := Lib.hid (X20.out.ownR SG_20.out (by have z0 := Zb.out; have z1 := Z2.out; have z2 := Z3.out; have z3 := Z4.out; have z4 := Z5.out; have z5 := Z6.out; have z6 := Z7.out; have z7 := Z8.out; have z8 := Z9.out; have z9 := Zx0.out; have z10 := Z10.out; have z11 := Z11.out; have z12 := Z12.out; have z13 := Z13.out; have z14 := Z14.out; have z15 := Z15.out; have z16 := Z16.out; have z17 := Z17.out; have z18 := Z18.out; have z19 := Z19.out; have z20 := Z20.out; omega))
  have Z21 : Hid ((w20).heap.size ≤ (w21).heap.size) := X20.out.size
  clear E20 c0_20 c1_20 b0_20 b1_20 SW_20 SX0_20 O19 SG_20 SX2_20
  have hkneg : ¬ (1 + (d : Int) + (cntR xs1 n1 : Int) + (cntR xs2 n2 : Int)) < 0 := by omega
  go_wp2_with (fail)
  have H := l_eqRows ra1 ra0 rn rn rc1 rc0 ys ys w21 (by omega) (by omega) HLy.out HLy.out SG_21.out.low.rd SW_21.out.low.rd
  rw [eqR_self] at H
  refine (H).mono ?_
  rintro e w22 ⟨rfl, x21⟩
  have X21 := Lib.hid x21
  clear x21
  have E22 : Hid (Ext w w22) := E21.out.trans X21.out
  have c0_22 : Hid ((w22).cell? ⟨w.heap.size, 0, none⟩ = some (.int .i64 p)) := (X21.out).cell c0_21.out
  have c1_22 : Hid ((w22).cell? ⟨w.heap.size, 1, none⟩ = some (.slice a d cap)) := (X21.out).cell c1_21.out
  have b0_22 : Hid ((w22).cell? ⟨w9.heap.size, 0, none⟩ = some (.int .i64 p)) := (X21.out).cell b0_21.out
  have b1_22 : Hid ((w22).cell? ⟨w9.heap.size, 1, none⟩ = some (.slice (some ⟨g4, 0, none⟩) d d)) := (X21.out).cell b1_21.out
  have SW_22 := Lib.hid (SW_21.out.ext X21.out)
  have SX0_22 := Lib.hid (SX0_21.out.ext X21.out)
  have SX1_22 := Lib.hid (SX1_21.out.ext X21.out)
  have SX2_22 := Lib.hid (O20.out.ext X21.out)
  have SG_22 := Lib.hid (SG_21.out.ext X21.out)
  have Z22 : Hid ((w21).heap.size ≤ (w22).heap.size) := (X21.out).size'
  clear E21 c0_21 c1_21 b0_21 b1_21 SW_21 SX0_21 SX1_21 O20 SG_21
  clear H
  clear hkneg
  clear SX0_22 DX0
  clear SX1_22
  clear SX2_22
  go_wp2_with (fail)
  refine (l_markRows (w11).heap.size (w12).heap.size ra1 rn rc1 ys 1 _ (by omega) (by omega) (by omega) (by omega) SG_22.out).mono ?_
  rintro e w23 ⟨rfl, o22, x22⟩
  have O22 := Lib.hid o22
  have X22 : Hid (WroteIn (w11).heap.size (w12).heap.size w22 w23) := x22
  clear x22 o22
  have E23 : Hid (Ext w w23) := X22.out.ext E22.out (by have z0 := Zb.out; have z1 := Z2.out; have z2 := Z3.out; have z3 := Z4.out; have z4 := Z5.out; have z5 := Z6.out; have z6 := Z7.out; have z7 := Z8.out; have z8 := Z9.out; have z9 := Zx0.out; have z10 := Z10.out; have z11 := Z11.out; have z12 := Z12.out; have z13 := Z13.out; have z14 := Z14.out; have z15 := Z15.out; have z16 := Z16.out; have z17 := Z17.out; have z18 := Z18.out; have z19 := Z19.out; have z20 := Z20.out; have z21 := Z21.out; have z22 := Z22.out; omega)
  have c0_23 : Hid ((w23).cell? ⟨w.heap.size, 0, none⟩ = some (.int .i64 p)) := X22.out.cell c0_22.out (by show w.heap.size < (w11).heap.size ∨ (w12).heap.size ≤ w.heap.size; have z0 := Zb.out; have z1 := Z2.out; have z2 := Z3.out; have z3 := Z4.out; have z4 := Z5.out; have z5 := Z6.out; have z6 := Z7.out; have z7 := Z8.out; have z8 := Z9.out; have z9 := Zx0.out; have z10 := Z10.out; have z11 := Z11.out; have z12 := Z12.out; have z13 := Z13.out; have z14 := Z14.out; have z15 := Z15.out; have z16 := Z16.out; have z17 := Z17.out; have z18 := Z18.out; have z19 := Z19.out; have z20 := Z20.out; have z21 := Z21.out; have z22 := Z22.out; omega)
  have c1_23 : Hid ((w23).cell? ⟨w.heap.size, 1, none⟩ = some (.slice a d cap)) := X22.out.cell c1_22.out (by show w.heap.size < (w11).heap.size ∨ (w12).heap.size ≤ w.heap.size; have z0 := Zb.out; have z1 := Z2.out; have z2 := Z3.out; have z3 := Z4.out; have z4 := Z5.out; have z5 := Z6.out; have z6 := Z7.out; have z7 := Z8.out; have z8 := Z9.out; have z9 := Zx0.out; have z10 := Z10.out; have z11 := Z11.out; have z12 := Z12.out; have z13 := Z13.out; have z14 := Z14.out; have z15 := Z15.out; have z16 := Z16.out; have z17 := Z17.out; have z18 := Z18.out; have z19 := Z19.out; have z20 := Z20.out; have z21 := Z21.out; have z22 := Z22.out; omega)
  have b0_23 : Hid ((w23).cell? ⟨w9.heap.size, 0, none⟩ = some (.int .i64 p)) := X22.out.cell b0_22.out (by show w9.heap.size < (w11).heap.size ∨ (w12).heap.size ≤ w9.heap.size; have z0 := Zb.out; have z1 := Z2.out; have z2 := Z3.out; have z3 := Z4.out; have z4 := Z5.out; have z5 := Z6.out; have z6 := Z7.out; have z7 := Z8.out; have z8 := Z9.out; have z9 := Zx0.out; have z10 := Z10.out; have z11 := Z11.out; have z12 := Z12.out; have z13 := Z13.out; have z14 := Z14.out; have z15 := Z15.out; have z16 := Z16.out; have z17 := Z17.out; have z18 := Z18.out; have z19 := Z19.out; have z20 := Z20.out; have z21 := Z21.out; have z22 := Z22.out; omega)
  have b1_23 : Hid ((w23).cell? ⟨w9.heap.size, 1, none⟩ = some (.slice (some ⟨g4, 0, none⟩) d d)) := X22.out.cell b1_22.out (by show w9.heap.size < (w11).heap.size ∨ (w12).heap.size ≤ w9.heap.size; have z0 := Zb.out; have z1 := Z2.out; have z2 := Z3.out; have z3 := Z4.out; have z4 := Z5.out; have z5 := Z6.out; have z6 := Z7.out; have z7 := Z8.out; have z8 := Z9.out; have z9 := Zx0.out; have z10 := Z10.out; have z11 := Z11.out; have z12 := Z12.out; have z13 := Z13.out; have z14 := Z14.out; have z15 := Z15.out; have z16 := Z16.out; have z17 := Z17.out; have z18 := Z18.out; have z19 := Z19.out; have z20 := Z20.out; have z21 := Z21.out; have z22 := Z22.out; omega)
  have SW_23 := Lib.hid (X22.out.ownR SW_22.out (by have z0 := Zb.out; have z1 := Z2.out; have z2 := Z3.out; have z3 := Z4.out; have z4 := Z5.out; have z5 := Z6.out; have z6 := Z7.out; have z7 := Z8.out; have z8 := Z9.out; have z9 := Zx0.out; have z10 := Z10.out; have z11 := Z11.out; have z12 := Z12.out; have z13 := Z13.out; have z14 := Z14.out; have z15 := Z15.out; have z16 := Z16.out; have z17 := Z17.out; have z18 := Z18.out; have z19 := Z19.out; have z20 := Z20.out; have z21 := Z21.out; have z22 := Z22.out; omega))
  have Z23 : Hid ((w22).heap.size ≤ (w23).heap.size) := X22.out.size
  clear E22 c0_22 c1_22 b0_22 b1_22 SW_22 SG_22
  go_wp2_with (fail)
  refine (l_heldRows ra1 rn rc1 ys 1 _ (by omega) (by omega) (by omega) (by omega) O22.out.low.rd).mono ?_
  rintro e w24 ⟨rfl, x23⟩
  have X23 := Lib.hid x23
  clear x23
  have E24 : Hid (Ext w w24) := E23.out.trans X23.out
  have c0_24 : Hid ((w24).cell? ⟨w.heap.size, 0, none⟩ = some (.int .i64 p)) := (X23.out).cell c0_23.out
  have c1_24 : Hid ((w24).cell? ⟨w.heap.size, 1, none⟩ = some (.slice a d cap)) := (X23.out).cell c1_23.out
  have b0_24 : Hid ((w24).cell? ⟨w9.heap.size, 0, none⟩ = some (.int .i64 p)) := (X23.out).cell b0_23.out
  have b1_24 : Hid ((w24).cell? ⟨w9.heap.size, 1, none⟩ = some (.slice (some ⟨g4, 0, none⟩) d d)) := (X23.out).cell b1_23.out
  have SW_24 := Lib.hid (SW_23.out.ext X23.out)
  have SG_24 := Lib.hid (O22.out.ext X23.out)
  have Z24 : Hid ((w23).heap.size ≤ (w24).heap.size) := (X23.out).size'
  clear E23 c0_23 c1_23 b0_23 b1_23 SW_23 O22
  have hqm : ((1 + (cntR ys rn : Int)) != (1 + (cntR ys rn : Int))) = false := by simp
  have hqn : ¬ (1 + (cntR ys rn : Int)) < 0 := by omega
  have hc0 := c0_24.out
  have hc1 := c1_24.out
  go_wp2_with (fail)
  clear hc0 hc1
  refine (l_toDoubling p a d cap qs _ (by omega) (HQ0.out.ext E24.out)).mono ?_
  rintro e w25 ⟨g9, rfl, o24, x24⟩
  have X24 := Lib.hid x24
  have O24 := Lib.hid o24
  have DB0 : Hid (∀ g, (some ⟨g9, 0, none⟩ : Option Addr) = some ⟨g, 0, none⟩ → (w24).heap.size ≤ g ∧ g < (w25).heap.size) := OwnC.base_of O24.out
  clear x24 o24
  have E25 : Hid (Ext w w25) := E24.out.trans X24.out
  have c0_25 : Hid ((w25).cell? ⟨w.heap.size, 0, none⟩ = some (.int .i64 p)) := (X24.out).cell c0_24.out
  have c1_25 : Hid ((w25).cell? ⟨w.heap.size, 1, none⟩ = some (.slice a d cap)) := (X24.out).cell c1_24.out
  have b0_25 : Hid ((w25).cell? ⟨w9.heap.size, 0, none⟩ = some (.int .i64 p)) := (X24.out).cell b0_24.out
  have b1_25 : Hid ((w25).cell? ⟨w9.heap.size, 1, none⟩ = some (.slice (some ⟨g4, 0, none⟩) d d)) := (X24.out).cell b1_24.out
  have SW_25 := Lib.hid (SW_24.out.ext X24.out)
  have SG_25 := Lib.hid (SG_24.out.ext X24.out)
  have Z25 : Hid ((w24).heap.size ≤ (w25).heap.size) := (X24.out).size'
  clear E24 c0_24 c1_24 b0_24 b1_24 SW_24 SG_24
  go_wp2_with (fail)
  refine (l_toRows ax1 n1 cx1 xs1 _ (by omega) HL1.out (HX1.out.ext E25.out)).mono ?_
  rintro e w26 ⟨g10, rfl, o25, x25⟩
  have X25 := Lib.hid x25
  have O25 := Lib.hid o25.high
  clear x25 o25
  have E26 : Hid (Ext w w26) := E25.out.trans X25.out
  have c0_26 : Hid ((w26).cell? ⟨w.heap.size, 0, none⟩ = some (.int .i64 p)) := (X25.out).cell c0_25.out
  have c1_26 : Hid ((w26).cell? ⟨w.heap.size, 1, none⟩ = some (.slice a d cap)) := (X25.out).cell c1_25.out
  have b0_26 : Hid ((w26).cell? ⟨w9.heap.size, 0, none⟩ = some (.int .i64 p)) := (X25.out).cell b0_25.out
  have b1_26 : Hid ((w26).cell? ⟨w9.heap.size, 1, none⟩ = some (.slice (some ⟨g4, 0, none⟩) d d)) := (X25.out).cell b1_25.out
  have SW_26 := Lib.hid (SW_25.out.ext X25.out)
  have SG_26 := Lib.hid (SG_25.out.ext X25.out)
  have SB0_26 := Lib.hid (O24.out.ext X25.out)
  have Z26 : Hid ((w25).heap.size ≤ (w26).heap.size) := (X25.out).size'
  clear E25 c0_25 c1_25 b0_25 b1_25 SW_25 SG_25 O24
  go_wp2_with (fail)
  refine (l_toRows ax2 n2 cx2 xs2 _ (by omega) HL2.out (HX2.out.ext E26.out)).mono ?_
  rintro e w27 ⟨g11, rfl, o26, x26⟩
  have X26 := Lib.hid x26
  have O26 := Lib.hid o26.high
  clear x26 o26
  have E27 : Hid (Ext w w27) := E26.out.trans X26.out
  have c0_27 : Hid ((w27).cell? ⟨w.heap.size, 0, none⟩ = some (.int .i64 p)) := (X26.out).cell c0_26.out
  have c1_27 : Hid ((w27).cell? ⟨w.heap.size, 1, none⟩ = some (.slice a d cap)) := (X26.out).cell c1_26.out
  have b0_27 : Hid ((w27).cell? ⟨w9.heap.size, 0, none⟩ = some (.int .i64 p)) := (X26.out).cell b0_26.out
  have b1_27 : Hid ((w27).cell? ⟨w9.heap.size, 1, none⟩ = some (.slice (some ⟨g4, 0, none⟩) d d)) := (X26.out).cell b1_26.out
  have SW_27 := Lib.hid (SW_26.out.ext X26.out)
  have SG_27 := Lib.hid (SG_26.out.ext X26.out)
  have SB0_27 := Lib.hid (SB0_26.out.ext X26.out)
  have SB1_27 := Lib.hid (O25.out.ext X26.out)
  have Z27 : Hid ((w26).heap.size ≤ (w27).heap.size) := (X26.out).size'
  clear E26 c0_26 c1_26 b0_26 b1_26 SW_26 SG_26 SB0_26 O25
  go_wp2_with (fail)
  refine (Hi.out _ _ _ _ _ _ _ SB0_27.out.rd SB1_27.out.low.rd O26.out.low.rd).mono ?_
  rintro e w28 ⟨ra2, rc2, rfl, o27, x27⟩
  have X27 := Lib.hid x27
  have O27 := Lib.hid o27.high
  clear x27 o27
  have E28 : Hid (Ext w w28) := E27.out.trans X27.out
  have c0_28 : Hid ((w28).cell? ⟨w.heap.size, 0, none⟩ = some (.int .i64 p)) := (X27.out).cell c0_27.out
  have c1_28 : Hid ((w28).cell? ⟨w.heap.size, 1, none⟩ = some (.slice a d cap)) := (X27.out).cell c1_27.out
  have b0_28 : Hid ((w28).cell? ⟨w9.heap.size, 0, none⟩ = some (.int .i64 p)) := (X27.out).cell b0_27.out
  have b1_28 : Hid ((w28).cell? ⟨w9.heap.size, 1, none⟩ = some (.slice (some ⟨g4, 0, none⟩) d d)) := (X27.out).cell b1_27.out
  have SW_28 := Lib.hid (SW_27.out.ext X27.out)
  have SG_28 := Lib.hid (SG_27.out.ext X27.out)
  have SB0_28 := Lib.hid (SB0_27.out.ext X27.out)
  have SB1_28 := Lib.hid (SB1_27.out.ext X27.out)
  have SB2_28 := Lib.hid (O26.out.ext X27.out)
  have Z28 : Hid ((w27).heap.size ≤ (w28).heap.size) := (X27.out).size'
  clear E27 c0_27 c1_27 b0_27 b1_27 SW_27 SG_27 SB0_27 SB1_27 O26
  go_wp2_with (fail)
  have H := l_eqRows ra2 ra0 rn rn rc2 rc0 ys ys w28 (by omega) (by omega) HLy.out HLy.out O27.out.low.rd SW_28.out.low.rd
  rw [eqR_self] at H
  refine (H).mono ?_
  rintro e w29 ⟨rfl, x28⟩
  have X28 := Lib.hid x28
  clear x28
  have E29 : Hid (Ext w w29) := E28.out.trans X28.out
  have c0_29 : Hid ((w29).cell? ⟨w.heap.size, 0, none⟩ = some (.int .i64 p)) := (X28.out).cell c0_28.out
  have c1_29 : Hid ((w29).cell? ⟨w.heap.size, 1, none⟩ = some (.slice a d cap)) := (X28.out).cell c1_28.out
  have b0_29 : Hid ((w29).cell? ⟨w9.heap.size, 0, none⟩ = some (.int .i64 p)) := (X28.out).cell b0_28.out
  have b1_29 : Hid ((w29).cell? ⟨w9.heap.size, 1, none⟩ = some (.slice (some ⟨g4, 0, none⟩) d d)) := (X28.out).cell b1_28.out
  have SW_29 := Lib.hid (SW_28.out.ext X28.out)
  have SG_29 := Lib.hid (SG_28.out.ext X28.out)
  have SB0_29 := Lib.hid (SB0_28.out.ext X28.out)
  have SB1_29 := Lib.hid (SB1_28.out.ext X28.out)
  have SB2_29 := Lib.hid (SB2_28.out.ext X28.out)
  have SH_29 := Lib.hid (O27.out.ext X28.out)
  have Z29 : Hid ((w28).heap.size ≤ (w29).heap.size) := (X28.out).size'
  clear E28 c0_28 c1_28 b0_28 b1_28 SW_28 SG_28 SB0_28 SB1_28 SB2_28 O27
  clear H
  go_wp2_with (fail)
  refine (l_heldRows ra1 rn rc1 ys 1 _ (by omega) (by omega) (by omega) (by omega) SG_29.out.low.rd).mono ?_
  rintro e w30 ⟨rfl, x29⟩
  have X29 := Lib.hid x29
  clear x29
  have E30 : Hid (Ext w w30) := E29.out.trans X29.out
  have c0_30 : Hid ((w30).cell? ⟨w.heap.size, 0, none⟩ = some (.int .i64 p)) := (X29.out).cell c0_29.out
  have c1_30 : Hid ((w30).cell? ⟨w.heap.size, 1, none⟩ = some (.slice a d cap)) := (X29.out).cell c1_29.out
  have b0_30 : Hid ((w30).cell? ⟨w9.heap.size, 0, none⟩ = some (.int .i64 p)) := (X29.out).cell b0_29.out
  have b1_30 : Hid ((w30).cell? ⟨w9.heap.size, 1, none⟩ = some (.slice (some ⟨g4, 0, none⟩) d d)) := (X29.out).cell b1_29.out
  have SW_30 := Lib.hid (SW_29.out.ext X29.out)
  have SG_30 := Lib.hid (SG_29.out.ext X29.out)
  have SB0_30 := Lib.hid (SB0_29.out.ext X29.out)
  have SB1_30 := Lib.hid (SB1_29.out.ext X29.out)
  have SB2_30 := Lib.hid (SB2_29.out.ext X29.out)
  have SH_30 := Lib.hid (SH_29.out.ext X29.out)
  have Z30 : Hid ((w29).heap.size ≤ (w30).heap.size) := (X29.out).size'
  clear E29 c0_29 c1_29 b0_29 b1_29 SW_29 SG_29 SB0_29 SB1_29 SB2_29 SH_29
  go_wp2_with (fail)
  go_ret
  exact ⟨rfl, E30.out⟩

theorem law_ExactMatrixBracket (w : World) (p : Int) (a : Option Addr) (d cap : Nat) (qs : List Int) (hq : RdC w a d qs) (hmd : d ≤ maxLen) (ax1 : Option Addr) (n1 cx1 : Nat) (xs1 : List (List Int)) (hx1 : RdR w ax1 n1 xs1) (hmn1 : n1 ≤ maxLen) (hml1 : ∀ j, j < n1 → (nthR xs1 j).length ≤ maxLen) (ax2 : Option Addr) (n2 cx2 : Nat) (xs2 : List (List Int)) (hx2 : RdR w ax2 n2 xs2) (hmn2 : n2 ≤ maxLen) (hml2 : ∀ j, j < n2 → (nthR xs2 j).length ≤ maxLen) :
    Calls Try.prog 3 #[.agg #[.int .i64 p, .slice a d cap], .slice ax1 n1 cx1, .slice ax2 n2 cx2] w fun e w' => e = .returned (.bool true) ∧ Ext w w' := by
  by_cases hb : 1048576 < d ∨ (d ≤ 1048576 ∧ szR (1048576 - (d : Int)) xs1 < 0) ∨ (d ≤ 1048576 ∧ 0 ≤ szR (1048576 - (d : Int)) xs1 ∧ szR (szR (1048576 - (d : Int)) xs1) xs2 < 0)
  · exact w_MatrixBracket_big p a d cap qs ax1 n1 cx1 xs1 ax2 n2 cx2 xs2 w hq hmd hx1 hmn1 hml1 hx2 hmn2 hml2 hb
  · have hd : d ≤ 1048576 := by omega
    have hsz1 : 0 ≤ szR (1048576 - (d : Int)) xs1 := by omega
    have hbd1 := szR_bd hsz1
    rw [hx1.1] at hbd1
    have hn1 : n1 ≤ 1048576 := by omega
    have hT1 : cntR xs1 n1 ≤ 1048576 := by omega
    have hsz2 : 0 ≤ szR (szR (1048576 - (d : Int)) xs1) xs2 := by omega
    have hbd2 := szR_bd hsz2
    rw [hx2.1] at hbd2
    have hle2 := szR_le (show 0 ≤ szR (1048576 - (d : Int)) xs1 by omega)
    have hn2 : n2 ≤ 1048576 := by omega
    have hT2 : cntR xs2 n2 ≤ 1048576 := by omega
    by_cases hc : code14 p qs [xs1, xs2] = 0
    · exact w_MatrixBracket p a d cap qs ax1 n1 cx1 xs1 ax2 n2 cx2 xs2 w hd hn1 hT1 hsz1 hn2 hT2 hsz2 hq hx1 hx2 (2 ^ d) (brkM p xs1 xs2 (2 ^ d)) 0 (by obtain ⟨hcd, _⟩ := code14_zero hc; obtain ⟨hs, h3⟩ := codeD_zero hcd; have hp := prime_bd (doub_of hs).1; rw [hq.1] at h3; exact (brk_cnt (p := p) (d := d) (a := xs1) (b := xs2) (by omega) (by omega)).1) (by obtain ⟨hcd, _⟩ := code14_zero hc; obtain ⟨hs, h3⟩ := codeD_zero hcd; have hp := prime_bd (doub_of hs).1; rw [hq.1] at h3; exact (brk_cnt (p := p) (d := d) (a := xs1) (b := xs2) (by omega) (by omega)).2)
        (fun a cap ax1 cx1 ax2 cx2 w hq hx1 hx2 => s_MatrixBracket_ok p a d cap qs ax1 n1 cx1 xs1 ax2 n2 cx2 xs2 w (by omega) (by omega) (fun j hj => Nat.le_trans (cntR_row xs1 hj) (by omega)) (by omega) (fun j hj => Nat.le_trans (cntR_row xs2 hj) (by omega)) hq hx1 hx2 hc) (fun a cap ax1 cx1 ax2 cx2 w hq hx1 hx2 => c_MatrixBracket_ok p a d cap qs ax1 n1 cx1 xs1 ax2 n2 cx2 xs2 w (by omega) (by omega) (fun j hj => Nat.le_trans (cntR_row xs1 hj) (by omega)) (by omega) (fun j hj => Nat.le_trans (cntR_row xs2 hj) (by omega)) hq hx1 hx2 hc)
    · exact w_MatrixBracket p a d cap qs ax1 n1 cx1 xs1 ax2 n2 cx2 xs2 w hd hn1 hT1 hsz1 hn2 hT2 hsz2 hq hx1 hx2 0 [] _ (by omega) (by simp [cntR])
        (fun a cap ax1 cx1 ax2 cx2 w hq hx1 hx2 => s_MatrixBracket_bad p a d cap qs ax1 n1 cx1 xs1 ax2 n2 cx2 xs2 w (by omega) (by omega) (fun j hj => Nat.le_trans (cntR_row xs1 hj) (by omega)) (by omega) (fun j hj => Nat.le_trans (cntR_row xs2 hj) (by omega)) hq hx1 hx2 hc) (fun a cap ax1 cx1 ax2 cx2 w hq hx1 hx2 => c_MatrixBracket_bad p a d cap qs ax1 n1 cx1 xs1 ax2 n2 cx2 xs2 w (by omega) (by omega) (fun j hj => Nat.le_trans (cntR_row xs1 hj) (by omega)) (by omega) (fun j hj => Nat.le_trans (cntR_row xs2 hj) (by omega)) hq hx1 hx2 hc)

end Go.Proofs.Ythflmmgolegonaa
