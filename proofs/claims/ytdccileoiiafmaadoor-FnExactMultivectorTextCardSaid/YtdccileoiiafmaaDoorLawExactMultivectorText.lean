/-
  The walk of the law FnExactMultivectorText: it returns true and leaves what was there as it was.
  No condition.
-/
import Derived.Test.YtdccileoiiafmaaDoorLawA
import Derived.Test.YtdccileoiiafmaaDoorMTop
namespace Go.Proofs.YtdccileoiiafmaaDoor
set_option maxRecDepth 100000
open Go.RowKit

set_option maxHeartbeats 1000000 in
set_option maxRecDepth 100000 in
theorem w_MultivectorText_big (p : Int) (a : Option Addr) (d cap : Nat) (ax1 : Option Addr) (n1 cx1 : Nat) (w : World) (hmd : d ≤ maxLen) (_hmn1 : n1 ≤ maxLen) (hb : 1048576 < n1 ∨ 1048576 < d) :
    Calls Tryd.prog 5 #[.agg #[.int .i64 p, .slice a d cap], .slice ax1 n1 cx1] w fun e w' => e = .returned (.bool true) ∧ Ext w w' := by
  by_cases hn1 : 1048576 < n1
  · go_enter Tryd.func5, Tryd.ntmps5
    go_wp2_with (fail)
    go_ret
    exact ⟨rfl, ext_alloc _ _⟩
  have HS := Lib.hid (szN_neg (left := 1048576) (n := d) (by omega))
  go_enter Tryd.func5, Tryd.ntmps5
  go_wp2_with (go_at_call 6; refine (l_szSpace _ _ _ _ _ _ (by omega) (by omega) hmd).mono ?_; rintro e w1 ⟨rfl, g1⟩; rw [HS.out])
  go_ret
  exact ⟨rfl, (ext_alloc _ _).trans g1⟩

set_option maxHeartbeats 4000000 in
set_option maxRecDepth 100000 in
theorem w_MultivectorText (p : Int) (a : Option Addr) (d cap : Nat) (qs : List Int) (ax1 : Option Addr) (n1 cx1 : Nat) (xs1 : List Int) (w : World) (hd : d ≤ 1048576) (hn1 : n1 ≤ 1048576) (hq : RdC w a d qs) (hx1 : RdC w ax1 n1 xs1) (hG : w.cell? ⟨0, 0, none⟩ = some (.int .u64 1)) (r0 : ByteArray) (c : Int)
    (hs : ∀ (a : Option Addr) (cap : Nat) (ax1 : Option Addr) (cx1 : Nat) (w : World), RdC w a d qs → RdC w ax1 n1 xs1 → Calls Tryd.prog 13 #[.agg #[.int .i64 p, .slice a d cap], .slice ax1 n1 cx1] w fun e w' => e = .returned (.tuple #[.string r0, .int .i64 c]) ∧ Ext w w')
    (hi : ∀ (a : Option Addr) (cap : Nat) (ax1 : Option Addr) (cx1 : Nat) (w : World), RdC w a d qs → RdC w ax1 n1 xs1 → w.cell? ⟨0, 0, none⟩ = some (.int .u64 1) → Calls Tryd.prog 15 #[.agg #[.int .i64 p, .slice a d cap], .slice ax1 n1 cx1] w fun e w' => e = .returned (.tuple #[.string r0, .int .i64 c]) ∧ Ext w w') :
    Calls Tryd.prog 5 #[.agg #[.int .i64 p, .slice a d cap], .slice ax1 n1 cx1] w fun e w' => e = .returned (.bool true) ∧ Ext w w' := by
  have HS := Lib.hid (szN_pos (left := 1048576) (n := d) (by omega))
  have Hs := Lib.hid hs
  have Hi := Lib.hid hi
  have HGC := Lib.hid hG
  have hccb : (c != c) = false := by simp
  have hrb0 : (r0.toList == r0.toList) = true := by simp
  clear hs hi hG
  go_enter Tryd.func5, Tryd.ntmps5
  go_wp2_with (go_at_call 6; refine (l_szSpace _ _ _ _ _ _ (by omega) (by omega) (by unfold maxLen; omega)).mono ?_; rintro e w1 ⟨rfl, g1⟩; rw [HS.out]; have hcl := Ext.cells g1; have hz := g1.size'; simp only [World.size_alloc] at hcl hz)
  have E1 : Hid (Ext w w1) := (ext_alloc w (.cells #[.int .i64 p, .slice a d cap] 24)).trans g1
  have c0_1 : Hid (w1.cell? ⟨w.heap.size, 0, none⟩ = some (.int .i64 p)) := g1.cell (by simp)
  have c1_1 : Hid (w1.cell? ⟨w.heap.size, 1, none⟩ = some (.slice a d cap)) := g1.cell (by simp)
  have Zb : Hid (w.heap.size < w1.heap.size) := hz
  clear hcl hz g1
  refine (l_toSpace p a d cap qs _ (by omega) (hq.ext E1.out)).mono ?_
  rintro e w3 ⟨g1, rfl, o2, x2⟩
  have X2 := Lib.hid x2
  have O2 := Lib.hid o2
  have DA0 : Hid (∀ g, (some ⟨g1, 0, none⟩ : Option Addr) = some ⟨g, 0, none⟩ → (w1).heap.size ≤ g ∧ g < (w3).heap.size) := OwnC.base_of O2.out
  clear x2 o2
  have E2 : Hid (Ext w w3) := E1.out.trans X2.out
  have c0_2 : Hid ((w3).cell? ⟨w.heap.size, 0, none⟩ = some (.int .i64 p)) := (X2.out).cell c0_1.out
  have c1_2 : Hid ((w3).cell? ⟨w.heap.size, 1, none⟩ = some (.slice a d cap)) := (X2.out).cell c1_1.out
  have Z2 : Hid ((w1).heap.size ≤ (w3).heap.size) := (X2.out).size'
  clear E1 c0_1 c1_1
  go_wp2_with (fail)
  refine (l_toInts ax1 n1 cx1 xs1 _ (by omega) (hx1.ext E2.out)).mono ?_
  rintro e w4 ⟨g2, rfl, o3, x3⟩
  have X3 := Lib.hid x3
  have O3 := Lib.hid o3
  have DA1 : Hid (∀ g, (some ⟨g2, 0, none⟩ : Option Addr) = some ⟨g, 0, none⟩ → (w3).heap.size ≤ g ∧ g < (w4).heap.size) := OwnC.base_of O3.out
  clear x3 o3
  have E3 : Hid (Ext w w4) := E2.out.trans X3.out
  have c0_3 : Hid ((w4).cell? ⟨w.heap.size, 0, none⟩ = some (.int .i64 p)) := (X3.out).cell c0_2.out
  have c1_3 : Hid ((w4).cell? ⟨w.heap.size, 1, none⟩ = some (.slice a d cap)) := (X3.out).cell c1_2.out
  have SA0_3 := Lib.hid (O2.out.ext X3.out)
  have Z3 : Hid ((w3).heap.size ≤ (w4).heap.size) := (X3.out).size'
  clear E2 c0_2 c1_2 O2
  go_wp2_with (fail)
  refine (Hs.out _ _ _ _ _ SA0_3.out.rd O3.out.rd).mono ?_
  rintro e w5 ⟨rfl, x4⟩
  have X4 := Lib.hid x4
  clear x4
  have E4 : Hid (Ext w w5) := E3.out.trans X4.out
  have c0_4 : Hid ((w5).cell? ⟨w.heap.size, 0, none⟩ = some (.int .i64 p)) := (X4.out).cell c0_3.out
  have c1_4 : Hid ((w5).cell? ⟨w.heap.size, 1, none⟩ = some (.slice a d cap)) := (X4.out).cell c1_3.out
  have SA0_4 := Lib.hid (SA0_3.out.ext X4.out)
  have SA1_4 := Lib.hid (O3.out.ext X4.out)
  have Z4 : Hid ((w4).heap.size ≤ (w5).heap.size) := (X4.out).size'
  clear E3 c0_3 c1_3 SA0_3 O3
  clear SA0_4 DA0
  clear SA1_4 DA1
  have hc0 := c0_4.out
  have hc1 := c1_4.out
  go_wp2_with (fail)
  clear hc0 hc1
  refine (l_toSpace p a d cap qs _ (by omega) (hq.ext E4.out)).mono ?_
  rintro e w6 ⟨g3, rfl, o5, x5⟩
  have X5 := Lib.hid x5
  have O5 := Lib.hid o5
  have DX0 : Hid (∀ g, (some ⟨g3, 0, none⟩ : Option Addr) = some ⟨g, 0, none⟩ → (w5).heap.size ≤ g ∧ g < (w6).heap.size) := OwnC.base_of O5.out
  clear x5 o5
  have E5 : Hid (Ext w w6) := E4.out.trans X5.out
  have c0_5 : Hid ((w6).cell? ⟨w.heap.size, 0, none⟩ = some (.int .i64 p)) := (X5.out).cell c0_4.out
  have c1_5 : Hid ((w6).cell? ⟨w.heap.size, 1, none⟩ = some (.slice a d cap)) := (X5.out).cell c1_4.out
  have Z5 : Hid ((w5).heap.size ≤ (w6).heap.size) := (X5.out).size'
  clear E4 c0_4 c1_4
  have XB := Lib.hid (ext_alloc w6 (.cells #[.int .i64 p, .slice (some ⟨g3, 0, none⟩) d d] 28))
  have E6 : Hid (Ext w (w6.alloc (.cells #[.int .i64 p, .slice (some ⟨g3, 0, none⟩) d d] 28))) := E5.out.trans XB.out
  have c0_6 : Hid (((w6.alloc (.cells #[.int .i64 p, .slice (some ⟨g3, 0, none⟩) d d] 28))).cell? ⟨w.heap.size, 0, none⟩ = some (.int .i64 p)) := (XB.out).cell c0_5.out
  have c1_6 : Hid (((w6.alloc (.cells #[.int .i64 p, .slice (some ⟨g3, 0, none⟩) d d] 28))).cell? ⟨w.heap.size, 1, none⟩ = some (.slice a d cap)) := (XB.out).cell c1_5.out
  have SX0_6 := Lib.hid (O5.out.ext XB.out)
  have Z6 : Hid ((w6).heap.size ≤ ((w6.alloc (.cells #[.int .i64 p, .slice (some ⟨g3, 0, none⟩) d d] 28))).heap.size) := (XB.out).size'
  clear E5 c0_5 c1_5 O5
  have b0_6 : Hid ((w6.alloc (.cells #[.int .i64 p, .slice (some ⟨g3, 0, none⟩) d d] 28)).cell? ⟨w6.heap.size, 0, none⟩ = some (.int .i64 p)) := by show _ = _; simp
  have b1_6 : Hid ((w6.alloc (.cells #[.int .i64 p, .slice (some ⟨g3, 0, none⟩) d d] 28)).cell? ⟨w6.heap.size, 1, none⟩ = some (.slice (some ⟨g3, 0, none⟩) d d)) := by show _ = _; simp
  have Zx0 : Hid (w6.heap.size < (w6.alloc (.cells #[.int .i64 p, .slice (some ⟨g3, 0, none⟩) d d] 28)).heap.size) := by show _ < _; simp
  go_wp2_with (fail)
  refine (l_toInts ax1 n1 cx1 xs1 _ (by omega) (hx1.ext E6.out)).mono ?_
  rintro e w7 ⟨g4, rfl, o6, x6⟩
  have X6 := Lib.hid x6
  have O6 := Lib.hid o6
  have DX1 : Hid (∀ g, (some ⟨g4, 0, none⟩ : Option Addr) = some ⟨g, 0, none⟩ → ((w6.alloc (.cells #[.int .i64 p, .slice (some ⟨g3, 0, none⟩) d d] 28))).heap.size ≤ g ∧ g < (w7).heap.size) := OwnC.base_of O6.out
  clear x6 o6
  have E7 : Hid (Ext w w7) := E6.out.trans X6.out
  have c0_7 : Hid ((w7).cell? ⟨w.heap.size, 0, none⟩ = some (.int .i64 p)) := (X6.out).cell c0_6.out
  have c1_7 : Hid ((w7).cell? ⟨w.heap.size, 1, none⟩ = some (.slice a d cap)) := (X6.out).cell c1_6.out
  have b0_7 : Hid ((w7).cell? ⟨w6.heap.size, 0, none⟩ = some (.int .i64 p)) := (X6.out).cell b0_6.out
  have b1_7 : Hid ((w7).cell? ⟨w6.heap.size, 1, none⟩ = some (.slice (some ⟨g3, 0, none⟩) d d)) := (X6.out).cell b1_6.out
  have SX0_7 := Lib.hid (SX0_6.out.ext X6.out)
  have Z7 : Hid (((w6.alloc (.cells #[.int .i64 p, .slice (some ⟨g3, 0, none⟩) d d] 28))).heap.size ≤ (w7).heap.size) := (X6.out).size'
  clear E6 c0_6 c1_6 b0_6 b1_6 SX0_6
  have hb0 := b0_7.out
  have hb1 := b1_7.out
  go_wp2_with (fail)
  clear hb0 hb1
  refine (Hi.out _ _ _ _ _ SX0_7.out.rd O6.out.rd (E7.out.cell HGC.out)).mono ?_
  rintro e w8 ⟨rfl, x7⟩
  have X7 := Lib.hid x7
  clear x7
  have E8 : Hid (Ext w w8) := E7.out.trans X7.out
  have c0_8 : Hid ((w8).cell? ⟨w.heap.size, 0, none⟩ = some (.int .i64 p)) := (X7.out).cell c0_7.out
  have c1_8 : Hid ((w8).cell? ⟨w.heap.size, 1, none⟩ = some (.slice a d cap)) := (X7.out).cell c1_7.out
  have b0_8 : Hid ((w8).cell? ⟨w6.heap.size, 0, none⟩ = some (.int .i64 p)) := (X7.out).cell b0_7.out
  have b1_8 : Hid ((w8).cell? ⟨w6.heap.size, 1, none⟩ = some (.slice (some ⟨g3, 0, none⟩) d d)) := (X7.out).cell b1_7.out
  have SX0_8 := Lib.hid (SX0_7.out.ext X7.out)
  have SX1_8 := Lib.hid (O6.out.ext X7.out)
  have Z8 : Hid ((w7).heap.size ≤ (w8).heap.size) := (X7.out).size'
  clear E7 c0_7 c1_7 b0_7 b1_7 SX0_7 O6
  have Hc0 : Hid ((w8).drew.cell? ⟨w.heap.size, 0, none⟩ = some (.int .i64 p)) := (ext_drew _).cell c0_8.out
  have Hc1 : Hid ((w8).drew.cell? ⟨w.heap.size, 1, none⟩ = some (.slice a d cap)) := (ext_drew _).cell c1_8.out
  have Hb0 : Hid ((w8).drew.cell? ⟨w6.heap.size, 0, none⟩ = some (.int .i64 p)) := (ext_drew _).cell b0_8.out
  have Hb1 : Hid ((w8).drew.cell? ⟨w6.heap.size, 1, none⟩ = some (.slice (some ⟨g3, 0, none⟩) d d)) := (ext_drew _).cell b1_8.out
  have HR0 : Hid (RdC (w8).drew (some ⟨g3, 0, none⟩) d qs) := SX0_8.out.rd.ext (ext_drew _)
  have HR1 : Hid (RdC (w8).drew a d qs) := hq.ext (E8.out.trans (ext_drew _))
  go_wp2_with (fail)
  refine wp_region_lex [(2, .sp p d qs), (3, .val (.bool true))] (by kernel_rfl) (by kernel_rfl) ?_
  repeat' first | (refine LexW.pure (v := ?_) rfl rfl (fun w1 he => ?_) ?_; rotate_left; ( have hc0 := he.cell Hc0.out; have hc1 := he.cell Hc1.out; have hb0 := he.cell Hb0.out; have hb1 := he.cell Hb1.out; go_simp; rfl); simp only [Act.put, List.setIfInBounds_toArray, List.set_cons_zero, List.set_cons_succ]) | (refine LexW.callR (f := ?_) (args := ?_) rfl rfl (fun w1 => ?_) (fun w1 he hdep => ?_) (fun v hv => ?_); rotate_left 2; (go_simp; refine ⟨?_, ?_⟩ <;> rfl); ( refine (l_toSpace p a d cap qs w1 (by omega) (HR1.out.ext he)).mono ?_; rintro e w2 ⟨g8, rfl, o8, x8⟩; exact ⟨_, rfl, x8, g8, rfl, o8.rd⟩); simp only [Act.put, List.setIfInBounds_toArray, List.set_cons_zero, List.set_cons_succ]) | (refine LexW.call (f := ?_) (args := ?_) rfl rfl (fun w1 => ?_) (fun w1 he hdep => ?_) ?_; rotate_left 2; (go_simp; refine ⟨?_, ?_⟩ <;> rfl); ( obtain ⟨g8, h8, r8⟩ : (SPred.sp p d qs).holds _ w1 := hdep (2, 48) (by decide +kernel); subst h8; have H := l_eqSpace p _ _ d d d d qs qs w1 (by omega) (by omega) (HR0.out.ext he) r8; rw [eqB_self] at H; exact H); simp only [Act.put, List.setIfInBounds_toArray, List.set_cons_zero, List.set_cons_succ])
  refine LexW.nil (fun w9 he hk => ?_)
  have X8 : Hid (Ext w8 w9) := (ext_drew _).trans he
  clear he hk Hc0 Hc1 Hb0 Hb1 HR0 HR1
  have E9 : Hid (Ext w w9) := E8.out.trans X8.out
  have c0_9 : Hid ((w9).cell? ⟨w.heap.size, 0, none⟩ = some (.int .i64 p)) := (X8.out).cell c0_8.out
  have c1_9 : Hid ((w9).cell? ⟨w.heap.size, 1, none⟩ = some (.slice a d cap)) := (X8.out).cell c1_8.out
  have b0_9 : Hid ((w9).cell? ⟨w6.heap.size, 0, none⟩ = some (.int .i64 p)) := (X8.out).cell b0_8.out
  have b1_9 : Hid ((w9).cell? ⟨w6.heap.size, 1, none⟩ = some (.slice (some ⟨g3, 0, none⟩) d d)) := (X8.out).cell b1_8.out
  have SX0_9 := Lib.hid (SX0_8.out.ext X8.out)
  have SX1_9 := Lib.hid (SX1_8.out.ext X8.out)
  have Z9 : Hid ((w8).heap.size ≤ (w9).heap.size) := (X8.out).size'
  clear E8 c0_8 c1_8 b0_8 b1_8 SX0_8 SX1_8
  go_wp2_with (fail)
  refine (l_toInts ax1 n1 cx1 xs1 _ (by omega) (hx1.ext E9.out)).mono ?_
  rintro e w10 ⟨g5, rfl, o9, x9⟩
  have X9 := Lib.hid x9
  have O9 := Lib.hid o9
  have DY1 : Hid (∀ g, (some ⟨g5, 0, none⟩ : Option Addr) = some ⟨g, 0, none⟩ → (w9).heap.size ≤ g ∧ g < (w10).heap.size) := OwnC.base_of O9.out
  clear x9 o9
  have E10 : Hid (Ext w w10) := E9.out.trans X9.out
  have c0_10 : Hid ((w10).cell? ⟨w.heap.size, 0, none⟩ = some (.int .i64 p)) := (X9.out).cell c0_9.out
  have c1_10 : Hid ((w10).cell? ⟨w.heap.size, 1, none⟩ = some (.slice a d cap)) := (X9.out).cell c1_9.out
  have b0_10 : Hid ((w10).cell? ⟨w6.heap.size, 0, none⟩ = some (.int .i64 p)) := (X9.out).cell b0_9.out
  have b1_10 : Hid ((w10).cell? ⟨w6.heap.size, 1, none⟩ = some (.slice (some ⟨g3, 0, none⟩) d d)) := (X9.out).cell b1_9.out
  have SX0_10 := Lib.hid (SX0_9.out.ext X9.out)
  have SX1_10 := Lib.hid (SX1_9.out.ext X9.out)
  have Z10 : Hid ((w9).heap.size ≤ (w10).heap.size) := (X9.out).size'
  clear E9 c0_9 c1_9 b0_9 b1_9 SX0_9 SX1_9
  go_wp2_with (fail)
  have H := l_eqInts (some ⟨g4, 0, none⟩) (some ⟨g5, 0, none⟩) n1 n1 n1 n1 xs1 xs1 w10 (by omega) (by omega) SX1_10.out.rd O9.out.rd
  rw [eqB_self] at H
  refine (H).mono ?_
  rintro e w11 ⟨rfl, x10⟩
  have X10 := Lib.hid x10
  clear x10
  have E11 : Hid (Ext w w11) := E10.out.trans X10.out
  have c0_11 : Hid ((w11).cell? ⟨w.heap.size, 0, none⟩ = some (.int .i64 p)) := (X10.out).cell c0_10.out
  have c1_11 : Hid ((w11).cell? ⟨w.heap.size, 1, none⟩ = some (.slice a d cap)) := (X10.out).cell c1_10.out
  have b0_11 : Hid ((w11).cell? ⟨w6.heap.size, 0, none⟩ = some (.int .i64 p)) := (X10.out).cell b0_10.out
  have b1_11 : Hid ((w11).cell? ⟨w6.heap.size, 1, none⟩ = some (.slice (some ⟨g3, 0, none⟩) d d)) := (X10.out).cell b1_10.out
  have SX0_11 := Lib.hid (SX0_10.out.ext X10.out)
  have SX1_11 := Lib.hid (SX1_10.out.ext X10.out)
  have SY1_11 := Lib.hid (O9.out.ext X10.out)
  have Z11 : Hid ((w10).heap.size ≤ (w11).heap.size) := (X10.out).size'
  clear E10 c0_10 c1_10 b0_10 b1_10 SX0_10 SX1_10 O9
  clear H SY1_11 DY1
  go_wp2_with (fail)
  go_ret
  exact ⟨rfl, E11.out⟩

theorem law_ExactMultivectorText (w : World) (hG : w.cell? ⟨0, 0, none⟩ = some (.int .u64 1)) (p : Int) (a : Option Addr) (d cap : Nat) (qs : List Int) (hq : RdC w a d qs) (hmd : d ≤ maxLen) (ax1 : Option Addr) (n1 cx1 : Nat) (xs1 : List Int) (hx1 : RdC w ax1 n1 xs1) (hmn1 : n1 ≤ maxLen) :
    Calls Tryd.prog 5 #[.agg #[.int .i64 p, .slice a d cap], .slice ax1 n1 cx1] w fun e w' => e = .returned (.bool true) ∧ Ext w w' := by
  by_cases hb : 1048576 < n1 ∨ 1048576 < d
  · exact w_MultivectorText_big p a d cap ax1 n1 cx1 w hmd hmn1 hb
  · have hd : d ≤ 1048576 := by omega
    have hn1 : n1 ≤ 1048576 := by omega
    by_cases hc : codeM p qs [xs1] = 0
    · exact w_MultivectorText p a d cap qs ax1 n1 cx1 xs1 w hd hn1 hq hx1 hG (multiT p xs1 d n1) 0 
        (fun a cap ax1 cx1 w hq hx1 => s_MultivectorText_ok p a d cap qs ax1 n1 cx1 xs1 w (by omega) (by omega) hq hx1 hc) (fun a cap ax1 cx1 w hq hx1 hG => c_MultivectorText_ok p a d cap qs ax1 n1 cx1 xs1 w (by omega) (by omega) hq hx1 hc hG)
    · exact w_MultivectorText p a d cap qs ax1 n1 cx1 xs1 w hd hn1 hq hx1 hG ByteArray.empty _ 
        (fun a cap ax1 cx1 w hq hx1 => s_MultivectorText_bad p a d cap qs ax1 n1 cx1 xs1 w (by omega) (by omega) hq hx1 hc) (fun a cap ax1 cx1 w hq hx1 _ => c_MultivectorText_bad p a d cap qs ax1 n1 cx1 xs1 w (by omega) (by omega) hq hx1 hc)

end Go.Proofs.YtdccileoiiafmaaDoor
