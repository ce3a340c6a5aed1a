/-
  The walk of the law FnExactMaskOfName: it returns true and leaves what was there as it was.
  No condition.
-/
import Derived.Test.YtdccileoiiafmaaDoorLawA
import Derived.Test.YtdccileoiiafmaaDoorMaskN
namespace Go.Proofs.YtdccileoiiafmaaDoor
set_option maxRecDepth 100000
open Go.RowKit

set_option maxHeartbeats 1000000 in
set_option maxRecDepth 100000 in
theorem w_MaskOfName_big (p : Int) (a : Option Addr) (d cap : Nat) (s1 : ByteArray) (w : World) (hmd : d ≤ maxLen)  (hb : 1048576 < s1.size ∨ 1048576 < d) :
    Calls Tryd.prog 4 #[.agg #[.int .i64 p, .slice a d cap], .string s1] w fun e w' => e = .returned (.bool true) ∧ Ext w w' := by
  by_cases hn1 : 1048576 < s1.size
  · have hn1' : (1048576 : Int) < (s1.size : Int) := by omega
    clear hb
    go_enter Tryd.func4, Tryd.ntmps4
    go_wp2_with (fail)
    go_ret
    exact ⟨rfl, ext_alloc _ _⟩
  have hn1' : ¬ (1048576 : Int) < (s1.size : Int) := by omega
  have HS := Lib.hid (szN_neg (left := 1048576) (n := d) (by omega))
  go_enter Tryd.func4, Tryd.ntmps4
  go_wp2_with (go_at_call 6; refine (l_szSpace _ _ _ _ _ _ (by omega) (by omega) hmd).mono ?_; rintro e w1 ⟨rfl, g1⟩; rw [HS.out])
  go_ret
  exact ⟨rfl, (ext_alloc _ _).trans g1⟩

set_option maxHeartbeats 4000000 in
set_option maxRecDepth 100000 in
theorem w_MaskOfName (p : Int) (a : Option Addr) (d cap : Nat) (qs : List Int) (s1 : ByteArray) (w : World) (hd : d ≤ 1048576) (hn1 : s1.size ≤ 1048576)  (hq : RdC w a d qs)  (r0 : Int) (c : Int)
    (hs : ∀ (a : Option Addr) (cap : Nat)  (w : World), RdC w a d qs → Calls Tryd.prog 11 #[.agg #[.int .i64 p, .slice a d cap], .string s1] w fun e w' => e = .returned (.tuple #[.int .i64 r0, .int .i64 c]) ∧ Ext w w')
    (hi : ∀ (a : Option Addr) (cap : Nat)  (w : World), RdC w a d qs → Calls Tryd.prog 12 #[.agg #[.int .i64 p, .slice a d cap], .string s1] w fun e w' => e = .returned (.tuple #[.int .i64 r0, .int .i64 c]) ∧ Ext w w') :
    Calls Tryd.prog 4 #[.agg #[.int .i64 p, .slice a d cap], .string s1] w fun e w' => e = .returned (.bool true) ∧ Ext w w' := by
  have hn1' : ¬ (1048576 : Int) < (s1.size : Int) := by omega
  have HS := Lib.hid (szN_pos (left := 1048576) (n := d) (by omega))
  have Hs := Lib.hid hs
  have Hi := Lib.hid hi
  have hccb : (c != c) = false := by simp
  have hrb0 : (r0 != r0) = false := by simp
  clear hs hi
  go_enter Tryd.func4, Tryd.ntmps4
  go_wp2_with (go_at_call 6; refine (l_szSpace _ _ _ _ _ _ (by omega) (by omega) (by unfold maxLen; omega)).mono ?_; rintro e w1 ⟨rfl, g1⟩; rw [HS.out]; have hcl := Ext.cells g1; have hz := g1.size'; simp only [World.size_alloc] at hcl hz)
  have E1 : Hid (Ext w w1) := (ext_alloc w (.cells #[.int .i64 p, .slice a d cap] 24)).trans g1
  have c0_1 : Hid (w1.cell? ⟨w.heap.size, 0, none⟩ = some (.int .i64 p)) := g1.cell (by simp)
  have c1_1 : Hid (w1.cell? ⟨w.heap.size, 1, none⟩ = some (.slice a d cap)) := g1.cell (by simp)
  have Zb : Hid (w.heap.size < w1.heap.size) := hz
  clear hcl hz g1
  refine (l_toSpace p a d cap qs _ (by omega) (hq.ext E1.out)).mono ?_
  rintro e w3 ⟨g1, rfl, o2, x2⟩
  have X2 := Lib.hid x2
  have O2 := Lib.hid o2
  have DA0 : Hid (∀ g, (some ⟨g1, 0, none⟩ : Option Addr) = some ⟨g, 0, none⟩ → (w1).heap.size ≤ g ∧ g < (w3).heap.size) := OwnC.base_of O2.out
  clear x2 o2
  have E2 : Hid (Ext w w3) := E1.out.trans X2.out
  have c0_2 : Hid ((w3).cell? ⟨w.heap.size, 0, none⟩ = some (.int .i64 p)) := (X2.out).cell c0_1.out
  have c1_2 : Hid ((w3).cell? ⟨w.heap.size, 1, none⟩ = some (.slice a d cap)) := (X2.out).cell c1_1.out
  have Z2 : Hid ((w1).heap.size ≤ (w3).heap.size) := (X2.out).size'
  clear E1 c0_1 c1_1
  go_wp2_with (fail)
  refine (Hs.out _ _ _ O2.out.rd).mono ?_
  rintro e w4 ⟨rfl, x3⟩
  have X3 := Lib.hid x3
  clear x3
  have E3 : Hid (Ext w w4) := E2.out.trans X3.out
  have c0_3 : Hid ((w4).cell? ⟨w.heap.size, 0, none⟩ = some (.int .i64 p)) := (X3.out).cell c0_2.out
  have c1_3 : Hid ((w4).cell? ⟨w.heap.size, 1, none⟩ = some (.slice a d cap)) := (X3.out).cell c1_2.out
  have SA0_3 := Lib.hid (O2.out.ext X3.out)
  have Z3 : Hid ((w3).heap.size ≤ (w4).heap.size) := (X3.out).size'
  clear E2 c0_2 c1_2 O2
  clear SA0_3 DA0
  have hc0 := c0_3.out
  have hc1 := c1_3.out
  go_wp2_with (fail)
  clear hc0 hc1
  refine (l_toSpace p a d cap qs _ (by omega) (hq.ext E3.out)).mono ?_
  rintro e w5 ⟨g2, rfl, o4, x4⟩
  have X4 := Lib.hid x4
  have O4 := Lib.hid o4
  have DX0 : Hid (∀ g, (some ⟨g2, 0, none⟩ : Option Addr) = some ⟨g, 0, none⟩ → (w4).heap.size ≤ g ∧ g < (w5).heap.size) := OwnC.base_of O4.out
  clear x4 o4
  have E4 : Hid (Ext w w5) := E3.out.trans X4.out
  have c0_4 : Hid ((w5).cell? ⟨w.heap.size, 0, none⟩ = some (.int .i64 p)) := (X4.out).cell c0_3.out
  have c1_4 : Hid ((w5).cell? ⟨w.heap.size, 1, none⟩ = some (.slice a d cap)) := (X4.out).cell c1_3.out
  have Z4 : Hid ((w4).heap.size ≤ (w5).heap.size) := (X4.out).size'
  clear E3 c0_3 c1_3
  have XB := Lib.hid (ext_alloc w5 (.cells #[.int .i64 p, .slice (some ⟨g2, 0, none⟩) d d] 28))
  have E5 : Hid (Ext w (w5.alloc (.cells #[.int .i64 p, .slice (some ⟨g2, 0, none⟩) d d] 28))) := E4.out.trans XB.out
  have c0_5 : Hid (((w5.alloc (.cells #[.int .i64 p, .slice (some ⟨g2, 0, none⟩) d d] 28))).cell? ⟨w.heap.size, 0, none⟩ = some (.int .i64 p)) := (XB.out).cell c0_4.out
  have c1_5 : Hid (((w5.alloc (.cells #[.int .i64 p, .slice (some ⟨g2, 0, none⟩) d d] 28))).cell? ⟨w.heap.size, 1, none⟩ = some (.slice a d cap)) := (XB.out).cell c1_4.out
  have SX0_5 := Lib.hid (O4.out.ext XB.out)
  have Z5 : Hid ((w5).heap.size ≤ ((w5.alloc (.cells #[.int .i64 p, .slice (some ⟨g2, 0, none⟩) d d] 28))).heap.size) := (XB.out).size'
  clear E4 c0_4 c1_4 O4
  have b0_5 : Hid ((w5.alloc (.cells #[.int .i64 p, .slice (some ⟨g2, 0, none⟩) d d] 28)).cell? ⟨w5.heap.size, 0, none⟩ = some (.int .i64 p)) := by show _ = _; simp
  have b1_5 : Hid ((w5.alloc (.cells #[.int .i64 p, .slice (some ⟨g2, 0, none⟩) d d] 28)).cell? ⟨w5.heap.size, 1, none⟩ = some (.slice (some ⟨g2, 0, none⟩) d d)) := by show _ = _; simp
  have Zx0 : Hid (w5.heap.size < (w5.alloc (.cells #[.int .i64 p, .slice (some ⟨g2, 0, none⟩) d d] 28)).heap.size) := by show _ < _; simp
  have hb0 := b0_5.out
  have hb1 := b1_5.out
  go_wp2_with (fail)
  clear hb0 hb1
  refine (Hi.out _ _ _ SX0_5.out.rd).mono ?_
  rintro e w6 ⟨rfl, x5⟩
  have X5 := Lib.hid x5
  clear x5
  have E6 : Hid (Ext w w6) := E5.out.trans X5.out
  have c0_6 : Hid ((w6).cell? ⟨w.heap.size, 0, none⟩ = some (.int .i64 p)) := (X5.out).cell c0_5.out
  have c1_6 : Hid ((w6).cell? ⟨w.heap.size, 1, none⟩ = some (.slice a d cap)) := (X5.out).cell c1_5.out
  have b0_6 : Hid ((w6).cell? ⟨w5.heap.size, 0, none⟩ = some (.int .i64 p)) := (X5.out).cell b0_5.out
  have b1_6 : Hid ((w6).cell? ⟨w5.heap.size, 1, none⟩ = some (.slice (some ⟨g2, 0, none⟩) d d)) := (X5.out).cell b1_5.out
  have SX0_6 := Lib.hid (SX0_5.out.ext X5.out)
  have Z6 : Hid (((w5.alloc (.cells #[.int .i64 p, .slice (some ⟨g2, 0, none⟩) d d] 28))).heap.size ≤ (w6).heap.size) := (X5.out).size'
  clear E5 c0_5 c1_5 b0_5 b1_5 SX0_5
  have Hc0 : Hid ((w6).drew.cell? ⟨w.heap.size, 0, none⟩ = some (.int .i64 p)) := (ext_drew _).cell c0_6.out
  have Hc1 : Hid ((w6).drew.cell? ⟨w.heap.size, 1, none⟩ = some (.slice a d cap)) := (ext_drew _).cell c1_6.out
  have Hb0 : Hid ((w6).drew.cell? ⟨w5.heap.size, 0, none⟩ = some (.int .i64 p)) := (ext_drew _).cell b0_6.out
  have Hb1 : Hid ((w6).drew.cell? ⟨w5.heap.size, 1, none⟩ = some (.slice (some ⟨g2, 0, none⟩) d d)) := (ext_drew _).cell b1_6.out
  have HR0 : Hid (RdC (w6).drew (some ⟨g2, 0, none⟩) d qs) := SX0_6.out.rd.ext (ext_drew _)
  have HR1 : Hid (RdC (w6).drew a d qs) := hq.ext (E6.out.trans (ext_drew _))
  go_wp2_with (fail)
  refine wp_region_lex [(2, .sp p d qs), (3, .val (.bool true))] (by kernel_rfl) (by kernel_rfl) ?_
  repeat' first | (refine LexW.pure (v := ?_) rfl rfl (fun w1 he => ?_) ?_; rotate_left; ( have hc0 := he.cell Hc0.out; have hc1 := he.cell Hc1.out; have hb0 := he.cell Hb0.out; have hb1 := he.cell Hb1.out; go_simp; rfl); simp only [Act.put, List.setIfInBounds_toArray, List.set_cons_zero, List.set_cons_succ]) | (refine LexW.callR (f := ?_) (args := ?_) rfl rfl (fun w1 => ?_) (fun w1 he hdep => ?_) (fun v hv => ?_); rotate_left 2; (go_simp; refine ⟨?_, ?_⟩ <;> rfl); ( refine (l_toSpace p a d cap qs w1 (by omega) (HR1.out.ext he)).mono ?_; rintro e w2 ⟨g8, rfl, o8, x8⟩; exact ⟨_, rfl, x8, g8, rfl, o8.rd⟩); simp only [Act.put, List.setIfInBounds_toArray, List.set_cons_zero, List.set_cons_succ]) | (refine LexW.call (f := ?_) (args := ?_) rfl rfl (fun w1 => ?_) (fun w1 he hdep => ?_) ?_; rotate_left 2; (go_simp; refine ⟨?_, ?_⟩ <;> rfl); ( obtain ⟨g8, h8, r8⟩ : (SPred.sp p d qs).holds _ w1 := hdep (2, 44) (by decide +kernel); subst h8; have H := l_eqSpace p _ _ d d d d qs qs w1 (by omega) (by omega) (HR0.out.ext he) r8; rw [eqB_self] at H; exact H); simp only [Act.put, List.setIfInBounds_toArray, List.set_cons_zero, List.set_cons_succ])
  refine LexW.nil (fun w7 he hk => ?_)
  have X6 : Hid (Ext w6 w7) := (ext_drew _).trans he
  clear he hk Hc0 Hc1 Hb0 Hb1 HR0 HR1
  have E7 : Hid (Ext w w7) := E6.out.trans X6.out
  have c0_7 : Hid ((w7).cell? ⟨w.heap.size, 0, none⟩ = some (.int .i64 p)) := (X6.out).cell c0_6.out
  have c1_7 : Hid ((w7).cell? ⟨w.heap.size, 1, none⟩ = some (.slice a d cap)) := (X6.out).cell c1_6.out
  have b0_7 : Hid ((w7).cell? ⟨w5.heap.size, 0, none⟩ = some (.int .i64 p)) := (X6.out).cell b0_6.out
  have b1_7 : Hid ((w7).cell? ⟨w5.heap.size, 1, none⟩ = some (.slice (some ⟨g2, 0, none⟩) d d)) := (X6.out).cell b1_6.out
  have SX0_7 := Lib.hid (SX0_6.out.ext X6.out)
  have Z7 : Hid ((w6).heap.size ≤ (w7).heap.size) := (X6.out).size'
  clear E6 c0_6 c1_6 b0_6 b1_6 SX0_6
  go_wp2_with (fail)
  go_ret
  exact ⟨rfl, E7.out⟩

theorem law_ExactMaskOfName (w : World) (p : Int) (a : Option Addr) (d cap : Nat) (qs : List Int) (hq : RdC w a d qs) (hmd : d ≤ maxLen) (s1 : ByteArray) (_hs1 : s1.size ≤ maxLen) :
    Calls Tryd.prog 4 #[.agg #[.int .i64 p, .slice a d cap], .string s1] w fun e w' => e = .returned (.bool true) ∧ Ext w w' := by
  by_cases hb : 1048576 < s1.size ∨ 1048576 < d
  · exact w_MaskOfName_big p a d cap s1 w hmd  hb
  · have hd : d ≤ 1048576 := by omega
    have hn1 : s1.size ≤ 1048576 := by omega
    by_cases hc : codeMN p qs s1 = 0
    · exact w_MaskOfName p a d cap qs s1 w hd hn1 hq  (maskI s1 d) 0 
        (fun a cap  w hq => s_MaskOfName_ok p a d cap qs s1 w (by omega) hq hc) (fun a cap  w hq => c_MaskOfName_ok p a d cap qs s1 w (by omega) hq hc)
    · exact w_MaskOfName p a d cap qs s1 w hd hn1 hq  0 _ 
        (fun a cap  w hq => s_MaskOfName_bad p a d cap qs s1 w (by omega) hq hc) (fun a cap  w hq => c_MaskOfName_bad p a d cap qs s1 w (by omega) hq hc)

end Go.Proofs.YtdccileoiiafmaaDoor
