/-
  The walk of the law FnExactCountTerms: it returns true and leaves what was there as it was.
  No condition.
-/
import Derived.Test.YtfkaijlnmmbpgaaCountTerms
namespace Go.Proofs.Ytfkaijlnmmbpgaa
open Go.RowKit

set_option maxHeartbeats 1000000 in
theorem w_CountTerms_big (p : Int) (a : Option Addr) (d cap : Nat) (ax : Option Addr) (n cx : Nat) (w : World) (hmd : d ≤ maxLen) (_hmn : n ≤ maxLen) (hb : 1048576 < n ∨ 1048576 < d) :
    Calls Try.prog 3 #[.agg #[.int .i64 p, .slice a d cap], .slice ax n cx] w fun e w' => e = .returned (.bool true) ∧ Ext w w' := by
  by_cases hn : 1048576 < n
  · go_enter Try.func3, Try.ntmps3
    go_wp2_with (fail)
    go_ret
    exact ⟨rfl, ext_alloc _ _⟩
  · have HS := Lib.hid (szN_neg (left := 1048576) (n := d) (by omega))
    go_enter Try.func3, Try.ntmps3
    go_wp2_with (go_at_call 15; refine (l_szSpace _ _ _ _ _ _ (by omega) (by omega) hmd).mono ?_; rintro e w1 ⟨rfl, g1⟩; rw [HS.out])
    go_ret
    exact ⟨rfl, (ext_alloc _ _).trans g1⟩

set_option maxHeartbeats 1000000 in
theorem w_CountTerms (p : Int) (a : Option Addr) (d cap : Nat) (qs : List Int) (ax : Option Addr) (n cx : Nat) (xs : List Int) (w : World) (hd : d ≤ 1048576) (hn : n ≤ 1048576) (hq : RdC w a d qs) (hx : RdC w ax n xs) (m c : Int)
    (hs : ∀ (a : Option Addr) (cap : Nat) (ax : Option Addr) (cx : Nat) (w : World), RdC w a d qs → RdC w ax n xs → Calls Try.prog 16 #[.agg #[.int .i64 p, .slice a d cap], .slice ax n cx] w fun e w' => e = .returned (.tuple #[.int .i64 m, .int .i64 c]) ∧ Ext w w')
    (hi : ∀ (a : Option Addr) (cap : Nat) (ax : Option Addr) (cx : Nat) (w : World), RdC w a d qs → RdC w ax n xs → Calls Try.prog 19 #[.agg #[.int .i64 p, .slice a d cap], .slice ax n cx] w fun e w' => e = .returned (.tuple #[.int .i64 m, .int .i64 c]) ∧ Ext w w') :
    Calls Try.prog 3 #[.agg #[.int .i64 p, .slice a d cap], .slice ax n cx] w fun e w' => e = .returned (.bool true) ∧ Ext w w' := by
  have HS := Lib.hid (szN_pos (left := 1048576) (n := d) (by omega))
  have Hs := Lib.hid hs
  have Hi := Lib.hid hi
  have hmm : (m != m) = false := by simp
  have hcc : (c != c) = false := by simp
  clear hs hi
  go_enter Try.func3, Try.ntmps3
  go_wp2_with (go_at_call 15; refine (l_szSpace _ _ _ _ _ _ (by omega) (by omega) (by unfold maxLen; omega)).mono ?_; rintro e w1 ⟨rfl, g1⟩; rw [HS.out]; have hcl := Ext.cells g1; have hz := g1.size'; simp only [World.size_alloc] at hcl hz)
  have E1 := Lib.hid ((ext_alloc w (.cells #[.int .i64 p, .slice a d cap] 24)).trans g1)
  have A1 := Lib.hid g1
  clear hcl hz g1
  refine (l_toSpace p a d cap qs _ (by omega) (hq.ext E1.out)).mono ?_
  rintro e w2 ⟨g2, rfl, o2, x2⟩
  have O2 := Lib.hid o2
  have E2 := Lib.hid (E1.out.trans x2)
  have A2 := Lib.hid (A1.out.trans x2)
  clear o2 x2
  go_wp2_with (fail)
  refine (l_toInts ax n cx xs _ (by omega) (hx.ext E2.out)).mono ?_
  rintro e w3 ⟨g3, rfl, o3, x3⟩
  have O3 := Lib.hid o3
  have E3 := Lib.hid (E2.out.trans x3)
  have A3 := Lib.hid (A2.out.trans x3)
  have S2 := Lib.hid (O2.out.ext x3)
  clear o3 x3
  go_wp2_with (fail)
  refine (Hs.out _ _ _ _ _ S2.out.rd O3.out.rd).mono ?_
  rintro e w4 ⟨rfl, x4⟩
  have E4 := Lib.hid (E3.out.trans x4)
  have A4 := Lib.hid (A3.out.trans x4)
  have hc0 : w4.cell? ⟨w.heap.size, 0, none⟩ = some (.int .i64 p) := A4.out.cell (by simp)
  have hc1 : w4.cell? ⟨w.heap.size, 1, none⟩ = some (.slice a d cap) := A4.out.cell (by simp)
  clear x4
  go_wp2_with (fail)
  refine (l_toSpace p a d cap qs _ (by omega) (hq.ext E4.out)).mono ?_
  rintro e w5 ⟨g5, rfl, o5, x5⟩
  have O5 := Lib.hid o5
  have E5 := Lib.hid (E4.out.trans x5)
  have A5 := Lib.hid (A4.out.trans x5)
  clear o5 x5 hc0 hc1
  go_wp2_with (fail)
  refine (l_toInts ax n cx xs _ (by omega) (hx.ext (E5.out.alloc _))).mono ?_
  rintro e w6 ⟨g6, rfl, o6, x6⟩
  have O6 := Lib.hid o6
  have X5 := Lib.hid x6
  have E6 := Lib.hid ((E5.out.alloc _).trans x6)
  have A6 := Lib.hid ((A5.out.alloc _).trans x6)
  have S5 := Lib.hid (O5.out.ext ((ext_alloc _ _).trans x6))
  have hb0 : w6.cell? ⟨w5.heap.size, 0, none⟩ = some (.int .i64 p) := x6.cell (by simp)
  have hb1 : w6.cell? ⟨w5.heap.size, 1, none⟩ = some (.slice (some ⟨g5, 0, none⟩) d d) := x6.cell (by simp)
  clear o6 x6
  go_wp2_with (fail)
  refine (Hi.out _ _ _ _ _ S5.out.rd O6.out.rd).mono ?_
  rintro e w7 ⟨rfl, x7⟩
  have hq7 := Lib.hid (hq.ext (E6.out.trans x7))
  have E7 := Lib.hid (E6.out.trans x7)
  have A7 := Lib.hid (A6.out.trans x7)
  have X7 := Lib.hid (X5.out.trans x7)
  have x7' := x7
  clear x7 hb0 hb1
  have hc0 : w7.drew.cell? ⟨w.heap.size, 0, none⟩ = some (.int .i64 p) := (A7.out.trans (ext_drew _)).cell (by simp)
  have hc1 : w7.drew.cell? ⟨w.heap.size, 1, none⟩ = some (.slice a d cap) := (A7.out.trans (ext_drew _)).cell (by simp)
  have hb0 : w7.drew.cell? ⟨w5.heap.size, 0, none⟩ = some (.int .i64 p) := (X7.out.trans (ext_drew _)).cell (by simp)
  have hb1 : w7.drew.cell? ⟨w5.heap.size, 1, none⟩ = some (.slice (some ⟨g5, 0, none⟩) d d) := (X7.out.trans (ext_drew _)).cell (by simp)
  have Hc0 := Lib.hid hc0
  have Hc1 := Lib.hid hc1
  have Hb0 := Lib.hid hb0
  have Hb1 := Lib.hid hb1
  have S7 := Lib.hid (S5.out.ext (x7'.trans (ext_drew _)))
  have O7 := Lib.hid (O6.out.ext x7')
  clear hc0 hc1 hb0 hb1
  go_wp2_with (fail)
  refine wp_region_lex [(2, .sp p d qs), (3, .val (.bool true))] (by kernel_rfl) (by kernel_rfl) ?_
  repeat' first | (refine LexW.pure (v := ?_) rfl rfl (fun w1 he => ?_) ?_; rotate_left; ( have hc0 := he.cell Hc0.out; have hc1 := he.cell Hc1.out; have hb0 := he.cell Hb0.out; have hb1 := he.cell Hb1.out; go_simp; rfl); simp only [Act.put, List.setIfInBounds_toArray, List.set_cons_zero, List.set_cons_succ]) | (refine LexW.callR (f := ?_) (args := ?_) rfl rfl (fun w1 => ?_) (fun w1 he hdep => ?_) (fun v hv => ?_); rotate_left 2; (go_simp; refine ⟨?_, ?_⟩ <;> rfl); ( refine (l_toSpace p a d cap qs w1 (by omega) (hq7.out.ext ((ext_drew _).trans he))).mono ?_; rintro e w2 ⟨g8, rfl, o8, x8⟩; exact ⟨_, rfl, x8, g8, rfl, o8.rd⟩); simp only [Act.put, List.setIfInBounds_toArray, List.set_cons_zero, List.set_cons_succ]) | (refine LexW.call (f := ?_) (args := ?_) rfl rfl (fun w1 => ?_) (fun w1 he hdep => ?_) ?_; rotate_left 2; (go_simp; refine ⟨?_, ?_⟩ <;> rfl); ( obtain ⟨g8, h8, r8⟩ : (SPred.sp p d qs).holds _ w1 := hdep (2, 48) (by decide +kernel); subst h8; have H := l_eqSpace p _ _ d d d d qs qs w1 (by omega) (by omega) (S7.out.rd.ext he) r8; rw [eqB_self] at H; exact H); simp only [Act.put, List.setIfInBounds_toArray, List.set_cons_zero, List.set_cons_succ])
  refine LexW.nil (fun w8 he hk => ?_)
  have E8 := Lib.hid (E7.out.trans ((ext_drew _).trans he))
  have O8 := Lib.hid (O7.out.ext ((ext_drew _).trans he))
  clear he hk
  go_wp2_with (fail)
  refine (l_toInts ax n cx xs _ (by omega) (hx.ext E8.out)).mono ?_
  rintro e w9 ⟨g9, rfl, o9, x9⟩
  have O9 := Lib.hid o9
  have E9 := Lib.hid (E8.out.trans x9)
  have S9 := Lib.hid (O8.out.ext x9)
  clear o9 x9
  go_wp2_with (fail)
  have H := l_eqInts (some ⟨g6, 0, none⟩) (some ⟨g9, 0, none⟩) n n n n xs xs w9 (by omega) (by omega) S9.out.rd O9.out.rd
  rw [eqB_self] at H
  refine H.mono ?_
  rintro e w10 ⟨rfl, x10⟩
  go_wp2_with (fail)
  go_ret
  exact ⟨rfl, E9.out.trans x10⟩

theorem law_ExactCountTerms (w : World) (p : Int) (a : Option Addr) (d cap : Nat) (qs : List Int) (hq : RdC w a d qs) (hmd : d ≤ maxLen) (ax : Option Addr) (n cx : Nat) (xs : List Int) (hx : RdC w ax n xs) (hmn : n ≤ maxLen) :
    Calls Try.prog 3 #[.agg #[.int .i64 p, .slice a d cap], .slice ax n cx] w fun e w' => e = .returned (.bool true) ∧ Ext w w' := by
  by_cases hb : 1048576 < n ∨ 1048576 < d
  · exact w_CountTerms_big p a d cap ax n cx w hmd hmn hb
  · have hd : d ≤ 1048576 := by omega
    have hn : n ≤ 1048576 := by omega
    by_cases hc : codeM p qs [xs] = 0
    · exact w_CountTerms p a d cap qs ax n cx xs w hd hn hq hx _ _ (fun a cap ax cx w hq hx => s_CountTerms_ok p a d cap qs ax n cx xs w (by omega) (by omega) hq hx hc) (fun a cap ax cx w hq hx => c_CountTerms_ok p a d cap qs ax n cx xs w (by omega) (by omega) hq hx hc)
    · exact w_CountTerms p a d cap qs ax n cx xs w hd hn hq hx _ _ (fun a cap ax cx w hq hx => s_CountTerms_bad p a d cap qs ax n cx xs w (by omega) (by omega) hq hx hc) (fun a cap ax cx w hq hx => c_CountTerms_bad p a d cap qs ax n cx xs w (by omega) (by omega) hq hx hc)

end Go.Proofs.Ytfkaijlnmmbpgaa
