/-
  The walk of the law FnExactBracketTriple: it returns true and leaves what was there as it was.
  No condition.
-/
import Derived.Test.YthflmmgolegonaaPart9
import Derived.Test.YthflmmgolegonaaPart1
import Derived.Test.YthflmmgolegonaaPart11
import Derived.Test.YthflmmgolegonaaPart7
namespace Go.Proofs.Ythflmmgolegonaa
set_option maxRecDepth 100000
open Go.RowKit

theorem cnt_square {p : Int} {N : Nat} {M : List (List Int)} (hl : M.length = N) (hg : RowsG p N M) : ∀ k, k ≤ N → cntR M k ≤ k * N
  | 0, _ => by simp [cntR]
  | k + 1, h => by
    have h1 := cnt_square hl hg k (by omega)
    have h2 := (hg k (by omega)).1
    show cntR M k + (nthR M k).length ≤ (k + 1) * N
    rw [h2, Nat.add_mul]; omega

set_option maxHeartbeats 8000000 in
set_option maxRecDepth 100000 in
theorem w_BracketTriple_big (p : Int) (a : Option Addr) (d cap : Nat) (qs : List Int) (a1x1 : Option Addr) (n1x1 c1x1 : Nat) (T1x1 : List (List Int)) (a1x2 : Option Addr) (n1x2 c1x2 : Nat) (T1x2 : List (List Int)) (a1x3 : Option Addr) (n1x3 c1x3 : Nat) (T1x3 : List (List Int)) (a2x1 : Option Addr) (n2x1 c2x1 : Nat) (T2x1 : List (List Int)) (a2x2 : Option Addr) (n2x2 c2x2 : Nat) (T2x2 : List (List Int)) (a2x3 : Option Addr) (n2x3 c2x3 : Nat) (T2x3 : List (List Int)) (w : World) (_hq : RdC w a d qs) (hmd : d ≤ maxLen) (hx1x1 : RdR w a1x1 n1x1 T1x1) (hx1x2 : RdR w a1x2 n1x2 T1x2) (hx1x3 : RdR w a1x3 n1x3 T1x3) (hx2x1 : RdR w a2x1 n2x1 T2x1) (hx2x2 : RdR w a2x2 n2x2 T2x2) (hx2x3 : RdR w a2x3 n2x3 T2x3) (_hm1x1 : n1x1 ≤ maxLen) (_hml1x1 : ∀ q, q < n1x1 → (nthR T1x1 q).length ≤ maxLen) (_hm1x2 : n1x2 ≤ maxLen) (_hml1x2 : ∀ q, q < n1x2 → (nthR T1x2 q).length ≤ maxLen) (_hm1x3 : n1x3 ≤ maxLen) (_hml1x3 : ∀ q, q < n1x3 → (nthR T1x3 q).length ≤ maxLen) (_hm2x1 : n2x1 ≤ maxLen) (_hml2x1 : ∀ q, q < n2x1 → (nthR T2x1 q).length ≤ maxLen) (_hm2x2 : n2x2 ≤ maxLen) (_hml2x2 : ∀ q, q < n2x2 → (nthR T2x2 q).length ≤ maxLen) (_hm2x3 : n2x3 ≤ maxLen) (_hml2x3 : ∀ q, q < n2x3 → (nthR T2x3 q).length ≤ maxLen) (hb : 1048576 < d ∨ (d ≤ 1048576 ∧ szT (1048576 - (d : Int)) T1x1 T1x2 T1x3 < 0) ∨ (d ≤ 1048576 ∧ 0 ≤ szT (1048576 - (d : Int)) T1x1 T1x2 T1x3 ∧ szT (szT (1048576 - (d : Int)) T1x1 T1x2 T1x3) T2x1 T2x2 T2x3 < 0)) :
    Calls Try.prog 5 #[.agg #[.int .i64 p, .slice a d cap], .agg #[.slice a1x1 n1x1 c1x1, .slice a1x2 n1x2 c1x2, .slice a1x3 n1x3 c1x3], .agg #[.slice a2x1 n2x1 c2x1, .slice a2x2 n2x2 c2x2, .slice a2x3 n2x3 c2x3]] w fun e w' => e = .returned (.bool true) ∧ Ext w w' := by
  have HX1x1 := Lib.hid hx1x1
  have HML1x1 := Lib.hid _hml1x1
  clear hx1x1 _hml1x1
  have HX1x2 := Lib.hid hx1x2
  have HML1x2 := Lib.hid _hml1x2
  clear hx1x2 _hml1x2
  have HX1x3 := Lib.hid hx1x3
  have HML1x3 := Lib.hid _hml1x3
  clear hx1x3 _hml1x3
  have HX2x1 := Lib.hid hx2x1
  have HML2x1 := Lib.hid _hml2x1
  clear hx2x1 _hml2x1
  have HX2x2 := Lib.hid hx2x2
  have HML2x2 := Lib.hid _hml2x2
  clear hx2x2 _hml2x2
  have HX2x3 := Lib.hid hx2x3
  have HML2x3 := Lib.hid _hml2x3
  clear hx2x3 _hml2x3
  obtain ⟨O, hO⟩ : ∃ O, O = w.heap.size := ⟨_, rfl⟩
  obtain ⟨U0, hU0⟩ : ∃ W, W = w.alloc (.cells #[.int .i64 p, .slice a d cap] 24) := ⟨_, rfl⟩
  obtain ⟨U1, hU1⟩ : ∃ W, W = U0.alloc (.cells #[.slice a1x1 n1x1 c1x1, .slice a1x2 n1x2 c1x2, .slice a1x3 n1x3 c1x3] 47) := ⟨_, rfl⟩
  obtain ⟨W0, hW0⟩ : ∃ W, W = U1.alloc (.cells #[.slice a2x1 n2x1 c2x1, .slice a2x2 n2x2 c2x2, .slice a2x3 n2x3 c2x3] 47) := ⟨_, rfl⟩
  have z0 : U0.heap.size = O + 1 := by rw [hU0, hO]; simp
  have z1' : U1.heap.size = O + 1 + 1 := by rw [hU1]; simp; omega
  have z2' : W0.heap.size = O + 1 + 1 + 1 := by rw [hW0]; simp; omega
  have x0 : Ext w U0 := by rw [hU0]; exact ext_alloc _ _
  have x1 : Ext U0 U1 := by rw [hU1]; exact ext_alloc _ _
  have x2 : Ext U1 W0 := by rw [hW0]; exact ext_alloc _ _
  have E := Lib.hid ((x0.trans x1).trans x2)
  have c00 := Lib.hid (show W0.cell? ⟨O, 0, none⟩ = some (.int .i64 p) from (x1.trans x2).cell (by rw [hU0, hO]; simp))
  have c01 := Lib.hid (show W0.cell? ⟨O, 1, none⟩ = some (.slice a d cap) from (x1.trans x2).cell (by rw [hU0, hO]; simp))
  have c10 := Lib.hid (show W0.cell? ⟨O + 1, 0, none⟩ = some (.slice a1x1 n1x1 c1x1) from x2.cell (by rw [hU1, ← z0]; simp))
  have c11 := Lib.hid (show W0.cell? ⟨O + 1, 1, none⟩ = some (.slice a1x2 n1x2 c1x2) from x2.cell (by rw [hU1, ← z0]; simp))
  have c12 := Lib.hid (show W0.cell? ⟨O + 1, 2, none⟩ = some (.slice a1x3 n1x3 c1x3) from x2.cell (by rw [hU1, ← z0]; simp))
  have c20 := Lib.hid (show W0.cell? ⟨O + 1 + 1, 0, none⟩ = some (.slice a2x1 n2x1 c2x1) by rw [hW0, ← z1']; simp)
  have c21 := Lib.hid (show W0.cell? ⟨O + 1 + 1, 1, none⟩ = some (.slice a2x2 n2x2 c2x2) by rw [hW0, ← z1']; simp)
  have c22 := Lib.hid (show W0.cell? ⟨O + 1 + 1, 2, none⟩ = some (.slice a2x3 n2x3 c2x3) by rw [hW0, ← z1']; simp)
  have HU0 := Lib.hid hU0
  have HU1 := Lib.hid hU1
  have HW0 := Lib.hid hW0
  have HO := Lib.hid hO
  have HWZ := Lib.hid z2'
  clear hU0 hU1 hW0 z0 z1' z2' x0 x1 x2 hO
  go_enter Try.func5, Try.ntmps5
  go_wp2_with (fail)
  rw [← HU0.out]
  try rw [← HO.out]
  rw [← HU1.out]
  rw [← HW0.out]
  clear HU0 HU1 HW0
  refine Calls.mono (l_szDoubling _ _ _ _ _ _ (by omega) (by omega) hmd) ?_
  rintro e w1 ⟨rfl, g1⟩
  have E1 := Lib.hid (E.out.trans g1)
  have k10 := g1.cell c10.out
  have K20 := Lib.hid (g1.cell c20.out)
  have k11 := g1.cell c11.out
  have K21 := Lib.hid (g1.cell c21.out)
  have k12 := g1.cell c12.out
  have K22 := Lib.hid (g1.cell c22.out)
  clear g1
  by_cases hd : 1048576 < d
  · rw [szN_neg (left := 1048576) (n := d) (by omega)]
    go_wp2_with (fail)
    go_ret
    exact ⟨rfl, E1.out⟩
  rw [szN_pos (left := 1048576) (n := d) (by omega)]
  have hdn : ¬ (1048576 - (d : Int)) < 0 := by omega
  have HB := Lib.hid hb
  clear hb
  go_wp2_with (fail)
  refine Calls.mono (l_szTriple a1x1 a1x2 a1x3 n1x1 n1x2 n1x3 c1x1 c1x2 c1x3 T1x1 T1x2 T1x3 (1048576 - (d : Int)) w1 (by omega) (by omega) _hm1x1 _hm1x2 _hm1x3 HML1x1.out HML1x2.out HML1x3.out (HX1x1.out.ext E1.out) (HX1x2.out.ext E1.out) (HX1x3.out.ext E1.out)) ?_
  rintro e w2 ⟨rfl, g2⟩
  obtain ⟨z1, hz1⟩ : ∃ z, z = szT (1048576 - (d : Int)) T1x1 T1x2 T1x3 := ⟨_, rfl⟩
  have hn1 : z1 < 0 → z1 = -1 := fun h => by rw [hz1] at h ⊢; exact szT_neg h
  have hb1 : 0 ≤ z1 → z1 ≤ 1048576 := fun h => by rw [hz1] at h ⊢; have := szT_le h; omega
  rw [← hz1]
  have HB2 := HB.out
  rw [← hz1] at HB2
  have HB3 := Lib.hid HB2
  have E2 := Lib.hid (E1.out.trans g2)
  have k20 := g2.cell K20.out
  have k21 := g2.cell K21.out
  have k22 := g2.cell K22.out
  clear g2 k10 k11 k12 HB HB2 hz1
  by_cases hz : z1 < 0
  · have hz9 := hn1 hz
    subst hz9
    clear hn1 hb1
    go_wp2_with (fail)
    go_ret
    exact ⟨rfl, E2.out⟩
  have hb9 := hb1 (by omega)
  clear hn1 hb1
  go_wp2_with (fail)
  refine Calls.mono (l_szTriple a2x1 a2x2 a2x3 n2x1 n2x2 n2x3 c2x1 c2x2 c2x3 T2x1 T2x2 T2x3 z1 w2 (by omega) (by omega) _hm2x1 _hm2x2 _hm2x3 HML2x1.out HML2x2.out HML2x3.out (HX2x1.out.ext E2.out) (HX2x2.out.ext E2.out) (HX2x3.out.ext E2.out)) ?_
  rintro e w3 ⟨rfl, g3⟩
  obtain ⟨z2, hz2⟩ : ∃ z, z = szT z1 T2x1 T2x2 T2x3 := ⟨_, rfl⟩
  have hn2 : z2 < 0 → z2 = -1 := fun h => by rw [hz2] at h ⊢; exact szT_neg h
  rw [← hz2]
  have hz29 : z2 < 0 := by rw [hz2]; have := HB3.out; omega
  have hz9 := hn2 hz29
  have E3 := Lib.hid (E2.out.trans g3)
  clear g3 k20 k21 k22 hz2 hn2 hz29
  subst hz9
  go_wp2_with (fail)
  go_ret
  exact ⟨rfl, E3.out⟩

/-- A copied triple that can be read. -/
def SPred.tri3 (n1 n2 n3 : Nat) (A B C : List (List Int)) : SPred :=
  ⟨fun v w => ∃ g1 g2 g3, v = .agg #[.slice (some ⟨g1, 0, none⟩) n1 n1, .slice (some ⟨g2, 0, none⟩) n2 n2, .slice (some ⟨g3, 0, none⟩) n3 n3] ∧ RdR w (some ⟨g1, 0, none⟩) n1 A ∧ RdR w (some ⟨g2, 0, none⟩) n2 B ∧ RdR w (some ⟨g3, 0, none⟩) n3 C, fun _ _ _ ⟨g1, g2, g3, h0, h1, h2, h3⟩ he => ⟨g1, g2, g3, h0, h1.ext he, h2.ext he, h3.ext he⟩⟩

set_option maxHeartbeats 16000000 in
set_option maxRecDepth 100000 in
theorem w_BracketTriple (p : Int) (a : Option Addr) (d cap : Nat) (qs : List Int) (a1x1 : Option Addr) (n1x1 c1x1 : Nat) (T1x1 : List (List Int)) (a1x2 : Option Addr) (n1x2 c1x2 : Nat) (T1x2 : List (List Int)) (a1x3 : Option Addr) (n1x3 c1x3 : Nat) (T1x3 : List (List Int)) (a2x1 : Option Addr) (n2x1 c2x1 : Nat) (T2x1 : List (List Int)) (a2x2 : Option Addr) (n2x2 c2x2 : Nat) (T2x2 : List (List Int)) (a2x3 : Option Addr) (n2x3 c2x3 : Nat) (T2x3 : List (List Int)) (w : World) (hd : d ≤ 1048576)  (hsz1 : 0 ≤ szT (1048576 - (d : Int)) T1x1 T1x2 T1x3) (hn1x1 : n1x1 ≤ 1048576) (hT1x1 : cntR T1x1 n1x1 ≤ 1048576) (hn1x2 : n1x2 ≤ 1048576) (hT1x2 : cntR T1x2 n1x2 ≤ 1048576) (hn1x3 : n1x3 ≤ 1048576) (hT1x3 : cntR T1x3 n1x3 ≤ 1048576) (hsz2 : 0 ≤ szT (szT (1048576 - (d : Int)) T1x1 T1x2 T1x3) T2x1 T2x2 T2x3) (hn2x1 : n2x1 ≤ 1048576) (hT2x1 : cntR T2x1 n2x1 ≤ 1048576) (hn2x2 : n2x2 ≤ 1048576) (hT2x2 : cntR T2x2 n2x2 ≤ 1048576) (hn2x3 : n2x3 ≤ 1048576) (hT2x3 : cntR T2x3 n2x3 ≤ 1048576) (hq : RdC w a d qs) (hx1x1 : RdR w a1x1 n1x1 T1x1) (hx1x2 : RdR w a1x2 n1x2 T1x2) (hx1x3 : RdR w a1x3 n1x3 T1x3) (hx2x1 : RdR w a2x1 n2x1 T2x1) (hx2x2 : RdR w a2x2 n2x2 T2x2) (hx2x3 : RdR w a2x3 n2x3 T2x3) (rn : Nat) (yA yB yC : List (List Int)) (c : Int) (hrn : rn ≤ 1048576) (hTA : cntR yA rn ≤ 1048576) (hTB : cntR yB rn ≤ 1048576) (hTC : cntR yC rn ≤ 1048576)
    (hs : ∀ (a : Option Addr) (a1x1 : Option Addr) (a1x2 : Option Addr) (a1x3 : Option Addr) (a2x1 : Option Addr) (a2x2 : Option Addr) (a2x3 : Option Addr) (w : World), RdC w a d qs → RdR w a1x1 n1x1 T1x1 → RdR w a1x2 n1x2 T1x2 → RdR w a1x3 n1x3 T1x3 → RdR w a2x1 n2x1 T2x1 → RdR w a2x2 n2x2 T2x2 → RdR w a2x3 n2x3 T2x3 → Calls Try.prog 26 #[.agg #[.int .i64 p, .slice a d d], .agg #[.slice a1x1 n1x1 n1x1, .slice a1x2 n1x2 n1x2, .slice a1x3 n1x3 n1x3], .agg #[.slice a2x1 n2x1 n2x1, .slice a2x2 n2x2 n2x2, .slice a2x3 n2x3 n2x3]] w fun e w' => ∃ V, e = .returned (.tuple #[V, .int .i64 c]) ∧ Trip w.heap.size w' rn yA yB yC V ∧ Ext w w')
    (hi : ∀ (a : Option Addr) (a1x1 : Option Addr) (a1x2 : Option Addr) (a1x3 : Option Addr) (a2x1 : Option Addr) (a2x2 : Option Addr) (a2x3 : Option Addr) (w : World), RdC w a d qs → RdR w a1x1 n1x1 T1x1 → RdR w a1x2 n1x2 T1x2 → RdR w a1x3 n1x3 T1x3 → RdR w a2x1 n2x1 T2x1 → RdR w a2x2 n2x2 T2x2 → RdR w a2x3 n2x3 T2x3 → Calls Try.prog 28 #[.agg #[.int .i64 p, .slice a d d], .agg #[.slice a1x1 n1x1 n1x1, .slice a1x2 n1x2 n1x2, .slice a1x3 n1x3 n1x3], .agg #[.slice a2x1 n2x1 n2x1, .slice a2x2 n2x2 n2x2, .slice a2x3 n2x3 n2x3]] w fun e w' => ∃ V, e = .returned (.tuple #[V, .int .i64 c]) ∧ Trip w.heap.size w' rn yA yB yC V ∧ Ext w w') :
    Calls Try.prog 5 #[.agg #[.int .i64 p, .slice a d cap], .agg #[.slice a1x1 n1x1 c1x1, .slice a1x2 n1x2 c1x2, .slice a1x3 n1x3 c1x3], .agg #[.slice a2x1 n2x1 c2x1, .slice a2x2 n2x2 c2x2, .slice a2x3 n2x3 c2x3]] w fun e w' => e = .returned (.bool true) ∧ Ext w w' := by
  have HS := Lib.hid (szN_pos (left := 1048576) (n := d) (by omega))
  have HQ0 := Lib.hid hq
  have Hs := Lib.hid hs
  have Hi := Lib.hid hi
  have hccb : (c != c) = false := by simp
  have HLA : Hid (∀ j, j < rn → (nthR yA j).length ≤ 4194304) := Lib.hid (fun j hj => Nat.le_trans (cntR_row yA hj) (by omega))
  have HLB : Hid (∀ j, j < rn → (nthR yB j).length ≤ 4194304) := Lib.hid (fun j hj => Nat.le_trans (cntR_row yB hj) (by omega))
  have HLC : Hid (∀ j, j < rn → (nthR yC j).length ≤ 4194304) := Lib.hid (fun j hj => Nat.le_trans (cntR_row yC hj) (by omega))
  obtain ⟨TK, hTK⟩ : ∃ z, z = trK 1 yA rn yB rn yC rn := ⟨_, rfl⟩
  have HTK := Lib.hid hTK
  have hTK0 : ¬ TK < 0 := by rw [hTK]; unfold trK; omega
  have hTKb : (TK != TK) = false := by simp
  clear hTK hs hi hq
  have HX1x1 := Lib.hid hx1x1
  have HL1x1 : Hid (∀ j, j < n1x1 → (nthR T1x1 j).length ≤ 4194304) := Lib.hid (fun j hj => Nat.le_trans (cntR_row T1x1 hj) (by omega))
  clear hx1x1
  have HX1x2 := Lib.hid hx1x2
  have HL1x2 : Hid (∀ j, j < n1x2 → (nthR T1x2 j).length ≤ 4194304) := Lib.hid (fun j hj => Nat.le_trans (cntR_row T1x2 hj) (by omega))
  clear hx1x2
  have HX1x3 := Lib.hid hx1x3
  have HL1x3 : Hid (∀ j, j < n1x3 → (nthR T1x3 j).length ≤ 4194304) := Lib.hid (fun j hj => Nat.le_trans (cntR_row T1x3 hj) (by omega))
  clear hx1x3
  have HX2x1 := Lib.hid hx2x1
  have HL2x1 : Hid (∀ j, j < n2x1 → (nthR T2x1 j).length ≤ 4194304) := Lib.hid (fun j hj => Nat.le_trans (cntR_row T2x1 hj) (by omega))
  clear hx2x1
  have HX2x2 := Lib.hid hx2x2
  have HL2x2 : Hid (∀ j, j < n2x2 → (nthR T2x2 j).length ≤ 4194304) := Lib.hid (fun j hj => Nat.le_trans (cntR_row T2x2 hj) (by omega))
  clear hx2x2
  have HX2x3 := Lib.hid hx2x3
  have HL2x3 : Hid (∀ j, j < n2x3 → (nthR T2x3 j).length ≤ 4194304) := Lib.hid (fun j hj => Nat.le_trans (cntR_row T2x3 hj) (by omega))
  clear hx2x3
  obtain ⟨z1, hz1e⟩ : ∃ z, z = szT (1048576 - (d : Int)) T1x1 T1x2 T1x3 := ⟨_, rfl⟩
  rw [← hz1e] at hsz1 hsz2
  have hzb1 : z1 ≤ 1048576 := by have h := szT_le (left := (1048576 - (d : Int))) (A := T1x1) (B := T1x2) (C := T1x3) (by rw [← hz1e]; omega); omega
  have hzn1 : ¬ z1 < 0 := by omega
  have HZ1 := Lib.hid hz1e.symm
  clear hz1e
  obtain ⟨z2, hz2e⟩ : ∃ z, z = szT z1 T2x1 T2x2 T2x3 := ⟨_, rfl⟩
  rw [← hz2e] at hsz2
  have hzb2 : z2 ≤ 1048576 := by have h := szT_le (left := z1) (A := T2x1) (B := T2x2) (C := T2x3) (by rw [← hz2e]; omega); omega
  have hzn2 : ¬ z2 < 0 := by omega
  have HZ2 := Lib.hid hz2e.symm
  clear hz2e
  obtain ⟨O, hO⟩ : ∃ O, O = w.heap.size := ⟨_, rfl⟩
  obtain ⟨U0, hU0⟩ : ∃ W, W = w.alloc (.cells #[.int .i64 p, .slice a d cap] 24) := ⟨_, rfl⟩
  obtain ⟨U1, hU1⟩ : ∃ W, W = U0.alloc (.cells #[.slice a1x1 n1x1 c1x1, .slice a1x2 n1x2 c1x2, .slice a1x3 n1x3 c1x3] 47) := ⟨_, rfl⟩
  obtain ⟨W0, hW0⟩ : ∃ W, W = U1.alloc (.cells #[.slice a2x1 n2x1 c2x1, .slice a2x2 n2x2 c2x2, .slice a2x3 n2x3 c2x3] 47) := ⟨_, rfl⟩
  have z0 : U0.heap.size = O + 1 := by rw [hU0, hO]; simp
  have z1' : U1.heap.size = O + 1 + 1 := by rw [hU1]; simp; omega
  have z2' : W0.heap.size = O + 1 + 1 + 1 := by rw [hW0]; simp; omega
  have x0 : Ext w U0 := by rw [hU0]; exact ext_alloc _ _
  have x1 : Ext U0 U1 := by rw [hU1]; exact ext_alloc _ _
  have x2 : Ext U1 W0 := by rw [hW0]; exact ext_alloc _ _
  have E := Lib.hid ((x0.trans x1).trans x2)
  have c00 := Lib.hid (show W0.cell? ⟨O, 0, none⟩ = some (.int .i64 p) from (x1.trans x2).cell (by rw [hU0, hO]; simp))
  have c01 := Lib.hid (show W0.cell? ⟨O, 1, none⟩ = some (.slice a d cap) from (x1.trans x2).cell (by rw [hU0, hO]; simp))
  have c10 := Lib.hid (show W0.cell? ⟨O + 1, 0, none⟩ = some (.slice a1x1 n1x1 c1x1) from x2.cell (by rw [hU1, ← z0]; simp))
  have c11 := Lib.hid (show W0.cell? ⟨O + 1, 1, none⟩ = some (.slice a1x2 n1x2 c1x2) from x2.cell (by rw [hU1, ← z0]; simp))
  have c12 := Lib.hid (show W0.cell? ⟨O + 1, 2, none⟩ = some (.slice a1x3 n1x3 c1x3) from x2.cell (by rw [hU1, ← z0]; simp))
  have c20 := Lib.hid (show W0.cell? ⟨O + 1 + 1, 0, none⟩ = some (.slice a2x1 n2x1 c2x1) by rw [hW0, ← z1']; simp)
  have c21 := Lib.hid (show W0.cell? ⟨O + 1 + 1, 1, none⟩ = some (.slice a2x2 n2x2 c2x2) by rw [hW0, ← z1']; simp)
  have c22 := Lib.hid (show W0.cell? ⟨O + 1 + 1, 2, none⟩ = some (.slice a2x3 n2x3 c2x3) by rw [hW0, ← z1']; simp)
  have HU0 := Lib.hid hU0
  have HU1 := Lib.hid hU1
  have HW0 := Lib.hid hW0
  have HO := Lib.hid hO
  have HWZ := Lib.hid z2'
  clear hU0 hU1 hW0 z0 z1' z2' x0 x1 x2 hO
  go_enter Try.func5, Try.ntmps5
  go_wp2_with (fail)
  rw [← HU0.out]
  try rw [← HO.out]
  rw [← HU1.out]
  rw [← HW0.out]
  clear HU0 HU1 HW0
  have hwO : w.heap.size ≤ O := by have := HO.out; omega
  obtain ⟨Z0, hZ0⟩ : ∃ z, z = O + 1 + 1 + 1 := ⟨_, rfl⟩
  have HZ := Lib.hid (show Z0 ≤ W0.heap.size by rw [hZ0, HWZ.out]; exact Nat.le_refl _)
  have hZ0b : O + 3 ≤ Z0 := by omega
  clear hZ0
  refine (l_szDoubling _ _ _ _ _ W0 (by omega) (by omega) (by unfold maxLen; omega)).mono ?_
  rintro e v1 ⟨rfl, gg⟩
  rw [HS.out]
  replace E := Lib.hid (E.out.trans gg)
  replace c00 := Lib.hid (gg.cell c00.out)
  replace c01 := Lib.hid (gg.cell c01.out)
  replace c10 := Lib.hid (gg.cell c10.out)
  replace c11 := Lib.hid (gg.cell c11.out)
  replace c12 := Lib.hid (gg.cell c12.out)
  replace c20 := Lib.hid (gg.cell c20.out)
  replace c21 := Lib.hid (gg.cell c21.out)
  replace c22 := Lib.hid (gg.cell c22.out)
  replace HZ := Lib.hid (Nat.le_trans HZ.out gg.size')
  clear gg
  have hdn9 : ¬ (1048576 - (d : Int)) < 0 := by omega
  have hc10 := c10.out
  have hc11 := c11.out
  have hc12 := c12.out
  go_wp2_with (fail)
  clear hc10 hc11 hc12
  refine (l_szTriple a1x1 a1x2 a1x3 n1x1 n1x2 n1x3 c1x1 c1x2 c1x3 T1x1 T1x2 T1x3 (1048576 - (d : Int)) v1 (by omega) (by omega) (by unfold maxLen; omega) (by unfold maxLen; omega) (by unfold maxLen; omega) (fun q hq => by have := HL1x1.out q hq; unfold maxLen; omega) (fun q hq => by have := HL1x2.out q hq; unfold maxLen; omega) (fun q hq => by have := HL1x3.out q hq; unfold maxLen; omega) (HX1x1.out.ext E.out) (HX1x2.out.ext E.out) (HX1x3.out.ext E.out)).mono ?_
  rintro e v2 ⟨rfl, gg⟩
  rw [HZ1.out]
  replace E := Lib.hid (E.out.trans gg)
  replace c00 := Lib.hid (gg.cell c00.out)
  replace c01 := Lib.hid (gg.cell c01.out)
  replace c10 := Lib.hid (gg.cell c10.out)
  replace c11 := Lib.hid (gg.cell c11.out)
  replace c12 := Lib.hid (gg.cell c12.out)
  replace c20 := Lib.hid (gg.cell c20.out)
  replace c21 := Lib.hid (gg.cell c21.out)
  replace c22 := Lib.hid (gg.cell c22.out)
  replace HZ := Lib.hid (Nat.le_trans HZ.out gg.size')
  clear gg
  clear hdn9
  have hc20 := c20.out
  have hc21 := c21.out
  have hc22 := c22.out
  go_wp2_with (fail)
  clear hc20 hc21 hc22
  refine (l_szTriple a2x1 a2x2 a2x3 n2x1 n2x2 n2x3 c2x1 c2x2 c2x3 T2x1 T2x2 T2x3 z1 v2 (by omega) (by omega) (by unfold maxLen; omega) (by unfold maxLen; omega) (by unfold maxLen; omega) (fun q hq => by have := HL2x1.out q hq; unfold maxLen; omega) (fun q hq => by have := HL2x2.out q hq; unfold maxLen; omega) (fun q hq => by have := HL2x3.out q hq; unfold maxLen; omega) (HX2x1.out.ext E.out) (HX2x2.out.ext E.out) (HX2x3.out.ext E.out)).mono ?_
  rintro e v3 ⟨rfl, gg⟩
  rw [HZ2.out]
  replace E := Lib.hid (E.out.trans gg)
  replace c00 := Lib.hid (gg.cell c00.out)
  replace c01 := Lib.hid (gg.cell c01.out)
  replace c10 := Lib.hid (gg.cell c10.out)
  replace c11 := Lib.hid (gg.cell c11.out)
  replace c12 := Lib.hid (gg.cell c12.out)
  replace c20 := Lib.hid (gg.cell c20.out)
  replace c21 := Lib.hid (gg.cell c21.out)
  replace c22 := Lib.hid (gg.cell c22.out)
  replace HZ := Lib.hid (Nat.le_trans HZ.out gg.size')
  clear gg
  go_wp2_with (fail)
  obtain ⟨v0W, hv0⟩ : ∃ z, z = v3.drew := ⟨_, rfl⟩
  have HV0 := Lib.hid hv0
  have gg : Ext v3 v0W := by rw [hv0]; exact ext_drew _
  clear hv0
  replace E := Lib.hid (E.out.trans gg)
  replace c00 := Lib.hid (gg.cell c00.out)
  replace c01 := Lib.hid (gg.cell c01.out)
  replace c10 := Lib.hid (gg.cell c10.out)
  replace c11 := Lib.hid (gg.cell c11.out)
  replace c12 := Lib.hid (gg.cell c12.out)
  replace c20 := Lib.hid (gg.cell c20.out)
  replace c21 := Lib.hid (gg.cell c21.out)
  replace c22 := Lib.hid (gg.cell c22.out)
  replace HZ := Lib.hid (Nat.le_trans HZ.out gg.size')
  clear gg
  obtain ⟨ZSW, hZS⟩ : ∃ z, z = v0W.heap.size := ⟨_, rfl⟩
  have hzZSW : Z0 ≤ ZSW := by rw [hZS]; exact HZ.out
  have HZS := Lib.hid hZS
  replace HZ := Lib.hid (Nat.le_of_eq hZS)
  clear hZS
  have X9 := Lib.hid (Ext.refl v0W)
  obtain ⟨J, hJ⟩ : ∃ J : World → Prop, J = (fun w' => w'.cell? ⟨O, 0, none⟩ = some (.int .i64 p) ∧ w'.cell? ⟨O, 1, none⟩ = some (.slice a d cap) ∧ w'.cell? ⟨(O + 1), 0, none⟩ = some (.slice a1x1 n1x1 c1x1) ∧ w'.cell? ⟨(O + 1), 1, none⟩ = some (.slice a1x2 n1x2 c1x2) ∧ w'.cell? ⟨(O + 1), 2, none⟩ = some (.slice a1x3 n1x3 c1x3) ∧ w'.cell? ⟨(O + 1 + 1), 0, none⟩ = some (.slice a2x1 n2x1 c2x1) ∧ w'.cell? ⟨(O + 1 + 1), 1, none⟩ = some (.slice a2x2 n2x2 c2x2) ∧ w'.cell? ⟨(O + 1 + 1), 2, none⟩ = some (.slice a2x3 n2x3 c2x3)) := ⟨_, rfl⟩
  have HJ : Hid (∀ w', w'.cell? ⟨O, 0, none⟩ = some (.int .i64 p) → w'.cell? ⟨O, 1, none⟩ = some (.slice a d cap) → w'.cell? ⟨(O + 1), 0, none⟩ = some (.slice a1x1 n1x1 c1x1) → w'.cell? ⟨(O + 1), 1, none⟩ = some (.slice a1x2 n1x2 c1x2) → w'.cell? ⟨(O + 1), 2, none⟩ = some (.slice a1x3 n1x3 c1x3) → w'.cell? ⟨(O + 1 + 1), 0, none⟩ = some (.slice a2x1 n2x1 c2x1) → w'.cell? ⟨(O + 1 + 1), 1, none⟩ = some (.slice a2x2 n2x2 c2x2) → w'.cell? ⟨(O + 1 + 1), 2, none⟩ = some (.slice a2x3 n2x3 c2x3) → J w') := Lib.hid (fun w' h1 h2 h3 h4 h5 h6 h7 h8 => by rw [hJ]; exact ⟨h1, h2, h3, h4, h5, h6, h7, h8⟩)
  have HJ2 : Hid (∀ w', J w' → w'.cell? ⟨O, 0, none⟩ = some (.int .i64 p) ∧ w'.cell? ⟨O, 1, none⟩ = some (.slice a d cap) ∧ w'.cell? ⟨(O + 1), 0, none⟩ = some (.slice a1x1 n1x1 c1x1) ∧ w'.cell? ⟨(O + 1), 1, none⟩ = some (.slice a1x2 n1x2 c1x2) ∧ w'.cell? ⟨(O + 1), 2, none⟩ = some (.slice a1x3 n1x3 c1x3) ∧ w'.cell? ⟨(O + 1 + 1), 0, none⟩ = some (.slice a2x1 n2x1 c2x1) ∧ w'.cell? ⟨(O + 1 + 1), 1, none⟩ = some (.slice a2x2 n2x2 c2x2) ∧ w'.cell? ⟨(O + 1 + 1), 2, none⟩ = some (.slice a2x3 n2x3 c2x3)) := Lib.hid (fun w' h => by rw [hJ] at h; exact h)
  clear hJ
  refine wp_region_stepsP 13 J (fun a0 a' w' => ∃ (gA0 gA11 gA12 gA13 gA21 gA22 gA23 : Nat) (aW1 : Option Addr) (cW1 : Nat) (aW2 : Option Addr) (cW2 : Nat) (aW3 : Option Addr) (cW3 : Nat) (Wl1 Wh1 Wl2 Wh2 Wl3 Wh3 BbW ZnbW : Nat), a' = ((((((((((((a0.put (some 36) (.agg #[.int .i64 p, .slice a d cap])).put (some 38) (.agg #[.slice a1x1 n1x1 c1x1, .slice a1x2 n1x2 c1x2, .slice a1x3 n1x3 c1x3])).put (some 40) (.agg #[.slice a2x1 n2x1 c2x1, .slice a2x2 n2x2 c2x2, .slice a2x3 n2x3 c2x3])).put (some 37) (.agg #[.int .i64 p, .slice (some ⟨gA0, 0, none⟩) d d])).put (some 39) (.agg #[.slice (some ⟨gA11, 0, none⟩) n1x1 n1x1, .slice (some ⟨gA12, 0, none⟩) n1x2 n1x2, .slice (some ⟨gA13, 0, none⟩) n1x3 n1x3])).put (some 41) (.agg #[.slice (some ⟨gA21, 0, none⟩) n2x1 n2x1, .slice (some ⟨gA22, 0, none⟩) n2x2 n2x2, .slice (some ⟨gA23, 0, none⟩) n2x3 n2x3])).put (some 42) (.tuple #[.agg #[.slice aW1 rn cW1, .slice aW2 rn cW2, .slice aW3 rn cW3], .int .i64 c])).put (some 35) (.tuple #[.agg #[.slice aW1 rn cW1, .slice aW2 rn cW2, .slice aW3 rn cW3], .int .i64 c])).put (some 43) (.agg #[.slice aW1 rn cW1, .slice aW2 rn cW2, .slice aW3 rn cW3])).put (some 44) (.int .i64 c)).put (some 8) (.pointer (some ⟨BbW, 0, none⟩))).put (some 9) (.int .i64 c)) ∧ (ZSW ≤ Wl1 ∧ Wl1 ≤ Wh1 ∧ Wh1 ≤ Wl2 ∧ Wl2 ≤ Wh2 ∧ Wh2 ≤ Wl3 ∧ Wl3 ≤ Wh3 ∧ Wh3 ≤ ZnbW ∧ ZSW ≤ BbW ∧ BbW + 1 ≤ ZnbW) ∧ Hid (ZnbW ≤ w'.heap.size) ∧ Hid (Ext v0W w') ∧ Hid (OwnRH Wl1 Wh1 w' aW1 rn cW1 yA) ∧ Hid (OwnRH Wl2 Wh2 w' aW2 rn cW2 yB) ∧ Hid (OwnRH Wl3 Wh3 w' aW3 rn cW3 yC) ∧ Hid (w'.cell? ⟨BbW, 0, none⟩ = some (.slice aW1 rn cW1)) ∧ Hid (w'.cell? ⟨BbW, 1, none⟩ = some (.slice aW2 rn cW2)) ∧ Hid (w'.cell? ⟨BbW, 2, none⟩ = some (.slice aW3 rn cW3))) (by kernel_rfl) rfl ?_ ?_
  · skip
    rw [← HV0.out]
    clear HV0
    refine stepsI_float (i := 0) (v := ?_) (some 36) (by kernel_rfl) rfl rfl rfl (fun w' hI => ?_) ?_
    rotate_left
    · obtain ⟨q0, q1, q2, q3, q4, q5, q6, q7⟩ := HJ2.out w' hI; go_simp; rfl
    simp only [Act.put, List.setIfInBounds_toArray, List.set_cons_zero, List.set_cons_succ]
    refine stepsI_float (i := 2) (v := ?_) (some 38) (by kernel_rfl) rfl rfl rfl (fun w' hI => ?_) ?_
    rotate_left
    · obtain ⟨q0, q1, q2, q3, q4, q5, q6, q7⟩ := HJ2.out w' hI; go_simp; rfl
    simp only [Act.put, List.setIfInBounds_toArray, List.set_cons_zero, List.set_cons_succ]
    refine stepsI_float (i := 4) (v := ?_) (some 40) (by kernel_rfl) rfl rfl rfl (fun w' hI => ?_) ?_
    rotate_left
    · obtain ⟨q0, q1, q2, q3, q4, q5, q6, q7⟩ := HJ2.out w' hI; go_simp; rfl
    simp only [Act.put, List.setIfInBounds_toArray, List.set_cons_zero, List.set_cons_succ]
    refine stepsI_two (i := 1) (k := 10) (HJ.out _ c00.out c01.out c10.out c11.out c12.out c20.out c21.out c22.out) (by kernel_rfl) ?_ ?_
    · skip
      refine op_call (f := ?_) (args := ?_) (R := fun v w' => ∃ g, v = .agg #[.int .i64 p, .slice (some ⟨g, 0, none⟩) d d] ∧ OwnC v0W.heap.size w' (some ⟨g, 0, none⟩) d d qs ∧ Ext v0W w') (some 37) rfl rfl rfl ?_ ?_ ?_
      rotate_left 2
      · go_simp; refine ⟨?_, ?_⟩ <;> rfl
      · refine Calls.mono (l_toDoubling p a d cap qs v0W (by omega) (HQ0.out.ext E.out)) ?_
        rintro e w9 ⟨g9, rfl, ho9, g8⟩
        exact ⟨_, rfl, g9, rfl, ho9, g8⟩
      rintro v v4 ⟨gA0, rfl, ho, gg⟩
      simp only [Act.put, List.setIfInBounds_toArray, List.set_cons_zero, List.set_cons_succ]
      have hb9 := ho.base_of gA0 rfl
      have hz9 := HZ.out
      obtain ⟨Z5, hZ5⟩ : ∃ z, z = v4.heap.size := ⟨_, rfl⟩
      have hrA0 : ZSW ≤ gA0 ∧ gA0 < Z5 := by omega
      have OA0 := Lib.hid ho
      clear hb9 hz9 ho
      replace X9 := Lib.hid (X9.out.trans gg)
      replace E := Lib.hid (E.out.trans gg)
      replace c00 := Lib.hid (gg.cell c00.out)
      replace c01 := Lib.hid (gg.cell c01.out)
      replace c10 := Lib.hid (gg.cell c10.out)
      replace c11 := Lib.hid (gg.cell c11.out)
      replace c12 := Lib.hid (gg.cell c12.out)
      replace c20 := Lib.hid (gg.cell c20.out)
      replace c21 := Lib.hid (gg.cell c21.out)
      replace c22 := Lib.hid (gg.cell c22.out)
      replace HZ := Lib.hid (Nat.le_trans HZ.out gg.size')
      replace HZ : Hid (Z5 ≤ v4.heap.size) := Lib.hid (Nat.le_of_eq hZ5)
      clear gg hZ5
      refine stepsI_two (i := 3) (k := 10) (HJ.out _ c00.out c01.out c10.out c11.out c12.out c20.out c21.out c22.out) (by kernel_rfl) ?_ ?_
      · skip
        refine op_call (f := ?_) (args := ?_) (R := fun v w' => Trip3 v4.heap.size w' n1x1 n1x2 n1x3 T1x1 T1x2 T1x3 v ∧ Ext v4 w') (some 39) rfl rfl rfl ?_ ?_ ?_
        rotate_left 2
        · go_simp; refine ⟨?_, ?_⟩ <;> rfl
        · refine Calls.mono (l_toTriple a1x1 a1x2 a1x3 n1x1 n1x2 n1x3 c1x1 c1x2 c1x3 T1x1 T1x2 T1x3 v4 (by omega) (by omega) (by omega) HL1x1.out HL1x2.out HL1x3.out (HX1x1.out.ext E.out) (HX1x2.out.ext E.out) (HX1x3.out.ext E.out)) ?_
          rintro e w9 ⟨V9, rfl, hT8, g8⟩
          exact ⟨_, rfl, hT8, g8⟩
        rintro v v6 ⟨hT9, gg⟩
        obtain ⟨gA11, gA12, gA13, A1l1, A1h1, A1l2, A1h2, A1l3, A1h3, rfl, q1, q2, q3, q4, q5, q6, q7, o1, o2, o3⟩ := hT9
        have hz9 := HZ.out
        obtain ⟨Z7, hZ7⟩ : ∃ z, z = v6.heap.size := ⟨_, rfl⟩
        have hrA1 : Z5 ≤ A1l1 ∧ A1l1 ≤ A1h1 ∧ A1h1 ≤ A1l2 ∧ A1l2 ≤ A1h2 ∧ A1h2 ≤ A1l3 ∧ A1l3 ≤ A1h3 ∧ A1h3 ≤ Z7 := by omega
        have OA11 := Lib.hid o1
        have OA12 := Lib.hid o2
        have OA13 := Lib.hid o3
        clear hz9 o1 o2 o3 q1 q2 q3 q4 q5 q6 q7
        replace X9 := Lib.hid (X9.out.trans gg)
        replace E := Lib.hid (E.out.trans gg)
        replace c00 := Lib.hid (gg.cell c00.out)
        replace c01 := Lib.hid (gg.cell c01.out)
        replace c10 := Lib.hid (gg.cell c10.out)
        replace c11 := Lib.hid (gg.cell c11.out)
        replace c12 := Lib.hid (gg.cell c12.out)
        replace c20 := Lib.hid (gg.cell c20.out)
        replace c21 := Lib.hid (gg.cell c21.out)
        replace c22 := Lib.hid (gg.cell c22.out)
        replace OA0 := Lib.hid (OA0.out.ext gg)
        replace HZ := Lib.hid (Nat.le_trans HZ.out gg.size')
        replace HZ : Hid (Z7 ≤ v6.heap.size) := Lib.hid (Nat.le_of_eq hZ7)
        clear gg hZ7
        simp only [Act.put, List.setIfInBounds_toArray, List.set_cons_zero, List.set_cons_succ]
        refine stepsI_two (i := 5) (k := 10) (HJ.out _ c00.out c01.out c10.out c11.out c12.out c20.out c21.out c22.out) (by kernel_rfl) ?_ ?_
        · skip
          refine op_call (f := ?_) (args := ?_) (R := fun v w' => Trip3 v6.heap.size w' n2x1 n2x2 n2x3 T2x1 T2x2 T2x3 v ∧ Ext v6 w') (some 41) rfl rfl rfl ?_ ?_ ?_
          rotate_left 2
          · go_simp; refine ⟨?_, ?_⟩ <;> rfl
          · refine Calls.mono (l_toTriple a2x1 a2x2 a2x3 n2x1 n2x2 n2x3 c2x1 c2x2 c2x3 T2x1 T2x2 T2x3 v6 (by omega) (by omega) (by omega) HL2x1.out HL2x2.out HL2x3.out (HX2x1.out.ext E.out) (HX2x2.out.ext E.out) (HX2x3.out.ext E.out)) ?_
            rintro e w9 ⟨V9, rfl, hT8, g8⟩
            exact ⟨_, rfl, hT8, g8⟩
          rintro v v8 ⟨hT9, gg⟩
          obtain ⟨gA21, gA22, gA23, A2l1, A2h1, A2l2, A2h2, A2l3, A2h3, rfl, q1, q2, q3, q4, q5, q6, q7, o1, o2, o3⟩ := hT9
          have hz9 := HZ.out
          obtain ⟨Z9, hZ9⟩ : ∃ z, z = v8.heap.size := ⟨_, rfl⟩
          have hrA2 : Z7 ≤ A2l1 ∧ A2l1 ≤ A2h1 ∧ A2h1 ≤ A2l2 ∧ A2l2 ≤ A2h2 ∧ A2h2 ≤ A2l3 ∧ A2l3 ≤ A2h3 ∧ A2h3 ≤ Z9 := by omega
          have OA21 := Lib.hid o1
          have OA22 := Lib.hid o2
          have OA23 := Lib.hid o3
          clear hz9 o1 o2 o3 q1 q2 q3 q4 q5 q6 q7
          replace X9 := Lib.hid (X9.out.trans gg)
          replace E := Lib.hid (E.out.trans gg)
          replace c00 := Lib.hid (gg.cell c00.out)
          replace c01 := Lib.hid (gg.cell c01.out)
          replace c10 := Lib.hid (gg.cell c10.out)
          replace c11 := Lib.hid (gg.cell c11.out)
          replace c12 := Lib.hid (gg.cell c12.out)
          replace c20 := Lib.hid (gg.cell c20.out)
          replace c21 := Lib.hid (gg.cell c21.out)
          replace c22 := Lib.hid (gg.cell c22.out)
          replace OA0 := Lib.hid (OA0.out.ext gg)
          replace OA11 := Lib.hid (OA11.out.ext gg)
          replace OA12 := Lib.hid (OA12.out.ext gg)
          replace OA13 := Lib.hid (OA13.out.ext gg)
          replace HZ := Lib.hid (Nat.le_trans HZ.out gg.size')
          replace HZ : Hid (Z9 ≤ v8.heap.size) := Lib.hid (Nat.le_of_eq hZ9)
          clear gg hZ9
          simp only [Act.put, List.setIfInBounds_toArray, List.set_cons_zero, List.set_cons_succ]
          refine stepsI_two (i := 6) (k := 10) (HJ.out _ c00.out c01.out c10.out c11.out c12.out c20.out c21.out c22.out) (by kernel_rfl) ?_ ?_
          · skip
            refine op_call (f := ?_) (args := ?_) (R := fun v w' => ∃ V, v = .tuple #[V, .int .i64 c] ∧ Trip v8.heap.size w' rn yA yB yC V ∧ Ext v8 w') (some 42) rfl rfl rfl ?_ ?_ ?_
            rotate_left 2
            · go_simp; refine ⟨?_, ?_⟩ <;> rfl
            · refine Calls.mono (Hs.out (some ⟨gA0, 0, none⟩) (some ⟨gA11, 0, none⟩) (some ⟨gA12, 0, none⟩) (some ⟨gA13, 0, none⟩) (some ⟨gA21, 0, none⟩) (some ⟨gA22, 0, none⟩) (some ⟨gA23, 0, none⟩) v8 OA0.out.rd OA11.out.low.rd OA12.out.low.rd OA13.out.low.rd OA21.out.low.rd OA22.out.low.rd OA23.out.low.rd) ?_
              rintro e w9 ⟨V9, rfl, hT8, g8⟩
              exact ⟨_, rfl, V9, rfl, hT8, g8⟩
            rintro v v10 ⟨V9, rfl, hT9, gg⟩
            obtain ⟨aW1, cW1, aW2, cW2, aW3, cW3, Wl1, Wh1, Wl2, Wh2, Wl3, Wh3, rfl, q1, q2, q3, q4, q5, q6, q7, o1, o2, o3⟩ := hT9
            have hz9 := HZ.out
            obtain ⟨Z11, hZ11⟩ : ∃ z, z = v10.heap.size := ⟨_, rfl⟩
            have hrW : Z9 ≤ Wl1 ∧ Wl1 ≤ Wh1 ∧ Wh1 ≤ Wl2 ∧ Wl2 ≤ Wh2 ∧ Wh2 ≤ Wl3 ∧ Wl3 ≤ Wh3 ∧ Wh3 ≤ Z11 := by omega
            have OW1 := Lib.hid o1
            have OW2 := Lib.hid o2
            have OW3 := Lib.hid o3
            clear hz9 o1 o2 o3 q1 q2 q3 q4 q5 q6 q7
            replace X9 := Lib.hid (X9.out.trans gg)
            replace E := Lib.hid (E.out.trans gg)
            replace c00 := Lib.hid (gg.cell c00.out)
            replace c01 := Lib.hid (gg.cell c01.out)
            replace c10 := Lib.hid (gg.cell c10.out)
            replace c11 := Lib.hid (gg.cell c11.out)
            replace c12 := Lib.hid (gg.cell c12.out)
            replace c20 := Lib.hid (gg.cell c20.out)
            replace c21 := Lib.hid (gg.cell c21.out)
            replace c22 := Lib.hid (gg.cell c22.out)
            replace OA0 := Lib.hid (OA0.out.ext gg)
            replace OA11 := Lib.hid (OA11.out.ext gg)
            replace OA12 := Lib.hid (OA12.out.ext gg)
            replace OA13 := Lib.hid (OA13.out.ext gg)
            replace OA21 := Lib.hid (OA21.out.ext gg)
            replace OA22 := Lib.hid (OA22.out.ext gg)
            replace OA23 := Lib.hid (OA23.out.ext gg)
            replace HZ := Lib.hid (Nat.le_trans HZ.out gg.size')
            replace HZ : Hid (Z11 ≤ v10.heap.size) := Lib.hid (Nat.le_of_eq hZ11)
            clear gg hZ11
            simp only [Act.put, List.setIfInBounds_toArray, List.set_cons_zero, List.set_cons_succ]
            clear OA0
            clear OA11 OA12 OA13
            clear OA21 OA22 OA23
            refine stepsI_float (i := 7) (v := ?_) (some 35) (by kernel_rfl) rfl rfl rfl (fun w' hI => ?_) ?_
            rotate_left
            · go_simp; rfl
            simp only [Act.put, List.setIfInBounds_toArray, List.set_cons_zero, List.set_cons_succ]
            refine stepsI_float (i := 8) (v := ?_) (some 43) (by kernel_rfl) rfl rfl rfl (fun w' hI => ?_) ?_
            rotate_left
            · go_simp; rfl
            simp only [Act.put, List.setIfInBounds_toArray, List.set_cons_zero, List.set_cons_succ]
            refine stepsI_float (i := 9) (v := ?_) (some 44) (by kernel_rfl) rfl rfl rfl (fun w' hI => ?_) ?_
            rotate_left
            · go_simp; rfl
            simp only [Act.put, List.setIfInBounds_toArray, List.set_cons_zero, List.set_cons_succ]
            refine stepsI_one (i := 10) (HJ.out _ c00.out c01.out c10.out c11.out c12.out c20.out c21.out c22.out) (by kernel_rfl) ?_
            refine op_value (v := .pointer (some ⟨v10.heap.size, 0, none⟩)) (w' := v10.alloc (.cells #[.slice none 0 0, .slice none 0 0, .slice none 0 0] 38)) (some 8) rfl rfl rfl (by go_simp) ?_
            simp only [Act.put, List.setIfInBounds_toArray, List.set_cons_zero, List.set_cons_succ]
            obtain ⟨B13, hB13⟩ : ∃ z, z = v10.heap.size := ⟨_, rfl⟩
            obtain ⟨v12, hv12⟩ : ∃ z, z = v10.alloc (.cells #[.slice none 0 0, .slice none 0 0, .slice none 0 0] 38) := ⟨_, rfl⟩
            have TT9 := Lib.hid (show TrAt v12 B13 (.slice none 0 0) (.slice none 0 0) (.slice none 0 0) by rw [hv12, hB13]; exact trAt_new v10 (.slice none 0 0) (.slice none 0 0) (.slice none 0 0) 38)
            have gg : Ext v10 v12 := by rw [hv12]; exact ext_alloc _ _
            have hrbW : Z11 ≤ B13 := by rw [hB13]; exact HZ.out
            have hz9 : B13 + 1 ≤ v12.heap.size := by rw [hv12, hB13]; simp
            rw [← hv12, ← hB13]
            clear hv12 hB13
            replace X9 := Lib.hid (X9.out.trans gg)
            replace E := Lib.hid (E.out.trans gg)
            replace c00 := Lib.hid (gg.cell c00.out)
            replace c01 := Lib.hid (gg.cell c01.out)
            replace c10 := Lib.hid (gg.cell c10.out)
            replace c11 := Lib.hid (gg.cell c11.out)
            replace c12 := Lib.hid (gg.cell c12.out)
            replace c20 := Lib.hid (gg.cell c20.out)
            replace c21 := Lib.hid (gg.cell c21.out)
            replace c22 := Lib.hid (gg.cell c22.out)
            replace OW1 := Lib.hid (OW1.out.ext gg)
            replace OW2 := Lib.hid (OW2.out.ext gg)
            replace OW3 := Lib.hid (OW3.out.ext gg)
            replace HZ := Lib.hid (Nat.le_trans HZ.out gg.size')
            have TT := TT9
            clear TT9
            replace HZ := Lib.hid hz9
            clear gg hz9
            refine stepsI_one (i := 11) (HJ.out _ c00.out c01.out c10.out c11.out c12.out c20.out c21.out c22.out) (by kernel_rfl) ?_
            have q0 := TT.out.c0
            have q1 := TT.out.c1
            have q2 := TT.out.c2
            have q3 := TT.out.f0
            have q4 := TT.out.f1
            have q5 := TT.out.f2
            obtain ⟨v14, hv14⟩ : ∃ z, z = (((v12.setCell ⟨B13, 0, none⟩ (.slice aW1 rn cW1)).setCell ⟨B13, 1, none⟩ (.slice aW2 rn cW2)).setCell ⟨B13, 2, none⟩ (.slice aW3 rn cW3)) := ⟨_, rfl⟩
            refine op_skip (w' := v14) rfl rfl (by rw [hv14]; go_simp) ?_
            simp only [Act.put]
            clear q0 q1 q2 q3 q4 q5
            have XX : WroteIn B13 (B13 + 1) v12 v14 := by rw [hv14]; exact WroteIn.set3
            have TZ := Lib.hid (show TrAt v14 B13 (.slice aW1 rn cW1) (.slice aW2 rn cW2) (.slice aW3 rn cW3) by rw [hv14]; exact TT.out.set3)
            clear hv14 TT
            replace X9 := Lib.hid (XX.ext X9.out (by rw [← HZS.out]; omega))
            replace E := Lib.hid (XX.ext E.out (by omega))
            replace c00 := Lib.hid (XX.cell c00.out (by show O < B13 ∨ (B13 + 1) ≤ O; omega))
            replace c01 := Lib.hid (XX.cell c01.out (by show O < B13 ∨ (B13 + 1) ≤ O; omega))
            replace c10 := Lib.hid (XX.cell c10.out (by show (O + 1) < B13 ∨ (B13 + 1) ≤ (O + 1); omega))
            replace c11 := Lib.hid (XX.cell c11.out (by show (O + 1) < B13 ∨ (B13 + 1) ≤ (O + 1); omega))
            replace c12 := Lib.hid (XX.cell c12.out (by show (O + 1) < B13 ∨ (B13 + 1) ≤ (O + 1); omega))
            replace c20 := Lib.hid (XX.cell c20.out (by show (O + 1 + 1) < B13 ∨ (B13 + 1) ≤ (O + 1 + 1); omega))
            replace c21 := Lib.hid (XX.cell c21.out (by show (O + 1 + 1) < B13 ∨ (B13 + 1) ≤ (O + 1 + 1); omega))
            replace c22 := Lib.hid (XX.cell c22.out (by show (O + 1 + 1) < B13 ∨ (B13 + 1) ≤ (O + 1 + 1); omega))
            replace OW1 := Lib.hid (XX.ownR OW1.out (by omega))
            replace OW2 := Lib.hid (XX.ownR OW2.out (by omega))
            replace OW3 := Lib.hid (XX.ownR OW3.out (by omega))
            replace HZ := Lib.hid (Nat.le_trans HZ.out XX.size)
            clear XX
            have bW0 := Lib.hid TZ.out.c0
            have bW1 := Lib.hid TZ.out.c1
            have bW2 := Lib.hid TZ.out.c2
            clear TZ
            refine stepsI_one (i := 12) (HJ.out _ c00.out c01.out c10.out c11.out c12.out c20.out c21.out c22.out) (by kernel_rfl) ?_
            refine op_value (v := ?_) (w' := v14) (some 9) rfl rfl rfl ?_ ?_
            rotate_left
            · go_simp; rfl
            simp only [Act.put, List.setIfInBounds_toArray]
            refine stepsI_end (HJ.out _ c00.out c01.out c10.out c11.out c12.out c20.out c21.out c22.out) (by kernel_rfl) ?_
            refine ⟨rfl, gA0, gA11, gA12, gA13, gA21, gA22, gA23, aW1, cW1, aW2, cW2, aW3, cW3, Wl1, Wh1, Wl2, Wh2, Wl3, Wh3, B13, (B13 + 1), ?_, ?_, HZ, X9, OW1, OW2, OW3, bW0, bW1, bW2⟩
            · first | rfl | (simp only [Act.put, List.setIfInBounds_toArray, List.set_cons_zero, List.set_cons_succ]) | (simp only [Act.put])
            · omega
          · skip
            refine op_value (v := .pointer (some ⟨v8.heap.size, 0, none⟩)) (w' := v8.alloc (.cells #[.slice none 0 0, .slice none 0 0, .slice none 0 0] 38)) (some 8) rfl rfl rfl (by go_simp) ?_
            simp only [Act.put, List.setIfInBounds_toArray, List.set_cons_zero, List.set_cons_succ]
            obtain ⟨B16, hB16⟩ : ∃ z, z = v8.heap.size := ⟨_, rfl⟩
            obtain ⟨v15, hv15⟩ : ∃ z, z = v8.alloc (.cells #[.slice none 0 0, .slice none 0 0, .slice none 0 0] 38) := ⟨_, rfl⟩
            have TT9 := Lib.hid (show TrAt v15 B16 (.slice none 0 0) (.slice none 0 0) (.slice none 0 0) by rw [hv15, hB16]; exact trAt_new v8 (.slice none 0 0) (.slice none 0 0) (.slice none 0 0) 38)
            have gg : Ext v8 v15 := by rw [hv15]; exact ext_alloc _ _
            have hrbW : Z9 ≤ B16 := by rw [hB16]; exact HZ.out
            have hz9 : B16 + 1 ≤ v15.heap.size := by rw [hv15, hB16]; simp
            rw [← hv15, ← hB16]
            clear hv15 hB16
            replace X9 := Lib.hid (X9.out.trans gg)
            replace E := Lib.hid (E.out.trans gg)
            replace c00 := Lib.hid (gg.cell c00.out)
            replace c01 := Lib.hid (gg.cell c01.out)
            replace c10 := Lib.hid (gg.cell c10.out)
            replace c11 := Lib.hid (gg.cell c11.out)
            replace c12 := Lib.hid (gg.cell c12.out)
            replace c20 := Lib.hid (gg.cell c20.out)
            replace c21 := Lib.hid (gg.cell c21.out)
            replace c22 := Lib.hid (gg.cell c22.out)
            replace OA0 := Lib.hid (OA0.out.ext gg)
            replace OA11 := Lib.hid (OA11.out.ext gg)
            replace OA12 := Lib.hid (OA12.out.ext gg)
            replace OA13 := Lib.hid (OA13.out.ext gg)
            replace OA21 := Lib.hid (OA21.out.ext gg)
            replace OA22 := Lib.hid (OA22.out.ext gg)
            replace OA23 := Lib.hid (OA23.out.ext gg)
            replace HZ := Lib.hid (Nat.le_trans HZ.out gg.size')
            have TT := TT9
            clear TT9
            replace HZ := Lib.hid hz9
            clear gg hz9
            refine stepsI_one (i := 6) (HJ.out _ c00.out c01.out c10.out c11.out c12.out c20.out c21.out c22.out) (by kernel_rfl) ?_
            refine op_call (f := ?_) (args := ?_) (R := fun v w' => ∃ V, v = .tuple #[V, .int .i64 c] ∧ Trip v15.heap.size w' rn yA yB yC V ∧ Ext v15 w') (some 42) rfl rfl rfl ?_ ?_ ?_
            rotate_left 2
            · go_simp; refine ⟨?_, ?_⟩ <;> rfl
            · refine Calls.mono (Hs.out (some ⟨gA0, 0, none⟩) (some ⟨gA11, 0, none⟩) (some ⟨gA12, 0, none⟩) (some ⟨gA13, 0, none⟩) (some ⟨gA21, 0, none⟩) (some ⟨gA22, 0, none⟩) (some ⟨gA23, 0, none⟩) v15 OA0.out.rd OA11.out.low.rd OA12.out.low.rd OA13.out.low.rd OA21.out.low.rd OA22.out.low.rd OA23.out.low.rd) ?_
              rintro e w9 ⟨V9, rfl, hT8, g8⟩
              exact ⟨_, rfl, V9, rfl, hT8, g8⟩
            rintro v v17 ⟨V9, rfl, hT9, gg⟩
            obtain ⟨aW1, cW1, aW2, cW2, aW3, cW3, Wl1, Wh1, Wl2, Wh2, Wl3, Wh3, rfl, q1, q2, q3, q4, q5, q6, q7, o1, o2, o3⟩ := hT9
            have hz9 := HZ.out
            obtain ⟨Z18, hZ18⟩ : ∃ z, z = v17.heap.size := ⟨_, rfl⟩
            have hrW : (B16 + 1) ≤ Wl1 ∧ Wl1 ≤ Wh1 ∧ Wh1 ≤ Wl2 ∧ Wl2 ≤ Wh2 ∧ Wh2 ≤ Wl3 ∧ Wl3 ≤ Wh3 ∧ Wh3 ≤ Z18 := by omega
            have OW1 := Lib.hid o1
            have OW2 := Lib.hid o2
            have OW3 := Lib.hid o3
            clear hz9 o1 o2 o3 q1 q2 q3 q4 q5 q6 q7
            replace TT := Lib.hid (TT.out.ext gg)
            replace X9 := Lib.hid (X9.out.trans gg)
            replace E := Lib.hid (E.out.trans gg)
            replace c00 := Lib.hid (gg.cell c00.out)
            replace c01 := Lib.hid (gg.cell c01.out)
            replace c10 := Lib.hid (gg.cell c10.out)
            replace c11 := Lib.hid (gg.cell c11.out)
            replace c12 := Lib.hid (gg.cell c12.out)
            replace c20 := Lib.hid (gg.cell c20.out)
            replace c21 := Lib.hid (gg.cell c21.out)
            replace c22 := Lib.hid (gg.cell c22.out)
            replace OA0 := Lib.hid (OA0.out.ext gg)
            replace OA11 := Lib.hid (OA11.out.ext gg)
            replace OA12 := Lib.hid (OA12.out.ext gg)
            replace OA13 := Lib.hid (OA13.out.ext gg)
            replace OA21 := Lib.hid (OA21.out.ext gg)
            replace OA22 := Lib.hid (OA22.out.ext gg)
            replace OA23 := Lib.hid (OA23.out.ext gg)
            replace HZ := Lib.hid (Nat.le_trans HZ.out gg.size')
            replace HZ : Hid (Z18 ≤ v17.heap.size) := Lib.hid (Nat.le_of_eq hZ18)
            clear gg hZ18
            simp only [Act.put, List.setIfInBounds_toArray, List.set_cons_zero, List.set_cons_succ]
            clear OA0
            clear OA11 OA12 OA13
            clear OA21 OA22 OA23
            refine stepsI_float (i := 7) (v := ?_) (some 35) (by kernel_rfl) rfl rfl rfl (fun w' hI => ?_) ?_
            rotate_left
            · go_simp; rfl
            simp only [Act.put, List.setIfInBounds_toArray, List.set_cons_zero, List.set_cons_succ]
            refine stepsI_float (i := 8) (v := ?_) (some 43) (by kernel_rfl) rfl rfl rfl (fun w' hI => ?_) ?_
            rotate_left
            · go_simp; rfl
            simp only [Act.put, List.setIfInBounds_toArray, List.set_cons_zero, List.set_cons_succ]
            refine stepsI_float (i := 9) (v := ?_) (some 44) (by kernel_rfl) rfl rfl rfl (fun w' hI => ?_) ?_
            rotate_left
            · go_simp; rfl
            simp only [Act.put, List.setIfInBounds_toArray, List.set_cons_zero, List.set_cons_succ]
            refine stepsI_one (i := 11) (HJ.out _ c00.out c01.out c10.out c11.out c12.out c20.out c21.out c22.out) (by kernel_rfl) ?_
            have q0 := TT.out.c0
            have q1 := TT.out.c1
            have q2 := TT.out.c2
            have q3 := TT.out.f0
            have q4 := TT.out.f1
            have q5 := TT.out.f2
            obtain ⟨v19, hv19⟩ : ∃ z, z = (((v17.setCell ⟨B16, 0, none⟩ (.slice aW1 rn cW1)).setCell ⟨B16, 1, none⟩ (.slice aW2 rn cW2)).setCell ⟨B16, 2, none⟩ (.slice aW3 rn cW3)) := ⟨_, rfl⟩
            refine op_skip (w' := v19) rfl rfl (by rw [hv19]; go_simp) ?_
            simp only [Act.put]
            clear q0 q1 q2 q3 q4 q5
            have XX : WroteIn B16 (B16 + 1) v17 v19 := by rw [hv19]; exact WroteIn.set3
            have TZ := Lib.hid (show TrAt v19 B16 (.slice aW1 rn cW1) (.slice aW2 rn cW2) (.slice aW3 rn cW3) by rw [hv19]; exact TT.out.set3)
            clear hv19 TT
            replace X9 := Lib.hid (XX.ext X9.out (by rw [← HZS.out]; omega))
            replace E := Lib.hid (XX.ext E.out (by omega))
            replace c00 := Lib.hid (XX.cell c00.out (by show O < B16 ∨ (B16 + 1) ≤ O; omega))
            replace c01 := Lib.hid (XX.cell c01.out (by show O < B16 ∨ (B16 + 1) ≤ O; omega))
            replace c10 := Lib.hid (XX.cell c10.out (by show (O + 1) < B16 ∨ (B16 + 1) ≤ (O + 1); omega))
            replace c11 := Lib.hid (XX.cell c11.out (by show (O + 1) < B16 ∨ (B16 + 1) ≤ (O + 1); omega))
            replace c12 := Lib.hid (XX.cell c12.out (by show (O + 1) < B16 ∨ (B16 + 1) ≤ (O + 1); omega))
            replace c20 := Lib.hid (XX.cell c20.out (by show (O + 1 + 1) < B16 ∨ (B16 + 1) ≤ (O + 1 + 1); omega))
            replace c21 := Lib.hid (XX.cell c21.out (by show (O + 1 + 1) < B16 ∨ (B16 + 1) ≤ (O + 1 + 1); omega))
            replace c22 := Lib.hid (XX.cell c22.out (by show (O + 1 + 1) < B16 ∨ (B16 + 1) ≤ (O + 1 + 1); omega))
            replace OW1 := Lib.hid (XX.ownR OW1.out (by omega))
            replace OW2 := Lib.hid (XX.ownR OW2.out (by omega))
            replace OW3 := Lib.hid (XX.ownR OW3.out (by omega))
            replace HZ := Lib.hid (Nat.le_trans HZ.out XX.size)
            clear XX
            have bW0 := Lib.hid TZ.out.c0
            have bW1 := Lib.hid TZ.out.c1
            have bW2 := Lib.hid TZ.out.c2
            clear TZ
            refine stepsI_one (i := 12) (HJ.out _ c00.out c01.out c10.out c11.out c12.out c20.out c21.out c22.out) (by kernel_rfl) ?_
            refine op_value (v := ?_) (w' := v19) (some 9) rfl rfl rfl ?_ ?_
            rotate_left
            · go_simp; rfl
            simp only [Act.put, List.setIfInBounds_toArray]
            refine stepsI_end (HJ.out _ c00.out c01.out c10.out c11.out c12.out c20.out c21.out c22.out) (by kernel_rfl) ?_
            refine ⟨rfl, gA0, gA11, gA12, gA13, gA21, gA22, gA23, aW1, cW1, aW2, cW2, aW3, cW3, Wl1, Wh1, Wl2, Wh2, Wl3, Wh3, B16, Z18, ?_, ?_, HZ, X9, OW1, OW2, OW3, bW0, bW1, bW2⟩
            · first | rfl | (simp only [Act.put, List.setIfInBounds_toArray, List.set_cons_zero, List.set_cons_succ]) | (simp only [Act.put])
            · omega
        · skip
          refine op_value (v := .pointer (some ⟨v6.heap.size, 0, none⟩)) (w' := v6.alloc (.cells #[.slice none 0 0, .slice none 0 0, .slice none 0 0] 38)) (some 8) rfl rfl rfl (by go_simp) ?_
          simp only [Act.put, List.setIfInBounds_toArray, List.set_cons_zero, List.set_cons_succ]
          obtain ⟨B21, hB21⟩ : ∃ z, z = v6.heap.size := ⟨_, rfl⟩
          obtain ⟨v20, hv20⟩ : ∃ z, z = v6.alloc (.cells #[.slice none 0 0, .slice none 0 0, .slice none 0 0] 38) := ⟨_, rfl⟩
          have TT9 := Lib.hid (show TrAt v20 B21 (.slice none 0 0) (.slice none 0 0) (.slice none 0 0) by rw [hv20, hB21]; exact trAt_new v6 (.slice none 0 0) (.slice none 0 0) (.slice none 0 0) 38)
          have gg : Ext v6 v20 := by rw [hv20]; exact ext_alloc _ _
          have hrbW : Z7 ≤ B21 := by rw [hB21]; exact HZ.out
          have hz9 : B21 + 1 ≤ v20.heap.size := by rw [hv20, hB21]; simp
          rw [← hv20, ← hB21]
          clear hv20 hB21
          replace X9 := Lib.hid (X9.out.trans gg)
          replace E := Lib.hid (E.out.trans gg)
          replace c00 := Lib.hid (gg.cell c00.out)
          replace c01 := Lib.hid (gg.cell c01.out)
          replace c10 := Lib.hid (gg.cell c10.out)
          replace c11 := Lib.hid (gg.cell c11.out)
          replace c12 := Lib.hid (gg.cell c12.out)
          replace c20 := Lib.hid (gg.cell c20.out)
          replace c21 := Lib.hid (gg.cell c21.out)
          replace c22 := Lib.hid (gg.cell c22.out)
          replace OA0 := Lib.hid (OA0.out.ext gg)
          replace OA11 := Lib.hid (OA11.out.ext gg)
          replace OA12 := Lib.hid (OA12.out.ext gg)
          replace OA13 := Lib.hid (OA13.out.ext gg)
          replace HZ := Lib.hid (Nat.le_trans HZ.out gg.size')
          have TT := TT9
          clear TT9
          replace HZ := Lib.hid hz9
          clear gg hz9
          refine stepsI_one (i := 5) (HJ.out _ c00.out c01.out c10.out c11.out c12.out c20.out c21.out c22.out) (by kernel_rfl) ?_
          refine op_call (f := ?_) (args := ?_) (R := fun v w' => Trip3 v20.heap.size w' n2x1 n2x2 n2x3 T2x1 T2x2 T2x3 v ∧ Ext v20 w') (some 41) rfl rfl rfl ?_ ?_ ?_
          rotate_left 2
          · go_simp; refine ⟨?_, ?_⟩ <;> rfl
          · refine Calls.mono (l_toTriple a2x1 a2x2 a2x3 n2x1 n2x2 n2x3 c2x1 c2x2 c2x3 T2x1 T2x2 T2x3 v20 (by omega) (by omega) (by omega) HL2x1.out HL2x2.out HL2x3.out (HX2x1.out.ext E.out) (HX2x2.out.ext E.out) (HX2x3.out.ext E.out)) ?_
            rintro e w9 ⟨V9, rfl, hT8, g8⟩
            exact ⟨_, rfl, hT8, g8⟩
          rintro v v22 ⟨hT9, gg⟩
          obtain ⟨gA21, gA22, gA23, A2l1, A2h1, A2l2, A2h2, A2l3, A2h3, rfl, q1, q2, q3, q4, q5, q6, q7, o1, o2, o3⟩ := hT9
          have hz9 := HZ.out
          obtain ⟨Z23, hZ23⟩ : ∃ z, z = v22.heap.size := ⟨_, rfl⟩
          have hrA2 : (B21 + 1) ≤ A2l1 ∧ A2l1 ≤ A2h1 ∧ A2h1 ≤ A2l2 ∧ A2l2 ≤ A2h2 ∧ A2h2 ≤ A2l3 ∧ A2l3 ≤ A2h3 ∧ A2h3 ≤ Z23 := by omega
          have OA21 := Lib.hid o1
          have OA22 := Lib.hid o2
          have OA23 := Lib.hid o3
          clear hz9 o1 o2 o3 q1 q2 q3 q4 q5 q6 q7
          replace TT := Lib.hid (TT.out.ext gg)
          replace X9 := Lib.hid (X9.out.trans gg)
          replace E := Lib.hid (E.out.trans gg)
          replace c00 := Lib.hid (gg.cell c00.out)
          replace c01 := Lib.hid (gg.cell c01.out)
          replace c10 := Lib.hid (gg.cell c10.out)
          replace c11 := Lib.hid (gg.cell c11.out)
          replace c12 := Lib.hid (gg.cell c12.out)
          replace c20 := Lib.hid (gg.cell c20.out)
          replace c21 := Lib.hid (gg.cell c21.out)
          replace c22 := Lib.hid (gg.cell c22.out)
          replace OA0 := Lib.hid (OA0.out.ext gg)
          replace OA11 := Lib.hid (OA11.out.ext gg)
          replace OA12 := Lib.hid (OA12.out.ext gg)
          replace OA13 := Lib.hid (OA13.out.ext gg)
          replace HZ := Lib.hid (Nat.le_trans HZ.out gg.size')
          replace HZ : Hid (Z23 ≤ v22.heap.size) := Lib.hid (Nat.le_of_eq hZ23)
          clear gg hZ23
          simp only [Act.put, List.setIfInBounds_toArray, List.set_cons_zero, List.set_cons_succ]
          refine stepsI_one (i := 6) (HJ.out _ c00.out c01.out c10.out c11.out c12.out c20.out c21.out c22.out) (by kernel_rfl) ?_
          refine op_call (f := ?_) (args := ?_) (R := fun v w' => ∃ V, v = .tuple #[V, .int .i64 c] ∧ Trip v22.heap.size w' rn yA yB yC V ∧ Ext v22 w') (some 42) rfl rfl rfl ?_ ?_ ?_
          rotate_left 2
          · go_simp; refine ⟨?_, ?_⟩ <;> rfl
          · refine Calls.mono (Hs.out (some ⟨gA0, 0, none⟩) (some ⟨gA11, 0, none⟩) (some ⟨gA12, 0, none⟩) (some ⟨gA13, 0, none⟩) (some ⟨gA21, 0, none⟩) (some ⟨gA22, 0, none⟩) (some ⟨gA23, 0, none⟩) v22 OA0.out.rd OA11.out.low.rd OA12.out.low.rd OA13.out.low.rd OA21.out.low.rd OA22.out.low.rd OA23.out.low.rd) ?_
            rintro e w9 ⟨V9, rfl, hT8, g8⟩
            exact ⟨_, rfl, V9, rfl, hT8, g8⟩
          rintro v v24 ⟨V9, rfl, hT9, gg⟩
          obtain ⟨aW1, cW1, aW2, cW2, aW3, cW3, Wl1, Wh1, Wl2, Wh2, Wl3, Wh3, rfl, q1, q2, q3, q4, q5, q6, q7, o1, o2, o3⟩ := hT9
          have hz9 := HZ.out
          obtain ⟨Z25, hZ25⟩ : ∃ z, z = v24.heap.size := ⟨_, rfl⟩
          have hrW : Z23 ≤ Wl1 ∧ Wl1 ≤ Wh1 ∧ Wh1 ≤ Wl2 ∧ Wl2 ≤ Wh2 ∧ Wh2 ≤ Wl3 ∧ Wl3 ≤ Wh3 ∧ Wh3 ≤ Z25 := by omega
          have OW1 := Lib.hid o1
          have OW2 := Lib.hid o2
          have OW3 := Lib.hid o3
          clear hz9 o1 o2 o3 q1 q2 q3 q4 q5 q6 q7
          replace TT := Lib.hid (TT.out.ext gg)
          replace X9 := Lib.hid (X9.out.trans gg)
          replace E := Lib.hid (E.out.trans gg)
          replace c00 := Lib.hid (gg.cell c00.out)
          replace c01 := Lib.hid (gg.cell c01.out)
          replace c10 := Lib.hid (gg.cell c10.out)
          replace c11 := Lib.hid (gg.cell c11.out)
          replace c12 := Lib.hid (gg.cell c12.out)
          replace c20 := Lib.hid (gg.cell c20.out)
          replace c21 := Lib.hid (gg.cell c21.out)
          replace c22 := Lib.hid (gg.cell c22.out)
          replace OA0 := Lib.hid (OA0.out.ext gg)
          replace OA11 := Lib.hid (OA11.out.ext gg)
          replace OA12 := Lib.hid (OA12.out.ext gg)
          replace OA13 := Lib.hid (OA13.out.ext gg)
          replace OA21 := Lib.hid (OA21.out.ext gg)
          replace OA22 := Lib.hid (OA22.out.ext gg)
          replace OA23 := Lib.hid (OA23.out.ext gg)
          replace HZ := Lib.hid (Nat.le_trans HZ.out gg.size')
          replace HZ : Hid (Z25 ≤ v24.heap.size) := Lib.hid (Nat.le_of_eq hZ25)
          clear gg hZ25
          simp only [Act.put, List.setIfInBounds_toArray, List.set_cons_zero, List.set_cons_succ]
          clear OA0
          clear OA11 OA12 OA13
          clear OA21 OA22 OA23
          refine stepsI_float (i := 7) (v := ?_) (some 35) (by kernel_rfl) rfl rfl rfl (fun w' hI => ?_) ?_
          rotate_left
          · go_simp; rfl
          simp only [Act.put, List.setIfInBounds_toArray, List.set_cons_zero, List.set_cons_succ]
          refine stepsI_float (i := 8) (v := ?_) (some 43) (by kernel_rfl) rfl rfl rfl (fun w' hI => ?_) ?_
          rotate_left
          · go_simp; rfl
          simp only [Act.put, List.setIfInBounds_toArray, List.set_cons_zero, List.set_cons_succ]
          refine stepsI_float (i := 9) (v := ?_) (some 44) (by kernel_rfl) rfl rfl rfl (fun w' hI => ?_) ?_
          rotate_left
          · go_simp; rfl
          simp only [Act.put, List.setIfInBounds_toArray, List.set_cons_zero, List.set_cons_succ]
          refine stepsI_one (i := 11) (HJ.out _ c00.out c01.out c10.out c11.out c12.out c20.out c21.out c22.out) (by kernel_rfl) ?_
          have q0 := TT.out.c0
          have q1 := TT.out.c1
          have q2 := TT.out.c2
          have q3 := TT.out.f0
          have q4 := TT.out.f1
          have q5 := TT.out.f2
          obtain ⟨v26, hv26⟩ : ∃ z, z = (((v24.setCell ⟨B21, 0, none⟩ (.slice aW1 rn cW1)).setCell ⟨B21, 1, none⟩ (.slice aW2 rn cW2)).setCell ⟨B21, 2, none⟩ (.slice aW3 rn cW3)) := ⟨_, rfl⟩
          refine op_skip (w' := v26) rfl rfl (by rw [hv26]; go_simp) ?_
          simp only [Act.put]
          clear q0 q1 q2 q3 q4 q5
          have XX : WroteIn B21 (B21 + 1) v24 v26 := by rw [hv26]; exact WroteIn.set3
          have TZ := Lib.hid (show TrAt v26 B21 (.slice aW1 rn cW1) (.slice aW2 rn cW2) (.slice aW3 rn cW3) by rw [hv26]; exact TT.out.set3)
          clear hv26 TT
          replace X9 := Lib.hid (XX.ext X9.out (by rw [← HZS.out]; omega))
          replace E := Lib.hid (XX.ext E.out (by omega))
          replace c00 := Lib.hid (XX.cell c00.out (by show O < B21 ∨ (B21 + 1) ≤ O; omega))
          replace c01 := Lib.hid (XX.cell c01.out (by show O < B21 ∨ (B21 + 1) ≤ O; omega))
          replace c10 := Lib.hid (XX.cell c10.out (by show (O + 1) < B21 ∨ (B21 + 1) ≤ (O + 1); omega))
          replace c11 := Lib.hid (XX.cell c11.out (by show (O + 1) < B21 ∨ (B21 + 1) ≤ (O + 1); omega))
          replace c12 := Lib.hid (XX.cell c12.out (by show (O + 1) < B21 ∨ (B21 + 1) ≤ (O + 1); omega))
          replace c20 := Lib.hid (XX.cell c20.out (by show (O + 1 + 1) < B21 ∨ (B21 + 1) ≤ (O + 1 + 1); omega))
          replace c21 := Lib.hid (XX.cell c21.out (by show (O + 1 + 1) < B21 ∨ (B21 + 1) ≤ (O + 1 + 1); omega))
          replace c22 := Lib.hid (XX.cell c22.out (by show (O + 1 + 1) < B21 ∨ (B21 + 1) ≤ (O + 1 + 1); omega))
          replace OW1 := Lib.hid (XX.ownR OW1.out (by omega))
          replace OW2 := Lib.hid (XX.ownR OW2.out (by omega))
          replace OW3 := Lib.hid (XX.ownR OW3.out (by omega))
          replace HZ := Lib.hid (Nat.le_trans HZ.out XX.size)
          clear XX
          have bW0 := Lib.hid TZ.out.c0
          have bW1 := Lib.hid TZ.out.c1
          have bW2 := Lib.hid TZ.out.c2
          clear TZ
          refine stepsI_one (i := 12) (HJ.out _ c00.out c01.out c10.out c11.out c12.out c20.out c21.out c22.out) (by kernel_rfl) ?_
          refine op_value (v := ?_) (w' := v26) (some 9) rfl rfl rfl ?_ ?_
          rotate_left
          · go_simp; rfl
          simp only [Act.put, List.setIfInBounds_toArray]
          refine stepsI_end (HJ.out _ c00.out c01.out c10.out c11.out c12.out c20.out c21.out c22.out) (by kernel_rfl) ?_
          refine ⟨rfl, gA0, gA11, gA12, gA13, gA21, gA22, gA23, aW1, cW1, aW2, cW2, aW3, cW3, Wl1, Wh1, Wl2, Wh2, Wl3, Wh3, B21, Z25, ?_, ?_, HZ, X9, OW1, OW2, OW3, bW0, bW1, bW2⟩
          · first | rfl | (simp only [Act.put, List.setIfInBounds_toArray, List.set_cons_zero, List.set_cons_succ]) | (simp only [Act.put])
          · omega
      · skip
        refine op_value (v := .pointer (some ⟨v4.heap.size, 0, none⟩)) (w' := v4.alloc (.cells #[.slice none 0 0, .slice none 0 0, .slice none 0 0] 38)) (some 8) rfl rfl rfl (by go_simp) ?_
        simp only [Act.put, List.setIfInBounds_toArray, List.set_cons_zero, List.set_cons_succ]
        obtain ⟨B28, hB28⟩ : ∃ z, z = v4.heap.size := ⟨_, rfl⟩
        obtain ⟨v27, hv27⟩ : ∃ z, z = v4.alloc (.cells #[.slice none 0 0, .slice none 0 0, .slice none 0 0] 38) := ⟨_, rfl⟩
        have TT9 := Lib.hid (show TrAt v27 B28 (.slice none 0 0) (.slice none 0 0) (.slice none 0 0) by rw [hv27, hB28]; exact trAt_new v4 (.slice none 0 0) (.slice none 0 0) (.slice none 0 0) 38)
        have gg : Ext v4 v27 := by rw [hv27]; exact ext_alloc _ _
        have hrbW : Z5 ≤ B28 := by rw [hB28]; exact HZ.out
        have hz9 : B28 + 1 ≤ v27.heap.size := by rw [hv27, hB28]; simp
        rw [← hv27, ← hB28]
        clear hv27 hB28
        replace X9 := Lib.hid (X9.out.trans gg)
        replace E := Lib.hid (E.out.trans gg)
        replace c00 := Lib.hid (gg.cell c00.out)
        replace c01 := Lib.hid (gg.cell c01.out)
        replace c10 := Lib.hid (gg.cell c10.out)
        replace c11 := Lib.hid (gg.cell c11.out)
        replace c12 := Lib.hid (gg.cell c12.out)
        replace c20 := Lib.hid (gg.cell c20.out)
        replace c21 := Lib.hid (gg.cell c21.out)
        replace c22 := Lib.hid (gg.cell c22.out)
        replace OA0 := Lib.hid (OA0.out.ext gg)
        replace HZ := Lib.hid (Nat.le_trans HZ.out gg.size')
        have TT := TT9
        clear TT9
        replace HZ := Lib.hid hz9
        clear gg hz9
        refine stepsI_one (i := 3) (HJ.out _ c00.out c01.out c10.out c11.out c12.out c20.out c21.out c22.out) (by kernel_rfl) ?_
        refine op_call (f := ?_) (args := ?_) (R := fun v w' => Trip3 v27.heap.size w' n1x1 n1x2 n1x3 T1x1 T1x2 T1x3 v ∧ Ext v27 w') (some 39) rfl rfl rfl ?_ ?_ ?_
        rotate_left 2
        · go_simp; refine ⟨?_, ?_⟩ <;> rfl
        · refine Calls.mono (l_toTriple a1x1 a1x2 a1x3 n1x1 n1x2 n1x3 c1x1 c1x2 c1x3 T1x1 T1x2 T1x3 v27 (by omega) (by omega) (by omega) HL1x1.out HL1x2.out HL1x3.out (HX1x1.out.ext E.out) (HX1x2.out.ext E.out) (HX1x3.out.ext E.out)) ?_
          rintro e w9 ⟨V9, rfl, hT8, g8⟩
          exact ⟨_, rfl, hT8, g8⟩
        rintro v v29 ⟨hT9, gg⟩
        obtain ⟨gA11, gA12, gA13, A1l1, A1h1, A1l2, A1h2, A1l3, A1h3, rfl, q1, q2, q3, q4, q5, q6, q7, o1, o2, o3⟩ := hT9
        have hz9 := HZ.out
        obtain ⟨Z30, hZ30⟩ : ∃ z, z = v29.heap.size := ⟨_, rfl⟩
        have hrA1 : (B28 + 1) ≤ A1l1 ∧ A1l1 ≤ A1h1 ∧ A1h1 ≤ A1l2 ∧ A1l2 ≤ A1h2 ∧ A1h2 ≤ A1l3 ∧ A1l3 ≤ A1h3 ∧ A1h3 ≤ Z30 := by omega
        have OA11 := Lib.hid o1
        have OA12 := Lib.hid o2
        have OA13 := Lib.hid o3
        clear hz9 o1 o2 o3 q1 q2 q3 q4 q5 q6 q7
        replace TT := Lib.hid (TT.out.ext gg)
        replace X9 := Lib.hid (X9.out.trans gg)
        replace E := Lib.hid (E.out.trans gg)
        replace c00 := Lib.hid (gg.cell c00.out)
        replace c01 := Lib.hid (gg.cell c01.out)
        replace c10 := Lib.hid (gg.cell c10.out)
        replace c11 := Lib.hid (gg.cell c11.out)
        replace c12 := Lib.hid (gg.cell c12.out)
        replace c20 := Lib.hid (gg.cell c20.out)
        replace c21 := Lib.hid (gg.cell c21.out)
        replace c22 := Lib.hid (gg.cell c22.out)
        replace OA0 := Lib.hid (OA0.out.ext gg)
        replace HZ := Lib.hid (Nat.le_trans HZ.out gg.size')
        replace HZ : Hid (Z30 ≤ v29.heap.size) := Lib.hid (Nat.le_of_eq hZ30)
        clear gg hZ30
        simp only [Act.put, List.setIfInBounds_toArray, List.set_cons_zero, List.set_cons_succ]
        refine stepsI_one (i := 5) (HJ.out _ c00.out c01.out c10.out c11.out c12.out c20.out c21.out c22.out) (by kernel_rfl) ?_
        refine op_call (f := ?_) (args := ?_) (R := fun v w' => Trip3 v29.heap.size w' n2x1 n2x2 n2x3 T2x1 T2x2 T2x3 v ∧ Ext v29 w') (some 41) rfl rfl rfl ?_ ?_ ?_
        rotate_left 2
        · go_simp; refine ⟨?_, ?_⟩ <;> rfl
        · refine Calls.mono (l_toTriple a2x1 a2x2 a2x3 n2x1 n2x2 n2x3 c2x1 c2x2 c2x3 T2x1 T2x2 T2x3 v29 (by omega) (by omega) (by omega) HL2x1.out HL2x2.out HL2x3.out (HX2x1.out.ext E.out) (HX2x2.out.ext E.out) (HX2x3.out.ext E.out)) ?_
          rintro e w9 ⟨V9, rfl, hT8, g8⟩
          exact ⟨_, rfl, hT8, g8⟩
        rintro v v31 ⟨hT9, gg⟩
        obtain ⟨gA21, gA22, gA23, A2l1, A2h1, A2l2, A2h2, A2l3, A2h3, rfl, q1, q2, q3, q4, q5, q6, q7, o1, o2, o3⟩ := hT9
        have hz9 := HZ.out
        obtain ⟨Z32, hZ32⟩ : ∃ z, z = v31.heap.size := ⟨_, rfl⟩
        have hrA2 : Z30 ≤ A2l1 ∧ A2l1 ≤ A2h1 ∧ A2h1 ≤ A2l2 ∧ A2l2 ≤ A2h2 ∧ A2h2 ≤ A2l3 ∧ A2l3 ≤ A2h3 ∧ A2h3 ≤ Z32 := by omega
        have OA21 := Lib.hid o1
        have OA22 := Lib.hid o2
        have OA23 := Lib.hid o3
        clear hz9 o1 o2 o3 q1 q2 q3 q4 q5 q6 q7
        replace TT := Lib.hid (TT.out.ext gg)
        replace X9 := Lib.hid (X9.out.trans gg)
        replace E := Lib.hid (E.out.trans gg)
        replace c00 := Lib.hid (gg.cell c00.out)
        replace c01 := Lib.hid (gg.cell c01.out)
        replace c10 := Lib.hid (gg.cell c10.out)
        replace c11 := Lib.hid (gg.cell c11.out)
        replace c12 := Lib.hid (gg.cell c12.out)
        replace c20 := Lib.hid (gg.cell c20.out)
        replace c21 := Lib.hid (gg.cell c21.out)
        replace c22 := Lib.hid (gg.cell c22.out)
        replace OA0 := Lib.hid (OA0.out.ext gg)
        replace OA11 := Lib.hid (OA11.out.ext gg)
        replace OA12 := Lib.hid (OA12.out.ext gg)
        replace OA13 := Lib.hid (OA13.out.ext gg)
        replace HZ := Lib.hid (Nat.le_trans HZ.out gg.size')
        replace HZ : Hid (Z32 ≤ v31.heap.size) := Lib.hid (Nat.le_of_eq hZ32)
        clear gg hZ32
        simp only [Act.put, List.setIfInBounds_toArray, List.set_cons_zero, List.set_cons_succ]
        refine stepsI_one (i := 6) (HJ.out _ c00.out c01.out c10.out c11.out c12.out c20.out c21.out c22.out) (by kernel_rfl) ?_
        refine op_call (f := ?_) (args := ?_) (R := fun v w' => ∃ V, v = .tuple #[V, .int .i64 c] ∧ Trip v31.heap.size w' rn yA yB yC V ∧ Ext v31 w') (some 42) rfl rfl rfl ?_ ?_ ?_
        rotate_left 2
        · go_simp; refine ⟨?_, ?_⟩ <;> rfl
        · refine Calls.mono (Hs.out (some ⟨gA0, 0, none⟩) (some ⟨gA11, 0, none⟩) (some ⟨gA12, 0, none⟩) (some ⟨gA13, 0, none⟩) (some ⟨gA21, 0, none⟩) (some ⟨gA22, 0, none⟩) (some ⟨gA23, 0, none⟩) v31 OA0.out.rd OA11.out.low.rd OA12.out.low.rd OA13.out.low.rd OA21.out.low.rd OA22.out.low.rd OA23.out.low.rd) ?_
          rintro e w9 ⟨V9, rfl, hT8, g8⟩
          exact ⟨_, rfl, V9, rfl, hT8, g8⟩
        rintro v v33 ⟨V9, rfl, hT9, gg⟩
        obtain ⟨aW1, cW1, aW2, cW2, aW3, cW3, Wl1, Wh1, Wl2, Wh2, Wl3, Wh3, rfl, q1, q2, q3, q4, q5, q6, q7, o1, o2, o3⟩ := hT9
        have hz9 := HZ.out
        obtain ⟨Z34, hZ34⟩ : ∃ z, z = v33.heap.size := ⟨_, rfl⟩
        have hrW : Z32 ≤ Wl1 ∧ Wl1 ≤ Wh1 ∧ Wh1 ≤ Wl2 ∧ Wl2 ≤ Wh2 ∧ Wh2 ≤ Wl3 ∧ Wl3 ≤ Wh3 ∧ Wh3 ≤ Z34 := by omega
        have OW1 := Lib.hid o1
        have OW2 := Lib.hid o2
        have OW3 := Lib.hid o3
        clear hz9 o1 o2 o3 q1 q2 q3 q4 q5 q6 q7
        replace TT := Lib.hid (TT.out.ext gg)
        replace X9 := Lib.hid (X9.out.trans gg)
        replace E := Lib.hid (E.out.trans gg)
        replace c00 := Lib.hid (gg.cell c00.out)
        replace c01 := Lib.hid (gg.cell c01.out)
        replace c10 := Lib.hid (gg.cell c10.out)
        replace c11 := Lib.hid (gg.cell c11.out)
        replace c12 := Lib.hid (gg.cell c12.out)
        replace c20 := Lib.hid (gg.cell c20.out)
        replace c21 := Lib.hid (gg.cell c21.out)
        replace c22 := Lib.hid (gg.cell c22.out)
        replace OA0 := Lib.hid (OA0.out.ext gg)
        replace OA11 := Lib.hid (OA11.out.ext gg)
        replace OA12 := Lib.hid (OA12.out.ext gg)
        replace OA13 := Lib.hid (OA13.out.ext gg)
        replace OA21 := Lib.hid (OA21.out.ext gg)
        replace OA22 := Lib.hid (OA22.out.ext gg)
        replace OA23 := Lib.hid (OA23.out.ext gg)
        replace HZ := Lib.hid (Nat.le_trans HZ.out gg.size')
        replace HZ : Hid (Z34 ≤ v33.heap.size) := Lib.hid (Nat.le_of_eq hZ34)
        clear gg hZ34
        simp only [Act.put, List.setIfInBounds_toArray, List.set_cons_zero, List.set_cons_succ]
        clear OA0
        clear OA11 OA12 OA13
        clear OA21 OA22 OA23
        refine stepsI_float (i := 7) (v := ?_) (some 35) (by kernel_rfl) rfl rfl rfl (fun w' hI => ?_) ?_
        rotate_left
        · go_simp; rfl
        simp only [Act.put, List.setIfInBounds_toArray, List.set_cons_zero, List.set_cons_succ]
        refine stepsI_float (i := 8) (v := ?_) (some 43) (by kernel_rfl) rfl rfl rfl (fun w' hI => ?_) ?_
        rotate_left
        · go_simp; rfl
        simp only [Act.put, List.setIfInBounds_toArray, List.set_cons_zero, List.set_cons_succ]
        refine stepsI_float (i := 9) (v := ?_) (some 44) (by kernel_rfl) rfl rfl rfl (fun w' hI => ?_) ?_
        rotate_left
        · go_simp; rfl
        simp only [Act.put, List.setIfInBounds_toArray, List.set_cons_zero, List.set_cons_succ]
        refine stepsI_one (i := 11) (HJ.out _ c00.out c01.out c10.out c11.out c12.out c20.out c21.out c22.out) (by kernel_rfl) ?_
        have q0 := TT.out.c0
        have q1 := TT.out.c1
        have q2 := TT.out.c2
        have q3 := TT.out.f0
        have q4 := TT.out.f1
        have q5 := TT.out.f2
        obtain ⟨v35, hv35⟩ : ∃ z, z = (((v33.setCell ⟨B28, 0, none⟩ (.slice aW1 rn cW1)).setCell ⟨B28, 1, none⟩ (.slice aW2 rn cW2)).setCell ⟨B28, 2, none⟩ (.slice aW3 rn cW3)) := ⟨_, rfl⟩
        refine op_skip (w' := v35) rfl rfl (by rw [hv35]; go_simp) ?_
        simp only [Act.put]
        clear q0 q1 q2 q3 q4 q5
        have XX : WroteIn B28 (B28 + 1) v33 v35 := by rw [hv35]; exact WroteIn.set3
        have TZ := Lib.hid (show TrAt v35 B28 (.slice aW1 rn cW1) (.slice aW2 rn cW2) (.slice aW3 rn cW3) by rw [hv35]; exact TT.out.set3)
        clear hv35 TT
        replace X9 := Lib.hid (XX.ext X9.out (by rw [← HZS.out]; omega))
        replace E := Lib.hid (XX.ext E.out (by omega))
        replace c00 := Lib.hid (XX.cell c00.out (by show O < B28 ∨ (B28 + 1) ≤ O; omega))
        replace c01 := Lib.hid (XX.cell c01.out (by show O < B28 ∨ (B28 + 1) ≤ O; omega))
        replace c10 := Lib.hid (XX.cell c10.out (by show (O + 1) < B28 ∨ (B28 + 1) ≤ (O + 1); omega))
        replace c11 := Lib.hid (XX.cell c11.out (by show (O + 1) < B28 ∨ (B28 + 1) ≤ (O + 1); omega))
        replace c12 := Lib.hid (XX.cell c12.out (by show (O + 1) < B28 ∨ (B28 + 1) ≤ (O + 1); omega))
        replace c20 := Lib.hid (XX.cell c20.out (by show (O + 1 + 1) < B28 ∨ (B28 + 1) ≤ (O + 1 + 1); omega))
        replace c21 := Lib.hid (XX.cell c21.out (by show (O + 1 + 1) < B28 ∨ (B28 + 1) ≤ (O + 1 + 1); omega))
        replace c22 := Lib.hid (XX.cell c22.out (by show (O + 1 + 1) < B28 ∨ (B28 + 1) ≤ (O + 1 + 1); omega))
        replace OW1 := Lib.hid (XX.ownR OW1.out (by omega))
        replace OW2 := Lib.hid (XX.ownR OW2.out (by omega))
        replace OW3 := Lib.hid (XX.ownR OW3.out (by omega))
        replace HZ := Lib.hid (Nat.le_trans HZ.out XX.size)
        clear XX
        have bW0 := Lib.hid TZ.out.c0
        have bW1 := Lib.hid TZ.out.c1
        have bW2 := Lib.hid TZ.out.c2
        clear TZ
        refine stepsI_one (i := 12) (HJ.out _ c00.out c01.out c10.out c11.out c12.out c20.out c21.out c22.out) (by kernel_rfl) ?_
        refine op_value (v := ?_) (w' := v35) (some 9) rfl rfl rfl ?_ ?_
        rotate_left
        · go_simp; rfl
        simp only [Act.put, List.setIfInBounds_toArray]
        refine stepsI_end (HJ.out _ c00.out c01.out c10.out c11.out c12.out c20.out c21.out c22.out) (by kernel_rfl) ?_
        refine ⟨rfl, gA0, gA11, gA12, gA13, gA21, gA22, gA23, aW1, cW1, aW2, cW2, aW3, cW3, Wl1, Wh1, Wl2, Wh2, Wl3, Wh3, B28, Z34, ?_, ?_, HZ, X9, OW1, OW2, OW3, bW0, bW1, bW2⟩
        · first | rfl | (simp only [Act.put, List.setIfInBounds_toArray, List.set_cons_zero, List.set_cons_succ]) | (simp only [Act.put])
        · omega
    · skip
      refine op_value (v := .pointer (some ⟨v0W.heap.size, 0, none⟩)) (w' := v0W.alloc (.cells #[.slice none 0 0, .slice none 0 0, .slice none 0 0] 38)) (some 8) rfl rfl rfl (by go_simp) ?_
      simp only [Act.put, List.setIfInBounds_toArray, List.set_cons_zero, List.set_cons_succ]
      obtain ⟨B37, hB37⟩ : ∃ z, z = v0W.heap.size := ⟨_, rfl⟩
      obtain ⟨v36, hv36⟩ : ∃ z, z = v0W.alloc (.cells #[.slice none 0 0, .slice none 0 0, .slice none 0 0] 38) := ⟨_, rfl⟩
      have TT9 := Lib.hid (show TrAt v36 B37 (.slice none 0 0) (.slice none 0 0) (.slice none 0 0) by rw [hv36, hB37]; exact trAt_new v0W (.slice none 0 0) (.slice none 0 0) (.slice none 0 0) 38)
      have gg : Ext v0W v36 := by rw [hv36]; exact ext_alloc _ _
      have hrbW : ZSW ≤ B37 := by rw [hB37]; exact HZ.out
      have hz9 : B37 + 1 ≤ v36.heap.size := by rw [hv36, hB37]; simp
      rw [← hv36, ← hB37]
      clear hv36 hB37
      replace X9 := Lib.hid (X9.out.trans gg)
      replace E := Lib.hid (E.out.trans gg)
      replace c00 := Lib.hid (gg.cell c00.out)
      replace c01 := Lib.hid (gg.cell c01.out)
      replace c10 := Lib.hid (gg.cell c10.out)
      replace c11 := Lib.hid (gg.cell c11.out)
      replace c12 := Lib.hid (gg.cell c12.out)
      replace c20 := Lib.hid (gg.cell c20.out)
      replace c21 := Lib.hid (gg.cell c21.out)
      replace c22 := Lib.hid (gg.cell c22.out)
      replace HZ := Lib.hid (Nat.le_trans HZ.out gg.size')
      have TT := TT9
      clear TT9
      replace HZ := Lib.hid hz9
      clear gg hz9
      refine stepsI_one (i := 1) (HJ.out _ c00.out c01.out c10.out c11.out c12.out c20.out c21.out c22.out) (by kernel_rfl) ?_
      refine op_call (f := ?_) (args := ?_) (R := fun v w' => ∃ g, v = .agg #[.int .i64 p, .slice (some ⟨g, 0, none⟩) d d] ∧ OwnC v36.heap.size w' (some ⟨g, 0, none⟩) d d qs ∧ Ext v36 w') (some 37) rfl rfl rfl ?_ ?_ ?_
      rotate_left 2
      · go_simp; refine ⟨?_, ?_⟩ <;> rfl
      · refine Calls.mono (l_toDoubling p a d cap qs v36 (by omega) (HQ0.out.ext E.out)) ?_
        rintro e w9 ⟨g9, rfl, ho9, g8⟩
        exact ⟨_, rfl, g9, rfl, ho9, g8⟩
      rintro v v38 ⟨gA0, rfl, ho, gg⟩
      simp only [Act.put, List.setIfInBounds_toArray, List.set_cons_zero, List.set_cons_succ]
      have hb9 := ho.base_of gA0 rfl
      have hz9 := HZ.out
      obtain ⟨Z39, hZ39⟩ : ∃ z, z = v38.heap.size := ⟨_, rfl⟩
      have hrA0 : (B37 + 1) ≤ gA0 ∧ gA0 < Z39 := by omega
      have OA0 := Lib.hid ho
      clear hb9 hz9 ho
      replace TT := Lib.hid (TT.out.ext gg)
      replace X9 := Lib.hid (X9.out.trans gg)
      replace E := Lib.hid (E.out.trans gg)
      replace c00 := Lib.hid (gg.cell c00.out)
      replace c01 := Lib.hid (gg.cell c01.out)
      replace c10 := Lib.hid (gg.cell c10.out)
      replace c11 := Lib.hid (gg.cell c11.out)
      replace c12 := Lib.hid (gg.cell c12.out)
      replace c20 := Lib.hid (gg.cell c20.out)
      replace c21 := Lib.hid (gg.cell c21.out)
      replace c22 := Lib.hid (gg.cell c22.out)
      replace HZ := Lib.hid (Nat.le_trans HZ.out gg.size')
      replace HZ : Hid (Z39 ≤ v38.heap.size) := Lib.hid (Nat.le_of_eq hZ39)
      clear gg hZ39
      refine stepsI_one (i := 3) (HJ.out _ c00.out c01.out c10.out c11.out c12.out c20.out c21.out c22.out) (by kernel_rfl) ?_
      refine op_call (f := ?_) (args := ?_) (R := fun v w' => Trip3 v38.heap.size w' n1x1 n1x2 n1x3 T1x1 T1x2 T1x3 v ∧ Ext v38 w') (some 39) rfl rfl rfl ?_ ?_ ?_
      rotate_left 2
      · go_simp; refine ⟨?_, ?_⟩ <;> rfl
      · refine Calls.mono (l_toTriple a1x1 a1x2 a1x3 n1x1 n1x2 n1x3 c1x1 c1x2 c1x3 T1x1 T1x2 T1x3 v38 (by omega) (by omega) (by omega) HL1x1.out HL1x2.out HL1x3.out (HX1x1.out.ext E.out) (HX1x2.out.ext E.out) (HX1x3.out.ext E.out)) ?_
        rintro e w9 ⟨V9, rfl, hT8, g8⟩
        exact ⟨_, rfl, hT8, g8⟩
      rintro v v40 ⟨hT9, gg⟩
      obtain ⟨gA11, gA12, gA13, A1l1, A1h1, A1l2, A1h2, A1l3, A1h3, rfl, q1, q2, q3, q4, q5, q6, q7, o1, o2, o3⟩ := hT9
      have hz9 := HZ.out
      obtain ⟨Z41, hZ41⟩ : ∃ z, z = v40.heap.size := ⟨_, rfl⟩
      have hrA1 : Z39 ≤ A1l1 ∧ A1l1 ≤ A1h1 ∧ A1h1 ≤ A1l2 ∧ A1l2 ≤ A1h2 ∧ A1h2 ≤ A1l3 ∧ A1l3 ≤ A1h3 ∧ A1h3 ≤ Z41 := by omega
      have OA11 := Lib.hid o1
      have OA12 := Lib.hid o2
      have OA13 := Lib.hid o3
      clear hz9 o1 o2 o3 q1 q2 q3 q4 q5 q6 q7
      replace TT := Lib.hid (TT.out.ext gg)
      replace X9 := Lib.hid (X9.out.trans gg)
      replace E := Lib.hid (E.out.trans gg)
      replace c00 := Lib.hid (gg.cell c00.out)
      replace c01 := Lib.hid (gg.cell c01.out)
      replace c10 := Lib.hid (gg.cell c10.out)
      replace c11 := Lib.hid (gg.cell c11.out)
      replace c12 := Lib.hid (gg.cell c12.out)
      replace c20 := Lib.hid (gg.cell c20.out)
      replace c21 := Lib.hid (gg.cell c21.out)
      replace c22 := Lib.hid (gg.cell c22.out)
      replace OA0 := Lib.hid (OA0.out.ext gg)
      replace HZ := Lib.hid (Nat.le_trans HZ.out gg.size')
      replace HZ : Hid (Z41 ≤ v40.heap.size) := Lib.hid (Nat.le_of_eq hZ41)
      clear gg hZ41
      simp only [Act.put, List.setIfInBounds_toArray, List.set_cons_zero, List.set_cons_succ]
      refine stepsI_one (i := 5) (HJ.out _ c00.out c01.out c10.out c11.out c12.out c20.out c21.out c22.out) (by kernel_rfl) ?_
      refine op_call (f := ?_) (args := ?_) (R := fun v w' => Trip3 v40.heap.size w' n2x1 n2x2 n2x3 T2x1 T2x2 T2x3 v ∧ Ext v40 w') (some 41) rfl rfl rfl ?_ ?_ ?_
      rotate_left 2
      · go_simp; refine ⟨?_, ?_⟩ <;> rfl
      · refine Calls.mono (l_toTriple a2x1 a2x2 a2x3 n2x1 n2x2 n2x3 c2x1 c2x2 c2x3 T2x1 T2x2 T2x3 v40 (by omega) (by omega) (by omega) HL2x1.out HL2x2.out HL2x3.out (HX2x1.out.ext E.out) (HX2x2.out.ext E.out) (HX2x3.out.ext E.out)) ?_
        rintro e w9 ⟨V9, rfl, hT8, g8⟩
        exact ⟨_, rfl, hT8, g8⟩
      rintro v v42 ⟨hT9, gg⟩
      obtain ⟨gA21, gA22, gA23, A2l1, A2h1, A2l2, A2h2, A2l3, A2h3, rfl, q1, q2, q3, q4, q5, q6, q7, o1, o2, o3⟩ := hT9
      have hz9 := HZ.out
      obtain ⟨Z43, hZ43⟩ : ∃ z, z = v42.heap.size := ⟨_, rfl⟩
      have hrA2 : Z41 ≤ A2l1 ∧ A2l1 ≤ A2h1 ∧ A2h1 ≤ A2l2 ∧ A2l2 ≤ A2h2 ∧ A2h2 ≤ A2l3 ∧ A2l3 ≤ A2h3 ∧ A2h3 ≤ Z43 := by omega
      have OA21 := Lib.hid o1
      have OA22 := Lib.hid o2
      have OA23 := Lib.hid o3
      clear hz9 o1 o2 o3 q1 q2 q3 q4 q5 q6 q7
      replace TT := Lib.hid (TT.out.ext gg)
      replace X9 := Lib.hid (X9.out.trans gg)
      replace E := Lib.hid (E.out.trans gg)
      replace c00 := Lib.hid (gg.cell c00.out)
      replace c01 := Lib.hid (gg.cell c01.out)
      replace c10 := Lib.hid (gg.cell c10.out)
      replace c11 := Lib.hid (gg.cell c11.out)
      replace c12 := Lib.hid (gg.cell c12.out)
      replace c20 := Lib.hid (gg.cell c20.out)
      replace c21 := Lib.hid (gg.cell c21.out)
      replace c22 := Lib.hid (gg.cell c22.out)
      replace OA0 := Lib.hid (OA0.out.ext gg)
      replace OA11 := Lib.hid (OA11.out.ext gg)
      replace OA12 := Lib.hid (OA12.out.ext gg)
      replace OA13 := Lib.hid (OA13.out.ext gg)
      replace HZ := Lib.hid (Nat.le_trans HZ.out gg.size')
      replace HZ : Hid (Z43 ≤ v42.heap.size) := Lib.hid (Nat.le_of_eq hZ43)
      clear gg hZ43
      simp only [Act.put, List.setIfInBounds_toArray, List.set_cons_zero, List.set_cons_succ]
      refine stepsI_one (i := 6) (HJ.out _ c00.out c01.out c10.out c11.out c12.out c20.out c21.out c22.out) (by kernel_rfl) ?_
      refine op_call (f := ?_) (args := ?_) (R := fun v w' => ∃ V, v = .tuple #[V, .int .i64 c] ∧ Trip v42.heap.size w' rn yA yB yC V ∧ Ext v42 w') (some 42) rfl rfl rfl ?_ ?_ ?_
      rotate_left 2
      · go_simp; refine ⟨?_, ?_⟩ <;> rfl
      · refine Calls.mono (Hs.out (some ⟨gA0, 0, none⟩) (some ⟨gA11, 0, none⟩) (some ⟨gA12, 0, none⟩) (some ⟨gA13, 0, none⟩) (some ⟨gA21, 0, none⟩) (some ⟨gA22, 0, none⟩) (some ⟨gA23, 0, none⟩) v42 OA0.out.rd OA11.out.low.rd OA12.out.low.rd OA13.out.low.rd OA21.out.low.rd OA22.out.low.rd OA23.out.low.rd) ?_
        rintro e w9 ⟨V9, rfl, hT8, g8⟩
        exact ⟨_, rfl, V9, rfl, hT8, g8⟩
      rintro v v44 ⟨V9, rfl, hT9, gg⟩
      obtain ⟨aW1, cW1, aW2, cW2, aW3, cW3, Wl1, Wh1, Wl2, Wh2, Wl3, Wh3, rfl, q1, q2, q3, q4, q5, q6, q7, o1, o2, o3⟩ := hT9
      have hz9 := HZ.out
      obtain ⟨Z45, hZ45⟩ : ∃ z, z = v44.heap.size := ⟨_, rfl⟩
      have hrW : Z43 ≤ Wl1 ∧ Wl1 ≤ Wh1 ∧ Wh1 ≤ Wl2 ∧ Wl2 ≤ Wh2 ∧ Wh2 ≤ Wl3 ∧ Wl3 ≤ Wh3 ∧ Wh3 ≤ Z45 := by omega
      have OW1 := Lib.hid o1
      have OW2 := Lib.hid o2
      have OW3 := Lib.hid o3
      clear hz9 o1 o2 o3 q1 q2 q3 q4 q5 q6 q7
      replace TT := Lib.hid (TT.out.ext gg)
      replace X9 := Lib.hid (X9.out.trans gg)
      replace E := Lib.hid (E.out.trans gg)
      replace c00 := Lib.hid (gg.cell c00.out)
      replace c01 := Lib.hid (gg.cell c01.out)
      replace c10 := Lib.hid (gg.cell c10.out)
      replace c11 := Lib.hid (gg.cell c11.out)
      replace c12 := Lib.hid (gg.cell c12.out)
      replace c20 := Lib.hid (gg.cell c20.out)
      replace c21 := Lib.hid (gg.cell c21.out)
      replace c22 := Lib.hid (gg.cell c22.out)
      replace OA0 := Lib.hid (OA0.out.ext gg)
      replace OA11 := Lib.hid (OA11.out.ext gg)
      replace OA12 := Lib.hid (OA12.out.ext gg)
      replace OA13 := Lib.hid (OA13.out.ext gg)
      replace OA21 := Lib.hid (OA21.out.ext gg)
      replace OA22 := Lib.hid (OA22.out.ext gg)
      replace OA23 := Lib.hid (OA23.out.ext gg)
      replace HZ := Lib.hid (Nat.le_trans HZ.out gg.size')
      replace HZ : Hid (Z45 ≤ v44.heap.size) := Lib.hid (Nat.le_of_eq hZ45)
      clear gg hZ45
      simp only [Act.put, List.setIfInBounds_toArray, List.set_cons_zero, List.set_cons_succ]
      clear OA0
      clear OA11 OA12 OA13
      clear OA21 OA22 OA23
      refine stepsI_float (i := 7) (v := ?_) (some 35) (by kernel_rfl) rfl rfl rfl (fun w' hI => ?_) ?_
      rotate_left
      · go_simp; rfl
      simp only [Act.put, List.setIfInBounds_toArray, List.set_cons_zero, List.set_cons_succ]
      refine stepsI_float (i := 8) (v := ?_) (some 43) (by kernel_rfl) rfl rfl rfl (fun w' hI => ?_) ?_
      rotate_left
      · go_simp; rfl
      simp only [Act.put, List.setIfInBounds_toArray, List.set_cons_zero, List.set_cons_succ]
      refine stepsI_float (i := 9) (v := ?_) (some 44) (by kernel_rfl) rfl rfl rfl (fun w' hI => ?_) ?_
      rotate_left
      · go_simp; rfl
      simp only [Act.put, List.setIfInBounds_toArray, List.set_cons_zero, List.set_cons_succ]
      refine stepsI_one (i := 11) (HJ.out _ c00.out c01.out c10.out c11.out c12.out c20.out c21.out c22.out) (by kernel_rfl) ?_
      have q0 := TT.out.c0
      have q1 := TT.out.c1
      have q2 := TT.out.c2
      have q3 := TT.out.f0
      have q4 := TT.out.f1
      have q5 := TT.out.f2
      obtain ⟨v46, hv46⟩ : ∃ z, z = (((v44.setCell ⟨B37, 0, none⟩ (.slice aW1 rn cW1)).setCell ⟨B37, 1, none⟩ (.slice aW2 rn cW2)).setCell ⟨B37, 2, none⟩ (.slice aW3 rn cW3)) := ⟨_, rfl⟩
      refine op_skip (w' := v46) rfl rfl (by rw [hv46]; go_simp) ?_
      simp only [Act.put]
      clear q0 q1 q2 q3 q4 q5
      have XX : WroteIn B37 (B37 + 1) v44 v46 := by rw [hv46]; exact WroteIn.set3
      have TZ := Lib.hid (show TrAt v46 B37 (.slice aW1 rn cW1) (.slice aW2 rn cW2) (.slice aW3 rn cW3) by rw [hv46]; exact TT.out.set3)
      clear hv46 TT
      replace X9 := Lib.hid (XX.ext X9.out (by rw [← HZS.out]; omega))
      replace E := Lib.hid (XX.ext E.out (by omega))
      replace c00 := Lib.hid (XX.cell c00.out (by show O < B37 ∨ (B37 + 1) ≤ O; omega))
      replace c01 := Lib.hid (XX.cell c01.out (by show O < B37 ∨ (B37 + 1) ≤ O; omega))
      replace c10 := Lib.hid (XX.cell c10.out (by show (O + 1) < B37 ∨ (B37 + 1) ≤ (O + 1); omega))
      replace c11 := Lib.hid (XX.cell c11.out (by show (O + 1) < B37 ∨ (B37 + 1) ≤ (O + 1); omega))
      replace c12 := Lib.hid (XX.cell c12.out (by show (O + 1) < B37 ∨ (B37 + 1) ≤ (O + 1); omega))
      replace c20 := Lib.hid (XX.cell c20.out (by show (O + 1 + 1) < B37 ∨ (B37 + 1) ≤ (O + 1 + 1); omega))
      replace c21 := Lib.hid (XX.cell c21.out (by show (O + 1 + 1) < B37 ∨ (B37 + 1) ≤ (O + 1 + 1); omega))
      replace c22 := Lib.hid (XX.cell c22.out (by show (O + 1 + 1) < B37 ∨ (B37 + 1) ≤ (O + 1 + 1); omega))
      replace OW1 := Lib.hid (XX.ownR OW1.out (by omega))
      replace OW2 := Lib.hid (XX.ownR OW2.out (by omega))
      replace OW3 := Lib.hid (XX.ownR OW3.out (by omega))
      replace HZ := Lib.hid (Nat.le_trans HZ.out XX.size)
      clear XX
      have bW0 := Lib.hid TZ.out.c0
      have bW1 := Lib.hid TZ.out.c1
      have bW2 := Lib.hid TZ.out.c2
      clear TZ
      refine stepsI_one (i := 12) (HJ.out _ c00.out c01.out c10.out c11.out c12.out c20.out c21.out c22.out) (by kernel_rfl) ?_
      refine op_value (v := ?_) (w' := v46) (some 9) rfl rfl rfl ?_ ?_
      rotate_left
      · go_simp; rfl
      simp only [Act.put, List.setIfInBounds_toArray]
      refine stepsI_end (HJ.out _ c00.out c01.out c10.out c11.out c12.out c20.out c21.out c22.out) (by kernel_rfl) ?_
      refine ⟨rfl, gA0, gA11, gA12, gA13, gA21, gA22, gA23, aW1, cW1, aW2, cW2, aW3, cW3, Wl1, Wh1, Wl2, Wh2, Wl3, Wh3, B37, Z45, ?_, ?_, HZ, X9, OW1, OW2, OW3, bW0, bW1, bW2⟩
      · first | rfl | (simp only [Act.put, List.setIfInBounds_toArray, List.set_cons_zero, List.set_cons_succ]) | (simp only [Act.put])
      · omega
  · skip
    clear X9 HV0 HJ HJ2
    rintro a9 v47 ⟨gA0, gA11, gA12, gA13, gA21, gA22, gA23, aW1, cW1, aW2, cW2, aW3, cW3, Wl1, Wh1, Wl2, Wh2, Wl3, Wh3, BbW, ZnbW, rfl, hnW, HZ9, GG9, OW1, OW2, OW3, bW0, bW1, bW2⟩
    simp only [Act.put, List.setIfInBounds_toArray, List.set_cons_zero, List.set_cons_succ]
    replace E := Lib.hid (E.out.trans GG9.out)
    replace c00 := Lib.hid (GG9.out.cell c00.out)
    replace c01 := Lib.hid (GG9.out.cell c01.out)
    replace c10 := Lib.hid (GG9.out.cell c10.out)
    replace c11 := Lib.hid (GG9.out.cell c11.out)
    replace c12 := Lib.hid (GG9.out.cell c12.out)
    replace c20 := Lib.hid (GG9.out.cell c20.out)
    replace c21 := Lib.hid (GG9.out.cell c21.out)
    replace c22 := Lib.hid (GG9.out.cell c22.out)
    replace HZ := Lib.hid (Nat.le_trans HZ.out GG9.out.size')
    clear HZ GG9 HZS
    have HZ := HZ9
    clear HZ9
    have hc00 := c00.out
    have hc01 := c01.out
    go_wp2_with (fail)
    clear hc00 hc01
    refine (l_toDoubling p a d cap qs v47 (by omega) (HQ0.out.ext E.out)).mono ?_
    rintro e v48 ⟨gX0, rfl, ho, gg⟩
    have hb9 := ho.base_of gX0 rfl
    have hz9 := HZ.out
    obtain ⟨Z49, hZ49⟩ : ∃ z, z = v48.heap.size := ⟨_, rfl⟩
    have hrX0 : ZnbW ≤ gX0 ∧ gX0 < Z49 := by omega
    have OX0 := Lib.hid ho
    clear hb9 hz9 ho
    replace E := Lib.hid (E.out.trans gg)
    replace c00 := Lib.hid (gg.cell c00.out)
    replace c01 := Lib.hid (gg.cell c01.out)
    replace c10 := Lib.hid (gg.cell c10.out)
    replace c11 := Lib.hid (gg.cell c11.out)
    replace c12 := Lib.hid (gg.cell c12.out)
    replace c20 := Lib.hid (gg.cell c20.out)
    replace c21 := Lib.hid (gg.cell c21.out)
    replace c22 := Lib.hid (gg.cell c22.out)
    replace bW0 := Lib.hid (gg.cell bW0.out)
    replace bW1 := Lib.hid (gg.cell bW1.out)
    replace bW2 := Lib.hid (gg.cell bW2.out)
    replace OW1 := Lib.hid (OW1.out.ext gg)
    replace OW2 := Lib.hid (OW2.out.ext gg)
    replace OW3 := Lib.hid (OW3.out.ext gg)
    replace HZ := Lib.hid (Nat.le_trans HZ.out gg.size')
    replace HZ : Hid (Z49 ≤ v48.heap.size) := Lib.hid (Nat.le_of_eq hZ49)
    clear gg hZ49
    have hc10 := (ext_alloc v48 (.cells #[.int .i64 p, .slice (some ⟨gX0, 0, none⟩) d d] 30)).cell c10.out
    have hc11 := (ext_alloc v48 (.cells #[.int .i64 p, .slice (some ⟨gX0, 0, none⟩) d d] 30)).cell c11.out
    have hc12 := (ext_alloc v48 (.cells #[.int .i64 p, .slice (some ⟨gX0, 0, none⟩) d d] 30)).cell c12.out
    go_wp2_with (fail)
    clear hc10 hc11 hc12
    obtain ⟨B51, hB51⟩ : ∃ z, z = v48.heap.size := ⟨_, rfl⟩
    obtain ⟨v50, hv50⟩ : ∃ z, z = v48.alloc (.cells #[.int .i64 p, .slice (some ⟨gX0, 0, none⟩) d d] 30) := ⟨_, rfl⟩
    have bX0 := Lib.hid (show v50.cell? ⟨B51, 0, none⟩ = some (.int .i64 p) by rw [hv50, hB51]; simp)
    have bX1 := Lib.hid (show v50.cell? ⟨B51, 1, none⟩ = some (.slice (some ⟨gX0, 0, none⟩) d d) by rw [hv50, hB51]; simp)
    have gg : Ext v48 v50 := by rw [hv50]; exact ext_alloc _ _
    have hrbX : Z49 ≤ B51 := by rw [hB51]; exact HZ.out
    have hz9 : B51 + 1 ≤ v50.heap.size := by rw [hv50, hB51]; simp
    rw [← hv50]
    try rw [← hB51]
    clear hv50 hB51
    replace E := Lib.hid (E.out.trans gg)
    replace c00 := Lib.hid (gg.cell c00.out)
    replace c01 := Lib.hid (gg.cell c01.out)
    replace c10 := Lib.hid (gg.cell c10.out)
    replace c11 := Lib.hid (gg.cell c11.out)
    replace c12 := Lib.hid (gg.cell c12.out)
    replace c20 := Lib.hid (gg.cell c20.out)
    replace c21 := Lib.hid (gg.cell c21.out)
    replace c22 := Lib.hid (gg.cell c22.out)
    replace bW0 := Lib.hid (gg.cell bW0.out)
    replace bW1 := Lib.hid (gg.cell bW1.out)
    replace bW2 := Lib.hid (gg.cell bW2.out)
    replace OW1 := Lib.hid (OW1.out.ext gg)
    replace OW2 := Lib.hid (OW2.out.ext gg)
    replace OW3 := Lib.hid (OW3.out.ext gg)
    replace OX0 := Lib.hid (OX0.out.ext gg)
    replace HZ := Lib.hid (Nat.le_trans HZ.out gg.size')
    replace HZ := Lib.hid hz9
    clear gg hz9
    refine (l_toTriple a1x1 a1x2 a1x3 n1x1 n1x2 n1x3 c1x1 c1x2 c1x3 T1x1 T1x2 T1x3 v50 (by omega) (by omega) (by omega) HL1x1.out HL1x2.out HL1x3.out (HX1x1.out.ext E.out) (HX1x2.out.ext E.out) (HX1x3.out.ext E.out)).mono ?_
    rintro e v52 ⟨V9, rfl, hT9, gg⟩
    obtain ⟨gX11, gX12, gX13, X1l1, X1h1, X1l2, X1h2, X1l3, X1h3, rfl, q1, q2, q3, q4, q5, q6, q7, o1, o2, o3⟩ := hT9
    have hz9 := HZ.out
    obtain ⟨Z53, hZ53⟩ : ∃ z, z = v52.heap.size := ⟨_, rfl⟩
    have hrX1 : (B51 + 1) ≤ X1l1 ∧ X1l1 ≤ X1h1 ∧ X1h1 ≤ X1l2 ∧ X1l2 ≤ X1h2 ∧ X1h2 ≤ X1l3 ∧ X1l3 ≤ X1h3 ∧ X1h3 ≤ Z53 := by omega
    have OX11 := Lib.hid o1
    have OX12 := Lib.hid o2
    have OX13 := Lib.hid o3
    clear hz9 o1 o2 o3 q1 q2 q3 q4 q5 q6 q7
    replace E := Lib.hid (E.out.trans gg)
    replace c00 := Lib.hid (gg.cell c00.out)
    replace c01 := Lib.hid (gg.cell c01.out)
    replace c10 := Lib.hid (gg.cell c10.out)
    replace c11 := Lib.hid (gg.cell c11.out)
    replace c12 := Lib.hid (gg.cell c12.out)
    replace c20 := Lib.hid (gg.cell c20.out)
    replace c21 := Lib.hid (gg.cell c21.out)
    replace c22 := Lib.hid (gg.cell c22.out)
    replace bW0 := Lib.hid (gg.cell bW0.out)
    replace bW1 := Lib.hid (gg.cell bW1.out)
    replace bW2 := Lib.hid (gg.cell bW2.out)
    replace bX0 := Lib.hid (gg.cell bX0.out)
    replace bX1 := Lib.hid (gg.cell bX1.out)
    replace OW1 := Lib.hid (OW1.out.ext gg)
    replace OW2 := Lib.hid (OW2.out.ext gg)
    replace OW3 := Lib.hid (OW3.out.ext gg)
    replace OX0 := Lib.hid (OX0.out.ext gg)
    replace HZ := Lib.hid (Nat.le_trans HZ.out gg.size')
    replace HZ : Hid (Z53 ≤ v52.heap.size) := Lib.hid (Nat.le_of_eq hZ53)
    clear gg hZ53
    have hc20 := (ext_alloc v52 (.cells #[.slice (some ⟨gX11, 0, none⟩) n1x1 n1x1, .slice (some ⟨gX12, 0, none⟩) n1x2 n1x2, .slice (some ⟨gX13, 0, none⟩) n1x3 n1x3] 38)).cell c20.out
    have hc21 := (ext_alloc v52 (.cells #[.slice (some ⟨gX11, 0, none⟩) n1x1 n1x1, .slice (some ⟨gX12, 0, none⟩) n1x2 n1x2, .slice (some ⟨gX13, 0, none⟩) n1x3 n1x3] 38)).cell c21.out
    have hc22 := (ext_alloc v52 (.cells #[.slice (some ⟨gX11, 0, none⟩) n1x1 n1x1, .slice (some ⟨gX12, 0, none⟩) n1x2 n1x2, .slice (some ⟨gX13, 0, none⟩) n1x3 n1x3] 38)).cell c22.out
    go_wp2_with (fail)
    clear hc20 hc21 hc22
    obtain ⟨B55, hB55⟩ : ∃ z, z = v52.heap.size := ⟨_, rfl⟩
    obtain ⟨v54, hv54⟩ : ∃ z, z = v52.alloc (.cells #[.slice (some ⟨gX11, 0, none⟩) n1x1 n1x1, .slice (some ⟨gX12, 0, none⟩) n1x2 n1x2, .slice (some ⟨gX13, 0, none⟩) n1x3 n1x3] 38) := ⟨_, rfl⟩
    have bY0 := Lib.hid (show v54.cell? ⟨B55, 0, none⟩ = some (.slice (some ⟨gX11, 0, none⟩) n1x1 n1x1) by rw [hv54, hB55]; simp)
    have bY1 := Lib.hid (show v54.cell? ⟨B55, 1, none⟩ = some (.slice (some ⟨gX12, 0, none⟩) n1x2 n1x2) by rw [hv54, hB55]; simp)
    have bY2 := Lib.hid (show v54.cell? ⟨B55, 2, none⟩ = some (.slice (some ⟨gX13, 0, none⟩) n1x3 n1x3) by rw [hv54, hB55]; simp)
    have gg : Ext v52 v54 := by rw [hv54]; exact ext_alloc _ _
    have hrbY : Z53 ≤ B55 := by rw [hB55]; exact HZ.out
    have hz9 : B55 + 1 ≤ v54.heap.size := by rw [hv54, hB55]; simp
    rw [← hv54]
    try rw [← hB55]
    clear hv54 hB55
    replace E := Lib.hid (E.out.trans gg)
    replace c00 := Lib.hid (gg.cell c00.out)
    replace c01 := Lib.hid (gg.cell c01.out)
    replace c10 := Lib.hid (gg.cell c10.out)
    replace c11 := Lib.hid (gg.cell c11.out)
    replace c12 := Lib.hid (gg.cell c12.out)
    replace c20 := Lib.hid (gg.cell c20.out)
    replace c21 := Lib.hid (gg.cell c21.out)
    replace c22 := Lib.hid (gg.cell c22.out)
    replace bW0 := Lib.hid (gg.cell bW0.out)
    replace bW1 := Lib.hid (gg.cell bW1.out)
    replace bW2 := Lib.hid (gg.cell bW2.out)
    replace bX0 := Lib.hid (gg.cell bX0.out)
    replace bX1 := Lib.hid (gg.cell bX1.out)
    replace OW1 := Lib.hid (OW1.out.ext gg)
    replace OW2 := Lib.hid (OW2.out.ext gg)
    replace OW3 := Lib.hid (OW3.out.ext gg)
    replace OX0 := Lib.hid (OX0.out.ext gg)
    replace OX11 := Lib.hid (OX11.out.ext gg)
    replace OX12 := Lib.hid (OX12.out.ext gg)
    replace OX13 := Lib.hid (OX13.out.ext gg)
    replace HZ := Lib.hid (Nat.le_trans HZ.out gg.size')
    replace HZ := Lib.hid hz9
    clear gg hz9
    refine (l_toTriple a2x1 a2x2 a2x3 n2x1 n2x2 n2x3 c2x1 c2x2 c2x3 T2x1 T2x2 T2x3 v54 (by omega) (by omega) (by omega) HL2x1.out HL2x2.out HL2x3.out (HX2x1.out.ext E.out) (HX2x2.out.ext E.out) (HX2x3.out.ext E.out)).mono ?_
    rintro e v56 ⟨V9, rfl, hT9, gg⟩
    obtain ⟨gX21, gX22, gX23, X2l1, X2h1, X2l2, X2h2, X2l3, X2h3, rfl, q1, q2, q3, q4, q5, q6, q7, o1, o2, o3⟩ := hT9
    have hz9 := HZ.out
    obtain ⟨Z57, hZ57⟩ : ∃ z, z = v56.heap.size := ⟨_, rfl⟩
    have hrX2 : (B55 + 1) ≤ X2l1 ∧ X2l1 ≤ X2h1 ∧ X2h1 ≤ X2l2 ∧ X2l2 ≤ X2h2 ∧ X2h2 ≤ X2l3 ∧ X2l3 ≤ X2h3 ∧ X2h3 ≤ Z57 := by omega
    have OX21 := Lib.hid o1
    have OX22 := Lib.hid o2
    have OX23 := Lib.hid o3
    clear hz9 o1 o2 o3 q1 q2 q3 q4 q5 q6 q7
    replace E := Lib.hid (E.out.trans gg)
    replace c00 := Lib.hid (gg.cell c00.out)
    replace c01 := Lib.hid (gg.cell c01.out)
    replace c10 := Lib.hid (gg.cell c10.out)
    replace c11 := Lib.hid (gg.cell c11.out)
    replace c12 := Lib.hid (gg.cell c12.out)
    replace c20 := Lib.hid (gg.cell c20.out)
    replace c21 := Lib.hid (gg.cell c21.out)
    replace c22 := Lib.hid (gg.cell c22.out)
    replace bW0 := Lib.hid (gg.cell bW0.out)
    replace bW1 := Lib.hid (gg.cell bW1.out)
    replace bW2 := Lib.hid (gg.cell bW2.out)
    replace bX0 := Lib.hid (gg.cell bX0.out)
    replace bX1 := Lib.hid (gg.cell bX1.out)
    replace bY0 := Lib.hid (gg.cell bY0.out)
    replace bY1 := Lib.hid (gg.cell bY1.out)
    replace bY2 := Lib.hid (gg.cell bY2.out)
    replace OW1 := Lib.hid (OW1.out.ext gg)
    replace OW2 := Lib.hid (OW2.out.ext gg)
    replace OW3 := Lib.hid (OW3.out.ext gg)
    replace OX0 := Lib.hid (OX0.out.ext gg)
    replace OX11 := Lib.hid (OX11.out.ext gg)
    replace OX12 := Lib.hid (OX12.out.ext gg)
    replace OX13 := Lib.hid (OX13.out.ext gg)
    replace HZ := Lib.hid (Nat.le_trans HZ.out gg.size')
    replace HZ : Hid (Z57 ≤ v56.heap.size) := Lib.hid (Nat.le_of_eq hZ57)
    clear gg hZ57
    have hbX0 := (ext_alloc v56 (.cells #[.slice (some ⟨gX21, 0, none⟩) n2x1 n2x1, .slice (some ⟨gX22, 0, none⟩) n2x2 n2x2, .slice (some ⟨gX23, 0, none⟩) n2x3 n2x3] 38)).cell bX0.out
    have hbX1 := (ext_alloc v56 (.cells #[.slice (some ⟨gX21, 0, none⟩) n2x1 n2x1, .slice (some ⟨gX22, 0, none⟩) n2x2 n2x2, .slice (some ⟨gX23, 0, none⟩) n2x3 n2x3] 38)).cell bX1.out
    have hbY0 := (ext_alloc v56 (.cells #[.slice (some ⟨gX21, 0, none⟩) n2x1 n2x1, .slice (some ⟨gX22, 0, none⟩) n2x2 n2x2, .slice (some ⟨gX23, 0, none⟩) n2x3 n2x3] 38)).cell bY0.out
    have hbY1 := (ext_alloc v56 (.cells #[.slice (some ⟨gX21, 0, none⟩) n2x1 n2x1, .slice (some ⟨gX22, 0, none⟩) n2x2 n2x2, .slice (some ⟨gX23, 0, none⟩) n2x3 n2x3] 38)).cell bY1.out
    have hbY2 := (ext_alloc v56 (.cells #[.slice (some ⟨gX21, 0, none⟩) n2x1 n2x1, .slice (some ⟨gX22, 0, none⟩) n2x2 n2x2, .slice (some ⟨gX23, 0, none⟩) n2x3 n2x3] 38)).cell bY2.out
    go_wp2_with (fail)
    clear hbX0 hbX1 hbY0 hbY1 hbY2
    obtain ⟨B59, hB59⟩ : ∃ z, z = v56.heap.size := ⟨_, rfl⟩
    obtain ⟨v58, hv58⟩ : ∃ z, z = v56.alloc (.cells #[.slice (some ⟨gX21, 0, none⟩) n2x1 n2x1, .slice (some ⟨gX22, 0, none⟩) n2x2 n2x2, .slice (some ⟨gX23, 0, none⟩) n2x3 n2x3] 38) := ⟨_, rfl⟩
    have bV0 := Lib.hid (show v58.cell? ⟨B59, 0, none⟩ = some (.slice (some ⟨gX21, 0, none⟩) n2x1 n2x1) by rw [hv58, hB59]; simp)
    have bV1 := Lib.hid (show v58.cell? ⟨B59, 1, none⟩ = some (.slice (some ⟨gX22, 0, none⟩) n2x2 n2x2) by rw [hv58, hB59]; simp)
    have bV2 := Lib.hid (show v58.cell? ⟨B59, 2, none⟩ = some (.slice (some ⟨gX23, 0, none⟩) n2x3 n2x3) by rw [hv58, hB59]; simp)
    have gg : Ext v56 v58 := by rw [hv58]; exact ext_alloc _ _
    have hrbV : Z57 ≤ B59 := by rw [hB59]; exact HZ.out
    have hz9 : B59 + 1 ≤ v58.heap.size := by rw [hv58, hB59]; simp
    rw [← hv58]
    try rw [← hB59]
    clear hv58 hB59
    replace E := Lib.hid (E.out.trans gg)
    replace c00 := Lib.hid (gg.cell c00.out)
    replace c01 := Lib.hid (gg.cell c01.out)
    replace c10 := Lib.hid (gg.cell c10.out)
    replace c11 := Lib.hid (gg.cell c11.out)
    replace c12 := Lib.hid (gg.cell c12.out)
    replace c20 := Lib.hid (gg.cell c20.out)
    replace c21 := Lib.hid (gg.cell c21.out)
    replace c22 := Lib.hid (gg.cell c22.out)
    replace bW0 := Lib.hid (gg.cell bW0.out)
    replace bW1 := Lib.hid (gg.cell bW1.out)
    replace bW2 := Lib.hid (gg.cell bW2.out)
    replace bX0 := Lib.hid (gg.cell bX0.out)
    replace bX1 := Lib.hid (gg.cell bX1.out)
    replace bY0 := Lib.hid (gg.cell bY0.out)
    replace bY1 := Lib.hid (gg.cell bY1.out)
    replace bY2 := Lib.hid (gg.cell bY2.out)
    replace OW1 := Lib.hid (OW1.out.ext gg)
    replace OW2 := Lib.hid (OW2.out.ext gg)
    replace OW3 := Lib.hid (OW3.out.ext gg)
    replace OX0 := Lib.hid (OX0.out.ext gg)
    replace OX11 := Lib.hid (OX11.out.ext gg)
    replace OX12 := Lib.hid (OX12.out.ext gg)
    replace OX13 := Lib.hid (OX13.out.ext gg)
    replace OX21 := Lib.hid (OX21.out.ext gg)
    replace OX22 := Lib.hid (OX22.out.ext gg)
    replace OX23 := Lib.hid (OX23.out.ext gg)
    replace HZ := Lib.hid (Nat.le_trans HZ.out gg.size')
    replace HZ := Lib.hid hz9
    clear gg hz9
    refine (Hi.out (some ⟨gX0, 0, none⟩) (some ⟨gX11, 0, none⟩) (some ⟨gX12, 0, none⟩) (some ⟨gX13, 0, none⟩) (some ⟨gX21, 0, none⟩) (some ⟨gX22, 0, none⟩) (some ⟨gX23, 0, none⟩) v58 OX0.out.rd OX11.out.low.rd OX12.out.low.rd OX13.out.low.rd OX21.out.low.rd OX22.out.low.rd OX23.out.low.rd).mono ?_
    rintro e v60 ⟨V9, rfl, hT9, gg⟩
    obtain ⟨aG1, cG1, aG2, cG2, aG3, cG3, Gl1, Gh1, Gl2, Gh2, Gl3, Gh3, rfl, q1, q2, q3, q4, q5, q6, q7, o1, o2, o3⟩ := hT9
    have hz9 := HZ.out
    obtain ⟨Z61, hZ61⟩ : ∃ z, z = v60.heap.size := ⟨_, rfl⟩
    have hrG : (B59 + 1) ≤ Gl1 ∧ Gl1 ≤ Gh1 ∧ Gh1 ≤ Gl2 ∧ Gl2 ≤ Gh2 ∧ Gh2 ≤ Gl3 ∧ Gl3 ≤ Gh3 ∧ Gh3 ≤ Z61 := by omega
    have OG1 := Lib.hid o1
    have OG2 := Lib.hid o2
    have OG3 := Lib.hid o3
    clear hz9 o1 o2 o3 q1 q2 q3 q4 q5 q6 q7
    replace E := Lib.hid (E.out.trans gg)
    replace c00 := Lib.hid (gg.cell c00.out)
    replace c01 := Lib.hid (gg.cell c01.out)
    replace c10 := Lib.hid (gg.cell c10.out)
    replace c11 := Lib.hid (gg.cell c11.out)
    replace c12 := Lib.hid (gg.cell c12.out)
    replace c20 := Lib.hid (gg.cell c20.out)
    replace c21 := Lib.hid (gg.cell c21.out)
    replace c22 := Lib.hid (gg.cell c22.out)
    replace bW0 := Lib.hid (gg.cell bW0.out)
    replace bW1 := Lib.hid (gg.cell bW1.out)
    replace bW2 := Lib.hid (gg.cell bW2.out)
    replace bX0 := Lib.hid (gg.cell bX0.out)
    replace bX1 := Lib.hid (gg.cell bX1.out)
    replace bY0 := Lib.hid (gg.cell bY0.out)
    replace bY1 := Lib.hid (gg.cell bY1.out)
    replace bY2 := Lib.hid (gg.cell bY2.out)
    replace bV0 := Lib.hid (gg.cell bV0.out)
    replace bV1 := Lib.hid (gg.cell bV1.out)
    replace bV2 := Lib.hid (gg.cell bV2.out)
    replace OW1 := Lib.hid (OW1.out.ext gg)
    replace OW2 := Lib.hid (OW2.out.ext gg)
    replace OW3 := Lib.hid (OW3.out.ext gg)
    replace OX0 := Lib.hid (OX0.out.ext gg)
    replace OX11 := Lib.hid (OX11.out.ext gg)
    replace OX12 := Lib.hid (OX12.out.ext gg)
    replace OX13 := Lib.hid (OX13.out.ext gg)
    replace OX21 := Lib.hid (OX21.out.ext gg)
    replace OX22 := Lib.hid (OX22.out.ext gg)
    replace OX23 := Lib.hid (OX23.out.ext gg)
    replace HZ := Lib.hid (Nat.le_trans HZ.out gg.size')
    replace HZ : Hid (Z61 ≤ v60.heap.size) := Lib.hid (Nat.le_of_eq hZ61)
    clear gg hZ61
    have hbW0 := (ext_alloc v60 (.cells #[.slice aG1 rn cG1, .slice aG2 rn cG2, .slice aG3 rn cG3] 38)).cell bW0.out
    have hbW1 := (ext_alloc v60 (.cells #[.slice aG1 rn cG1, .slice aG2 rn cG2, .slice aG3 rn cG3] 38)).cell bW1.out
    have hbW2 := (ext_alloc v60 (.cells #[.slice aG1 rn cG1, .slice aG2 rn cG2, .slice aG3 rn cG3] 38)).cell bW2.out
    go_wp2_with (fail)
    clear hbW0 hbW1 hbW2
    obtain ⟨B63, hB63⟩ : ∃ z, z = v60.heap.size := ⟨_, rfl⟩
    obtain ⟨v62, hv62⟩ : ∃ z, z = v60.alloc (.cells #[.slice aG1 rn cG1, .slice aG2 rn cG2, .slice aG3 rn cG3] 38) := ⟨_, rfl⟩
    have bG0 := Lib.hid (show v62.cell? ⟨B63, 0, none⟩ = some (.slice aG1 rn cG1) by rw [hv62, hB63]; simp)
    have bG1 := Lib.hid (show v62.cell? ⟨B63, 1, none⟩ = some (.slice aG2 rn cG2) by rw [hv62, hB63]; simp)
    have bG2 := Lib.hid (show v62.cell? ⟨B63, 2, none⟩ = some (.slice aG3 rn cG3) by rw [hv62, hB63]; simp)
    have gg : Ext v60 v62 := by rw [hv62]; exact ext_alloc _ _
    have hrbG : Z61 ≤ B63 := by rw [hB63]; exact HZ.out
    have hz9 : B63 + 1 ≤ v62.heap.size := by rw [hv62, hB63]; simp
    rw [← hv62]
    try rw [← hB63]
    clear hv62 hB63
    replace E := Lib.hid (E.out.trans gg)
    replace c00 := Lib.hid (gg.cell c00.out)
    replace c01 := Lib.hid (gg.cell c01.out)
    replace c10 := Lib.hid (gg.cell c10.out)
    replace c11 := Lib.hid (gg.cell c11.out)
    replace c12 := Lib.hid (gg.cell c12.out)
    replace c20 := Lib.hid (gg.cell c20.out)
    replace c21 := Lib.hid (gg.cell c21.out)
    replace c22 := Lib.hid (gg.cell c22.out)
    replace bW0 := Lib.hid (gg.cell bW0.out)
    replace bW1 := Lib.hid (gg.cell bW1.out)
    replace bW2 := Lib.hid (gg.cell bW2.out)
    replace bX0 := Lib.hid (gg.cell bX0.out)
    replace bX1 := Lib.hid (gg.cell bX1.out)
    replace bY0 := Lib.hid (gg.cell bY0.out)
    replace bY1 := Lib.hid (gg.cell bY1.out)
    replace bY2 := Lib.hid (gg.cell bY2.out)
    replace bV0 := Lib.hid (gg.cell bV0.out)
    replace bV1 := Lib.hid (gg.cell bV1.out)
    replace bV2 := Lib.hid (gg.cell bV2.out)
    replace OW1 := Lib.hid (OW1.out.ext gg)
    replace OW2 := Lib.hid (OW2.out.ext gg)
    replace OW3 := Lib.hid (OW3.out.ext gg)
    replace OX0 := Lib.hid (OX0.out.ext gg)
    replace OX11 := Lib.hid (OX11.out.ext gg)
    replace OX12 := Lib.hid (OX12.out.ext gg)
    replace OX13 := Lib.hid (OX13.out.ext gg)
    replace OX21 := Lib.hid (OX21.out.ext gg)
    replace OX22 := Lib.hid (OX22.out.ext gg)
    replace OX23 := Lib.hid (OX23.out.ext gg)
    replace OG1 := Lib.hid (OG1.out.ext gg)
    replace OG2 := Lib.hid (OG2.out.ext gg)
    replace OG3 := Lib.hid (OG3.out.ext gg)
    replace HZ := Lib.hid (Nat.le_trans HZ.out gg.size')
    replace HZ := Lib.hid hz9
    clear gg hz9
    refine (l_eqTriple aG1 aG2 aG3 aW1 aW2 aW3 rn rn rn cG1 cG2 cG3 cW1 cW2 cW3 yA yB yC v62 (by omega) (by omega) (by omega) HLA.out HLB.out HLC.out OG1.out.low.rd OG2.out.low.rd OG3.out.low.rd OW1.out.low.rd OW2.out.low.rd OW3.out.low.rd).mono ?_
    rintro e v64 ⟨rfl, gg⟩
    replace E := Lib.hid (E.out.trans gg)
    replace c00 := Lib.hid (gg.cell c00.out)
    replace c01 := Lib.hid (gg.cell c01.out)
    replace c10 := Lib.hid (gg.cell c10.out)
    replace c11 := Lib.hid (gg.cell c11.out)
    replace c12 := Lib.hid (gg.cell c12.out)
    replace c20 := Lib.hid (gg.cell c20.out)
    replace c21 := Lib.hid (gg.cell c21.out)
    replace c22 := Lib.hid (gg.cell c22.out)
    replace bW0 := Lib.hid (gg.cell bW0.out)
    replace bW1 := Lib.hid (gg.cell bW1.out)
    replace bW2 := Lib.hid (gg.cell bW2.out)
    replace bX0 := Lib.hid (gg.cell bX0.out)
    replace bX1 := Lib.hid (gg.cell bX1.out)
    replace bY0 := Lib.hid (gg.cell bY0.out)
    replace bY1 := Lib.hid (gg.cell bY1.out)
    replace bY2 := Lib.hid (gg.cell bY2.out)
    replace bV0 := Lib.hid (gg.cell bV0.out)
    replace bV1 := Lib.hid (gg.cell bV1.out)
    replace bV2 := Lib.hid (gg.cell bV2.out)
    replace bG0 := Lib.hid (gg.cell bG0.out)
    replace bG1 := Lib.hid (gg.cell bG1.out)
    replace bG2 := Lib.hid (gg.cell bG2.out)
    replace OW1 := Lib.hid (OW1.out.ext gg)
    replace OW2 := Lib.hid (OW2.out.ext gg)
    replace OW3 := Lib.hid (OW3.out.ext gg)
    replace OX0 := Lib.hid (OX0.out.ext gg)
    replace OX11 := Lib.hid (OX11.out.ext gg)
    replace OX12 := Lib.hid (OX12.out.ext gg)
    replace OX13 := Lib.hid (OX13.out.ext gg)
    replace OX21 := Lib.hid (OX21.out.ext gg)
    replace OX22 := Lib.hid (OX22.out.ext gg)
    replace OX23 := Lib.hid (OX23.out.ext gg)
    replace OG1 := Lib.hid (OG1.out.ext gg)
    replace OG2 := Lib.hid (OG2.out.ext gg)
    replace OG3 := Lib.hid (OG3.out.ext gg)
    replace HZ := Lib.hid (Nat.le_trans HZ.out gg.size')
    clear gg
    have Hc00 := Lib.hid ((ext_drew v64).cell c00.out)
    have Hc01 := Lib.hid ((ext_drew v64).cell c01.out)
    have HbX0 := Lib.hid ((ext_drew v64).cell bX0.out)
    have HbX1 := Lib.hid ((ext_drew v64).cell bX1.out)
    have HR0 := Lib.hid ((OX0.out.rd).ext (ext_drew v64))
    have HR1 := Lib.hid (HQ0.out.ext (E.out.trans (ext_drew v64)))
    go_wp2_with (fail)
    refine wp_region_lex [(2, .sp p d qs), (3, .val (.bool true))] (by kernel_rfl) (by kernel_rfl) ?_
    repeat' first | (refine LexW.pure (v := ?_) rfl rfl (fun w1 he => ?_) ?_; rotate_left; ( have hc0 := he.cell Hc00.out; have hc1 := he.cell Hc01.out; have hb0 := he.cell HbX0.out; have hb1 := he.cell HbX1.out; go_simp; rfl); simp only [Act.put, List.setIfInBounds_toArray, List.set_cons_zero, List.set_cons_succ]) | (refine LexW.callR (f := ?_) (args := ?_) rfl rfl (fun w1 => ?_) (fun w1 he hdep => ?_) (fun v hv => ?_); rotate_left 2; (go_simp; refine ⟨?_, ?_⟩ <;> rfl); ( refine (l_toDoubling p a d cap qs w1 (by omega) (HR1.out.ext he)).mono ?_; rintro e w2 ⟨g8, rfl, o8, x8⟩; exact ⟨_, rfl, x8, g8, rfl, o8.rd⟩); simp only [Act.put, List.setIfInBounds_toArray, List.set_cons_zero, List.set_cons_succ]) | (refine LexW.call (f := ?_) (args := ?_) rfl rfl (fun w1 => ?_) (fun w1 he hdep => ?_) ?_; rotate_left 2; (go_simp; refine ⟨?_, ?_⟩ <;> rfl); ( obtain ⟨g8, h8, r8⟩ : (SPred.sp p d qs).holds _ w1 := hdep (2, 69) (by decide +kernel); subst h8; have H := l_eqDoubling p _ _ d d d d qs qs w1 (by omega) (by omega) (HR0.out.ext he) r8; rw [eqB_self] at H; exact H); simp only [Act.put, List.setIfInBounds_toArray, List.set_cons_zero, List.set_cons_succ])
    refine LexW.nil (fun v65 he hk => ?_)
    have gg : Ext v64 v65 := (ext_drew _).trans he
    clear he hk Hc00 Hc01 HbX0 HbX1 HR0 HR1
    replace E := Lib.hid (E.out.trans gg)
    replace c00 := Lib.hid (gg.cell c00.out)
    replace c01 := Lib.hid (gg.cell c01.out)
    replace c10 := Lib.hid (gg.cell c10.out)
    replace c11 := Lib.hid (gg.cell c11.out)
    replace c12 := Lib.hid (gg.cell c12.out)
    replace c20 := Lib.hid (gg.cell c20.out)
    replace c21 := Lib.hid (gg.cell c21.out)
    replace c22 := Lib.hid (gg.cell c22.out)
    replace bW0 := Lib.hid (gg.cell bW0.out)
    replace bW1 := Lib.hid (gg.cell bW1.out)
    replace bW2 := Lib.hid (gg.cell bW2.out)
    replace bX0 := Lib.hid (gg.cell bX0.out)
    replace bX1 := Lib.hid (gg.cell bX1.out)
    replace bY0 := Lib.hid (gg.cell bY0.out)
    replace bY1 := Lib.hid (gg.cell bY1.out)
    replace bY2 := Lib.hid (gg.cell bY2.out)
    replace bV0 := Lib.hid (gg.cell bV0.out)
    replace bV1 := Lib.hid (gg.cell bV1.out)
    replace bV2 := Lib.hid (gg.cell bV2.out)
    replace bG0 := Lib.hid (gg.cell bG0.out)
    replace bG1 := Lib.hid (gg.cell bG1.out)
    replace bG2 := Lib.hid (gg.cell bG2.out)
    replace OW1 := Lib.hid (OW1.out.ext gg)
    replace OW2 := Lib.hid (OW2.out.ext gg)
    replace OW3 := Lib.hid (OW3.out.ext gg)
    replace OX0 := Lib.hid (OX0.out.ext gg)
    replace OX11 := Lib.hid (OX11.out.ext gg)
    replace OX12 := Lib.hid (OX12.out.ext gg)
    replace OX13 := Lib.hid (OX13.out.ext gg)
    replace OX21 := Lib.hid (OX21.out.ext gg)
    replace OX22 := Lib.hid (OX22.out.ext gg)
    replace OX23 := Lib.hid (OX23.out.ext gg)
    replace OG1 := Lib.hid (OG1.out.ext gg)
    replace OG2 := Lib.hid (OG2.out.ext gg)
    replace OG3 := Lib.hid (OG3.out.ext gg)
    replace HZ := Lib.hid (Nat.le_trans HZ.out gg.size')
    clear gg
    have Hc0 := Lib.hid ((ext_drew v65).cell c10.out)
    have Hb0 := Lib.hid ((ext_drew v65).cell bY0.out)
    have HR0 := Lib.hid ((OX11.out.low.rd).ext (ext_drew v65))
    have HS0 := Lib.hid (HX1x1.out.ext (E.out.trans (ext_drew v65)))
    have Hc1 := Lib.hid ((ext_drew v65).cell c11.out)
    have Hb1 := Lib.hid ((ext_drew v65).cell bY1.out)
    have HR1 := Lib.hid ((OX12.out.low.rd).ext (ext_drew v65))
    have HS1 := Lib.hid (HX1x2.out.ext (E.out.trans (ext_drew v65)))
    have Hc2 := Lib.hid ((ext_drew v65).cell c12.out)
    have Hb2 := Lib.hid ((ext_drew v65).cell bY2.out)
    have HR2 := Lib.hid ((OX13.out.low.rd).ext (ext_drew v65))
    have HS2 := Lib.hid (HX1x3.out.ext (E.out.trans (ext_drew v65)))
    go_wp2_with (fail)
    refine wp_region_lex [(2, .tri3 n1x1 n1x2 n1x3 T1x1 T1x2 T1x3), (3, .val (.bool true))] (by kernel_rfl) (by kernel_rfl) ?_
    repeat' first | (refine LexW.pure (v := ?_) rfl rfl (fun w1 he => ?_) ?_; rotate_left; ( have hc0 := he.cell Hc0.out; have hc1 := he.cell Hc1.out; have hc2 := he.cell Hc2.out; have hb0 := he.cell Hb0.out; have hb1 := he.cell Hb1.out; have hb2 := he.cell Hb2.out; go_simp; rfl); simp only [Act.put, List.setIfInBounds_toArray, List.set_cons_zero, List.set_cons_succ]) | (refine LexW.callR (f := ?_) (args := ?_) rfl rfl (fun w1 => ?_) (fun w1 he hdep => ?_) (fun v hv => ?_); rotate_left 2; (go_simp; refine ⟨?_, ?_⟩ <;> rfl); ( refine (l_toTriple a1x1 a1x2 a1x3 n1x1 n1x2 n1x3 c1x1 c1x2 c1x3 T1x1 T1x2 T1x3 w1 (by omega) (by omega) (by omega) HL1x1.out HL1x2.out HL1x3.out (HS0.out.ext he) (HS1.out.ext he) (HS2.out.ext he)).mono ?_; rintro e w2 ⟨V8, rfl, ⟨g81, g82, g83, _, _, _, _, _, _, rfl, _, _, _, _, _, _, _, o81, o82, o83⟩, x8⟩; exact ⟨_, rfl, x8, g81, g82, g83, rfl, o81.low.rd, o82.low.rd, o83.low.rd⟩); simp only [Act.put, List.setIfInBounds_toArray, List.set_cons_zero, List.set_cons_succ]) | (refine LexW.call (f := ?_) (args := ?_) rfl rfl (fun w1 => ?_) (fun w1 he hdep => ?_) ?_; rotate_left 2; (go_simp; refine ⟨?_, ?_⟩ <;> rfl); ( obtain ⟨g81, g82, g83, h8, r81, r82, r83⟩ : (SPred.tri3 n1x1 n1x2 n1x3 T1x1 T1x2 T1x3).holds _ w1 := hdep (2, 74) (by decide +kernel); subst h8; exact l_eqTriple (some ⟨gX11, 0, none⟩) (some ⟨gX12, 0, none⟩) (some ⟨gX13, 0, none⟩) (some ⟨g81, 0, none⟩) (some ⟨g82, 0, none⟩) (some ⟨g83, 0, none⟩) n1x1 n1x2 n1x3 n1x1 n1x2 n1x3 n1x1 n1x2 n1x3 T1x1 T1x2 T1x3 w1 (by omega) (by omega) (by omega) HL1x1.out HL1x2.out HL1x3.out (HR0.out.ext he) (HR1.out.ext he) (HR2.out.ext he) r81 r82 r83); simp only [Act.put, List.setIfInBounds_toArray, List.set_cons_zero, List.set_cons_succ])
    refine LexW.nil (fun v66 he hk => ?_)
    have gg : Ext v65 v66 := (ext_drew _).trans he
    clear he hk Hc0 Hb0 HR0 HS0 Hc1 Hb1 HR1 HS1 Hc2 Hb2 HR2 HS2
    replace E := Lib.hid (E.out.trans gg)
    replace c00 := Lib.hid (gg.cell c00.out)
    replace c01 := Lib.hid (gg.cell c01.out)
    replace c10 := Lib.hid (gg.cell c10.out)
    replace c11 := Lib.hid (gg.cell c11.out)
    replace c12 := Lib.hid (gg.cell c12.out)
    replace c20 := Lib.hid (gg.cell c20.out)
    replace c21 := Lib.hid (gg.cell c21.out)
    replace c22 := Lib.hid (gg.cell c22.out)
    replace bW0 := Lib.hid (gg.cell bW0.out)
    replace bW1 := Lib.hid (gg.cell bW1.out)
    replace bW2 := Lib.hid (gg.cell bW2.out)
    replace bX0 := Lib.hid (gg.cell bX0.out)
    replace bX1 := Lib.hid (gg.cell bX1.out)
    replace bY0 := Lib.hid (gg.cell bY0.out)
    replace bY1 := Lib.hid (gg.cell bY1.out)
    replace bY2 := Lib.hid (gg.cell bY2.out)
    replace bV0 := Lib.hid (gg.cell bV0.out)
    replace bV1 := Lib.hid (gg.cell bV1.out)
    replace bV2 := Lib.hid (gg.cell bV2.out)
    replace bG0 := Lib.hid (gg.cell bG0.out)
    replace bG1 := Lib.hid (gg.cell bG1.out)
    replace bG2 := Lib.hid (gg.cell bG2.out)
    replace OW1 := Lib.hid (OW1.out.ext gg)
    replace OW2 := Lib.hid (OW2.out.ext gg)
    replace OW3 := Lib.hid (OW3.out.ext gg)
    replace OX0 := Lib.hid (OX0.out.ext gg)
    replace OX11 := Lib.hid (OX11.out.ext gg)
    replace OX12 := Lib.hid (OX12.out.ext gg)
    replace OX13 := Lib.hid (OX13.out.ext gg)
    replace OX21 := Lib.hid (OX21.out.ext gg)
    replace OX22 := Lib.hid (OX22.out.ext gg)
    replace OX23 := Lib.hid (OX23.out.ext gg)
    replace OG1 := Lib.hid (OG1.out.ext gg)
    replace OG2 := Lib.hid (OG2.out.ext gg)
    replace OG3 := Lib.hid (OG3.out.ext gg)
    replace HZ := Lib.hid (Nat.le_trans HZ.out gg.size')
    clear gg
    have Hc0 := Lib.hid ((ext_drew v66).cell c20.out)
    have Hb0 := Lib.hid ((ext_drew v66).cell bV0.out)
    have HR0 := Lib.hid ((OX21.out.low.rd).ext (ext_drew v66))
    have HS0 := Lib.hid (HX2x1.out.ext (E.out.trans (ext_drew v66)))
    have Hc1 := Lib.hid ((ext_drew v66).cell c21.out)
    have Hb1 := Lib.hid ((ext_drew v66).cell bV1.out)
    have HR1 := Lib.hid ((OX22.out.low.rd).ext (ext_drew v66))
    have HS1 := Lib.hid (HX2x2.out.ext (E.out.trans (ext_drew v66)))
    have Hc2 := Lib.hid ((ext_drew v66).cell c22.out)
    have Hb2 := Lib.hid ((ext_drew v66).cell bV2.out)
    have HR2 := Lib.hid ((OX23.out.low.rd).ext (ext_drew v66))
    have HS2 := Lib.hid (HX2x3.out.ext (E.out.trans (ext_drew v66)))
    go_wp2_with (fail)
    refine wp_region_lex [(2, .tri3 n2x1 n2x2 n2x3 T2x1 T2x2 T2x3), (3, .val (.bool true))] (by kernel_rfl) (by kernel_rfl) ?_
    repeat' first | (refine LexW.pure (v := ?_) rfl rfl (fun w1 he => ?_) ?_; rotate_left; ( have hc0 := he.cell Hc0.out; have hc1 := he.cell Hc1.out; have hc2 := he.cell Hc2.out; have hb0 := he.cell Hb0.out; have hb1 := he.cell Hb1.out; have hb2 := he.cell Hb2.out; go_simp; rfl); simp only [Act.put, List.setIfInBounds_toArray, List.set_cons_zero, List.set_cons_succ]) | (refine LexW.callR (f := ?_) (args := ?_) rfl rfl (fun w1 => ?_) (fun w1 he hdep => ?_) (fun v hv => ?_); rotate_left 2; (go_simp; refine ⟨?_, ?_⟩ <;> rfl); ( refine (l_toTriple a2x1 a2x2 a2x3 n2x1 n2x2 n2x3 c2x1 c2x2 c2x3 T2x1 T2x2 T2x3 w1 (by omega) (by omega) (by omega) HL2x1.out HL2x2.out HL2x3.out (HS0.out.ext he) (HS1.out.ext he) (HS2.out.ext he)).mono ?_; rintro e w2 ⟨V8, rfl, ⟨g81, g82, g83, _, _, _, _, _, _, rfl, _, _, _, _, _, _, _, o81, o82, o83⟩, x8⟩; exact ⟨_, rfl, x8, g81, g82, g83, rfl, o81.low.rd, o82.low.rd, o83.low.rd⟩); simp only [Act.put, List.setIfInBounds_toArray, List.set_cons_zero, List.set_cons_succ]) | (refine LexW.call (f := ?_) (args := ?_) rfl rfl (fun w1 => ?_) (fun w1 he hdep => ?_) ?_; rotate_left 2; (go_simp; refine ⟨?_, ?_⟩ <;> rfl); ( obtain ⟨g81, g82, g83, h8, r81, r82, r83⟩ : (SPred.tri3 n2x1 n2x2 n2x3 T2x1 T2x2 T2x3).holds _ w1 := hdep (2, 79) (by decide +kernel); subst h8; exact l_eqTriple (some ⟨gX21, 0, none⟩) (some ⟨gX22, 0, none⟩) (some ⟨gX23, 0, none⟩) (some ⟨g81, 0, none⟩) (some ⟨g82, 0, none⟩) (some ⟨g83, 0, none⟩) n2x1 n2x2 n2x3 n2x1 n2x2 n2x3 n2x1 n2x2 n2x3 T2x1 T2x2 T2x3 w1 (by omega) (by omega) (by omega) HL2x1.out HL2x2.out HL2x3.out (HR0.out.ext he) (HR1.out.ext he) (HR2.out.ext he) r81 r82 r83); simp only [Act.put, List.setIfInBounds_toArray, List.set_cons_zero, List.set_cons_succ])
    refine LexW.nil (fun v67 he hk => ?_)
    have gg : Ext v66 v67 := (ext_drew _).trans he
    clear he hk Hc0 Hb0 HR0 HS0 Hc1 Hb1 HR1 HS1 Hc2 Hb2 HR2 HS2
    replace E := Lib.hid (E.out.trans gg)
    replace c00 := Lib.hid (gg.cell c00.out)
    replace c01 := Lib.hid (gg.cell c01.out)
    replace c10 := Lib.hid (gg.cell c10.out)
    replace c11 := Lib.hid (gg.cell c11.out)
    replace c12 := Lib.hid (gg.cell c12.out)
    replace c20 := Lib.hid (gg.cell c20.out)
    replace c21 := Lib.hid (gg.cell c21.out)
    replace c22 := Lib.hid (gg.cell c22.out)
    replace bW0 := Lib.hid (gg.cell bW0.out)
    replace bW1 := Lib.hid (gg.cell bW1.out)
    replace bW2 := Lib.hid (gg.cell bW2.out)
    replace bX0 := Lib.hid (gg.cell bX0.out)
    replace bX1 := Lib.hid (gg.cell bX1.out)
    replace bY0 := Lib.hid (gg.cell bY0.out)
    replace bY1 := Lib.hid (gg.cell bY1.out)
    replace bY2 := Lib.hid (gg.cell bY2.out)
    replace bV0 := Lib.hid (gg.cell bV0.out)
    replace bV1 := Lib.hid (gg.cell bV1.out)
    replace bV2 := Lib.hid (gg.cell bV2.out)
    replace bG0 := Lib.hid (gg.cell bG0.out)
    replace bG1 := Lib.hid (gg.cell bG1.out)
    replace bG2 := Lib.hid (gg.cell bG2.out)
    replace OW1 := Lib.hid (OW1.out.ext gg)
    replace OW2 := Lib.hid (OW2.out.ext gg)
    replace OW3 := Lib.hid (OW3.out.ext gg)
    replace OX0 := Lib.hid (OX0.out.ext gg)
    replace OX11 := Lib.hid (OX11.out.ext gg)
    replace OX12 := Lib.hid (OX12.out.ext gg)
    replace OX13 := Lib.hid (OX13.out.ext gg)
    replace OX21 := Lib.hid (OX21.out.ext gg)
    replace OX22 := Lib.hid (OX22.out.ext gg)
    replace OX23 := Lib.hid (OX23.out.ext gg)
    replace OG1 := Lib.hid (OG1.out.ext gg)
    replace OG2 := Lib.hid (OG2.out.ext gg)
    replace OG3 := Lib.hid (OG3.out.ext gg)
    replace HZ := Lib.hid (Nat.le_trans HZ.out gg.size')
    clear gg
    have hbX0 := bX0.out
    have hbX1 := bX1.out
    go_wp2_with (fail)
    clear hbX0 hbX1
    refine (l_markDoubling _ p (some ⟨gX0, 0, none⟩) d d qs 1 v67 (by omega) (by omega) (by omega) OX0.out).mono ?_
    rintro e v68 ⟨rfl, ho, hx⟩
    have XX : WroteIn gX0 (gX0 + 1) v67 v68 := hx.inR (fun g hg => by cases hg; omega)
    replace E := Lib.hid (XX.ext E.out (by omega))
    replace c00 := Lib.hid (XX.cell c00.out (by show O < gX0 ∨ (gX0 + 1) ≤ O; omega))
    replace c01 := Lib.hid (XX.cell c01.out (by show O < gX0 ∨ (gX0 + 1) ≤ O; omega))
    replace c10 := Lib.hid (XX.cell c10.out (by show (O + 1) < gX0 ∨ (gX0 + 1) ≤ (O + 1); omega))
    replace c11 := Lib.hid (XX.cell c11.out (by show (O + 1) < gX0 ∨ (gX0 + 1) ≤ (O + 1); omega))
    replace c12 := Lib.hid (XX.cell c12.out (by show (O + 1) < gX0 ∨ (gX0 + 1) ≤ (O + 1); omega))
    replace c20 := Lib.hid (XX.cell c20.out (by show (O + 1 + 1) < gX0 ∨ (gX0 + 1) ≤ (O + 1 + 1); omega))
    replace c21 := Lib.hid (XX.cell c21.out (by show (O + 1 + 1) < gX0 ∨ (gX0 + 1) ≤ (O + 1 + 1); omega))
    replace c22 := Lib.hid (XX.cell c22.out (by show (O + 1 + 1) < gX0 ∨ (gX0 + 1) ≤ (O + 1 + 1); omega))
    replace bW0 := Lib.hid (XX.cell bW0.out (by show BbW < gX0 ∨ (gX0 + 1) ≤ BbW; omega))
    replace bW1 := Lib.hid (XX.cell bW1.out (by show BbW < gX0 ∨ (gX0 + 1) ≤ BbW; omega))
    replace bW2 := Lib.hid (XX.cell bW2.out (by show BbW < gX0 ∨ (gX0 + 1) ≤ BbW; omega))
    replace bX0 := Lib.hid (XX.cell bX0.out (by show B51 < gX0 ∨ (gX0 + 1) ≤ B51; omega))
    replace bX1 := Lib.hid (XX.cell bX1.out (by show B51 < gX0 ∨ (gX0 + 1) ≤ B51; omega))
    replace bY0 := Lib.hid (XX.cell bY0.out (by show B55 < gX0 ∨ (gX0 + 1) ≤ B55; omega))
    replace bY1 := Lib.hid (XX.cell bY1.out (by show B55 < gX0 ∨ (gX0 + 1) ≤ B55; omega))
    replace bY2 := Lib.hid (XX.cell bY2.out (by show B55 < gX0 ∨ (gX0 + 1) ≤ B55; omega))
    replace bV0 := Lib.hid (XX.cell bV0.out (by show B59 < gX0 ∨ (gX0 + 1) ≤ B59; omega))
    replace bV1 := Lib.hid (XX.cell bV1.out (by show B59 < gX0 ∨ (gX0 + 1) ≤ B59; omega))
    replace bV2 := Lib.hid (XX.cell bV2.out (by show B59 < gX0 ∨ (gX0 + 1) ≤ B59; omega))
    replace bG0 := Lib.hid (XX.cell bG0.out (by show B63 < gX0 ∨ (gX0 + 1) ≤ B63; omega))
    replace bG1 := Lib.hid (XX.cell bG1.out (by show B63 < gX0 ∨ (gX0 + 1) ≤ B63; omega))
    replace bG2 := Lib.hid (XX.cell bG2.out (by show B63 < gX0 ∨ (gX0 + 1) ≤ B63; omega))
    replace OW1 := Lib.hid (XX.ownR OW1.out (by omega))
    replace OW2 := Lib.hid (XX.ownR OW2.out (by omega))
    replace OW3 := Lib.hid (XX.ownR OW3.out (by omega))
    replace OX11 := Lib.hid (XX.ownR OX11.out (by omega))
    replace OX12 := Lib.hid (XX.ownR OX12.out (by omega))
    replace OX13 := Lib.hid (XX.ownR OX13.out (by omega))
    replace OX21 := Lib.hid (XX.ownR OX21.out (by omega))
    replace OX22 := Lib.hid (XX.ownR OX22.out (by omega))
    replace OX23 := Lib.hid (XX.ownR OX23.out (by omega))
    replace OG1 := Lib.hid (XX.ownR OG1.out (by omega))
    replace OG2 := Lib.hid (XX.ownR OG2.out (by omega))
    replace OG3 := Lib.hid (XX.ownR OG3.out (by omega))
    replace HZ := Lib.hid (Nat.le_trans HZ.out XX.size)
    replace OX0 := Lib.hid ho
    clear ho hx XX
    obtain ⟨k0, hk0⟩ : ∃ z : Int, z = 1 + (d : Int) := ⟨_, rfl⟩
    rw [← hk0]
    have hk0b : 0 ≤ k0 ∧ k0 ≤ 2000000 := by omega
    clear hk0
    clear OX0
    have hbY0 := bY0.out
    have hbY1 := bY1.out
    have hbY2 := bY2.out
    go_wp2_with (fail)
    clear hbY0 hbY1 hbY2
    refine (l_markTriple X1l1 X1h1 X1l2 X1h2 X1l3 X1h3 (some ⟨gX11, 0, none⟩) (some ⟨gX12, 0, none⟩) (some ⟨gX13, 0, none⟩) n1x1 n1x2 n1x3 n1x1 n1x2 n1x3 T1x1 T1x2 T1x3 (k0) v68 (by omega) (by omega) (by omega) (by omega) (by omega) (by omega) (by omega) (by omega) (by omega) (by omega) (by omega) (by omega) (by omega) (by have := HZ.out; omega) OX11.out OX12.out OX13.out).mono ?_
    rintro e v69 ⟨rfl, ho1, ho2, ho3, XX⟩
    replace E := Lib.hid (XX.ext E.out (by omega))
    replace c00 := Lib.hid (XX.cell c00.out (by show O < X1l1 ∨ X1h3 ≤ O; omega))
    replace c01 := Lib.hid (XX.cell c01.out (by show O < X1l1 ∨ X1h3 ≤ O; omega))
    replace c10 := Lib.hid (XX.cell c10.out (by show (O + 1) < X1l1 ∨ X1h3 ≤ (O + 1); omega))
    replace c11 := Lib.hid (XX.cell c11.out (by show (O + 1) < X1l1 ∨ X1h3 ≤ (O + 1); omega))
    replace c12 := Lib.hid (XX.cell c12.out (by show (O + 1) < X1l1 ∨ X1h3 ≤ (O + 1); omega))
    replace c20 := Lib.hid (XX.cell c20.out (by show (O + 1 + 1) < X1l1 ∨ X1h3 ≤ (O + 1 + 1); omega))
    replace c21 := Lib.hid (XX.cell c21.out (by show (O + 1 + 1) < X1l1 ∨ X1h3 ≤ (O + 1 + 1); omega))
    replace c22 := Lib.hid (XX.cell c22.out (by show (O + 1 + 1) < X1l1 ∨ X1h3 ≤ (O + 1 + 1); omega))
    replace bW0 := Lib.hid (XX.cell bW0.out (by show BbW < X1l1 ∨ X1h3 ≤ BbW; omega))
    replace bW1 := Lib.hid (XX.cell bW1.out (by show BbW < X1l1 ∨ X1h3 ≤ BbW; omega))
    replace bW2 := Lib.hid (XX.cell bW2.out (by show BbW < X1l1 ∨ X1h3 ≤ BbW; omega))
    replace bX0 := Lib.hid (XX.cell bX0.out (by show B51 < X1l1 ∨ X1h3 ≤ B51; omega))
    replace bX1 := Lib.hid (XX.cell bX1.out (by show B51 < X1l1 ∨ X1h3 ≤ B51; omega))
    replace bY0 := Lib.hid (XX.cell bY0.out (by show B55 < X1l1 ∨ X1h3 ≤ B55; omega))
    replace bY1 := Lib.hid (XX.cell bY1.out (by show B55 < X1l1 ∨ X1h3 ≤ B55; omega))
    replace bY2 := Lib.hid (XX.cell bY2.out (by show B55 < X1l1 ∨ X1h3 ≤ B55; omega))
    replace bV0 := Lib.hid (XX.cell bV0.out (by show B59 < X1l1 ∨ X1h3 ≤ B59; omega))
    replace bV1 := Lib.hid (XX.cell bV1.out (by show B59 < X1l1 ∨ X1h3 ≤ B59; omega))
    replace bV2 := Lib.hid (XX.cell bV2.out (by show B59 < X1l1 ∨ X1h3 ≤ B59; omega))
    replace bG0 := Lib.hid (XX.cell bG0.out (by show B63 < X1l1 ∨ X1h3 ≤ B63; omega))
    replace bG1 := Lib.hid (XX.cell bG1.out (by show B63 < X1l1 ∨ X1h3 ≤ B63; omega))
    replace bG2 := Lib.hid (XX.cell bG2.out (by show B63 < X1l1 ∨ X1h3 ≤ B63; omega))
    replace OW1 := Lib.hid (XX.ownR OW1.out (by omega))
    replace OW2 := Lib.hid (XX.ownR OW2.out (by omega))
    replace OW3 := Lib.hid (XX.ownR OW3.out (by omega))
    replace OX21 := Lib.hid (XX.ownR OX21.out (by omega))
    replace OX22 := Lib.hid (XX.ownR OX22.out (by omega))
    replace OX23 := Lib.hid (XX.ownR OX23.out (by omega))
    replace OG1 := Lib.hid (XX.ownR OG1.out (by omega))
    replace OG2 := Lib.hid (XX.ownR OG2.out (by omega))
    replace OG3 := Lib.hid (XX.ownR OG3.out (by omega))
    replace HZ := Lib.hid (Nat.le_trans HZ.out XX.size)
    replace OX11 := Lib.hid ho1
    replace OX12 := Lib.hid ho2
    replace OX13 := Lib.hid ho3
    clear ho1 ho2 ho3 XX
    obtain ⟨k1, hk1⟩ : ∃ z, z = trK k0 T1x1 n1x1 T1x2 n1x2 T1x3 n1x3 := ⟨_, rfl⟩
    rw [← hk1]
    have hk1b : 0 ≤ k1 ∧ k1 ≤ 6000000 := by rw [hk1]; unfold trK; omega
    clear hk1
    clear OX11 OX12 OX13
    have hbV0 := bV0.out
    have hbV1 := bV1.out
    have hbV2 := bV2.out
    go_wp2_with (fail)
    clear hbV0 hbV1 hbV2
    refine (l_markTriple X2l1 X2h1 X2l2 X2h2 X2l3 X2h3 (some ⟨gX21, 0, none⟩) (some ⟨gX22, 0, none⟩) (some ⟨gX23, 0, none⟩) n2x1 n2x2 n2x3 n2x1 n2x2 n2x3 T2x1 T2x2 T2x3 (k1) v69 (by omega) (by omega) (by omega) (by omega) (by omega) (by omega) (by omega) (by omega) (by omega) (by omega) (by omega) (by omega) (by omega) (by have := HZ.out; omega) OX21.out OX22.out OX23.out).mono ?_
    rintro e v70 ⟨rfl, ho1, ho2, ho3, XX⟩
    replace E := Lib.hid (XX.ext E.out (by omega))
    replace c00 := Lib.hid (XX.cell c00.out (by show O < X2l1 ∨ X2h3 ≤ O; omega))
    replace c01 := Lib.hid (XX.cell c01.out (by show O < X2l1 ∨ X2h3 ≤ O; omega))
    replace c10 := Lib.hid (XX.cell c10.out (by show (O + 1) < X2l1 ∨ X2h3 ≤ (O + 1); omega))
    replace c11 := Lib.hid (XX.cell c11.out (by show (O + 1) < X2l1 ∨ X2h3 ≤ (O + 1); omega))
    replace c12 := Lib.hid (XX.cell c12.out (by show (O + 1) < X2l1 ∨ X2h3 ≤ (O + 1); omega))
    replace c20 := Lib.hid (XX.cell c20.out (by show (O + 1 + 1) < X2l1 ∨ X2h3 ≤ (O + 1 + 1); omega))
    replace c21 := Lib.hid (XX.cell c21.out (by show (O + 1 + 1) < X2l1 ∨ X2h3 ≤ (O + 1 + 1); omega))
    replace c22 := Lib.hid (XX.cell c22.out (by show (O + 1 + 1) < X2l1 ∨ X2h3 ≤ (O + 1 + 1); omega))
    replace bW0 := Lib.hid (XX.cell bW0.out (by show BbW < X2l1 ∨ X2h3 ≤ BbW; omega))
    replace bW1 := Lib.hid (XX.cell bW1.out (by show BbW < X2l1 ∨ X2h3 ≤ BbW; omega))
    replace bW2 := Lib.hid (XX.cell bW2.out (by show BbW < X2l1 ∨ X2h3 ≤ BbW; omega))
    replace bX0 := Lib.hid (XX.cell bX0.out (by show B51 < X2l1 ∨ X2h3 ≤ B51; omega))
    replace bX1 := Lib.hid (XX.cell bX1.out (by show B51 < X2l1 ∨ X2h3 ≤ B51; omega))
    replace bY0 := Lib.hid (XX.cell bY0.out (by show B55 < X2l1 ∨ X2h3 ≤ B55; omega))
    replace bY1 := Lib.hid (XX.cell bY1.out (by show B55 < X2l1 ∨ X2h3 ≤ B55; omega))
    replace bY2 := Lib.hid (XX.cell bY2.out (by show B55 < X2l1 ∨ X2h3 ≤ B55; omega))
    replace bV0 := Lib.hid (XX.cell bV0.out (by show B59 < X2l1 ∨ X2h3 ≤ B59; omega))
    replace bV1 := Lib.hid (XX.cell bV1.out (by show B59 < X2l1 ∨ X2h3 ≤ B59; omega))
    replace bV2 := Lib.hid (XX.cell bV2.out (by show B59 < X2l1 ∨ X2h3 ≤ B59; omega))
    replace bG0 := Lib.hid (XX.cell bG0.out (by show B63 < X2l1 ∨ X2h3 ≤ B63; omega))
    replace bG1 := Lib.hid (XX.cell bG1.out (by show B63 < X2l1 ∨ X2h3 ≤ B63; omega))
    replace bG2 := Lib.hid (XX.cell bG2.out (by show B63 < X2l1 ∨ X2h3 ≤ B63; omega))
    replace OW1 := Lib.hid (XX.ownR OW1.out (by omega))
    replace OW2 := Lib.hid (XX.ownR OW2.out (by omega))
    replace OW3 := Lib.hid (XX.ownR OW3.out (by omega))
    replace OG1 := Lib.hid (XX.ownR OG1.out (by omega))
    replace OG2 := Lib.hid (XX.ownR OG2.out (by omega))
    replace OG3 := Lib.hid (XX.ownR OG3.out (by omega))
    replace HZ := Lib.hid (Nat.le_trans HZ.out XX.size)
    replace OX21 := Lib.hid ho1
    replace OX22 := Lib.hid ho2
    replace OX23 := Lib.hid ho3
    clear ho1 ho2 ho3 XX
    obtain ⟨k2, hk2⟩ : ∃ z, z = trK k1 T2x1 n2x1 T2x2 n2x2 T2x3 n2x3 := ⟨_, rfl⟩
    rw [← hk2]
    have hk2b : 0 ≤ k2 ∧ k2 ≤ 12000000 := by rw [hk2]; unfold trK; omega
    clear hk2
    clear OX21 OX22 OX23
    have hkneg : ¬ k2 < 0 := by omega
    have hbG0 := bG0.out
    have hbG1 := bG1.out
    have hbG2 := bG2.out
    have hbW0 := bW0.out
    have hbW1 := bW1.out
    have hbW2 := bW2.out
    go_wp2_with (fail)
    clear hbG0 hbG1 hbG2 hbW0 hbW1 hbW2
    refine (l_eqTriple aG1 aG2 aG3 aW1 aW2 aW3 rn rn rn cG1 cG2 cG3 cW1 cW2 cW3 yA yB yC v70 (by omega) (by omega) (by omega) HLA.out HLB.out HLC.out OG1.out.low.rd OG2.out.low.rd OG3.out.low.rd OW1.out.low.rd OW2.out.low.rd OW3.out.low.rd).mono ?_
    rintro e v71 ⟨rfl, gg⟩
    replace E := Lib.hid (E.out.trans gg)
    replace c00 := Lib.hid (gg.cell c00.out)
    replace c01 := Lib.hid (gg.cell c01.out)
    replace c10 := Lib.hid (gg.cell c10.out)
    replace c11 := Lib.hid (gg.cell c11.out)
    replace c12 := Lib.hid (gg.cell c12.out)
    replace c20 := Lib.hid (gg.cell c20.out)
    replace c21 := Lib.hid (gg.cell c21.out)
    replace c22 := Lib.hid (gg.cell c22.out)
    replace bW0 := Lib.hid (gg.cell bW0.out)
    replace bW1 := Lib.hid (gg.cell bW1.out)
    replace bW2 := Lib.hid (gg.cell bW2.out)
    replace bX0 := Lib.hid (gg.cell bX0.out)
    replace bX1 := Lib.hid (gg.cell bX1.out)
    replace bY0 := Lib.hid (gg.cell bY0.out)
    replace bY1 := Lib.hid (gg.cell bY1.out)
    replace bY2 := Lib.hid (gg.cell bY2.out)
    replace bV0 := Lib.hid (gg.cell bV0.out)
    replace bV1 := Lib.hid (gg.cell bV1.out)
    replace bV2 := Lib.hid (gg.cell bV2.out)
    replace bG0 := Lib.hid (gg.cell bG0.out)
    replace bG1 := Lib.hid (gg.cell bG1.out)
    replace bG2 := Lib.hid (gg.cell bG2.out)
    replace OW1 := Lib.hid (OW1.out.ext gg)
    replace OW2 := Lib.hid (OW2.out.ext gg)
    replace OW3 := Lib.hid (OW3.out.ext gg)
    replace OG1 := Lib.hid (OG1.out.ext gg)
    replace OG2 := Lib.hid (OG2.out.ext gg)
    replace OG3 := Lib.hid (OG3.out.ext gg)
    replace HZ := Lib.hid (Nat.le_trans HZ.out gg.size')
    clear gg
    clear hkneg
    have hbG0 := bG0.out
    have hbG1 := bG1.out
    have hbG2 := bG2.out
    go_wp2_with (fail)
    clear hbG0 hbG1 hbG2
    refine (l_markTriple Gl1 Gh1 Gl2 Gh2 Gl3 Gh3 aG1 aG2 aG3 rn rn rn cG1 cG2 cG3 yA yB yC (1) v71 (by omega) (by omega) (by omega) (by omega) (by omega) (by omega) (by omega) (by omega) (by omega) (by omega) (by omega) (by omega) (by omega) (by have := HZ.out; omega) OG1.out OG2.out OG3.out).mono ?_
    rintro e v72 ⟨rfl, ho1, ho2, ho3, XX⟩
    replace E := Lib.hid (XX.ext E.out (by omega))
    replace c00 := Lib.hid (XX.cell c00.out (by show O < Gl1 ∨ Gh3 ≤ O; omega))
    replace c01 := Lib.hid (XX.cell c01.out (by show O < Gl1 ∨ Gh3 ≤ O; omega))
    replace c10 := Lib.hid (XX.cell c10.out (by show (O + 1) < Gl1 ∨ Gh3 ≤ (O + 1); omega))
    replace c11 := Lib.hid (XX.cell c11.out (by show (O + 1) < Gl1 ∨ Gh3 ≤ (O + 1); omega))
    replace c12 := Lib.hid (XX.cell c12.out (by show (O + 1) < Gl1 ∨ Gh3 ≤ (O + 1); omega))
    replace c20 := Lib.hid (XX.cell c20.out (by show (O + 1 + 1) < Gl1 ∨ Gh3 ≤ (O + 1 + 1); omega))
    replace c21 := Lib.hid (XX.cell c21.out (by show (O + 1 + 1) < Gl1 ∨ Gh3 ≤ (O + 1 + 1); omega))
    replace c22 := Lib.hid (XX.cell c22.out (by show (O + 1 + 1) < Gl1 ∨ Gh3 ≤ (O + 1 + 1); omega))
    replace bW0 := Lib.hid (XX.cell bW0.out (by show BbW < Gl1 ∨ Gh3 ≤ BbW; omega))
    replace bW1 := Lib.hid (XX.cell bW1.out (by show BbW < Gl1 ∨ Gh3 ≤ BbW; omega))
    replace bW2 := Lib.hid (XX.cell bW2.out (by show BbW < Gl1 ∨ Gh3 ≤ BbW; omega))
    replace bX0 := Lib.hid (XX.cell bX0.out (by show B51 < Gl1 ∨ Gh3 ≤ B51; omega))
    replace bX1 := Lib.hid (XX.cell bX1.out (by show B51 < Gl1 ∨ Gh3 ≤ B51; omega))
    replace bY0 := Lib.hid (XX.cell bY0.out (by show B55 < Gl1 ∨ Gh3 ≤ B55; omega))
    replace bY1 := Lib.hid (XX.cell bY1.out (by show B55 < Gl1 ∨ Gh3 ≤ B55; omega))
    replace bY2 := Lib.hid (XX.cell bY2.out (by show B55 < Gl1 ∨ Gh3 ≤ B55; omega))
    replace bV0 := Lib.hid (XX.cell bV0.out (by show B59 < Gl1 ∨ Gh3 ≤ B59; omega))
    replace bV1 := Lib.hid (XX.cell bV1.out (by show B59 < Gl1 ∨ Gh3 ≤ B59; omega))
    replace bV2 := Lib.hid (XX.cell bV2.out (by show B59 < Gl1 ∨ Gh3 ≤ B59; omega))
    replace bG0 := Lib.hid (XX.cell bG0.out (by show B63 < Gl1 ∨ Gh3 ≤ B63; omega))
    replace bG1 := Lib.hid (XX.cell bG1.out (by show B63 < Gl1 ∨ Gh3 ≤ B63; omega))
    replace bG2 := Lib.hid (XX.cell bG2.out (by show B63 < Gl1 ∨ Gh3 ≤ B63; omega))
    replace OW1 := Lib.hid (XX.ownR OW1.out (by omega))
    replace OW2 := Lib.hid (XX.ownR OW2.out (by omega))
    replace OW3 := Lib.hid (XX.ownR OW3.out (by omega))
    replace HZ := Lib.hid (Nat.le_trans HZ.out XX.size)
    replace OG1 := Lib.hid ho1
    replace OG2 := Lib.hid ho2
    replace OG3 := Lib.hid ho3
    clear ho1 ho2 ho3 XX
    rw [← HTK.out]
    have hbG0 := bG0.out
    have hbG1 := bG1.out
    have hbG2 := bG2.out
    go_wp2_with (fail)
    clear hbG0 hbG1 hbG2
    refine (l_heldTriple aG1 aG2 aG3 rn rn rn cG1 cG2 cG3 yA yB yC 1 v72 (by omega) (by omega) (by omega) (by omega) (by omega) (by omega) (by omega) (by omega) OG1.out.low.rd OG2.out.low.rd OG3.out.low.rd).mono ?_
    rintro e v73 ⟨rfl, gg⟩
    rw [← HTK.out]
    replace E := Lib.hid (E.out.trans gg)
    replace c00 := Lib.hid (gg.cell c00.out)
    replace c01 := Lib.hid (gg.cell c01.out)
    replace c10 := Lib.hid (gg.cell c10.out)
    replace c11 := Lib.hid (gg.cell c11.out)
    replace c12 := Lib.hid (gg.cell c12.out)
    replace c20 := Lib.hid (gg.cell c20.out)
    replace c21 := Lib.hid (gg.cell c21.out)
    replace c22 := Lib.hid (gg.cell c22.out)
    replace bW0 := Lib.hid (gg.cell bW0.out)
    replace bW1 := Lib.hid (gg.cell bW1.out)
    replace bW2 := Lib.hid (gg.cell bW2.out)
    replace bX0 := Lib.hid (gg.cell bX0.out)
    replace bX1 := Lib.hid (gg.cell bX1.out)
    replace bY0 := Lib.hid (gg.cell bY0.out)
    replace bY1 := Lib.hid (gg.cell bY1.out)
    replace bY2 := Lib.hid (gg.cell bY2.out)
    replace bV0 := Lib.hid (gg.cell bV0.out)
    replace bV1 := Lib.hid (gg.cell bV1.out)
    replace bV2 := Lib.hid (gg.cell bV2.out)
    replace bG0 := Lib.hid (gg.cell bG0.out)
    replace bG1 := Lib.hid (gg.cell bG1.out)
    replace bG2 := Lib.hid (gg.cell bG2.out)
    replace OW1 := Lib.hid (OW1.out.ext gg)
    replace OW2 := Lib.hid (OW2.out.ext gg)
    replace OW3 := Lib.hid (OW3.out.ext gg)
    replace OG1 := Lib.hid (OG1.out.ext gg)
    replace OG2 := Lib.hid (OG2.out.ext gg)
    replace OG3 := Lib.hid (OG3.out.ext gg)
    replace HZ := Lib.hid (Nat.le_trans HZ.out gg.size')
    clear gg
    go_wp2_with (fail)
    obtain ⟨v0H, hv0⟩ : ∃ z, z = v73.drew := ⟨_, rfl⟩
    have HV0 := Lib.hid hv0
    have gg : Ext v73 v0H := by rw [hv0]; exact ext_drew _
    clear hv0
    replace E := Lib.hid (E.out.trans gg)
    replace c00 := Lib.hid (gg.cell c00.out)
    replace c01 := Lib.hid (gg.cell c01.out)
    replace c10 := Lib.hid (gg.cell c10.out)
    replace c11 := Lib.hid (gg.cell c11.out)
    replace c12 := Lib.hid (gg.cell c12.out)
    replace c20 := Lib.hid (gg.cell c20.out)
    replace c21 := Lib.hid (gg.cell c21.out)
    replace c22 := Lib.hid (gg.cell c22.out)
    replace bW0 := Lib.hid (gg.cell bW0.out)
    replace bW1 := Lib.hid (gg.cell bW1.out)
    replace bW2 := Lib.hid (gg.cell bW2.out)
    replace bX0 := Lib.hid (gg.cell bX0.out)
    replace bX1 := Lib.hid (gg.cell bX1.out)
    replace bY0 := Lib.hid (gg.cell bY0.out)
    replace bY1 := Lib.hid (gg.cell bY1.out)
    replace bY2 := Lib.hid (gg.cell bY2.out)
    replace bV0 := Lib.hid (gg.cell bV0.out)
    replace bV1 := Lib.hid (gg.cell bV1.out)
    replace bV2 := Lib.hid (gg.cell bV2.out)
    replace bG0 := Lib.hid (gg.cell bG0.out)
    replace bG1 := Lib.hid (gg.cell bG1.out)
    replace bG2 := Lib.hid (gg.cell bG2.out)
    replace OW1 := Lib.hid (OW1.out.ext gg)
    replace OW2 := Lib.hid (OW2.out.ext gg)
    replace OW3 := Lib.hid (OW3.out.ext gg)
    replace OG1 := Lib.hid (OG1.out.ext gg)
    replace OG2 := Lib.hid (OG2.out.ext gg)
    replace OG3 := Lib.hid (OG3.out.ext gg)
    replace HZ := Lib.hid (Nat.le_trans HZ.out gg.size')
    clear gg
    obtain ⟨ZSH, hZS⟩ : ∃ z, z = v0H.heap.size := ⟨_, rfl⟩
    have hzZSH : (B63 + 1) ≤ ZSH := by rw [hZS]; exact HZ.out
    have HZS := Lib.hid hZS
    replace HZ := Lib.hid (Nat.le_of_eq hZS)
    clear hZS
    have X9 := Lib.hid (Ext.refl v0H)
    obtain ⟨J, hJ⟩ : ∃ J : World → Prop, J = (fun w' => w'.cell? ⟨O, 0, none⟩ = some (.int .i64 p) ∧ w'.cell? ⟨O, 1, none⟩ = some (.slice a d cap) ∧ w'.cell? ⟨(O + 1), 0, none⟩ = some (.slice a1x1 n1x1 c1x1) ∧ w'.cell? ⟨(O + 1), 1, none⟩ = some (.slice a1x2 n1x2 c1x2) ∧ w'.cell? ⟨(O + 1), 2, none⟩ = some (.slice a1x3 n1x3 c1x3) ∧ w'.cell? ⟨(O + 1 + 1), 0, none⟩ = some (.slice a2x1 n2x1 c2x1) ∧ w'.cell? ⟨(O + 1 + 1), 1, none⟩ = some (.slice a2x2 n2x2 c2x2) ∧ w'.cell? ⟨(O + 1 + 1), 2, none⟩ = some (.slice a2x3 n2x3 c2x3)) := ⟨_, rfl⟩
    have HJ : Hid (∀ w', w'.cell? ⟨O, 0, none⟩ = some (.int .i64 p) → w'.cell? ⟨O, 1, none⟩ = some (.slice a d cap) → w'.cell? ⟨(O + 1), 0, none⟩ = some (.slice a1x1 n1x1 c1x1) → w'.cell? ⟨(O + 1), 1, none⟩ = some (.slice a1x2 n1x2 c1x2) → w'.cell? ⟨(O + 1), 2, none⟩ = some (.slice a1x3 n1x3 c1x3) → w'.cell? ⟨(O + 1 + 1), 0, none⟩ = some (.slice a2x1 n2x1 c2x1) → w'.cell? ⟨(O + 1 + 1), 1, none⟩ = some (.slice a2x2 n2x2 c2x2) → w'.cell? ⟨(O + 1 + 1), 2, none⟩ = some (.slice a2x3 n2x3 c2x3) → J w') := Lib.hid (fun w' h1 h2 h3 h4 h5 h6 h7 h8 => by rw [hJ]; exact ⟨h1, h2, h3, h4, h5, h6, h7, h8⟩)
    have HJ2 : Hid (∀ w', J w' → w'.cell? ⟨O, 0, none⟩ = some (.int .i64 p) ∧ w'.cell? ⟨O, 1, none⟩ = some (.slice a d cap) ∧ w'.cell? ⟨(O + 1), 0, none⟩ = some (.slice a1x1 n1x1 c1x1) ∧ w'.cell? ⟨(O + 1), 1, none⟩ = some (.slice a1x2 n1x2 c1x2) ∧ w'.cell? ⟨(O + 1), 2, none⟩ = some (.slice a1x3 n1x3 c1x3) ∧ w'.cell? ⟨(O + 1 + 1), 0, none⟩ = some (.slice a2x1 n2x1 c2x1) ∧ w'.cell? ⟨(O + 1 + 1), 1, none⟩ = some (.slice a2x2 n2x2 c2x2) ∧ w'.cell? ⟨(O + 1 + 1), 2, none⟩ = some (.slice a2x3 n2x3 c2x3)) := Lib.hid (fun w' h => by rw [hJ] at h; exact h)
    clear hJ
    refine wp_region_stepsP 13 J (fun a0 a' w' => ∃ (gB0 gB11 gB12 gB13 gB21 gB22 gB23 : Nat) (aH1 : Option Addr) (cH1 : Nat) (aH2 : Option Addr) (cH2 : Nat) (aH3 : Option Addr) (cH3 : Nat) (Hl1 Hh1 Hl2 Hh2 Hl3 Hh3 BbH ZnbH : Nat), a' = ((((((((((((a0.put (some 116) (.agg #[.int .i64 p, .slice a d cap])).put (some 118) (.agg #[.slice a1x1 n1x1 c1x1, .slice a1x2 n1x2 c1x2, .slice a1x3 n1x3 c1x3])).put (some 120) (.agg #[.slice a2x1 n2x1 c2x1, .slice a2x2 n2x2 c2x2, .slice a2x3 n2x3 c2x3])).put (some 117) (.agg #[.int .i64 p, .slice (some ⟨gB0, 0, none⟩) d d])).put (some 119) (.agg #[.slice (some ⟨gB11, 0, none⟩) n1x1 n1x1, .slice (some ⟨gB12, 0, none⟩) n1x2 n1x2, .slice (some ⟨gB13, 0, none⟩) n1x3 n1x3])).put (some 121) (.agg #[.slice (some ⟨gB21, 0, none⟩) n2x1 n2x1, .slice (some ⟨gB22, 0, none⟩) n2x2 n2x2, .slice (some ⟨gB23, 0, none⟩) n2x3 n2x3])).put (some 122) (.tuple #[.agg #[.slice aH1 rn cH1, .slice aH2 rn cH2, .slice aH3 rn cH3], .int .i64 c])).put (some 115) (.tuple #[.agg #[.slice aH1 rn cH1, .slice aH2 rn cH2, .slice aH3 rn cH3], .int .i64 c])).put (some 123) (.agg #[.slice aH1 rn cH1, .slice aH2 rn cH2, .slice aH3 rn cH3])).put (some 124) (.int .i64 c)).put (some 18) (.pointer (some ⟨BbH, 0, none⟩))).put (some 19) (.int .i64 c)) ∧ (ZSH ≤ Hl1 ∧ Hl1 ≤ Hh1 ∧ Hh1 ≤ Hl2 ∧ Hl2 ≤ Hh2 ∧ Hh2 ≤ Hl3 ∧ Hl3 ≤ Hh3 ∧ Hh3 ≤ ZnbH ∧ ZSH ≤ BbH ∧ BbH + 1 ≤ ZnbH) ∧ Hid (ZnbH ≤ w'.heap.size) ∧ Hid (Ext v0H w') ∧ Hid (OwnRH Hl1 Hh1 w' aH1 rn cH1 yA) ∧ Hid (OwnRH Hl2 Hh2 w' aH2 rn cH2 yB) ∧ Hid (OwnRH Hl3 Hh3 w' aH3 rn cH3 yC) ∧ Hid (w'.cell? ⟨BbH, 0, none⟩ = some (.slice aH1 rn cH1)) ∧ Hid (w'.cell? ⟨BbH, 1, none⟩ = some (.slice aH2 rn cH2)) ∧ Hid (w'.cell? ⟨BbH, 2, none⟩ = some (.slice aH3 rn cH3))) (by kernel_rfl) rfl ?_ ?_
    · skip
      rw [← HV0.out]
      clear HV0
      refine stepsI_float (i := 0) (v := ?_) (some 116) (by kernel_rfl) rfl rfl rfl (fun w' hI => ?_) ?_
      rotate_left
      · obtain ⟨q0, q1, q2, q3, q4, q5, q6, q7⟩ := HJ2.out w' hI; go_simp; rfl
      simp only [Act.put, List.setIfInBounds_toArray, List.set_cons_zero, List.set_cons_succ]
      refine stepsI_float (i := 2) (v := ?_) (some 118) (by kernel_rfl) rfl rfl rfl (fun w' hI => ?_) ?_
      rotate_left
      · obtain ⟨q0, q1, q2, q3, q4, q5, q6, q7⟩ := HJ2.out w' hI; go_simp; rfl
      simp only [Act.put, List.setIfInBounds_toArray, List.set_cons_zero, List.set_cons_succ]
      refine stepsI_float (i := 4) (v := ?_) (some 120) (by kernel_rfl) rfl rfl rfl (fun w' hI => ?_) ?_
      rotate_left
      · obtain ⟨q0, q1, q2, q3, q4, q5, q6, q7⟩ := HJ2.out w' hI; go_simp; rfl
      simp only [Act.put, List.setIfInBounds_toArray, List.set_cons_zero, List.set_cons_succ]
      refine stepsI_two (i := 1) (k := 10) (HJ.out _ c00.out c01.out c10.out c11.out c12.out c20.out c21.out c22.out) (by kernel_rfl) ?_ ?_
      · skip
        refine op_call (f := ?_) (args := ?_) (R := fun v w' => ∃ g, v = .agg #[.int .i64 p, .slice (some ⟨g, 0, none⟩) d d] ∧ OwnC v0H.heap.size w' (some ⟨g, 0, none⟩) d d qs ∧ Ext v0H w') (some 117) rfl rfl rfl ?_ ?_ ?_
        rotate_left 2
        · go_simp; refine ⟨?_, ?_⟩ <;> rfl
        · refine Calls.mono (l_toDoubling p a d cap qs v0H (by omega) (HQ0.out.ext E.out)) ?_
          rintro e w9 ⟨g9, rfl, ho9, g8⟩
          exact ⟨_, rfl, g9, rfl, ho9, g8⟩
        rintro v v74 ⟨gB0, rfl, ho, gg⟩
        simp only [Act.put, List.setIfInBounds_toArray, List.set_cons_zero, List.set_cons_succ]
        have hb9 := ho.base_of gB0 rfl
        have hz9 := HZ.out
        obtain ⟨Z75, hZ75⟩ : ∃ z, z = v74.heap.size := ⟨_, rfl⟩
        have hrB0 : ZSH ≤ gB0 ∧ gB0 < Z75 := by omega
        have OB0 := Lib.hid ho
        clear hb9 hz9 ho
        replace X9 := Lib.hid (X9.out.trans gg)
        replace E := Lib.hid (E.out.trans gg)
        replace c00 := Lib.hid (gg.cell c00.out)
        replace c01 := Lib.hid (gg.cell c01.out)
        replace c10 := Lib.hid (gg.cell c10.out)
        replace c11 := Lib.hid (gg.cell c11.out)
        replace c12 := Lib.hid (gg.cell c12.out)
        replace c20 := Lib.hid (gg.cell c20.out)
        replace c21 := Lib.hid (gg.cell c21.out)
        replace c22 := Lib.hid (gg.cell c22.out)
        replace bW0 := Lib.hid (gg.cell bW0.out)
        replace bW1 := Lib.hid (gg.cell bW1.out)
        replace bW2 := Lib.hid (gg.cell bW2.out)
        replace bX0 := Lib.hid (gg.cell bX0.out)
        replace bX1 := Lib.hid (gg.cell bX1.out)
        replace bY0 := Lib.hid (gg.cell bY0.out)
        replace bY1 := Lib.hid (gg.cell bY1.out)
        replace bY2 := Lib.hid (gg.cell bY2.out)
        replace bV0 := Lib.hid (gg.cell bV0.out)
        replace bV1 := Lib.hid (gg.cell bV1.out)
        replace bV2 := Lib.hid (gg.cell bV2.out)
        replace bG0 := Lib.hid (gg.cell bG0.out)
        replace bG1 := Lib.hid (gg.cell bG1.out)
        replace bG2 := Lib.hid (gg.cell bG2.out)
        replace OW1 := Lib.hid (OW1.out.ext gg)
        replace OW2 := Lib.hid (OW2.out.ext gg)
        replace OW3 := Lib.hid (OW3.out.ext gg)
        replace OG1 := Lib.hid (OG1.out.ext gg)
        replace OG2 := Lib.hid (OG2.out.ext gg)
        replace OG3 := Lib.hid (OG3.out.ext gg)
        replace HZ := Lib.hid (Nat.le_trans HZ.out gg.size')
        replace HZ : Hid (Z75 ≤ v74.heap.size) := Lib.hid (Nat.le_of_eq hZ75)
        clear gg hZ75
        refine stepsI_two (i := 3) (k := 10) (HJ.out _ c00.out c01.out c10.out c11.out c12.out c20.out c21.out c22.out) (by kernel_rfl) ?_ ?_
        · skip
          refine op_call (f := ?_) (args := ?_) (R := fun v w' => Trip3 v74.heap.size w' n1x1 n1x2 n1x3 T1x1 T1x2 T1x3 v ∧ Ext v74 w') (some 119) rfl rfl rfl ?_ ?_ ?_
          rotate_left 2
          · go_simp; refine ⟨?_, ?_⟩ <;> rfl
          · refine Calls.mono (l_toTriple a1x1 a1x2 a1x3 n1x1 n1x2 n1x3 c1x1 c1x2 c1x3 T1x1 T1x2 T1x3 v74 (by omega) (by omega) (by omega) HL1x1.out HL1x2.out HL1x3.out (HX1x1.out.ext E.out) (HX1x2.out.ext E.out) (HX1x3.out.ext E.out)) ?_
            rintro e w9 ⟨V9, rfl, hT8, g8⟩
            exact ⟨_, rfl, hT8, g8⟩
          rintro v v76 ⟨hT9, gg⟩
          obtain ⟨gB11, gB12, gB13, B1l1, B1h1, B1l2, B1h2, B1l3, B1h3, rfl, q1, q2, q3, q4, q5, q6, q7, o1, o2, o3⟩ := hT9
          have hz9 := HZ.out
          obtain ⟨Z77, hZ77⟩ : ∃ z, z = v76.heap.size := ⟨_, rfl⟩
          have hrB1 : Z75 ≤ B1l1 ∧ B1l1 ≤ B1h1 ∧ B1h1 ≤ B1l2 ∧ B1l2 ≤ B1h2 ∧ B1h2 ≤ B1l3 ∧ B1l3 ≤ B1h3 ∧ B1h3 ≤ Z77 := by omega
          have OB11 := Lib.hid o1
          have OB12 := Lib.hid o2
          have OB13 := Lib.hid o3
          clear hz9 o1 o2 o3 q1 q2 q3 q4 q5 q6 q7
          replace X9 := Lib.hid (X9.out.trans gg)
          replace E := Lib.hid (E.out.trans gg)
          replace c00 := Lib.hid (gg.cell c00.out)
          replace c01 := Lib.hid (gg.cell c01.out)
          replace c10 := Lib.hid (gg.cell c10.out)
          replace c11 := Lib.hid (gg.cell c11.out)
          replace c12 := Lib.hid (gg.cell c12.out)
          replace c20 := Lib.hid (gg.cell c20.out)
          replace c21 := Lib.hid (gg.cell c21.out)
          replace c22 := Lib.hid (gg.cell c22.out)
          replace bW0 := Lib.hid (gg.cell bW0.out)
          replace bW1 := Lib.hid (gg.cell bW1.out)
          replace bW2 := Lib.hid (gg.cell bW2.out)
          replace bX0 := Lib.hid (gg.cell bX0.out)
          replace bX1 := Lib.hid (gg.cell bX1.out)
          replace bY0 := Lib.hid (gg.cell bY0.out)
          replace bY1 := Lib.hid (gg.cell bY1.out)
          replace bY2 := Lib.hid (gg.cell bY2.out)
          replace bV0 := Lib.hid (gg.cell bV0.out)
          replace bV1 := Lib.hid (gg.cell bV1.out)
          replace bV2 := Lib.hid (gg.cell bV2.out)
          replace bG0 := Lib.hid (gg.cell bG0.out)
          replace bG1 := Lib.hid (gg.cell bG1.out)
          replace bG2 := Lib.hid (gg.cell bG2.out)
          replace OW1 := Lib.hid (OW1.out.ext gg)
          replace OW2 := Lib.hid (OW2.out.ext gg)
          replace OW3 := Lib.hid (OW3.out.ext gg)
          replace OG1 := Lib.hid (OG1.out.ext gg)
          replace OG2 := Lib.hid (OG2.out.ext gg)
          replace OG3 := Lib.hid (OG3.out.ext gg)
          replace OB0 := Lib.hid (OB0.out.ext gg)
          replace HZ := Lib.hid (Nat.le_trans HZ.out gg.size')
          replace HZ : Hid (Z77 ≤ v76.heap.size) := Lib.hid (Nat.le_of_eq hZ77)
          clear gg hZ77
          simp only [Act.put, List.setIfInBounds_toArray, List.set_cons_zero, List.set_cons_succ]
          refine stepsI_two (i := 5) (k := 10) (HJ.out _ c00.out c01.out c10.out c11.out c12.out c20.out c21.out c22.out) (by kernel_rfl) ?_ ?_
          · skip
            refine op_call (f := ?_) (args := ?_) (R := fun v w' => Trip3 v76.heap.size w' n2x1 n2x2 n2x3 T2x1 T2x2 T2x3 v ∧ Ext v76 w') (some 121) rfl rfl rfl ?_ ?_ ?_
            rotate_left 2
            · go_simp; refine ⟨?_, ?_⟩ <;> rfl
            · refine Calls.mono (l_toTriple a2x1 a2x2 a2x3 n2x1 n2x2 n2x3 c2x1 c2x2 c2x3 T2x1 T2x2 T2x3 v76 (by omega) (by omega) (by omega) HL2x1.out HL2x2.out HL2x3.out (HX2x1.out.ext E.out) (HX2x2.out.ext E.out) (HX2x3.out.ext E.out)) ?_
              rintro e w9 ⟨V9, rfl, hT8, g8⟩
              exact ⟨_, rfl, hT8, g8⟩
            rintro v v78 ⟨hT9, gg⟩
            obtain ⟨gB21, gB22, gB23, B2l1, B2h1, B2l2, B2h2, B2l3, B2h3, rfl, q1, q2, q3, q4, q5, q6, q7, o1, o2, o3⟩ := hT9
            have hz9 := HZ.out
            obtain ⟨Z79, hZ79⟩ : ∃ z, z = v78.heap.size := ⟨_, rfl⟩
            have hrB2 : Z77 ≤ B2l1 ∧ B2l1 ≤ B2h1 ∧ B2h1 ≤ B2l2 ∧ B2l2 ≤ B2h2 ∧ B2h2 ≤ B2l3 ∧ B2l3 ≤ B2h3 ∧ B2h3 ≤ Z79 := by omega
            have OB21 := Lib.hid o1
            have OB22 := Lib.hid o2
            have OB23 := Lib.hid o3
            clear hz9 o1 o2 o3 q1 q2 q3 q4 q5 q6 q7
            replace X9 := Lib.hid (X9.out.trans gg)
            replace E := Lib.hid (E.out.trans gg)
            replace c00 := Lib.hid (gg.cell c00.out)
            replace c01 := Lib.hid (gg.cell c01.out)
            replace c10 := Lib.hid (gg.cell c10.out)
            replace c11 := Lib.hid (gg.cell c11.out)
            replace c12 := Lib.hid (gg.cell c12.out)
            replace c20 := Lib.hid (gg.cell c20.out)
            replace c21 := Lib.hid (gg.cell c21.out)
            replace c22 := Lib.hid (gg.cell c22.out)
            replace bW0 := Lib.hid (gg.cell bW0.out)
            replace bW1 := Lib.hid (gg.cell bW1.out)
            replace bW2 := Lib.hid (gg.cell bW2.out)
            replace bX0 := Lib.hid (gg.cell bX0.out)
            replace bX1 := Lib.hid (gg.cell bX1.out)
            replace bY0 := Lib.hid (gg.cell bY0.out)
            replace bY1 := Lib.hid (gg.cell bY1.out)
            replace bY2 := Lib.hid (gg.cell bY2.out)
            replace bV0 := Lib.hid (gg.cell bV0.out)
            replace bV1 := Lib.hid (gg.cell bV1.out)
            replace bV2 := Lib.hid (gg.cell bV2.out)
            replace bG0 := Lib.hid (gg.cell bG0.out)
            replace bG1 := Lib.hid (gg.cell bG1.out)
            replace bG2 := Lib.hid (gg.cell bG2.out)
            replace OW1 := Lib.hid (OW1.out.ext gg)
            replace OW2 := Lib.hid (OW2.out.ext gg)
            replace OW3 := Lib.hid (OW3.out.ext gg)
            replace OG1 := Lib.hid (OG1.out.ext gg)
            replace OG2 := Lib.hid (OG2.out.ext gg)
            replace OG3 := Lib.hid (OG3.out.ext gg)
            replace OB0 := Lib.hid (OB0.out.ext gg)
            replace OB11 := Lib.hid (OB11.out.ext gg)
            replace OB12 := Lib.hid (OB12.out.ext gg)
            replace OB13 := Lib.hid (OB13.out.ext gg)
            replace HZ := Lib.hid (Nat.le_trans HZ.out gg.size')
            replace HZ : Hid (Z79 ≤ v78.heap.size) := Lib.hid (Nat.le_of_eq hZ79)
            clear gg hZ79
            simp only [Act.put, List.setIfInBounds_toArray, List.set_cons_zero, List.set_cons_succ]
            refine stepsI_two (i := 6) (k := 10) (HJ.out _ c00.out c01.out c10.out c11.out c12.out c20.out c21.out c22.out) (by kernel_rfl) ?_ ?_
            · skip
              refine op_call (f := ?_) (args := ?_) (R := fun v w' => ∃ V, v = .tuple #[V, .int .i64 c] ∧ Trip v78.heap.size w' rn yA yB yC V ∧ Ext v78 w') (some 122) rfl rfl rfl ?_ ?_ ?_
              rotate_left 2
              · go_simp; refine ⟨?_, ?_⟩ <;> rfl
              · refine Calls.mono (Hi.out (some ⟨gB0, 0, none⟩) (some ⟨gB11, 0, none⟩) (some ⟨gB12, 0, none⟩) (some ⟨gB13, 0, none⟩) (some ⟨gB21, 0, none⟩) (some ⟨gB22, 0, none⟩) (some ⟨gB23, 0, none⟩) v78 OB0.out.rd OB11.out.low.rd OB12.out.low.rd OB13.out.low.rd OB21.out.low.rd OB22.out.low.rd OB23.out.low.rd) ?_
                rintro e w9 ⟨V9, rfl, hT8, g8⟩
                exact ⟨_, rfl, V9, rfl, hT8, g8⟩
              rintro v v80 ⟨V9, rfl, hT9, gg⟩
              obtain ⟨aH1, cH1, aH2, cH2, aH3, cH3, Hl1, Hh1, Hl2, Hh2, Hl3, Hh3, rfl, q1, q2, q3, q4, q5, q6, q7, o1, o2, o3⟩ := hT9
              have hz9 := HZ.out
              obtain ⟨Z81, hZ81⟩ : ∃ z, z = v80.heap.size := ⟨_, rfl⟩
              have hrH : Z79 ≤ Hl1 ∧ Hl1 ≤ Hh1 ∧ Hh1 ≤ Hl2 ∧ Hl2 ≤ Hh2 ∧ Hh2 ≤ Hl3 ∧ Hl3 ≤ Hh3 ∧ Hh3 ≤ Z81 := by omega
              have OH1 := Lib.hid o1
              have OH2 := Lib.hid o2
              have OH3 := Lib.hid o3
              clear hz9 o1 o2 o3 q1 q2 q3 q4 q5 q6 q7
              replace X9 := Lib.hid (X9.out.trans gg)
              replace E := Lib.hid (E.out.trans gg)
              replace c00 := Lib.hid (gg.cell c00.out)
              replace c01 := Lib.hid (gg.cell c01.out)
              replace c10 := Lib.hid (gg.cell c10.out)
              replace c11 := Lib.hid (gg.cell c11.out)
              replace c12 := Lib.hid (gg.cell c12.out)
              replace c20 := Lib.hid (gg.cell c20.out)
              replace c21 := Lib.hid (gg.cell c21.out)
              replace c22 := Lib.hid (gg.cell c22.out)
              replace bW0 := Lib.hid (gg.cell bW0.out)
              replace bW1 := Lib.hid (gg.cell bW1.out)
              replace bW2 := Lib.hid (gg.cell bW2.out)
              replace bX0 := Lib.hid (gg.cell bX0.out)
              replace bX1 := Lib.hid (gg.cell bX1.out)
              replace bY0 := Lib.hid (gg.cell bY0.out)
              replace bY1 := Lib.hid (gg.cell bY1.out)
              replace bY2 := Lib.hid (gg.cell bY2.out)
              replace bV0 := Lib.hid (gg.cell bV0.out)
              replace bV1 := Lib.hid (gg.cell bV1.out)
              replace bV2 := Lib.hid (gg.cell bV2.out)
              replace bG0 := Lib.hid (gg.cell bG0.out)
              replace bG1 := Lib.hid (gg.cell bG1.out)
              replace bG2 := Lib.hid (gg.cell bG2.out)
              replace OW1 := Lib.hid (OW1.out.ext gg)
              replace OW2 := Lib.hid (OW2.out.ext gg)
              replace OW3 := Lib.hid (OW3.out.ext gg)
              replace OG1 := Lib.hid (OG1.out.ext gg)
              replace OG2 := Lib.hid (OG2.out.ext gg)
              replace OG3 := Lib.hid (OG3.out.ext gg)
              replace OB0 := Lib.hid (OB0.out.ext gg)
              replace OB11 := Lib.hid (OB11.out.ext gg)
              replace OB12 := Lib.hid (OB12.out.ext gg)
              replace OB13 := Lib.hid (OB13.out.ext gg)
              replace OB21 := Lib.hid (OB21.out.ext gg)
              replace OB22 := Lib.hid (OB22.out.ext gg)
              replace OB23 := Lib.hid (OB23.out.ext gg)
              replace HZ := Lib.hid (Nat.le_trans HZ.out gg.size')
              replace HZ : Hid (Z81 ≤ v80.heap.size) := Lib.hid (Nat.le_of_eq hZ81)
              clear gg hZ81
              simp only [Act.put, List.setIfInBounds_toArray, List.set_cons_zero, List.set_cons_succ]
              clear OB0
              clear OB11 OB12 OB13
              clear OB21 OB22 OB23
              refine stepsI_float (i := 7) (v := ?_) (some 115) (by kernel_rfl) rfl rfl rfl (fun w' hI => ?_) ?_
              rotate_left
              · go_simp; rfl
              simp only [Act.put, List.setIfInBounds_toArray, List.set_cons_zero, List.set_cons_succ]
              refine stepsI_float (i := 8) (v := ?_) (some 123) (by kernel_rfl) rfl rfl rfl (fun w' hI => ?_) ?_
              rotate_left
              · go_simp; rfl
              simp only [Act.put, List.setIfInBounds_toArray, List.set_cons_zero, List.set_cons_succ]
              refine stepsI_float (i := 9) (v := ?_) (some 124) (by kernel_rfl) rfl rfl rfl (fun w' hI => ?_) ?_
              rotate_left
              · go_simp; rfl
              simp only [Act.put, List.setIfInBounds_toArray, List.set_cons_zero, List.set_cons_succ]
              refine stepsI_one (i := 10) (HJ.out _ c00.out c01.out c10.out c11.out c12.out c20.out c21.out c22.out) (by kernel_rfl) ?_
              refine op_value (v := .pointer (some ⟨v80.heap.size, 0, none⟩)) (w' := v80.alloc (.cells #[.slice none 0 0, .slice none 0 0, .slice none 0 0] 38)) (some 18) rfl rfl rfl (by go_simp) ?_
              simp only [Act.put, List.setIfInBounds_toArray, List.set_cons_zero, List.set_cons_succ]
              obtain ⟨B83, hB83⟩ : ∃ z, z = v80.heap.size := ⟨_, rfl⟩
              obtain ⟨v82, hv82⟩ : ∃ z, z = v80.alloc (.cells #[.slice none 0 0, .slice none 0 0, .slice none 0 0] 38) := ⟨_, rfl⟩
              have TT9 := Lib.hid (show TrAt v82 B83 (.slice none 0 0) (.slice none 0 0) (.slice none 0 0) by rw [hv82, hB83]; exact trAt_new v80 (.slice none 0 0) (.slice none 0 0) (.slice none 0 0) 38)
              have gg : Ext v80 v82 := by rw [hv82]; exact ext_alloc _ _
              have hrbH : Z81 ≤ B83 := by rw [hB83]; exact HZ.out
              have hz9 : B83 + 1 ≤ v82.heap.size := by rw [hv82, hB83]; simp
              rw [← hv82, ← hB83]
              clear hv82 hB83
              replace X9 := Lib.hid (X9.out.trans gg)
              replace E := Lib.hid (E.out.trans gg)
              replace c00 := Lib.hid (gg.cell c00.out)
              replace c01 := Lib.hid (gg.cell c01.out)
              replace c10 := Lib.hid (gg.cell c10.out)
              replace c11 := Lib.hid (gg.cell c11.out)
              replace c12 := Lib.hid (gg.cell c12.out)
              replace c20 := Lib.hid (gg.cell c20.out)
              replace c21 := Lib.hid (gg.cell c21.out)
              replace c22 := Lib.hid (gg.cell c22.out)
              replace bW0 := Lib.hid (gg.cell bW0.out)
              replace bW1 := Lib.hid (gg.cell bW1.out)
              replace bW2 := Lib.hid (gg.cell bW2.out)
              replace bX0 := Lib.hid (gg.cell bX0.out)
              replace bX1 := Lib.hid (gg.cell bX1.out)
              replace bY0 := Lib.hid (gg.cell bY0.out)
              replace bY1 := Lib.hid (gg.cell bY1.out)
              replace bY2 := Lib.hid (gg.cell bY2.out)
              replace bV0 := Lib.hid (gg.cell bV0.out)
              replace bV1 := Lib.hid (gg.cell bV1.out)
              replace bV2 := Lib.hid (gg.cell bV2.out)
              replace bG0 := Lib.hid (gg.cell bG0.out)
              replace bG1 := Lib.hid (gg.cell bG1.out)
              replace bG2 := Lib.hid (gg.cell bG2.out)
              replace OW1 := Lib.hid (OW1.out.ext gg)
              replace OW2 := Lib.hid (OW2.out.ext gg)
              replace OW3 := Lib.hid (OW3.out.ext gg)
              replace OG1 := Lib.hid (OG1.out.ext gg)
              replace OG2 := Lib.hid (OG2.out.ext gg)
              replace OG3 := Lib.hid (OG3.out.ext gg)
              replace OH1 := Lib.hid (OH1.out.ext gg)
              replace OH2 := Lib.hid (OH2.out.ext gg)
              replace OH3 := Lib.hid (OH3.out.ext gg)
              replace HZ := Lib.hid (Nat.le_trans HZ.out gg.size')
              have TT := TT9
              clear TT9
              replace HZ := Lib.hid hz9
              clear gg hz9
              refine stepsI_one (i := 11) (HJ.out _ c00.out c01.out c10.out c11.out c12.out c20.out c21.out c22.out) (by kernel_rfl) ?_
              have q0 := TT.out.c0
              have q1 := TT.out.c1
              have q2 := TT.out.c2
              have q3 := TT.out.f0
              have q4 := TT.out.f1
              have q5 := TT.out.f2
              obtain ⟨v84, hv84⟩ : ∃ z, z = (((v82.setCell ⟨B83, 0, none⟩ (.slice aH1 rn cH1)).setCell ⟨B83, 1, none⟩ (.slice aH2 rn cH2)).setCell ⟨B83, 2, none⟩ (.slice aH3 rn cH3)) := ⟨_, rfl⟩
              refine op_skip (w' := v84) rfl rfl (by rw [hv84]; go_simp) ?_
              simp only [Act.put]
              clear q0 q1 q2 q3 q4 q5
              have XX : WroteIn B83 (B83 + 1) v82 v84 := by rw [hv84]; exact WroteIn.set3
              have TZ := Lib.hid (show TrAt v84 B83 (.slice aH1 rn cH1) (.slice aH2 rn cH2) (.slice aH3 rn cH3) by rw [hv84]; exact TT.out.set3)
              clear hv84 TT
              replace X9 := Lib.hid (XX.ext X9.out (by rw [← HZS.out]; omega))
              replace E := Lib.hid (XX.ext E.out (by omega))
              replace c00 := Lib.hid (XX.cell c00.out (by show O < B83 ∨ (B83 + 1) ≤ O; omega))
              replace c01 := Lib.hid (XX.cell c01.out (by show O < B83 ∨ (B83 + 1) ≤ O; omega))
              replace c10 := Lib.hid (XX.cell c10.out (by show (O + 1) < B83 ∨ (B83 + 1) ≤ (O + 1); omega))
              replace c11 := Lib.hid (XX.cell c11.out (by show (O + 1) < B83 ∨ (B83 + 1) ≤ (O + 1); omega))
              replace c12 := Lib.hid (XX.cell c12.out (by show (O + 1) < B83 ∨ (B83 + 1) ≤ (O + 1); omega))
              replace c20 := Lib.hid (XX.cell c20.out (by show (O + 1 + 1) < B83 ∨ (B83 + 1) ≤ (O + 1 + 1); omega))
              replace c21 := Lib.hid (XX.cell c21.out (by show (O + 1 + 1) < B83 ∨ (B83 + 1) ≤ (O + 1 + 1); omega))
              replace c22 := Lib.hid (XX.cell c22.out (by show (O + 1 + 1) < B83 ∨ (B83 + 1) ≤ (O + 1 + 1); omega))
              replace bW0 := Lib.hid (XX.cell bW0.out (by show BbW < B83 ∨ (B83 + 1) ≤ BbW; omega))
              replace bW1 := Lib.hid (XX.cell bW1.out (by show BbW < B83 ∨ (B83 + 1) ≤ BbW; omega))
              replace bW2 := Lib.hid (XX.cell bW2.out (by show BbW < B83 ∨ (B83 + 1) ≤ BbW; omega))
              replace bX0 := Lib.hid (XX.cell bX0.out (by show B51 < B83 ∨ (B83 + 1) ≤ B51; omega))
              replace bX1 := Lib.hid (XX.cell bX1.out (by show B51 < B83 ∨ (B83 + 1) ≤ B51; omega))
              replace bY0 := Lib.hid (XX.cell bY0.out (by show B55 < B83 ∨ (B83 + 1) ≤ B55; omega))
              replace bY1 := Lib.hid (XX.cell bY1.out (by show B55 < B83 ∨ (B83 + 1) ≤ B55; omega))
              replace bY2 := Lib.hid (XX.cell bY2.out (by show B55 < B83 ∨ (B83 + 1) ≤ B55; omega))
              replace bV0 := Lib.hid (XX.cell bV0.out (by show B59 < B83 ∨ (B83 + 1) ≤ B59; omega))
              replace bV1 := Lib.hid (XX.cell bV1.out (by show B59 < B83 ∨ (B83 + 1) ≤ B59; omega))
              replace bV2 := Lib.hid (XX.cell bV2.out (by show B59 < B83 ∨ (B83 + 1) ≤ B59; omega))
              replace bG0 := Lib.hid (XX.cell bG0.out (by show B63 < B83 ∨ (B83 + 1) ≤ B63; omega))
              replace bG1 := Lib.hid (XX.cell bG1.out (by show B63 < B83 ∨ (B83 + 1) ≤ B63; omega))
              replace bG2 := Lib.hid (XX.cell bG2.out (by show B63 < B83 ∨ (B83 + 1) ≤ B63; omega))
              replace OW1 := Lib.hid (XX.ownR OW1.out (by omega))
              replace OW2 := Lib.hid (XX.ownR OW2.out (by omega))
              replace OW3 := Lib.hid (XX.ownR OW3.out (by omega))
              replace OG1 := Lib.hid (XX.ownR OG1.out (by omega))
              replace OG2 := Lib.hid (XX.ownR OG2.out (by omega))
              replace OG3 := Lib.hid (XX.ownR OG3.out (by omega))
              replace OH1 := Lib.hid (XX.ownR OH1.out (by omega))
              replace OH2 := Lib.hid (XX.ownR OH2.out (by omega))
              replace OH3 := Lib.hid (XX.ownR OH3.out (by omega))
              replace HZ := Lib.hid (Nat.le_trans HZ.out XX.size)
              clear XX
              have bH0 := Lib.hid TZ.out.c0
              have bH1 := Lib.hid TZ.out.c1
              have bH2 := Lib.hid TZ.out.c2
              clear TZ
              refine stepsI_one (i := 12) (HJ.out _ c00.out c01.out c10.out c11.out c12.out c20.out c21.out c22.out) (by kernel_rfl) ?_
              refine op_value (v := ?_) (w' := v84) (some 19) rfl rfl rfl ?_ ?_
              rotate_left
              · go_simp; rfl
              simp only [Act.put, List.setIfInBounds_toArray]
              refine stepsI_end (HJ.out _ c00.out c01.out c10.out c11.out c12.out c20.out c21.out c22.out) (by kernel_rfl) ?_
              refine ⟨rfl, gB0, gB11, gB12, gB13, gB21, gB22, gB23, aH1, cH1, aH2, cH2, aH3, cH3, Hl1, Hh1, Hl2, Hh2, Hl3, Hh3, B83, (B83 + 1), ?_, ?_, HZ, X9, OH1, OH2, OH3, bH0, bH1, bH2⟩
              · first | rfl | (simp only [Act.put, List.setIfInBounds_toArray, List.set_cons_zero, List.set_cons_succ]) | (simp only [Act.put])
              · omega
            · skip
              refine op_value (v := .pointer (some ⟨v78.heap.size, 0, none⟩)) (w' := v78.alloc (.cells #[.slice none 0 0, .slice none 0 0, .slice none 0 0] 38)) (some 18) rfl rfl rfl (by go_simp) ?_
              simp only [Act.put, List.setIfInBounds_toArray, List.set_cons_zero, List.set_cons_succ]
              obtain ⟨B86, hB86⟩ : ∃ z, z = v78.heap.size := ⟨_, rfl⟩
              obtain ⟨v85, hv85⟩ : ∃ z, z = v78.alloc (.cells #[.slice none 0 0, .slice none 0 0, .slice none 0 0] 38) := ⟨_, rfl⟩
              have TT9 := Lib.hid (show TrAt v85 B86 (.slice none 0 0) (.slice none 0 0) (.slice none 0 0) by rw [hv85, hB86]; exact trAt_new v78 (.slice none 0 0) (.slice none 0 0) (.slice none 0 0) 38)
              have gg : Ext v78 v85 := by rw [hv85]; exact ext_alloc _ _
              have hrbH : Z79 ≤ B86 := by rw [hB86]; exact HZ.out
              have hz9 : B86 + 1 ≤ v85.heap.size := by rw [hv85, hB86]; simp
              rw [← hv85, ← hB86]
              clear hv85 hB86
              replace X9 := Lib.hid (X9.out.trans gg)
              replace E := Lib.hid (E.out.trans gg)
              replace c00 := Lib.hid (gg.cell c00.out)
              replace c01 := Lib.hid (gg.cell c01.out)
              replace c10 := Lib.hid (gg.cell c10.out)
              replace c11 := Lib.hid (gg.cell c11.out)
              replace c12 := Lib.hid (gg.cell c12.out)
              replace c20 := Lib.hid (gg.cell c20.out)
              replace c21 := Lib.hid (gg.cell c21.out)
              replace c22 := Lib.hid (gg.cell c22.out)
              replace bW0 := Lib.hid (gg.cell bW0.out)
              replace bW1 := Lib.hid (gg.cell bW1.out)
              replace bW2 := Lib.hid (gg.cell bW2.out)
              replace bX0 := Lib.hid (gg.cell bX0.out)
              replace bX1 := Lib.hid (gg.cell bX1.out)
              replace bY0 := Lib.hid (gg.cell bY0.out)
              replace bY1 := Lib.hid (gg.cell bY1.out)
              replace bY2 := Lib.hid (gg.cell bY2.out)
              replace bV0 := Lib.hid (gg.cell bV0.out)
              replace bV1 := Lib.hid (gg.cell bV1.out)
              replace bV2 := Lib.hid (gg.cell bV2.out)
              replace bG0 := Lib.hid (gg.cell bG0.out)
              replace bG1 := Lib.hid (gg.cell bG1.out)
              replace bG2 := Lib.hid (gg.cell bG2.out)
              replace OW1 := Lib.hid (OW1.out.ext gg)
              replace OW2 := Lib.hid (OW2.out.ext gg)
              replace OW3 := Lib.hid (OW3.out.ext gg)
              replace OG1 := Lib.hid (OG1.out.ext gg)
              replace OG2 := Lib.hid (OG2.out.ext gg)
              replace OG3 := Lib.hid (OG3.out.ext gg)
              replace OB0 := Lib.hid (OB0.out.ext gg)
              replace OB11 := Lib.hid (OB11.out.ext gg)
              replace OB12 := Lib.hid (OB12.out.ext gg)
              replace OB13 := Lib.hid (OB13.out.ext gg)
              replace OB21 := Lib.hid (OB21.out.ext gg)
              replace OB22 := Lib.hid (OB22.out.ext gg)
              replace OB23 := Lib.hid (OB23.out.ext gg)
              replace HZ := Lib.hid (Nat.le_trans HZ.out gg.size')
              have TT := TT9
              clear TT9
              replace HZ := Lib.hid hz9
              clear gg hz9
              refine stepsI_one (i := 6) (HJ.out _ c00.out c01.out c10.out c11.out c12.out c20.out c21.out c22.out) (by kernel_rfl) ?_
              refine op_call (f := ?_) (args := ?_) (R := fun v w' => ∃ V, v = .tuple #[V, .int .i64 c] ∧ Trip v85.heap.size w' rn yA yB yC V ∧ Ext v85 w') (some 122) rfl rfl rfl ?_ ?_ ?_
              rotate_left 2
              · go_simp; refine ⟨?_, ?_⟩ <;> rfl
              · refine Calls.mono (Hi.out (some ⟨gB0, 0, none⟩) (some ⟨gB11, 0, none⟩) (some ⟨gB12, 0, none⟩) (some ⟨gB13, 0, none⟩) (some ⟨gB21, 0, none⟩) (some ⟨gB22, 0, none⟩) (some ⟨gB23, 0, none⟩) v85 OB0.out.rd OB11.out.low.rd OB12.out.low.rd OB13.out.low.rd OB21.out.low.rd OB22.out.low.rd OB23.out.low.rd) ?_
                rintro e w9 ⟨V9, rfl, hT8, g8⟩
                exact ⟨_, rfl, V9, rfl, hT8, g8⟩
              rintro v v87 ⟨V9, rfl, hT9, gg⟩
              obtain ⟨aH1, cH1, aH2, cH2, aH3, cH3, Hl1, Hh1, Hl2, Hh2, Hl3, Hh3, rfl, q1, q2, q3, q4, q5, q6, q7, o1, o2, o3⟩ := hT9
              have hz9 := HZ.out
              obtain ⟨Z88, hZ88⟩ : ∃ z, z = v87.heap.size := ⟨_, rfl⟩
              have hrH : (B86 + 1) ≤ Hl1 ∧ Hl1 ≤ Hh1 ∧ Hh1 ≤ Hl2 ∧ Hl2 ≤ Hh2 ∧ Hh2 ≤ Hl3 ∧ Hl3 ≤ Hh3 ∧ Hh3 ≤ Z88 := by omega
              have OH1 := Lib.hid o1
              have OH2 := Lib.hid o2
              have OH3 := Lib.hid o3
              clear hz9 o1 o2 o3 q1 q2 q3 q4 q5 q6 q7
              replace TT := Lib.hid (TT.out.ext gg)
              replace X9 := Lib.hid (X9.out.trans gg)
              replace E := Lib.hid (E.out.trans gg)
              replace c00 := Lib.hid (gg.cell c00.out)
              replace c01 := Lib.hid (gg.cell c01.out)
              replace c10 := Lib.hid (gg.cell c10.out)
              replace c11 := Lib.hid (gg.cell c11.out)
              replace c12 := Lib.hid (gg.cell c12.out)
              replace c20 := Lib.hid (gg.cell c20.out)
              replace c21 := Lib.hid (gg.cell c21.out)
              replace c22 := Lib.hid (gg.cell c22.out)
              replace bW0 := Lib.hid (gg.cell bW0.out)
              replace bW1 := Lib.hid (gg.cell bW1.out)
              replace bW2 := Lib.hid (gg.cell bW2.out)
              replace bX0 := Lib.hid (gg.cell bX0.out)
              replace bX1 := Lib.hid (gg.cell bX1.out)
              replace bY0 := Lib.hid (gg.cell bY0.out)
              replace bY1 := Lib.hid (gg.cell bY1.out)
              replace bY2 := Lib.hid (gg.cell bY2.out)
              replace bV0 := Lib.hid (gg.cell bV0.out)
              replace bV1 := Lib.hid (gg.cell bV1.out)
              replace bV2 := Lib.hid (gg.cell bV2.out)
              replace bG0 := Lib.hid (gg.cell bG0.out)
              replace bG1 := Lib.hid (gg.cell bG1.out)
              replace bG2 := Lib.hid (gg.cell bG2.out)
              replace OW1 := Lib.hid (OW1.out.ext gg)
              replace OW2 := Lib.hid (OW2.out.ext gg)
              replace OW3 := Lib.hid (OW3.out.ext gg)
              replace OG1 := Lib.hid (OG1.out.ext gg)
              replace OG2 := Lib.hid (OG2.out.ext gg)
              replace OG3 := Lib.hid (OG3.out.ext gg)
              replace OB0 := Lib.hid (OB0.out.ext gg)
              replace OB11 := Lib.hid (OB11.out.ext gg)
              replace OB12 := Lib.hid (OB12.out.ext gg)
              replace OB13 := Lib.hid (OB13.out.ext gg)
              replace OB21 := Lib.hid (OB21.out.ext gg)
              replace OB22 := Lib.hid (OB22.out.ext gg)
              replace OB23 := Lib.hid (OB23.out.ext gg)
              replace HZ := Lib.hid (Nat.le_trans HZ.out gg.size')
              replace HZ : Hid (Z88 ≤ v87.heap.size) := Lib.hid (Nat.le_of_eq hZ88)
              clear gg hZ88
              simp only [Act.put, List.setIfInBounds_toArray, List.set_cons_zero, List.set_cons_succ]
              clear OB0
              clear OB11 OB12 OB13
              clear OB21 OB22 OB23
              refine stepsI_float (i := 7) (v := ?_) (some 115) (by kernel_rfl) rfl rfl rfl (fun w' hI => ?_) ?_
              rotate_left
              · go_simp; rfl
              simp only [Act.put, List.setIfInBounds_toArray, List.set_cons_zero, List.set_cons_succ]
              refine stepsI_float (i := 8) (v := ?_) (some 123) (by kernel_rfl) rfl rfl rfl (fun w' hI => ?_) ?_
              rotate_left
              · go_simp; rfl
              simp only [Act.put, List.setIfInBounds_toArray, List.set_cons_zero, List.set_cons_succ]
              refine stepsI_float (i := 9) (v := ?_) (some 124) (by kernel_rfl) rfl rfl rfl (fun w' hI => ?_) ?_
              rotate_left
              · go_simp; rfl
              simp only [Act.put, List.setIfInBounds_toArray, List.set_cons_zero, List.set_cons_succ]
              refine stepsI_one (i := 11) (HJ.out _ c00.out c01.out c10.out c11.out c12.out c20.out c21.out c22.out) (by kernel_rfl) ?_
              have q0 := TT.out.c0
              have q1 := TT.out.c1
              have q2 := TT.out.c2
              have q3 := TT.out.f0
              have q4 := TT.out.f1
              have q5 := TT.out.f2
              obtain ⟨v89, hv89⟩ : ∃ z, z = (((v87.setCell ⟨B86, 0, none⟩ (.slice aH1 rn cH1)).setCell ⟨B86, 1, none⟩ (.slice aH2 rn cH2)).setCell ⟨B86, 2, none⟩ (.slice aH3 rn cH3)) := ⟨_, rfl⟩
              refine op_skip (w' := v89) rfl rfl (by rw [hv89]; go_simp) ?_
              simp only [Act.put]
              clear q0 q1 q2 q3 q4 q5
              have XX : WroteIn B86 (B86 + 1) v87 v89 := by rw [hv89]; exact WroteIn.set3
              have TZ := Lib.hid (show TrAt v89 B86 (.slice aH1 rn cH1) (.slice aH2 rn cH2) (.slice aH3 rn cH3) by rw [hv89]; exact TT.out.set3)
              clear hv89 TT
              replace X9 := Lib.hid (XX.ext X9.out (by rw [← HZS.out]; omega))
              replace E := Lib.hid (XX.ext E.out (by omega))
              replace c00 := Lib.hid (XX.cell c00.out (by show O < B86 ∨ (B86 + 1) ≤ O; omega))
              replace c01 := Lib.hid (XX.cell c01.out (by show O < B86 ∨ (B86 + 1) ≤ O; omega))
              replace c10 := Lib.hid (XX.cell c10.out (by show (O + 1) < B86 ∨ (B86 + 1) ≤ (O + 1); omega))
              replace c11 := Lib.hid (XX.cell c11.out (by show (O + 1) < B86 ∨ (B86 + 1) ≤ (O + 1); omega))
              replace c12 := Lib.hid (XX.cell c12.out (by show (O + 1) < B86 ∨ (B86 + 1) ≤ (O + 1); omega))
              replace c20 := Lib.hid (XX.cell c20.out (by show (O + 1 + 1) < B86 ∨ (B86 + 1) ≤ (O + 1 + 1); omega))
              replace c21 := Lib.hid (XX.cell c21.out (by show (O + 1 + 1) < B86 ∨ (B86 + 1) ≤ (O + 1 + 1); omega))
              replace c22 := Lib.hid (XX.cell c22.out (by show (O + 1 + 1) < B86 ∨ (B86 + 1) ≤ (O + 1 + 1); omega))
              replace bW0 := Lib.hid (XX.cell bW0.out (by show BbW < B86 ∨ (B86 + 1) ≤ BbW; omega))
              replace bW1 := Lib.hid (XX.cell bW1.out (by show BbW < B86 ∨ (B86 + 1) ≤ BbW; omega))
              replace bW2 := Lib.hid (XX.cell bW2.out (by show BbW < B86 ∨ (B86 + 1) ≤ BbW; omega))
              replace bX0 := Lib.hid (XX.cell bX0.out (by show B51 < B86 ∨ (B86 + 1) ≤ B51; omega))
              replace bX1 := Lib.hid (XX.cell bX1.out (by show B51 < B86 ∨ (B86 + 1) ≤ B51; omega))
              replace bY0 := Lib.hid (XX.cell bY0.out (by show B55 < B86 ∨ (B86 + 1) ≤ B55; omega))
              replace bY1 := Lib.hid (XX.cell bY1.out (by show B55 < B86 ∨ (B86 + 1) ≤ B55; omega))
              replace bY2 := Lib.hid (XX.cell bY2.out (by show B55 < B86 ∨ (B86 + 1) ≤ B55; omega))
              replace bV0 := Lib.hid (XX.cell bV0.out (by show B59 < B86 ∨ (B86 + 1) ≤ B59; omega))
              replace bV1 := Lib.hid (XX.cell bV1.out (by show B59 < B86 ∨ (B86 + 1) ≤ B59; omega))
              replace bV2 := Lib.hid (XX.cell bV2.out (by show B59 < B86 ∨ (B86 + 1) ≤ B59; omega))
              replace bG0 := Lib.hid (XX.cell bG0.out (by show B63 < B86 ∨ (B86 + 1) ≤ B63; omega))
              replace bG1 := Lib.hid (XX.cell bG1.out (by show B63 < B86 ∨ (B86 + 1) ≤ B63; omega))
              replace bG2 := Lib.hid (XX.cell bG2.out (by show B63 < B86 ∨ (B86 + 1) ≤ B63; omega))
              replace OW1 := Lib.hid (XX.ownR OW1.out (by omega))
              replace OW2 := Lib.hid (XX.ownR OW2.out (by omega))
              replace OW3 := Lib.hid (XX.ownR OW3.out (by omega))
              replace OG1 := Lib.hid (XX.ownR OG1.out (by omega))
              replace OG2 := Lib.hid (XX.ownR OG2.out (by omega))
              replace OG3 := Lib.hid (XX.ownR OG3.out (by omega))
              replace OH1 := Lib.hid (XX.ownR OH1.out (by omega))
              replace OH2 := Lib.hid (XX.ownR OH2.out (by omega))
              replace OH3 := Lib.hid (XX.ownR OH3.out (by omega))
              replace HZ := Lib.hid (Nat.le_trans HZ.out XX.size)
              clear XX
              have bH0 := Lib.hid TZ.out.c0
              have bH1 := Lib.hid TZ.out.c1
              have bH2 := Lib.hid TZ.out.c2
              clear TZ
              refine stepsI_one (i := 12) (HJ.out _ c00.out c01.out c10.out c11.out c12.out c20.out c21.out c22.out) (by kernel_rfl) ?_
              refine op_value (v := ?_) (w' := v89) (some 19) rfl rfl rfl ?_ ?_
              rotate_left
              · go_simp; rfl
              simp only [Act.put, List.setIfInBounds_toArray]
              refine stepsI_end (HJ.out _ c00.out c01.out c10.out c11.out c12.out c20.out c21.out c22.out) (by kernel_rfl) ?_
              refine ⟨rfl, gB0, gB11, gB12, gB13, gB21, gB22, gB23, aH1, cH1, aH2, cH2, aH3, cH3, Hl1, Hh1, Hl2, Hh2, Hl3, Hh3, B86, Z88, ?_, ?_, HZ, X9, OH1, OH2, OH3, bH0, bH1, bH2⟩
              · first | rfl | (simp only [Act.put, List.setIfInBounds_toArray, List.set_cons_zero, List.set_cons_succ]) | (simp only [Act.put])
              · omega
          · skip
            refine op_value (v := .pointer (some ⟨v76.heap.size, 0, none⟩)) (w' := v76.alloc (.cells #[.slice none 0 0, .slice none 0 0, .slice none 0 0] 38)) (some 18) rfl rfl rfl (by go_simp) ?_
            simp only [Act.put, List.setIfInBounds_toArray, List.set_cons_zero, List.set_cons_succ]
            obtain ⟨B91, hB91⟩ : ∃ z, z = v76.heap.size := ⟨_, rfl⟩
            obtain ⟨v90, hv90⟩ : ∃ z, z = v76.alloc (.cells #[.slice none 0 0, .slice none 0 0, .slice none 0 0] 38) := ⟨_, rfl⟩
            have TT9 := Lib.hid (show TrAt v90 B91 (.slice none 0 0) (.slice none 0 0) (.slice none 0 0) by rw [hv90, hB91]; exact trAt_new v76 (.slice none 0 0) (.slice none 0 0) (.slice none 0 0) 38)
            have gg : Ext v76 v90 := by rw [hv90]; exact ext_alloc _ _
            have hrbH : Z77 ≤ B91 := by rw [hB91]; exact HZ.out
            have hz9 : B91 + 1 ≤ v90.heap.size := by rw [hv90, hB91]; simp
            rw [← hv90, ← hB91]
            clear hv90 hB91
            replace X9 := Lib.hid (X9.out.trans gg)
            replace E := Lib.hid (E.out.trans gg)
            replace c00 := Lib.hid (gg.cell c00.out)
            replace c01 := Lib.hid (gg.cell c01.out)
            replace c10 := Lib.hid (gg.cell c10.out)
            replace c11 := Lib.hid (gg.cell c11.out)
            replace c12 := Lib.hid (gg.cell c12.out)
            replace c20 := Lib.hid (gg.cell c20.out)
            replace c21 := Lib.hid (gg.cell c21.out)
            replace c22 := Lib.hid (gg.cell c22.out)
            replace bW0 := Lib.hid (gg.cell bW0.out)
            replace bW1 := Lib.hid (gg.cell bW1.out)
            replace bW2 := Lib.hid (gg.cell bW2.out)
            replace bX0 := Lib.hid (gg.cell bX0.out)
            replace bX1 := Lib.hid (gg.cell bX1.out)
            replace bY0 := Lib.hid (gg.cell bY0.out)
            replace bY1 := Lib.hid (gg.cell bY1.out)
            replace bY2 := Lib.hid (gg.cell bY2.out)
            replace bV0 := Lib.hid (gg.cell bV0.out)
            replace bV1 := Lib.hid (gg.cell bV1.out)
            replace bV2 := Lib.hid (gg.cell bV2.out)
            replace bG0 := Lib.hid (gg.cell bG0.out)
            replace bG1 := Lib.hid (gg.cell bG1.out)
            replace bG2 := Lib.hid (gg.cell bG2.out)
            replace OW1 := Lib.hid (OW1.out.ext gg)
            replace OW2 := Lib.hid (OW2.out.ext gg)
            replace OW3 := Lib.hid (OW3.out.ext gg)
            replace OG1 := Lib.hid (OG1.out.ext gg)
            replace OG2 := Lib.hid (OG2.out.ext gg)
            replace OG3 := Lib.hid (OG3.out.ext gg)
            replace OB0 := Lib.hid (OB0.out.ext gg)
            replace OB11 := Lib.hid (OB11.out.ext gg)
            replace OB12 := Lib.hid (OB12.out.ext gg)
            replace OB13 := Lib.hid (OB13.out.ext gg)
            replace HZ := Lib.hid (Nat.le_trans HZ.out gg.size')
            have TT := TT9
            clear TT9
            replace HZ := Lib.hid hz9
            clear gg hz9
            refine stepsI_one (i := 5) (HJ.out _ c00.out c01.out c10.out c11.out c12.out c20.out c21.out c22.out) (by kernel_rfl) ?_
            refine op_call (f := ?_) (args := ?_) (R := fun v w' => Trip3 v90.heap.size w' n2x1 n2x2 n2x3 T2x1 T2x2 T2x3 v ∧ Ext v90 w') (some 121) rfl rfl rfl ?_ ?_ ?_
            rotate_left 2
            · go_simp; refine ⟨?_, ?_⟩ <;> rfl
            · refine Calls.mono (l_toTriple a2x1 a2x2 a2x3 n2x1 n2x2 n2x3 c2x1 c2x2 c2x3 T2x1 T2x2 T2x3 v90 (by omega) (by omega) (by omega) HL2x1.out HL2x2.out HL2x3.out (HX2x1.out.ext E.out) (HX2x2.out.ext E.out) (HX2x3.out.ext E.out)) ?_
              rintro e w9 ⟨V9, rfl, hT8, g8⟩
              exact ⟨_, rfl, hT8, g8⟩
            rintro v v92 ⟨hT9, gg⟩
            obtain ⟨gB21, gB22, gB23, B2l1, B2h1, B2l2, B2h2, B2l3, B2h3, rfl, q1, q2, q3, q4, q5, q6, q7, o1, o2, o3⟩ := hT9
            have hz9 := HZ.out
            obtain ⟨Z93, hZ93⟩ : ∃ z, z = v92.heap.size := ⟨_, rfl⟩
            have hrB2 : (B91 + 1) ≤ B2l1 ∧ B2l1 ≤ B2h1 ∧ B2h1 ≤ B2l2 ∧ B2l2 ≤ B2h2 ∧ B2h2 ≤ B2l3 ∧ B2l3 ≤ B2h3 ∧ B2h3 ≤ Z93 := by omega
            have OB21 := Lib.hid o1
            have OB22 := Lib.hid o2
            have OB23 := Lib.hid o3
            clear hz9 o1 o2 o3 q1 q2 q3 q4 q5 q6 q7
            replace TT := Lib.hid (TT.out.ext gg)
            replace X9 := Lib.hid (X9.out.trans gg)
            replace E := Lib.hid (E.out.trans gg)
            replace c00 := Lib.hid (gg.cell c00.out)
            replace c01 := Lib.hid (gg.cell c01.out)
            replace c10 := Lib.hid (gg.cell c10.out)
            replace c11 := Lib.hid (gg.cell c11.out)
            replace c12 := Lib.hid (gg.cell c12.out)
            replace c20 := Lib.hid (gg.cell c20.out)
            replace c21 := Lib.hid (gg.cell c21.out)
            replace c22 := Lib.hid (gg.cell c22.out)
            replace bW0 := Lib.hid (gg.cell bW0.out)
            replace bW1 := Lib.hid (gg.cell bW1.out)
            replace bW2 := Lib.hid (gg.cell bW2.out)
            replace bX0 := Lib.hid (gg.cell bX0.out)
            replace bX1 := Lib.hid (gg.cell bX1.out)
            replace bY0 := Lib.hid (gg.cell bY0.out)
            replace bY1 := Lib.hid (gg.cell bY1.out)
            replace bY2 := Lib.hid (gg.cell bY2.out)
            replace bV0 := Lib.hid (gg.cell bV0.out)
            replace bV1 := Lib.hid (gg.cell bV1.out)
            replace bV2 := Lib.hid (gg.cell bV2.out)
            replace bG0 := Lib.hid (gg.cell bG0.out)
            replace bG1 := Lib.hid (gg.cell bG1.out)
            replace bG2 := Lib.hid (gg.cell bG2.out)
            replace OW1 := Lib.hid (OW1.out.ext gg)
            replace OW2 := Lib.hid (OW2.out.ext gg)
            replace OW3 := Lib.hid (OW3.out.ext gg)
            replace OG1 := Lib.hid (OG1.out.ext gg)
            replace OG2 := Lib.hid (OG2.out.ext gg)
            replace OG3 := Lib.hid (OG3.out.ext gg)
            replace OB0 := Lib.hid (OB0.out.ext gg)
            replace OB11 := Lib.hid (OB11.out.ext gg)
            replace OB12 := Lib.hid (OB12.out.ext gg)
            replace OB13 := Lib.hid (OB13.out.ext gg)
            replace HZ := Lib.hid (Nat.le_trans HZ.out gg.size')
            replace HZ : Hid (Z93 ≤ v92.heap.size) := Lib.hid (Nat.le_of_eq hZ93)
            clear gg hZ93
            simp only [Act.put, List.setIfInBounds_toArray, List.set_cons_zero, List.set_cons_succ]
            refine stepsI_one (i := 6) (HJ.out _ c00.out c01.out c10.out c11.out c12.out c20.out c21.out c22.out) (by kernel_rfl) ?_
            refine op_call (f := ?_) (args := ?_) (R := fun v w' => ∃ V, v = .tuple #[V, .int .i64 c] ∧ Trip v92.heap.size w' rn yA yB yC V ∧ Ext v92 w') (some 122) rfl rfl rfl ?_ ?_ ?_
            rotate_left 2
            · go_simp; refine ⟨?_, ?_⟩ <;> rfl
            · refine Calls.mono (Hi.out (some ⟨gB0, 0, none⟩) (some ⟨gB11, 0, none⟩) (some ⟨gB12, 0, none⟩) (some ⟨gB13, 0, none⟩) (some ⟨gB21, 0, none⟩) (some ⟨gB22, 0, none⟩) (some ⟨gB23, 0, none⟩) v92 OB0.out.rd OB11.out.low.rd OB12.out.low.rd OB13.out.low.rd OB21.out.low.rd OB22.out.low.rd OB23.out.low.rd) ?_
              rintro e w9 ⟨V9, rfl, hT8, g8⟩
              exact ⟨_, rfl, V9, rfl, hT8, g8⟩
            rintro v v94 ⟨V9, rfl, hT9, gg⟩
            obtain ⟨aH1, cH1, aH2, cH2, aH3, cH3, Hl1, Hh1, Hl2, Hh2, Hl3, Hh3, rfl, q1, q2, q3, q4, q5, q6, q7, o1, o2, o3⟩ := hT9
            have hz9 := HZ.out
            obtain ⟨Z95, hZ95⟩ : ∃ z, z = v94.heap.size := ⟨_, rfl⟩
            have hrH : Z93 ≤ Hl1 ∧ Hl1 ≤ Hh1 ∧ Hh1 ≤ Hl2 ∧ Hl2 ≤ Hh2 ∧ Hh2 ≤ Hl3 ∧ Hl3 ≤ Hh3 ∧ Hh3 ≤ Z95 := by omega
            have OH1 := Lib.hid o1
            have OH2 := Lib.hid o2
            have OH3 := Lib.hid o3
            clear hz9 o1 o2 o3 q1 q2 q3 q4 q5 q6 q7
            replace TT := Lib.hid (TT.out.ext gg)
            replace X9 := Lib.hid (X9.out.trans gg)
            replace E := Lib.hid (E.out.trans gg)
            replace c00 := Lib.hid (gg.cell c00.out)
            replace c01 := Lib.hid (gg.cell c01.out)
            replace c10 := Lib.hid (gg.cell c10.out)
            replace c11 := Lib.hid (gg.cell c11.out)
            replace c12 := Lib.hid (gg.cell c12.out)
            replace c20 := Lib.hid (gg.cell c20.out)
            replace c21 := Lib.hid (gg.cell c21.out)
            replace c22 := Lib.hid (gg.cell c22.out)
            replace bW0 := Lib.hid (gg.cell bW0.out)
            replace bW1 := Lib.hid (gg.cell bW1.out)
            replace bW2 := Lib.hid (gg.cell bW2.out)
            replace bX0 := Lib.hid (gg.cell bX0.out)
            replace bX1 := Lib.hid (gg.cell bX1.out)
            replace bY0 := Lib.hid (gg.cell bY0.out)
            replace bY1 := Lib.hid (gg.cell bY1.out)
            replace bY2 := Lib.hid (gg.cell bY2.out)
            replace bV0 := Lib.hid (gg.cell bV0.out)
            replace bV1 := Lib.hid (gg.cell bV1.out)
            replace bV2 := Lib.hid (gg.cell bV2.out)
            replace bG0 := Lib.hid (gg.cell bG0.out)
            replace bG1 := Lib.hid (gg.cell bG1.out)
            replace bG2 := Lib.hid (gg.cell bG2.out)
            replace OW1 := Lib.hid (OW1.out.ext gg)
            replace OW2 := Lib.hid (OW2.out.ext gg)
            replace OW3 := Lib.hid (OW3.out.ext gg)
            replace OG1 := Lib.hid (OG1.out.ext gg)
            replace OG2 := Lib.hid (OG2.out.ext gg)
            replace OG3 := Lib.hid (OG3.out.ext gg)
            replace OB0 := Lib.hid (OB0.out.ext gg)
            replace OB11 := Lib.hid (OB11.out.ext gg)
            replace OB12 := Lib.hid (OB12.out.ext gg)
            replace OB13 := Lib.hid (OB13.out.ext gg)
            replace OB21 := Lib.hid (OB21.out.ext gg)
            replace OB22 := Lib.hid (OB22.out.ext gg)
            replace OB23 := Lib.hid (OB23.out.ext gg)
            replace HZ := Lib.hid (Nat.le_trans HZ.out gg.size')
            replace HZ : Hid (Z95 ≤ v94.heap.size) := Lib.hid (Nat.le_of_eq hZ95)
            clear gg hZ95
            simp only [Act.put, List.setIfInBounds_toArray, List.set_cons_zero, List.set_cons_succ]
            clear OB0
            clear OB11 OB12 OB13
            clear OB21 OB22 OB23
            refine stepsI_float (i := 7) (v := ?_) (some 115) (by kernel_rfl) rfl rfl rfl (fun w' hI => ?_) ?_
            rotate_left
            · go_simp; rfl
            simp only [Act.put, List.setIfInBounds_toArray, List.set_cons_zero, List.set_cons_succ]
            refine stepsI_float (i := 8) (v := ?_) (some 123) (by kernel_rfl) rfl rfl rfl (fun w' hI => ?_) ?_
            rotate_left
            · go_simp; rfl
            simp only [Act.put, List.setIfInBounds_toArray, List.set_cons_zero, List.set_cons_succ]
            refine stepsI_float (i := 9) (v := ?_) (some 124) (by kernel_rfl) rfl rfl rfl (fun w' hI => ?_) ?_
            rotate_left
            · go_simp; rfl
            simp only [Act.put, List.setIfInBounds_toArray, List.set_cons_zero, List.set_cons_succ]
            refine stepsI_one (i := 11) (HJ.out _ c00.out c01.out c10.out c11.out c12.out c20.out c21.out c22.out) (by kernel_rfl) ?_
            have q0 := TT.out.c0
            have q1 := TT.out.c1
            have q2 := TT.out.c2
            have q3 := TT.out.f0
            have q4 := TT.out.f1
            have q5 := TT.out.f2
            obtain ⟨v96, hv96⟩ : ∃ z, z = (((v94.setCell ⟨B91, 0, none⟩ (.slice aH1 rn cH1)).setCell ⟨B91, 1, none⟩ (.slice aH2 rn cH2)).setCell ⟨B91, 2, none⟩ (.slice aH3 rn cH3)) := ⟨_, rfl⟩
            refine op_skip (w' := v96) rfl rfl (by rw [hv96]; go_simp) ?_
            simp only [Act.put]
            clear q0 q1 q2 q3 q4 q5
            have XX : WroteIn B91 (B91 + 1) v94 v96 := by rw [hv96]; exact WroteIn.set3
            have TZ := Lib.hid (show TrAt v96 B91 (.slice aH1 rn cH1) (.slice aH2 rn cH2) (.slice aH3 rn cH3) by rw [hv96]; exact TT.out.set3)
            clear hv96 TT
            replace X9 := Lib.hid (XX.ext X9.out (by rw [← HZS.out]; omega))
            replace E := Lib.hid (XX.ext E.out (by omega))
            replace c00 := Lib.hid (XX.cell c00.out (by show O < B91 ∨ (B91 + 1) ≤ O; omega))
            replace c01 := Lib.hid (XX.cell c01.out (by show O < B91 ∨ (B91 + 1) ≤ O; omega))
            replace c10 := Lib.hid (XX.cell c10.out (by show (O + 1) < B91 ∨ (B91 + 1) ≤ (O + 1); omega))
            replace c11 := Lib.hid (XX.cell c11.out (by show (O + 1) < B91 ∨ (B91 + 1) ≤ (O + 1); omega))
            replace c12 := Lib.hid (XX.cell c12.out (by show (O + 1) < B91 ∨ (B91 + 1) ≤ (O + 1); omega))
            replace c20 := Lib.hid (XX.cell c20.out (by show (O + 1 + 1) < B91 ∨ (B91 + 1) ≤ (O + 1 + 1); omega))
            replace c21 := Lib.hid (XX.cell c21.out (by show (O + 1 + 1) < B91 ∨ (B91 + 1) ≤ (O + 1 + 1); omega))
            replace c22 := Lib.hid (XX.cell c22.out (by show (O + 1 + 1) < B91 ∨ (B91 + 1) ≤ (O + 1 + 1); omega))
            replace bW0 := Lib.hid (XX.cell bW0.out (by show BbW < B91 ∨ (B91 + 1) ≤ BbW; omega))
            replace bW1 := Lib.hid (XX.cell bW1.out (by show BbW < B91 ∨ (B91 + 1) ≤ BbW; omega))
            replace bW2 := Lib.hid (XX.cell bW2.out (by show BbW < B91 ∨ (B91 + 1) ≤ BbW; omega))
            replace bX0 := Lib.hid (XX.cell bX0.out (by show B51 < B91 ∨ (B91 + 1) ≤ B51; omega))
            replace bX1 := Lib.hid (XX.cell bX1.out (by show B51 < B91 ∨ (B91 + 1) ≤ B51; omega))
            replace bY0 := Lib.hid (XX.cell bY0.out (by show B55 < B91 ∨ (B91 + 1) ≤ B55; omega))
            replace bY1 := Lib.hid (XX.cell bY1.out (by show B55 < B91 ∨ (B91 + 1) ≤ B55; omega))
            replace bY2 := Lib.hid (XX.cell bY2.out (by show B55 < B91 ∨ (B91 + 1) ≤ B55; omega))
            replace bV0 := Lib.hid (XX.cell bV0.out (by show B59 < B91 ∨ (B91 + 1) ≤ B59; omega))
            replace bV1 := Lib.hid (XX.cell bV1.out (by show B59 < B91 ∨ (B91 + 1) ≤ B59; omega))
            replace bV2 := Lib.hid (XX.cell bV2.out (by show B59 < B91 ∨ (B91 + 1) ≤ B59; omega))
            replace bG0 := Lib.hid (XX.cell bG0.out (by show B63 < B91 ∨ (B91 + 1) ≤ B63; omega))
            replace bG1 := Lib.hid (XX.cell bG1.out (by show B63 < B91 ∨ (B91 + 1) ≤ B63; omega))
            replace bG2 := Lib.hid (XX.cell bG2.out (by show B63 < B91 ∨ (B91 + 1) ≤ B63; omega))
            replace OW1 := Lib.hid (XX.ownR OW1.out (by omega))
            replace OW2 := Lib.hid (XX.ownR OW2.out (by omega))
            replace OW3 := Lib.hid (XX.ownR OW3.out (by omega))
            replace OG1 := Lib.hid (XX.ownR OG1.out (by omega))
            replace OG2 := Lib.hid (XX.ownR OG2.out (by omega))
            replace OG3 := Lib.hid (XX.ownR OG3.out (by omega))
            replace OH1 := Lib.hid (XX.ownR OH1.out (by omega))
            replace OH2 := Lib.hid (XX.ownR OH2.out (by omega))
            replace OH3 := Lib.hid (XX.ownR OH3.out (by omega))
            replace HZ := Lib.hid (Nat.le_trans HZ.out XX.size)
            clear XX
            have bH0 := Lib.hid TZ.out.c0
            have bH1 := Lib.hid TZ.out.c1
            have bH2 := Lib.hid TZ.out.c2
            clear TZ
            refine stepsI_one (i := 12) (HJ.out _ c00.out c01.out c10.out c11.out c12.out c20.out c21.out c22.out) (by kernel_rfl) ?_
            refine op_value (v := ?_) (w' := v96) (some 19) rfl rfl rfl ?_ ?_
            rotate_left
            · go_simp; rfl
            simp only [Act.put, List.setIfInBounds_toArray]
            refine stepsI_end (HJ.out _ c00.out c01.out c10.out c11.out c12.out c20.out c21.out c22.out) (by kernel_rfl) ?_
            refine ⟨rfl, gB0, gB11, gB12, gB13, gB21, gB22, gB23, aH1, cH1, aH2, cH2, aH3, cH3, Hl1, Hh1, Hl2, Hh2, Hl3, Hh3, B91, Z95, ?_, ?_, HZ, X9, OH1, OH2, OH3, bH0, bH1, bH2⟩
            · first | rfl | (simp only [Act.put, List.setIfInBounds_toArray, List.set_cons_zero, List.set_cons_succ]) | (simp only [Act.put])
            · omega
        · skip
          refine op_value (v := .pointer (some ⟨v74.heap.size, 0, none⟩)) (w' := v74.alloc (.cells #[.slice none 0 0, .slice none 0 0, .slice none 0 0] 38)) (some 18) rfl rfl rfl (by go_simp) ?_
          simp only [Act.put, List.setIfInBounds_toArray, List.set_cons_zero, List.set_cons_succ]
          obtain ⟨B98, hB98⟩ : ∃ z, z = v74.heap.size := ⟨_, rfl⟩
          obtain ⟨v97, hv97⟩ : ∃ z, z = v74.alloc (.cells #[.slice none 0 0, .slice none 0 0, .slice none 0 0] 38) := ⟨_, rfl⟩
          have TT9 := Lib.hid (show TrAt v97 B98 (.slice none 0 0) (.slice none 0 0) (.slice none 0 0) by rw [hv97, hB98]; exact trAt_new v74 (.slice none 0 0) (.slice none 0 0) (.slice none 0 0) 38)
          have gg : Ext v74 v97 := by rw [hv97]; exact ext_alloc _ _
          have hrbH : Z75 ≤ B98 := by rw [hB98]; exact HZ.out
          have hz9 : B98 + 1 ≤ v97.heap.size := by rw [hv97, hB98]; simp
          rw [← hv97, ← hB98]
          clear hv97 hB98
          replace X9 := Lib.hid (X9.out.trans gg)
          replace E := Lib.hid (E.out.trans gg)
          replace c00 := Lib.hid (gg.cell c00.out)
          replace c01 := Lib.hid (gg.cell c01.out)
          replace c10 := Lib.hid (gg.cell c10.out)
          replace c11 := Lib.hid (gg.cell c11.out)
          replace c12 := Lib.hid (gg.cell c12.out)
          replace c20 := Lib.hid (gg.cell c20.out)
          replace c21 := Lib.hid (gg.cell c21.out)
          replace c22 := Lib.hid (gg.cell c22.out)
          replace bW0 := Lib.hid (gg.cell bW0.out)
          replace bW1 := Lib.hid (gg.cell bW1.out)
          replace bW2 := Lib.hid (gg.cell bW2.out)
          replace bX0 := Lib.hid (gg.cell bX0.out)
          replace bX1 := Lib.hid (gg.cell bX1.out)
          replace bY0 := Lib.hid (gg.cell bY0.out)
          replace bY1 := Lib.hid (gg.cell bY1.out)
          replace bY2 := Lib.hid (gg.cell bY2.out)
          replace bV0 := Lib.hid (gg.cell bV0.out)
          replace bV1 := Lib.hid (gg.cell bV1.out)
          replace bV2 := Lib.hid (gg.cell bV2.out)
          replace bG0 := Lib.hid (gg.cell bG0.out)
          replace bG1 := Lib.hid (gg.cell bG1.out)
          replace bG2 := Lib.hid (gg.cell bG2.out)
          replace OW1 := Lib.hid (OW1.out.ext gg)
          replace OW2 := Lib.hid (OW2.out.ext gg)
          replace OW3 := Lib.hid (OW3.out.ext gg)
          replace OG1 := Lib.hid (OG1.out.ext gg)
          replace OG2 := Lib.hid (OG2.out.ext gg)
          replace OG3 := Lib.hid (OG3.out.ext gg)
          replace OB0 := Lib.hid (OB0.out.ext gg)
          replace HZ := Lib.hid (Nat.le_trans HZ.out gg.size')
          have TT := TT9
          clear TT9
          replace HZ := Lib.hid hz9
          clear gg hz9
          refine stepsI_one (i := 3) (HJ.out _ c00.out c01.out c10.out c11.out c12.out c20.out c21.out c22.out) (by kernel_rfl) ?_
          refine op_call (f := ?_) (args := ?_) (R := fun v w' => Trip3 v97.heap.size w' n1x1 n1x2 n1x3 T1x1 T1x2 T1x3 v ∧ Ext v97 w') (some 119) rfl rfl rfl ?_ ?_ ?_
          rotate_left 2
          · go_simp; refine ⟨?_, ?_⟩ <;> rfl
          · refine Calls.mono (l_toTriple a1x1 a1x2 a1x3 n1x1 n1x2 n1x3 c1x1 c1x2 c1x3 T1x1 T1x2 T1x3 v97 (by omega) (by omega) (by omega) HL1x1.out HL1x2.out HL1x3.out (HX1x1.out.ext E.out) (HX1x2.out.ext E.out) (HX1x3.out.ext E.out)) ?_
            rintro e w9 ⟨V9, rfl, hT8, g8⟩
            exact ⟨_, rfl, hT8, g8⟩
          rintro v v99 ⟨hT9, gg⟩
          obtain ⟨gB11, gB12, gB13, B1l1, B1h1, B1l2, B1h2, B1l3, B1h3, rfl, q1, q2, q3, q4, q5, q6, q7, o1, o2, o3⟩ := hT9
          have hz9 := HZ.out
          obtain ⟨Z100, hZ100⟩ : ∃ z, z = v99.heap.size := ⟨_, rfl⟩
          have hrB1 : (B98 + 1) ≤ B1l1 ∧ B1l1 ≤ B1h1 ∧ B1h1 ≤ B1l2 ∧ B1l2 ≤ B1h2 ∧ B1h2 ≤ B1l3 ∧ B1l3 ≤ B1h3 ∧ B1h3 ≤ Z100 := by omega
          have OB11 := Lib.hid o1
          have OB12 := Lib.hid o2
          have OB13 := Lib.hid o3
          clear hz9 o1 o2 o3 q1 q2 q3 q4 q5 q6 q7
          replace TT := Lib.hid (TT.out.ext gg)
          replace X9 := Lib.hid (X9.out.trans gg)
          replace E := Lib.hid (E.out.trans gg)
          replace c00 := Lib.hid (gg.cell c00.out)
          replace c01 := Lib.hid (gg.cell c01.out)
          replace c10 := Lib.hid (gg.cell c10.out)
          replace c11 := Lib.hid (gg.cell c11.out)
          replace c12 := Lib.hid (gg.cell c12.out)
          replace c20 := Lib.hid (gg.cell c20.out)
          replace c21 := Lib.hid (gg.cell c21.out)
          replace c22 := Lib.hid (gg.cell c22.out)
          replace bW0 := Lib.hid (gg.cell bW0.out)
          replace bW1 := Lib.hid (gg.cell bW1.out)
          replace bW2 := Lib.hid (gg.cell bW2.out)
          replace bX0 := Lib.hid (gg.cell bX0.out)
          replace bX1 := Lib.hid (gg.cell bX1.out)
          replace bY0 := Lib.hid (gg.cell bY0.out)
          replace bY1 := Lib.hid (gg.cell bY1.out)
          replace bY2 := Lib.hid (gg.cell bY2.out)
          replace bV0 := Lib.hid (gg.cell bV0.out)
          replace bV1 := Lib.hid (gg.cell bV1.out)
          replace bV2 := Lib.hid (gg.cell bV2.out)
          replace bG0 := Lib.hid (gg.cell bG0.out)
          replace bG1 := Lib.hid (gg.cell bG1.out)
          replace bG2 := Lib.hid (gg.cell bG2.out)
          replace OW1 := Lib.hid (OW1.out.ext gg)
          replace OW2 := Lib.hid (OW2.out.ext gg)
          replace OW3 := Lib.hid (OW3.out.ext gg)
          replace OG1 := Lib.hid (OG1.out.ext gg)
          replace OG2 := Lib.hid (OG2.out.ext gg)
          replace OG3 := Lib.hid (OG3.out.ext gg)
          replace OB0 := Lib.hid (OB0.out.ext gg)
          replace HZ := Lib.hid (Nat.le_trans HZ.out gg.size')
          replace HZ : Hid (Z100 ≤ v99.heap.size) := Lib.hid (Nat.le_of_eq hZ100)
          clear gg hZ100
          simp only [Act.put, List.setIfInBounds_toArray, List.set_cons_zero, List.set_cons_succ]
          refine stepsI_one (i := 5) (HJ.out _ c00.out c01.out c10.out c11.out c12.out c20.out c21.out c22.out) (by kernel_rfl) ?_
          refine op_call (f := ?_) (args := ?_) (R := fun v w' => Trip3 v99.heap.size w' n2x1 n2x2 n2x3 T2x1 T2x2 T2x3 v ∧ Ext v99 w') (some 121) rfl rfl rfl ?_ ?_ ?_
          rotate_left 2
          · go_simp; refine ⟨?_, ?_⟩ <;> rfl
          · refine Calls.mono (l_toTriple a2x1 a2x2 a2x3 n2x1 n2x2 n2x3 c2x1 c2x2 c2x3 T2x1 T2x2 T2x3 v99 (by omega) (by omega) (by omega) HL2x1.out HL2x2.out HL2x3.out (HX2x1.out.ext E.out) (HX2x2.out.ext E.out) (HX2x3.out.ext E.out)) ?_
            rintro e w9 ⟨V9, rfl, hT8, g8⟩
            exact ⟨_, rfl, hT8, g8⟩
          rintro v v101 ⟨hT9, gg⟩
          obtain ⟨gB21, gB22, gB23, B2l1, B2h1, B2l2, B2h2, B2l3, B2h3, rfl, q1, q2, q3, q4, q5, q6, q7, o1, o2, o3⟩ := hT9
          have hz9 := HZ.out
          obtain ⟨Z102, hZ102⟩ : ∃ z, z = v101.heap.size := ⟨_, rfl⟩
          have hrB2 : Z100 ≤ B2l1 ∧ B2l1 ≤ B2h1 ∧ B2h1 ≤ B2l2 ∧ B2l2 ≤ B2h2 ∧ B2h2 ≤ B2l3 ∧ B2l3 ≤ B2h3 ∧ B2h3 ≤ Z102 := by omega
          have OB21 := Lib.hid o1
          have OB22 := Lib.hid o2
          have OB23 := Lib.hid o3
          clear hz9 o1 o2 o3 q1 q2 q3 q4 q5 q6 q7
          replace TT := Lib.hid (TT.out.ext gg)
          replace X9 := Lib.hid (X9.out.trans gg)
          replace E := Lib.hid (E.out.trans gg)
          replace c00 := Lib.hid (gg.cell c00.out)
          replace c01 := Lib.hid (gg.cell c01.out)
          replace c10 := Lib.hid (gg.cell c10.out)
          replace c11 := Lib.hid (gg.cell c11.out)
          replace c12 := Lib.hid (gg.cell c12.out)
          replace c20 := Lib.hid (gg.cell c20.out)
          replace c21 := Lib.hid (gg.cell c21.out)
          replace c22 := Lib.hid (gg.cell c22.out)
          replace bW0 := Lib.hid (gg.cell bW0.out)
          replace bW1 := Lib.hid (gg.cell bW1.out)
          replace bW2 := Lib.hid (gg.cell bW2.out)
          replace bX0 := Lib.hid (gg.cell bX0.out)
          replace bX1 := Lib.hid (gg.cell bX1.out)
          replace bY0 := Lib.hid (gg.cell bY0.out)
          replace bY1 := Lib.hid (gg.cell bY1.out)
          replace bY2 := Lib.hid (gg.cell bY2.out)
          replace bV0 := Lib.hid (gg.cell bV0.out)
          replace bV1 := Lib.hid (gg.cell bV1.out)
          replace bV2 := Lib.hid (gg.cell bV2.out)
          replace bG0 := Lib.hid (gg.cell bG0.out)
          replace bG1 := Lib.hid (gg.cell bG1.out)
          replace bG2 := Lib.hid (gg.cell bG2.out)
          replace OW1 := Lib.hid (OW1.out.ext gg)
          replace OW2 := Lib.hid (OW2.out.ext gg)
          replace OW3 := Lib.hid (OW3.out.ext gg)
          replace OG1 := Lib.hid (OG1.out.ext gg)
          replace OG2 := Lib.hid (OG2.out.ext gg)
          replace OG3 := Lib.hid (OG3.out.ext gg)
          replace OB0 := Lib.hid (OB0.out.ext gg)
          replace OB11 := Lib.hid (OB11.out.ext gg)
          replace OB12 := Lib.hid (OB12.out.ext gg)
          replace OB13 := Lib.hid (OB13.out.ext gg)
          replace HZ := Lib.hid (Nat.le_trans HZ.out gg.size')
          replace HZ : Hid (Z102 ≤ v101.heap.size) := Lib.hid (Nat.le_of_eq hZ102)
          clear gg hZ102
          simp only [Act.put, List.setIfInBounds_toArray, List.set_cons_zero, List.set_cons_succ]
          refine stepsI_one (i := 6) (HJ.out _ c00.out c01.out c10.out c11.out c12.out c20.out c21.out c22.out) (by kernel_rfl) ?_
          refine op_call (f := ?_) (args := ?_) (R := fun v w' => ∃ V, v = .tuple #[V, .int .i64 c] ∧ Trip v101.heap.size w' rn yA yB yC V ∧ Ext v101 w') (some 122) rfl rfl rfl ?_ ?_ ?_
          rotate_left 2
          · go_simp; refine ⟨?_, ?_⟩ <;> rfl
          · refine Calls.mono (Hi.out (some ⟨gB0, 0, none⟩) (some ⟨gB11, 0, none⟩) (some ⟨gB12, 0, none⟩) (some ⟨gB13, 0, none⟩) (some ⟨gB21, 0, none⟩) (some ⟨gB22, 0, none⟩) (some ⟨gB23, 0, none⟩) v101 OB0.out.rd OB11.out.low.rd OB12.out.low.rd OB13.out.low.rd OB21.out.low.rd OB22.out.low.rd OB23.out.low.rd) ?_
            rintro e w9 ⟨V9, rfl, hT8, g8⟩
            exact ⟨_, rfl, V9, rfl, hT8, g8⟩
          rintro v v103 ⟨V9, rfl, hT9, gg⟩
          obtain ⟨aH1, cH1, aH2, cH2, aH3, cH3, Hl1, Hh1, Hl2, Hh2, Hl3, Hh3, rfl, q1, q2, q3, q4, q5, q6, q7, o1, o2, o3⟩ := hT9
          have hz9 := HZ.out
          obtain ⟨Z104, hZ104⟩ : ∃ z, z = v103.heap.size := ⟨_, rfl⟩
          have hrH : Z102 ≤ Hl1 ∧ Hl1 ≤ Hh1 ∧ Hh1 ≤ Hl2 ∧ Hl2 ≤ Hh2 ∧ Hh2 ≤ Hl3 ∧ Hl3 ≤ Hh3 ∧ Hh3 ≤ Z104 := by omega
          have OH1 := Lib.hid o1
          have OH2 := Lib.hid o2
          have OH3 := Lib.hid o3
          clear hz9 o1 o2 o3 q1 q2 q3 q4 q5 q6 q7
          replace TT := Lib.hid (TT.out.ext gg)
          replace X9 := Lib.hid (X9.out.trans gg)
          replace E := Lib.hid (E.out.trans gg)
          replace c00 := Lib.hid (gg.cell c00.out)
          replace c01 := Lib.hid (gg.cell c01.out)
          replace c10 := Lib.hid (gg.cell c10.out)
          replace c11 := Lib.hid (gg.cell c11.out)
          replace c12 := Lib.hid (gg.cell c12.out)
          replace c20 := Lib.hid (gg.cell c20.out)
          replace c21 := Lib.hid (gg.cell c21.out)
          replace c22 := Lib.hid (gg.cell c22.out)
          replace bW0 := Lib.hid (gg.cell bW0.out)
          replace bW1 := Lib.hid (gg.cell bW1.out)
          replace bW2 := Lib.hid (gg.cell bW2.out)
          replace bX0 := Lib.hid (gg.cell bX0.out)
          replace bX1 := Lib.hid (gg.cell bX1.out)
          replace bY0 := Lib.hid (gg.cell bY0.out)
          replace bY1 := Lib.hid (gg.cell bY1.out)
          replace bY2 := Lib.hid (gg.cell bY2.out)
          replace bV0 := Lib.hid (gg.cell bV0.out)
          replace bV1 := Lib.hid (gg.cell bV1.out)
          replace bV2 := Lib.hid (gg.cell bV2.out)
          replace bG0 := Lib.hid (gg.cell bG0.out)
          replace bG1 := Lib.hid (gg.cell bG1.out)
          replace bG2 := Lib.hid (gg.cell bG2.out)
          replace OW1 := Lib.hid (OW1.out.ext gg)
          replace OW2 := Lib.hid (OW2.out.ext gg)
          replace OW3 := Lib.hid (OW3.out.ext gg)
          replace OG1 := Lib.hid (OG1.out.ext gg)
          replace OG2 := Lib.hid (OG2.out.ext gg)
          replace OG3 := Lib.hid (OG3.out.ext gg)
          replace OB0 := Lib.hid (OB0.out.ext gg)
          replace OB11 := Lib.hid (OB11.out.ext gg)
          replace OB12 := Lib.hid (OB12.out.ext gg)
          replace OB13 := Lib.hid (OB13.out.ext gg)
          replace OB21 := Lib.hid (OB21.out.ext gg)
          replace OB22 := Lib.hid (OB22.out.ext gg)
          replace OB23 := Lib.hid (OB23.out.ext gg)
          replace HZ := Lib.hid (Nat.le_trans HZ.out gg.size')
          replace HZ : Hid (Z104 ≤ v103.heap.size) := Lib.hid (Nat.le_of_eq hZ104)
          clear gg hZ104
          simp only [Act.put, List.setIfInBounds_toArray, List.set_cons_zero, List.set_cons_succ]
          clear OB0
          clear OB11 OB12 OB13
          clear OB21 OB22 OB23
          refine stepsI_float (i := 7) (v := ?_) (some 115) (by kernel_rfl) rfl rfl rfl (fun w' hI => ?_) ?_
          rotate_left
          · go_simp; rfl
          simp only [Act.put, List.setIfInBounds_toArray, List.set_cons_zero, List.set_cons_succ]
          refine stepsI_float (i := 8) (v := ?_) (some 123) (by kernel_rfl) rfl rfl rfl (fun w' hI => ?_) ?_
          rotate_left
          · go_simp; rfl
          simp only [Act.put, List.setIfInBounds_toArray, List.set_cons_zero, List.set_cons_succ]
          refine stepsI_float (i := 9) (v := ?_) (some 124) (by kernel_rfl) rfl rfl rfl (fun w' hI => ?_) ?_
          rotate_left
          · go_simp; rfl
          simp only [Act.put, List.setIfInBounds_toArray, List.set_cons_zero, List.set_cons_succ]
          refine stepsI_one (i := 11) (HJ.out _ c00.out c01.out c10.out c11.out c12.out c20.out c21.out c22.out) (by kernel_rfl) ?_
          have q0 := TT.out.c0
          have q1 := TT.out.c1
          have q2 := TT.out.c2
          have q3 := TT.out.f0
          have q4 := TT.out.f1
          have q5 := TT.out.f2
          obtain ⟨v105, hv105⟩ : ∃ z, z = (((v103.setCell ⟨B98, 0, none⟩ (.slice aH1 rn cH1)).setCell ⟨B98, 1, none⟩ (.slice aH2 rn cH2)).setCell ⟨B98, 2, none⟩ (.slice aH3 rn cH3)) := ⟨_, rfl⟩
          refine op_skip (w' := v105) rfl rfl (by rw [hv105]; go_simp) ?_
          simp only [Act.put]
          clear q0 q1 q2 q3 q4 q5
          have XX : WroteIn B98 (B98 + 1) v103 v105 := by rw [hv105]; exact WroteIn.set3
          have TZ := Lib.hid (show TrAt v105 B98 (.slice aH1 rn cH1) (.slice aH2 rn cH2) (.slice aH3 rn cH3) by rw [hv105]; exact TT.out.set3)
          clear hv105 TT
          replace X9 := Lib.hid (XX.ext X9.out (by rw [← HZS.out]; omega))
          replace E := Lib.hid (XX.ext E.out (by omega))
          replace c00 := Lib.hid (XX.cell c00.out (by show O < B98 ∨ (B98 + 1) ≤ O; omega))
          replace c01 := Lib.hid (XX.cell c01.out (by show O < B98 ∨ (B98 + 1) ≤ O; omega))
          replace c10 := Lib.hid (XX.cell c10.out (by show (O + 1) < B98 ∨ (B98 + 1) ≤ (O + 1); omega))
          replace c11 := Lib.hid (XX.cell c11.out (by show (O + 1) < B98 ∨ (B98 + 1) ≤ (O + 1); omega))
          replace c12 := Lib.hid (XX.cell c12.out (by show (O + 1) < B98 ∨ (B98 + 1) ≤ (O + 1); omega))
          replace c20 := Lib.hid (XX.cell c20.out (by show (O + 1 + 1) < B98 ∨ (B98 + 1) ≤ (O + 1 + 1); omega))
          replace c21 := Lib.hid (XX.cell c21.out (by show (O + 1 + 1) < B98 ∨ (B98 + 1) ≤ (O + 1 + 1); omega))
          replace c22 := Lib.hid (XX.cell c22.out (by show (O + 1 + 1) < B98 ∨ (B98 + 1) ≤ (O + 1 + 1); omega))
          replace bW0 := Lib.hid (XX.cell bW0.out (by show BbW < B98 ∨ (B98 + 1) ≤ BbW; omega))
          replace bW1 := Lib.hid (XX.cell bW1.out (by show BbW < B98 ∨ (B98 + 1) ≤ BbW; omega))
          replace bW2 := Lib.hid (XX.cell bW2.out (by show BbW < B98 ∨ (B98 + 1) ≤ BbW; omega))
          replace bX0 := Lib.hid (XX.cell bX0.out (by show B51 < B98 ∨ (B98 + 1) ≤ B51; omega))
          replace bX1 := Lib.hid (XX.cell bX1.out (by show B51 < B98 ∨ (B98 + 1) ≤ B51; omega))
          replace bY0 := Lib.hid (XX.cell bY0.out (by show B55 < B98 ∨ (B98 + 1) ≤ B55; omega))
          replace bY1 := Lib.hid (XX.cell bY1.out (by show B55 < B98 ∨ (B98 + 1) ≤ B55; omega))
          replace bY2 := Lib.hid (XX.cell bY2.out (by show B55 < B98 ∨ (B98 + 1) ≤ B55; omega))
          replace bV0 := Lib.hid (XX.cell bV0.out (by show B59 < B98 ∨ (B98 + 1) ≤ B59; omega))
          replace bV1 := Lib.hid (XX.cell bV1.out (by show B59 < B98 ∨ (B98 + 1) ≤ B59; omega))
          replace bV2 := Lib.hid (XX.cell bV2.out (by show B59 < B98 ∨ (B98 + 1) ≤ B59; omega))
          replace bG0 := Lib.hid (XX.cell bG0.out (by show B63 < B98 ∨ (B98 + 1) ≤ B63; omega))
          replace bG1 := Lib.hid (XX.cell bG1.out (by show B63 < B98 ∨ (B98 + 1) ≤ B63; omega))
          replace bG2 := Lib.hid (XX.cell bG2.out (by show B63 < B98 ∨ (B98 + 1) ≤ B63; omega))
          replace OW1 := Lib.hid (XX.ownR OW1.out (by omega))
          replace OW2 := Lib.hid (XX.ownR OW2.out (by omega))
          replace OW3 := Lib.hid (XX.ownR OW3.out (by omega))
          replace OG1 := Lib.hid (XX.ownR OG1.out (by omega))
          replace OG2 := Lib.hid (XX.ownR OG2.out (by omega))
          replace OG3 := Lib.hid (XX.ownR OG3.out (by omega))
          replace OH1 := Lib.hid (XX.ownR OH1.out (by omega))
          replace OH2 := Lib.hid (XX.ownR OH2.out (by omega))
          replace OH3 := Lib.hid (XX.ownR OH3.out (by omega))
          replace HZ := Lib.hid (Nat.le_trans HZ.out XX.size)
          clear XX
          have bH0 := Lib.hid TZ.out.c0
          have bH1 := Lib.hid TZ.out.c1
          have bH2 := Lib.hid TZ.out.c2
          clear TZ
          refine stepsI_one (i := 12) (HJ.out _ c00.out c01.out c10.out c11.out c12.out c20.out c21.out c22.out) (by kernel_rfl) ?_
          refine op_value (v := ?_) (w' := v105) (some 19) rfl rfl rfl ?_ ?_
          rotate_left
          · go_simp; rfl
          simp only [Act.put, List.setIfInBounds_toArray]
          refine stepsI_end (HJ.out _ c00.out c01.out c10.out c11.out c12.out c20.out c21.out c22.out) (by kernel_rfl) ?_
          refine ⟨rfl, gB0, gB11, gB12, gB13, gB21, gB22, gB23, aH1, cH1, aH2, cH2, aH3, cH3, Hl1, Hh1, Hl2, Hh2, Hl3, Hh3, B98, Z104, ?_, ?_, HZ, X9, OH1, OH2, OH3, bH0, bH1, bH2⟩
          · first | rfl | (simp only [Act.put, List.setIfInBounds_toArray, List.set_cons_zero, List.set_cons_succ]) | (simp only [Act.put])
          · omega
      · skip
        refine op_value (v := .pointer (some ⟨v0H.heap.size, 0, none⟩)) (w' := v0H.alloc (.cells #[.slice none 0 0, .slice none 0 0, .slice none 0 0] 38)) (some 18) rfl rfl rfl (by go_simp) ?_
        simp only [Act.put, List.setIfInBounds_toArray, List.set_cons_zero, List.set_cons_succ]
        obtain ⟨B107, hB107⟩ : ∃ z, z = v0H.heap.size := ⟨_, rfl⟩
        obtain ⟨v106, hv106⟩ : ∃ z, z = v0H.alloc (.cells #[.slice none 0 0, .slice none 0 0, .slice none 0 0] 38) := ⟨_, rfl⟩
        have TT9 := Lib.hid (show TrAt v106 B107 (.slice none 0 0) (.slice none 0 0) (.slice none 0 0) by rw [hv106, hB107]; exact trAt_new v0H (.slice none 0 0) (.slice none 0 0) (.slice none 0 0) 38)
        have gg : Ext v0H v106 := by rw [hv106]; exact ext_alloc _ _
        have hrbH : ZSH ≤ B107 := by rw [hB107]; exact HZ.out
        have hz9 : B107 + 1 ≤ v106.heap.size := by rw [hv106, hB107]; simp
        rw [← hv106, ← hB107]
        clear hv106 hB107
        replace X9 := Lib.hid (X9.out.trans gg)
        replace E := Lib.hid (E.out.trans gg)
        replace c00 := Lib.hid (gg.cell c00.out)
        replace c01 := Lib.hid (gg.cell c01.out)
        replace c10 := Lib.hid (gg.cell c10.out)
        replace c11 := Lib.hid (gg.cell c11.out)
        replace c12 := Lib.hid (gg.cell c12.out)
        replace c20 := Lib.hid (gg.cell c20.out)
        replace c21 := Lib.hid (gg.cell c21.out)
        replace c22 := Lib.hid (gg.cell c22.out)
        replace bW0 := Lib.hid (gg.cell bW0.out)
        replace bW1 := Lib.hid (gg.cell bW1.out)
        replace bW2 := Lib.hid (gg.cell bW2.out)
        replace bX0 := Lib.hid (gg.cell bX0.out)
        replace bX1 := Lib.hid (gg.cell bX1.out)
        replace bY0 := Lib.hid (gg.cell bY0.out)
        replace bY1 := Lib.hid (gg.cell bY1.out)
        replace bY2 := Lib.hid (gg.cell bY2.out)
        replace bV0 := Lib.hid (gg.cell bV0.out)
        replace bV1 := Lib.hid (gg.cell bV1.out)
        replace bV2 := Lib.hid (gg.cell bV2.out)
        replace bG0 := Lib.hid (gg.cell bG0.out)
        replace bG1 := Lib.hid (gg.cell bG1.out)
        replace bG2 := Lib.hid (gg.cell bG2.out)
        replace OW1 := Lib.hid (OW1.out.ext gg)
        replace OW2 := Lib.hid (OW2.out.ext gg)
        replace OW3 := Lib.hid (OW3.out.ext gg)
        replace OG1 := Lib.hid (OG1.out.ext gg)
        replace OG2 := Lib.hid (OG2.out.ext gg)
        replace OG3 := Lib.hid (OG3.out.ext gg)
        replace HZ := Lib.hid (Nat.le_trans HZ.out gg.size')
        have TT := TT9
        clear TT9
        replace HZ := Lib.hid hz9
        clear gg hz9
        refine stepsI_one (i := 1) (HJ.out _ c00.out c01.out c10.out c11.out c12.out c20.out c21.out c22.out) (by kernel_rfl) ?_
        refine op_call (f := ?_) (args := ?_) (R := fun v w' => ∃ g, v = .agg #[.int .i64 p, .slice (some ⟨g, 0, none⟩) d d] ∧ OwnC v106.heap.size w' (some ⟨g, 0, none⟩) d d qs ∧ Ext v106 w') (some 117) rfl rfl rfl ?_ ?_ ?_
        rotate_left 2
        · go_simp; refine ⟨?_, ?_⟩ <;> rfl
        · refine Calls.mono (l_toDoubling p a d cap qs v106 (by omega) (HQ0.out.ext E.out)) ?_
          rintro e w9 ⟨g9, rfl, ho9, g8⟩
          exact ⟨_, rfl, g9, rfl, ho9, g8⟩
        rintro v v108 ⟨gB0, rfl, ho, gg⟩
        simp only [Act.put, List.setIfInBounds_toArray, List.set_cons_zero, List.set_cons_succ]
        have hb9 := ho.base_of gB0 rfl
        have hz9 := HZ.out
        obtain ⟨Z109, hZ109⟩ : ∃ z, z = v108.heap.size := ⟨_, rfl⟩
        have hrB0 : (B107 + 1) ≤ gB0 ∧ gB0 < Z109 := by omega
        have OB0 := Lib.hid ho
        clear hb9 hz9 ho
        replace TT := Lib.hid (TT.out.ext gg)
        replace X9 := Lib.hid (X9.out.trans gg)
        replace E := Lib.hid (E.out.trans gg)
        replace c00 := Lib.hid (gg.cell c00.out)
        replace c01 := Lib.hid (gg.cell c01.out)
        replace c10 := Lib.hid (gg.cell c10.out)
        replace c11 := Lib.hid (gg.cell c11.out)
        replace c12 := Lib.hid (gg.cell c12.out)
        replace c20 := Lib.hid (gg.cell c20.out)
        replace c21 := Lib.hid (gg.cell c21.out)
        replace c22 := Lib.hid (gg.cell c22.out)
        replace bW0 := Lib.hid (gg.cell bW0.out)
        replace bW1 := Lib.hid (gg.cell bW1.out)
        replace bW2 := Lib.hid (gg.cell bW2.out)
        replace bX0 := Lib.hid (gg.cell bX0.out)
        replace bX1 := Lib.hid (gg.cell bX1.out)
        replace bY0 := Lib.hid (gg.cell bY0.out)
        replace bY1 := Lib.hid (gg.cell bY1.out)
        replace bY2 := Lib.hid (gg.cell bY2.out)
        replace bV0 := Lib.hid (gg.cell bV0.out)
        replace bV1 := Lib.hid (gg.cell bV1.out)
        replace bV2 := Lib.hid (gg.cell bV2.out)
        replace bG0 := Lib.hid (gg.cell bG0.out)
        replace bG1 := Lib.hid (gg.cell bG1.out)
        replace bG2 := Lib.hid (gg.cell bG2.out)
        replace OW1 := Lib.hid (OW1.out.ext gg)
        replace OW2 := Lib.hid (OW2.out.ext gg)
        replace OW3 := Lib.hid (OW3.out.ext gg)
        replace OG1 := Lib.hid (OG1.out.ext gg)
        replace OG2 := Lib.hid (OG2.out.ext gg)
        replace OG3 := Lib.hid (OG3.out.ext gg)
        replace HZ := Lib.hid (Nat.le_trans HZ.out gg.size')
        replace HZ : Hid (Z109 ≤ v108.heap.size) := Lib.hid (Nat.le_of_eq hZ109)
        clear gg hZ109
        refine stepsI_one (i := 3) (HJ.out _ c00.out c01.out c10.out c11.out c12.out c20.out c21.out c22.out) (by kernel_rfl) ?_
        refine op_call (f := ?_) (args := ?_) (R := fun v w' => Trip3 v108.heap.size w' n1x1 n1x2 n1x3 T1x1 T1x2 T1x3 v ∧ Ext v108 w') (some 119) rfl rfl rfl ?_ ?_ ?_
        rotate_left 2
        · go_simp; refine ⟨?_, ?_⟩ <;> rfl
        · refine Calls.mono (l_toTriple a1x1 a1x2 a1x3 n1x1 n1x2 n1x3 c1x1 c1x2 c1x3 T1x1 T1x2 T1x3 v108 (by omega) (by omega) (by omega) HL1x1.out HL1x2.out HL1x3.out (HX1x1.out.ext E.out) (HX1x2.out.ext E.out) (HX1x3.out.ext E.out)) ?_
          rintro e w9 ⟨V9, rfl, hT8, g8⟩
          exact ⟨_, rfl, hT8, g8⟩
        rintro v v110 ⟨hT9, gg⟩
        obtain ⟨gB11, gB12, gB13, B1l1, B1h1, B1l2, B1h2, B1l3, B1h3, rfl, q1, q2, q3, q4, q5, q6, q7, o1, o2, o3⟩ := hT9
        have hz9 := HZ.out
        obtain ⟨Z111, hZ111⟩ : ∃ z, z = v110.heap.size := ⟨_, rfl⟩
        have hrB1 : Z109 ≤ B1l1 ∧ B1l1 ≤ B1h1 ∧ B1h1 ≤ B1l2 ∧ B1l2 ≤ B1h2 ∧ B1h2 ≤ B1l3 ∧ B1l3 ≤ B1h3 ∧ B1h3 ≤ Z111 := by omega
        have OB11 := Lib.hid o1
        have OB12 := Lib.hid o2
        have OB13 := Lib.hid o3
        clear hz9 o1 o2 o3 q1 q2 q3 q4 q5 q6 q7
        replace TT := Lib.hid (TT.out.ext gg)
        replace X9 := Lib.hid (X9.out.trans gg)
        replace E := Lib.hid (E.out.trans gg)
        replace c00 := Lib.hid (gg.cell c00.out)
        replace c01 := Lib.hid (gg.cell c01.out)
        replace c10 := Lib.hid (gg.cell c10.out)
        replace c11 := Lib.hid (gg.cell c11.out)
        replace c12 := Lib.hid (gg.cell c12.out)
        replace c20 := Lib.hid (gg.cell c20.out)
        replace c21 := Lib.hid (gg.cell c21.out)
        replace c22 := Lib.hid (gg.cell c22.out)
        replace bW0 := Lib.hid (gg.cell bW0.out)
        replace bW1 := Lib.hid (gg.cell bW1.out)
        replace bW2 := Lib.hid (gg.cell bW2.out)
        replace bX0 := Lib.hid (gg.cell bX0.out)
        replace bX1 := Lib.hid (gg.cell bX1.out)
        replace bY0 := Lib.hid (gg.cell bY0.out)
        replace bY1 := Lib.hid (gg.cell bY1.out)
        replace bY2 := Lib.hid (gg.cell bY2.out)
        replace bV0 := Lib.hid (gg.cell bV0.out)
        replace bV1 := Lib.hid (gg.cell bV1.out)
        replace bV2 := Lib.hid (gg.cell bV2.out)
        replace bG0 := Lib.hid (gg.cell bG0.out)
        replace bG1 := Lib.hid (gg.cell bG1.out)
        replace bG2 := Lib.hid (gg.cell bG2.out)
        replace OW1 := Lib.hid (OW1.out.ext gg)
        replace OW2 := Lib.hid (OW2.out.ext gg)
        replace OW3 := Lib.hid (OW3.out.ext gg)
        replace OG1 := Lib.hid (OG1.out.ext gg)
        replace OG2 := Lib.hid (OG2.out.ext gg)
        replace OG3 := Lib.hid (OG3.out.ext gg)
        replace OB0 := Lib.hid (OB0.out.ext gg)
        replace HZ := Lib.hid (Nat.le_trans HZ.out gg.size')
        replace HZ : Hid (Z111 ≤ v110.heap.size) := Lib.hid (Nat.le_of_eq hZ111)
        clear gg hZ111
        simp only [Act.put, List.setIfInBounds_toArray, List.set_cons_zero, List.set_cons_succ]
        refine stepsI_one (i := 5) (HJ.out _ c00.out c01.out c10.out c11.out c12.out c20.out c21.out c22.out) (by kernel_rfl) ?_
        refine op_call (f := ?_) (args := ?_) (R := fun v w' => Trip3 v110.heap.size w' n2x1 n2x2 n2x3 T2x1 T2x2 T2x3 v ∧ Ext v110 w') (some 121) rfl rfl rfl ?_ ?_ ?_
        rotate_left 2
        · go_simp; refine ⟨?_, ?_⟩ <;> rfl
        · refine Calls.mono (l_toTriple a2x1 a2x2 a2x3 n2x1 n2x2 n2x3 c2x1 c2x2 c2x3 T2x1 T2x2 T2x3 v110 (by omega) (by omega) (by omega) HL2x1.out HL2x2.out HL2x3.out (HX2x1.out.ext E.out) (HX2x2.out.ext E.out) (HX2x3.out.ext E.out)) ?_
          rintro e w9 ⟨V9, rfl, hT8, g8⟩
          exact ⟨_, rfl, hT8, g8⟩
        rintro v v112 ⟨hT9, gg⟩
        obtain ⟨gB21, gB22, gB23, B2l1, B2h1, B2l2, B2h2, B2l3, B2h3, rfl, q1, q2, q3, q4, q5, q6, q7, o1, o2, o3⟩ := hT9
        have hz9 := HZ.out
        obtain ⟨Z113, hZ113⟩ : ∃ z, z = v112.heap.size := ⟨_, rfl⟩
        have hrB2 : Z111 ≤ B2l1 ∧ B2l1 ≤ B2h1 ∧ B2h1 ≤ B2l2 ∧ B2l2 ≤ B2h2 ∧ B2h2 ≤ B2l3 ∧ B2l3 ≤ B2h3 ∧ B2h3 ≤ Z113 := by omega
        have OB21 := Lib.hid o1
        have OB22 := Lib.hid o2
        have OB23 := Lib.hid o3
        clear hz9 o1 o2 o3 q1 q2 q3 q4 q5 q6 q7
        replace TT := Lib.hid (TT.out.ext gg)
        replace X9 := Lib.hid (X9.out.trans gg)
        replace E := Lib.hid (E.out.trans gg)
        replace c00 := Lib.hid (gg.cell c00.out)
        replace c01 := Lib.hid (gg.cell c01.out)
        replace c10 := Lib.hid (gg.cell c10.out)
        replace c11 := Lib.hid (gg.cell c11.out)
        replace c12 := Lib.hid (gg.cell c12.out)
        replace c20 := Lib.hid (gg.cell c20.out)
        replace c21 := Lib.hid (gg.cell c21.out)
        replace c22 := Lib.hid (gg.cell c22.out)
        replace bW0 := Lib.hid (gg.cell bW0.out)
        replace bW1 := Lib.hid (gg.cell bW1.out)
        replace bW2 := Lib.hid (gg.cell bW2.out)
        replace bX0 := Lib.hid (gg.cell bX0.out)
        replace bX1 := Lib.hid (gg.cell bX1.out)
        replace bY0 := Lib.hid (gg.cell bY0.out)
        replace bY1 := Lib.hid (gg.cell bY1.out)
        replace bY2 := Lib.hid (gg.cell bY2.out)
        replace bV0 := Lib.hid (gg.cell bV0.out)
        replace bV1 := Lib.hid (gg.cell bV1.out)
        replace bV2 := Lib.hid (gg.cell bV2.out)
        replace bG0 := Lib.hid (gg.cell bG0.out)
        replace bG1 := Lib.hid (gg.cell bG1.out)
        replace bG2 := Lib.hid (gg.cell bG2.out)
        replace OW1 := Lib.hid (OW1.out.ext gg)
        replace OW2 := Lib.hid (OW2.out.ext gg)
        replace OW3 := Lib.hid (OW3.out.ext gg)
        replace OG1 := Lib.hid (OG1.out.ext gg)
        replace OG2 := Lib.hid (OG2.out.ext gg)
        replace OG3 := Lib.hid (OG3.out.ext gg)
        replace OB0 := Lib.hid (OB0.out.ext gg)
        replace OB11 := Lib.hid (OB11.out.ext gg)
        replace OB12 := Lib.hid (OB12.out.ext gg)
        replace OB13 := Lib.hid (OB13.out.ext gg)
        replace HZ := Lib.hid (Nat.le_trans HZ.out gg.size')
        replace HZ : Hid (Z113 ≤ v112.heap.size) := Lib.hid (Nat.le_of_eq hZ113)
        clear gg hZ113
        simp only [Act.put, List.setIfInBounds_toArray, List.set_cons_zero, List.set_cons_succ]
        refine stepsI_one (i := 6) (HJ.out _ c00.out c01.out c10.out c11.out c12.out c20.out c21.out c22.out) (by kernel_rfl) ?_
        refine op_call (f := ?_) (args := ?_) (R := fun v w' => ∃ V, v = .tuple #[V, .int .i64 c] ∧ Trip v112.heap.size w' rn yA yB yC V ∧ Ext v112 w') (some 122) rfl rfl rfl ?_ ?_ ?_
        rotate_left 2
        · go_simp; refine ⟨?_, ?_⟩ <;> rfl
        · refine Calls.mono (Hi.out (some ⟨gB0, 0, none⟩) (some ⟨gB11, 0, none⟩) (some ⟨gB12, 0, none⟩) (some ⟨gB13, 0, none⟩) (some ⟨gB21, 0, none⟩) (some ⟨gB22, 0, none⟩) (some ⟨gB23, 0, none⟩) v112 OB0.out.rd OB11.out.low.rd OB12.out.low.rd OB13.out.low.rd OB21.out.low.rd OB22.out.low.rd OB23.out.low.rd) ?_
          rintro e w9 ⟨V9, rfl, hT8, g8⟩
          exact ⟨_, rfl, V9, rfl, hT8, g8⟩
        rintro v v114 ⟨V9, rfl, hT9, gg⟩
        obtain ⟨aH1, cH1, aH2, cH2, aH3, cH3, Hl1, Hh1, Hl2, Hh2, Hl3, Hh3, rfl, q1, q2, q3, q4, q5, q6, q7, o1, o2, o3⟩ := hT9
        have hz9 := HZ.out
        obtain ⟨Z115, hZ115⟩ : ∃ z, z = v114.heap.size := ⟨_, rfl⟩
        have hrH : Z113 ≤ Hl1 ∧ Hl1 ≤ Hh1 ∧ Hh1 ≤ Hl2 ∧ Hl2 ≤ Hh2 ∧ Hh2 ≤ Hl3 ∧ Hl3 ≤ Hh3 ∧ Hh3 ≤ Z115 := by omega
        have OH1 := Lib.hid o1
        have OH2 := Lib.hid o2
        have OH3 := Lib.hid o3
        clear hz9 o1 o2 o3 q1 q2 q3 q4 q5 q6 q7
        replace TT := Lib.hid (TT.out.ext gg)
        replace X9 := Lib.hid (X9.out.trans gg)
        replace E := Lib.hid (E.out.trans gg)
        replace c00 := Lib.hid (gg.cell c00.out)
        replace c01 := Lib.hid (gg.cell c01.out)
        replace c10 := Lib.hid (gg.cell c10.out)
        replace c11 := Lib.hid (gg.cell c11.out)
        replace c12 := Lib.hid (gg.cell c12.out)
        replace c20 := Lib.hid (gg.cell c20.out)
        replace c21 := Lib.hid (gg.cell c21.out)
        replace c22 := Lib.hid (gg.cell c22.out)
        replace bW0 := Lib.hid (gg.cell bW0.out)
        replace bW1 := Lib.hid (gg.cell bW1.out)
        replace bW2 := Lib.hid (gg.cell bW2.out)
        replace bX0 := Lib.hid (gg.cell bX0.out)
        replace bX1 := Lib.hid (gg.cell bX1.out)
        replace bY0 := Lib.hid (gg.cell bY0.out)
        replace bY1 := Lib.hid (gg.cell bY1.out)
        replace bY2 := Lib.hid (gg.cell bY2.out)
        replace bV0 := Lib.hid (gg.cell bV0.out)
        replace bV1 := Lib.hid (gg.cell bV1.out)
        replace bV2 := Lib.hid (gg.cell bV2.out)
        replace bG0 := Lib.hid (gg.cell bG0.out)
        replace bG1 := Lib.hid (gg.cell bG1.out)
        replace bG2 := Lib.hid (gg.cell bG2.out)
        replace OW1 := Lib.hid (OW1.out.ext gg)
        replace OW2 := Lib.hid (OW2.out.ext gg)
        replace OW3 := Lib.hid (OW3.out.ext gg)
        replace OG1 := Lib.hid (OG1.out.ext gg)
        replace OG2 := Lib.hid (OG2.out.ext gg)
        replace OG3 := Lib.hid (OG3.out.ext gg)
        replace OB0 := Lib.hid (OB0.out.ext gg)
        replace OB11 := Lib.hid (OB11.out.ext gg)
        replace OB12 := Lib.hid (OB12.out.ext gg)
        replace OB13 := Lib.hid (OB13.out.ext gg)
        replace OB21 := Lib.hid (OB21.out.ext gg)
        replace OB22 := Lib.hid (OB22.out.ext gg)
        replace OB23 := Lib.hid (OB23.out.ext gg)
        replace HZ := Lib.hid (Nat.le_trans HZ.out gg.size')
        replace HZ : Hid (Z115 ≤ v114.heap.size) := Lib.hid (Nat.le_of_eq hZ115)
        clear gg hZ115
        simp only [Act.put, List.setIfInBounds_toArray, List.set_cons_zero, List.set_cons_succ]
        clear OB0
        clear OB11 OB12 OB13
        clear OB21 OB22 OB23
        refine stepsI_float (i := 7) (v := ?_) (some 115) (by kernel_rfl) rfl rfl rfl (fun w' hI => ?_) ?_
        rotate_left
        · go_simp; rfl
        simp only [Act.put, List.setIfInBounds_toArray, List.set_cons_zero, List.set_cons_succ]
        refine stepsI_float (i := 8) (v := ?_) (some 123) (by kernel_rfl) rfl rfl rfl (fun w' hI => ?_) ?_
        rotate_left
        · go_simp; rfl
        simp only [Act.put, List.setIfInBounds_toArray, List.set_cons_zero, List.set_cons_succ]
        refine stepsI_float (i := 9) (v := ?_) (some 124) (by kernel_rfl) rfl rfl rfl (fun w' hI => ?_) ?_
        rotate_left
        · go_simp; rfl
        simp only [Act.put, List.setIfInBounds_toArray, List.set_cons_zero, List.set_cons_succ]
        refine stepsI_one (i := 11) (HJ.out _ c00.out c01.out c10.out c11.out c12.out c20.out c21.out c22.out) (by kernel_rfl) ?_
        have q0 := TT.out.c0
        have q1 := TT.out.c1
        have q2 := TT.out.c2
        have q3 := TT.out.f0
        have q4 := TT.out.f1
        have q5 := TT.out.f2
        obtain ⟨v116, hv116⟩ : ∃ z, z = (((v114.setCell ⟨B107, 0, none⟩ (.slice aH1 rn cH1)).setCell ⟨B107, 1, none⟩ (.slice aH2 rn cH2)).setCell ⟨B107, 2, none⟩ (.slice aH3 rn cH3)) := ⟨_, rfl⟩
        refine op_skip (w' := v116) rfl rfl (by rw [hv116]; go_simp) ?_
        simp only [Act.put]
        clear q0 q1 q2 q3 q4 q5
        have XX : WroteIn B107 (B107 + 1) v114 v116 := by rw [hv116]; exact WroteIn.set3
        have TZ := Lib.hid (show TrAt v116 B107 (.slice aH1 rn cH1) (.slice aH2 rn cH2) (.slice aH3 rn cH3) by rw [hv116]; exact TT.out.set3)
        clear hv116 TT
        replace X9 := Lib.hid (XX.ext X9.out (by rw [← HZS.out]; omega))
        replace E := Lib.hid (XX.ext E.out (by omega))
        replace c00 := Lib.hid (XX.cell c00.out (by show O < B107 ∨ (B107 + 1) ≤ O; omega))
        replace c01 := Lib.hid (XX.cell c01.out (by show O < B107 ∨ (B107 + 1) ≤ O; omega))
        replace c10 := Lib.hid (XX.cell c10.out (by show (O + 1) < B107 ∨ (B107 + 1) ≤ (O + 1); omega))
        replace c11 := Lib.hid (XX.cell c11.out (by show (O + 1) < B107 ∨ (B107 + 1) ≤ (O + 1); omega))
        replace c12 := Lib.hid (XX.cell c12.out (by show (O + 1) < B107 ∨ (B107 + 1) ≤ (O + 1); omega))
        replace c20 := Lib.hid (XX.cell c20.out (by show (O + 1 + 1) < B107 ∨ (B107 + 1) ≤ (O + 1 + 1); omega))
        replace c21 := Lib.hid (XX.cell c21.out (by show (O + 1 + 1) < B107 ∨ (B107 + 1) ≤ (O + 1 + 1); omega))
        replace c22 := Lib.hid (XX.cell c22.out (by show (O + 1 + 1) < B107 ∨ (B107 + 1) ≤ (O + 1 + 1); omega))
        replace bW0 := Lib.hid (XX.cell bW0.out (by show BbW < B107 ∨ (B107 + 1) ≤ BbW; omega))
        replace bW1 := Lib.hid (XX.cell bW1.out (by show BbW < B107 ∨ (B107 + 1) ≤ BbW; omega))
        replace bW2 := Lib.hid (XX.cell bW2.out (by show BbW < B107 ∨ (B107 + 1) ≤ BbW; omega))
        replace bX0 := Lib.hid (XX.cell bX0.out (by show B51 < B107 ∨ (B107 + 1) ≤ B51; omega))
        replace bX1 := Lib.hid (XX.cell bX1.out (by show B51 < B107 ∨ (B107 + 1) ≤ B51; omega))
        replace bY0 := Lib.hid (XX.cell bY0.out (by show B55 < B107 ∨ (B107 + 1) ≤ B55; omega))
        replace bY1 := Lib.hid (XX.cell bY1.out (by show B55 < B107 ∨ (B107 + 1) ≤ B55; omega))
        replace bY2 := Lib.hid (XX.cell bY2.out (by show B55 < B107 ∨ (B107 + 1) ≤ B55; omega))
        replace bV0 := Lib.hid (XX.cell bV0.out (by show B59 < B107 ∨ (B107 + 1) ≤ B59; omega))
        replace bV1 := Lib.hid (XX.cell bV1.out (by show B59 < B107 ∨ (B107 + 1) ≤ B59; omega))
        replace bV2 := Lib.hid (XX.cell bV2.out (by show B59 < B107 ∨ (B107 + 1) ≤ B59; omega))
        replace bG0 := Lib.hid (XX.cell bG0.out (by show B63 < B107 ∨ (B107 + 1) ≤ B63; omega))
        replace bG1 := Lib.hid (XX.cell bG1.out (by show B63 < B107 ∨ (B107 + 1) ≤ B63; omega))
        replace bG2 := Lib.hid (XX.cell bG2.out (by show B63 < B107 ∨ (B107 + 1) ≤ B63; omega))
        replace OW1 := Lib.hid (XX.ownR OW1.out (by omega))
        replace OW2 := Lib.hid (XX.ownR OW2.out (by omega))
        replace OW3 := Lib.hid (XX.ownR OW3.out (by omega))
        replace OG1 := Lib.hid (XX.ownR OG1.out (by omega))
        replace OG2 := Lib.hid (XX.ownR OG2.out (by omega))
        replace OG3 := Lib.hid (XX.ownR OG3.out (by omega))
        replace OH1 := Lib.hid (XX.ownR OH1.out (by omega))
        replace OH2 := Lib.hid (XX.ownR OH2.out (by omega))
        replace OH3 := Lib.hid (XX.ownR OH3.out (by omega))
        replace HZ := Lib.hid (Nat.le_trans HZ.out XX.size)
        clear XX
        have bH0 := Lib.hid TZ.out.c0
        have bH1 := Lib.hid TZ.out.c1
        have bH2 := Lib.hid TZ.out.c2
        clear TZ
        refine stepsI_one (i := 12) (HJ.out _ c00.out c01.out c10.out c11.out c12.out c20.out c21.out c22.out) (by kernel_rfl) ?_
        refine op_value (v := ?_) (w' := v116) (some 19) rfl rfl rfl ?_ ?_
        rotate_left
        · go_simp; rfl
        simp only [Act.put, List.setIfInBounds_toArray]
        refine stepsI_end (HJ.out _ c00.out c01.out c10.out c11.out c12.out c20.out c21.out c22.out) (by kernel_rfl) ?_
        refine ⟨rfl, gB0, gB11, gB12, gB13, gB21, gB22, gB23, aH1, cH1, aH2, cH2, aH3, cH3, Hl1, Hh1, Hl2, Hh2, Hl3, Hh3, B107, Z115, ?_, ?_, HZ, X9, OH1, OH2, OH3, bH0, bH1, bH2⟩
        · first | rfl | (simp only [Act.put, List.setIfInBounds_toArray, List.set_cons_zero, List.set_cons_succ]) | (simp only [Act.put])
        · omega
    · skip
      clear X9 HV0 HJ HJ2
      rintro a9 v117 ⟨gB0, gB11, gB12, gB13, gB21, gB22, gB23, aH1, cH1, aH2, cH2, aH3, cH3, Hl1, Hh1, Hl2, Hh2, Hl3, Hh3, BbH, ZnbH, rfl, hnH, HZ9, GG9, OH1, OH2, OH3, bH0, bH1, bH2⟩
      simp only [Act.put, List.setIfInBounds_toArray, List.set_cons_zero, List.set_cons_succ]
      replace E := Lib.hid (E.out.trans GG9.out)
      replace c00 := Lib.hid (GG9.out.cell c00.out)
      replace c01 := Lib.hid (GG9.out.cell c01.out)
      replace c10 := Lib.hid (GG9.out.cell c10.out)
      replace c11 := Lib.hid (GG9.out.cell c11.out)
      replace c12 := Lib.hid (GG9.out.cell c12.out)
      replace c20 := Lib.hid (GG9.out.cell c20.out)
      replace c21 := Lib.hid (GG9.out.cell c21.out)
      replace c22 := Lib.hid (GG9.out.cell c22.out)
      replace bW0 := Lib.hid (GG9.out.cell bW0.out)
      replace bW1 := Lib.hid (GG9.out.cell bW1.out)
      replace bW2 := Lib.hid (GG9.out.cell bW2.out)
      replace bX0 := Lib.hid (GG9.out.cell bX0.out)
      replace bX1 := Lib.hid (GG9.out.cell bX1.out)
      replace bY0 := Lib.hid (GG9.out.cell bY0.out)
      replace bY1 := Lib.hid (GG9.out.cell bY1.out)
      replace bY2 := Lib.hid (GG9.out.cell bY2.out)
      replace bV0 := Lib.hid (GG9.out.cell bV0.out)
      replace bV1 := Lib.hid (GG9.out.cell bV1.out)
      replace bV2 := Lib.hid (GG9.out.cell bV2.out)
      replace bG0 := Lib.hid (GG9.out.cell bG0.out)
      replace bG1 := Lib.hid (GG9.out.cell bG1.out)
      replace bG2 := Lib.hid (GG9.out.cell bG2.out)
      replace OW1 := Lib.hid (OW1.out.ext GG9.out)
      replace OW2 := Lib.hid (OW2.out.ext GG9.out)
      replace OW3 := Lib.hid (OW3.out.ext GG9.out)
      replace OG1 := Lib.hid (OG1.out.ext GG9.out)
      replace OG2 := Lib.hid (OG2.out.ext GG9.out)
      replace OG3 := Lib.hid (OG3.out.ext GG9.out)
      replace HZ := Lib.hid (Nat.le_trans HZ.out GG9.out.size')
      clear HZ GG9 HZS
      have HZ := HZ9
      clear HZ9
      have hbH0 := bH0.out
      have hbH1 := bH1.out
      have hbH2 := bH2.out
      have hbW0 := bW0.out
      have hbW1 := bW1.out
      have hbW2 := bW2.out
      go_wp2_with (fail)
      clear hbH0 hbH1 hbH2 hbW0 hbW1 hbW2
      refine (l_eqTriple aH1 aH2 aH3 aW1 aW2 aW3 rn rn rn cH1 cH2 cH3 cW1 cW2 cW3 yA yB yC v117 (by omega) (by omega) (by omega) HLA.out HLB.out HLC.out OH1.out.low.rd OH2.out.low.rd OH3.out.low.rd OW1.out.low.rd OW2.out.low.rd OW3.out.low.rd).mono ?_
      rintro e v118 ⟨rfl, gg⟩
      replace E := Lib.hid (E.out.trans gg)
      replace c00 := Lib.hid (gg.cell c00.out)
      replace c01 := Lib.hid (gg.cell c01.out)
      replace c10 := Lib.hid (gg.cell c10.out)
      replace c11 := Lib.hid (gg.cell c11.out)
      replace c12 := Lib.hid (gg.cell c12.out)
      replace c20 := Lib.hid (gg.cell c20.out)
      replace c21 := Lib.hid (gg.cell c21.out)
      replace c22 := Lib.hid (gg.cell c22.out)
      replace bW0 := Lib.hid (gg.cell bW0.out)
      replace bW1 := Lib.hid (gg.cell bW1.out)
      replace bW2 := Lib.hid (gg.cell bW2.out)
      replace bX0 := Lib.hid (gg.cell bX0.out)
      replace bX1 := Lib.hid (gg.cell bX1.out)
      replace bY0 := Lib.hid (gg.cell bY0.out)
      replace bY1 := Lib.hid (gg.cell bY1.out)
      replace bY2 := Lib.hid (gg.cell bY2.out)
      replace bV0 := Lib.hid (gg.cell bV0.out)
      replace bV1 := Lib.hid (gg.cell bV1.out)
      replace bV2 := Lib.hid (gg.cell bV2.out)
      replace bG0 := Lib.hid (gg.cell bG0.out)
      replace bG1 := Lib.hid (gg.cell bG1.out)
      replace bG2 := Lib.hid (gg.cell bG2.out)
      replace bH0 := Lib.hid (gg.cell bH0.out)
      replace bH1 := Lib.hid (gg.cell bH1.out)
      replace bH2 := Lib.hid (gg.cell bH2.out)
      replace OW1 := Lib.hid (OW1.out.ext gg)
      replace OW2 := Lib.hid (OW2.out.ext gg)
      replace OW3 := Lib.hid (OW3.out.ext gg)
      replace OG1 := Lib.hid (OG1.out.ext gg)
      replace OG2 := Lib.hid (OG2.out.ext gg)
      replace OG3 := Lib.hid (OG3.out.ext gg)
      replace OH1 := Lib.hid (OH1.out.ext gg)
      replace OH2 := Lib.hid (OH2.out.ext gg)
      replace OH3 := Lib.hid (OH3.out.ext gg)
      replace HZ := Lib.hid (Nat.le_trans HZ.out gg.size')
      clear gg
      have hbG0 := bG0.out
      have hbG1 := bG1.out
      have hbG2 := bG2.out
      go_wp2_with (fail)
      clear hbG0 hbG1 hbG2
      refine (l_heldTriple aG1 aG2 aG3 rn rn rn cG1 cG2 cG3 yA yB yC 1 v118 (by omega) (by omega) (by omega) (by omega) (by omega) (by omega) (by omega) (by omega) OG1.out.low.rd OG2.out.low.rd OG3.out.low.rd).mono ?_
      rintro e v119 ⟨rfl, gg⟩
      rw [← HTK.out]
      replace E := Lib.hid (E.out.trans gg)
      replace c00 := Lib.hid (gg.cell c00.out)
      replace c01 := Lib.hid (gg.cell c01.out)
      replace c10 := Lib.hid (gg.cell c10.out)
      replace c11 := Lib.hid (gg.cell c11.out)
      replace c12 := Lib.hid (gg.cell c12.out)
      replace c20 := Lib.hid (gg.cell c20.out)
      replace c21 := Lib.hid (gg.cell c21.out)
      replace c22 := Lib.hid (gg.cell c22.out)
      replace bW0 := Lib.hid (gg.cell bW0.out)
      replace bW1 := Lib.hid (gg.cell bW1.out)
      replace bW2 := Lib.hid (gg.cell bW2.out)
      replace bX0 := Lib.hid (gg.cell bX0.out)
      replace bX1 := Lib.hid (gg.cell bX1.out)
      replace bY0 := Lib.hid (gg.cell bY0.out)
      replace bY1 := Lib.hid (gg.cell bY1.out)
      replace bY2 := Lib.hid (gg.cell bY2.out)
      replace bV0 := Lib.hid (gg.cell bV0.out)
      replace bV1 := Lib.hid (gg.cell bV1.out)
      replace bV2 := Lib.hid (gg.cell bV2.out)
      replace bG0 := Lib.hid (gg.cell bG0.out)
      replace bG1 := Lib.hid (gg.cell bG1.out)
      replace bG2 := Lib.hid (gg.cell bG2.out)
      replace bH0 := Lib.hid (gg.cell bH0.out)
      replace bH1 := Lib.hid (gg.cell bH1.out)
      replace bH2 := Lib.hid (gg.cell bH2.out)
      replace OW1 := Lib.hid (OW1.out.ext gg)
      replace OW2 := Lib.hid (OW2.out.ext gg)
      replace OW3 := Lib.hid (OW3.out.ext gg)
      replace OG1 := Lib.hid (OG1.out.ext gg)
      replace OG2 := Lib.hid (OG2.out.ext gg)
      replace OG3 := Lib.hid (OG3.out.ext gg)
      replace OH1 := Lib.hid (OH1.out.ext gg)
      replace OH2 := Lib.hid (OH2.out.ext gg)
      replace OH3 := Lib.hid (OH3.out.ext gg)
      replace HZ := Lib.hid (Nat.le_trans HZ.out gg.size')
      clear gg
      go_wp2_with (fail)
      go_ret
      exact ⟨rfl, E.out⟩

theorem bk_cnt {p : Int} {A B : List (List Int)} {d : Nat} (hp : 1 ≤ p) (hd : d ≤ 6) : cntR (brkM p A B (2 ^ d)) (2 ^ d) ≤ 1048576 := (brk_cnt hp hd).2
theorem law_ExactBracketTriple (w : World) (p : Int) (a : Option Addr) (d cap : Nat) (qs : List Int) (hq : RdC w a d qs) (hmd : d ≤ maxLen) (a1x1 : Option Addr) (n1x1 c1x1 : Nat) (T1x1 : List (List Int)) (a1x2 : Option Addr) (n1x2 c1x2 : Nat) (T1x2 : List (List Int)) (a1x3 : Option Addr) (n1x3 c1x3 : Nat) (T1x3 : List (List Int)) (hx1x1 : RdR w a1x1 n1x1 T1x1) (hm1x1 : n1x1 ≤ maxLen) (hml1x1 : ∀ r, r < n1x1 → (nthR T1x1 r).length ≤ maxLen) (hx1x2 : RdR w a1x2 n1x2 T1x2) (hm1x2 : n1x2 ≤ maxLen) (hml1x2 : ∀ r, r < n1x2 → (nthR T1x2 r).length ≤ maxLen) (hx1x3 : RdR w a1x3 n1x3 T1x3) (hm1x3 : n1x3 ≤ maxLen) (hml1x3 : ∀ r, r < n1x3 → (nthR T1x3 r).length ≤ maxLen) (a2x1 : Option Addr) (n2x1 c2x1 : Nat) (T2x1 : List (List Int)) (a2x2 : Option Addr) (n2x2 c2x2 : Nat) (T2x2 : List (List Int)) (a2x3 : Option Addr) (n2x3 c2x3 : Nat) (T2x3 : List (List Int)) (hx2x1 : RdR w a2x1 n2x1 T2x1) (hm2x1 : n2x1 ≤ maxLen) (hml2x1 : ∀ r, r < n2x1 → (nthR T2x1 r).length ≤ maxLen) (hx2x2 : RdR w a2x2 n2x2 T2x2) (hm2x2 : n2x2 ≤ maxLen) (hml2x2 : ∀ r, r < n2x2 → (nthR T2x2 r).length ≤ maxLen) (hx2x3 : RdR w a2x3 n2x3 T2x3) (hm2x3 : n2x3 ≤ maxLen) (hml2x3 : ∀ r, r < n2x3 → (nthR T2x3 r).length ≤ maxLen) :
    Calls Try.prog 5 #[.agg #[.int .i64 p, .slice a d cap], .agg #[.slice a1x1 n1x1 c1x1, .slice a1x2 n1x2 c1x2, .slice a1x3 n1x3 c1x3], .agg #[.slice a2x1 n2x1 c2x1, .slice a2x2 n2x2 c2x2, .slice a2x3 n2x3 c2x3]] w fun e w' => e = .returned (.bool true) ∧ Ext w w' := by
  by_cases hb : 1048576 < d ∨ (d ≤ 1048576 ∧ szT (1048576 - (d : Int)) T1x1 T1x2 T1x3 < 0) ∨ (d ≤ 1048576 ∧ 0 ≤ szT (1048576 - (d : Int)) T1x1 T1x2 T1x3 ∧ szT (szT (1048576 - (d : Int)) T1x1 T1x2 T1x3) T2x1 T2x2 T2x3 < 0)
  · exact w_BracketTriple_big p a d cap qs a1x1 n1x1 c1x1 T1x1 a1x2 n1x2 c1x2 T1x2 a1x3 n1x3 c1x3 T1x3 a2x1 n2x1 c2x1 T2x1 a2x2 n2x2 c2x2 T2x2 a2x3 n2x3 c2x3 T2x3 w hq hmd hx1x1 hx1x2 hx1x3 hx2x1 hx2x2 hx2x3 hm1x1 hml1x1 hm1x2 hml1x2 hm1x3 hml1x3 hm2x1 hml2x1 hm2x2 hml2x2 hm2x3 hml2x3 hb
  · have hd : d ≤ 1048576 := by omega
    have hsz1 : 0 ≤ szT (1048576 - (d : Int)) T1x1 T1x2 T1x3 := by omega
    have hsz2 : 0 ≤ szT (szT (1048576 - (d : Int)) T1x1 T1x2 T1x3) T2x1 T2x2 T2x3 := by omega
    have hle1 := szT_le hsz1
    obtain ⟨m11, m12, m13, t11, t12, t13, _⟩ := szT_bd (by omega) hsz1 hx1x1.1 hx1x2.1 hx1x3.1
    obtain ⟨m21, m22, m23, t21, t22, t23, _⟩ := szT_bd (by omega) hsz2 hx2x1.1 hx2x2.1 hx2x3.1
    have R : ∀ {M : List (List Int)} {n : Nat}, cntR M n ≤ 1048576 → ∀ j, j < n → (nthR M j).length ≤ 4194303 := fun h j hj => Nat.le_trans (cntR_row _ hj) (by omega)
    by_cases hc : code14 p qs [T1x1, T1x2, T1x3, T2x1, T2x2, T2x3] = 0
    · obtain ⟨hD, _⟩ := code15_zero hc
      obtain ⟨h1, h2⟩ := codeD_zero hD
      have hpb := prime_bd (doub_of h1).1
      rw [hq.1] at h2
      have hN : 2 ^ d ≤ 64 := pow_le64 (by omega)
      exact w_BracketTriple p a d cap qs a1x1 n1x1 c1x1 T1x1 a1x2 n1x2 c1x2 T1x2 a1x3 n1x3 c1x3 T1x3 a2x1 n2x1 c2x1 T2x1 a2x2 n2x2 c2x2 T2x2 a2x3 n2x3 c2x3 T2x3 w hd hsz1 m11 t11 m12 t12 m13 t13 hsz2 m21 t21 m22 t22 m23 t23 hq hx1x1 hx1x2 hx1x3 hx2x1 hx2x2 hx2x3 (2 ^ d) (brkM p T1x1 T2x1 (2 ^ d)) (brkM p T1x2 T2x2 (2 ^ d)) (brkM p T1x3 T2x3 (2 ^ d)) 0 (by omega) (bk_cnt (by omega) (by omega)) (bk_cnt (by omega) (by omega)) (bk_cnt (by omega) (by omega))
        (fun a a1 a2 a3 a4 a5 a6 w hq h1 h2 h3 h4 h5 h6 => s_BracketTriple_ok p a d qs a1 n1x1 T1x1 a2 n1x2 T1x2 a3 n1x3 T1x3 a4 n2x1 T2x1 a5 n2x2 T2x2 a6 n2x3 T2x3 w (by omega) (by omega) (R t11) (by omega) (R t12) (by omega) (R t13) (by omega) (R t21) (by omega) (R t22) (by omega) (R t23) hq h1 h2 h3 h4 h5 h6 hc)
        (fun a a1 a2 a3 a4 a5 a6 w hq h1 h2 h3 h4 h5 h6 => c_BracketTriple_ok p a d qs a1 n1x1 T1x1 a2 n1x2 T1x2 a3 n1x3 T1x3 a4 n2x1 T2x1 a5 n2x2 T2x2 a6 n2x3 T2x3 w (by omega) (by omega) (R t11) (by omega) (R t12) (by omega) (R t13) (by omega) (R t21) (by omega) (R t22) (by omega) (R t23) hq h1 h2 h3 h4 h5 h6 hc)
    · exact w_BracketTriple p a d cap qs a1x1 n1x1 c1x1 T1x1 a1x2 n1x2 c1x2 T1x2 a1x3 n1x3 c1x3 T1x3 a2x1 n2x1 c2x1 T2x1 a2x2 n2x2 c2x2 T2x2 a2x3 n2x3 c2x3 T2x3 w hd hsz1 m11 t11 m12 t12 m13 t13 hsz2 m21 t21 m22 t22 m23 t23 hq hx1x1 hx1x2 hx1x3 hx2x1 hx2x2 hx2x3 0 [] [] [] (code14 p qs [T1x1, T1x2, T1x3, T2x1, T2x2, T2x3]) (by omega) (by simp [cntR]) (by simp [cntR]) (by simp [cntR])
        (fun a a1 a2 a3 a4 a5 a6 w hq h1 h2 h3 h4 h5 h6 => s_BracketTriple_bad p a d qs a1 n1x1 T1x1 a2 n1x2 T1x2 a3 n1x3 T1x3 a4 n2x1 T2x1 a5 n2x2 T2x2 a6 n2x3 T2x3 w (by omega) (by omega) (R t11) (by omega) (R t12) (by omega) (R t13) (by omega) (R t21) (by omega) (R t22) (by omega) (R t23) hq h1 h2 h3 h4 h5 h6 hc)
        (fun a a1 a2 a3 a4 a5 a6 w hq h1 h2 h3 h4 h5 h6 => c_BracketTriple_bad p a d qs a1 n1x1 T1x1 a2 n1x2 T1x2 a3 n1x3 T1x3 a4 n2x1 T2x1 a5 n2x2 T2x2 a6 n2x3 T2x3 w (by omega) (by omega) (R t11) (by omega) (R t12) (by omega) (R t13) (by omega) (R t21) (by omega) (R t22) (by omega) (R t23) hq h1 h2 h3 h4 h5 h6 hc)

end Go.Proofs.Ythflmmgolegonaa
