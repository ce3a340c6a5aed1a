/-
  Listed functions of multivectors at good arguments.
  No condition.
-/
import Derived.Test.YtbgnfjckbjmgbaaTop5
import Derived.Test.YtbgnfjckbjmgbaaReverse
import Derived.Test.YtbgnfjckbjmgbaaInv
import Derived.Test.YtbgnfjckbjmgbaaDraw
namespace Go.Proofs.Ytbgnfjckbjmgbaa
set_option maxRecDepth 100000
open Go.RowKit

theorem OwnC.addr {B : Nat} {w : World} {a : Option Addr} {n cap : Nat} {xs : List Int} (h : OwnC B w a n cap xs) (hn : 0 < n) : ∃ g, a = some ⟨g, 0, none⟩ := by
  obtain ⟨g, _, hg, _⟩ := h.row hn
  exact ⟨g, hg⟩

set_option maxHeartbeats 1000000 in
theorem c_AddMultivectors_ok {N : Nat} (p : Int) (a : Option Addr) (d cap : Nat) (qs : List Int) (ax : Option Addr) (cx : Nat) (x : List Int) (ay : Option Addr) (cy : Nat) (y : List Int) (w : World) (hN : N = 2 ^ d) (hs : spaceB p qs = true) (hq : RdC w a d qs) (hx : RdC w ax N x) (hy : RdC w ay N y) (hgx : Good p N x) (hgy : Good p N y) :
    Calls Try.prog 29 #[.agg #[.int .i64 p, .slice a d cap], .slice ax N cx, .slice ay N cy] w fun e w' => ∃ g rc, e = .returned (.tuple #[.slice (some ⟨g, 0, none⟩) N rc, .int .i64 0]) ∧ OwnC w.heap.size w' (some ⟨g, 0, none⟩) N rc (plusL p x y 1 N) ∧ Ext w w' := by
  obtain ⟨hpr, hd1, hd6, hqb⟩ := space_of hs
  have hpb := prime_bd hpr
  rw [hq.1] at hd6
  have hN6 : N ≤ 64 := by rw [hN]; exact pow_le64 hd6
  have hN1 : 0 < N := by rw [hN]; exact pow_pos' d
  have HC := Lib.hid (show codeM p qs [x, y] = 0 from codeM_two0 hs (by rw [hq.1, ← hN]; exact hgx) (by rw [hq.1, ← hN]; exact hgy))
  have hcb : ((0 : Int) != 0) = false := by simp
  have HQB := Lib.hid hqb
  have HN := Lib.hid hN
  clear hN hqb hs
  go_enter Try.func29, Try.ntmps29
  go_wp2_with (fail)
  refine Calls.mono (c_checkMultis p a d cap qs _ 2 _ [x, y] _ (by omega) (by omega) (len_two (by rw [hx.1]; omega) (by rw [hy.1]; omega)) (hq.ext ((ext_alloc _ _).alloc _)) (rdR_two (a := ax) (b := ay) (n := N) (m := N) (ca := cx) (cb := cy) (by simp) (by simp) (hx.ext ((ext_alloc _ _).alloc _)) (hy.ext ((ext_alloc _ _).alloc _)))) ?_
  rintro e w1 ⟨rfl, g1⟩
  rw [HC.out]
  have q0 : w1.cell? ⟨w.heap.size, 0, none⟩ = some (.int .i64 p) := g1.cell (by simp)
  have q1 : w1.cell? ⟨w.heap.size, 1, none⟩ = some (.slice a d cap) := g1.cell (by simp)
  have G1 := Lib.hid (((ext_alloc w _).alloc _).trans g1)
  clear g1
  go_wp2_with (fail)
  refine Calls.mono (c_field p _ w1) ?_
  rintro e w2 ⟨rfl, g2⟩
  have G2 := Lib.hid (G1.out.trans g2)
  have q0' := g2.cell q0
  have q1' := g2.cell q1
  clear g2
  go_wp2_with (fail)
  refine Calls.mono (c_plus p ax ay N cx cy x y 1 w2 hpb.1 (by omega) (by omega) (by omega) (hx.ext G2.out) (hy.ext G2.out) hgx hgy) ?_
  rintro e w3 ⟨g, rc, rfl, ho, g3⟩
  go_wp2_with (fail)
  go_ret2
  exact ⟨g, rc, rfl, ho.mono G2.out.size, G2.out.trans g3⟩
set_option maxHeartbeats 1000000 in
theorem c_ReverseOf_ok {N : Nat} (p : Int) (a : Option Addr) (d cap : Nat) (qs : List Int) (ax : Option Addr) (cx : Nat) (x : List Int) (w : World) (hN : N = 2 ^ d) (hs : spaceB p qs = true) (hq : RdC w a d qs) (hx : RdC w ax N x) (hgx : Good p N x) :
    Calls Try.prog 37 #[.agg #[.int .i64 p, .slice a d cap], .slice ax N cx] w fun e w' => ∃ g rc, e = .returned (.tuple #[.slice (some ⟨g, 0, none⟩) N rc, .int .i64 0]) ∧ OwnC w.heap.size w' (some ⟨g, 0, none⟩) N rc (signL p revB x N) ∧ Ext w w' := by
  obtain ⟨hpr, hd1, hd6, hqb⟩ := space_of hs
  have hpb := prime_bd hpr
  rw [hq.1] at hd6
  have hN6 : N ≤ 64 := by rw [hN]; exact pow_le64 hd6
  have hN1 : 0 < N := by rw [hN]; exact pow_pos' d
  have HC := Lib.hid (show codeM p qs [x] = 0 from codeM_one0 hs (by rw [hq.1, ← hN]; exact hgx))
  have hcb : ((0 : Int) != 0) = false := by simp
  have HQB := Lib.hid hqb
  have HN := Lib.hid hN
  obtain ⟨bx, ox, rfl, _⟩ := hx.2 0 hN1
  clear hN hqb hs
  go_enter Try.func37, Try.ntmps37
  go_wp2_with (fail)
  refine Calls.mono (c_checkMultis p a d cap qs _ 1 _ [x] _ (by omega) (by omega) (len_one (by rw [hx.1]; omega)) (hq.ext ((ext_alloc _ _).alloc _)) (rdR_one (a := _) (n := N) (cap := cx) (by simp) (hx.ext ((ext_alloc _ _).alloc _)))) ?_
  rintro e w1 ⟨rfl, g1⟩
  rw [HC.out]
  have q0 : w1.cell? ⟨w.heap.size, 0, none⟩ = some (.int .i64 p) := g1.cell (by simp)
  have q1 : w1.cell? ⟨w.heap.size, 1, none⟩ = some (.slice a d cap) := g1.cell (by simp)
  have G1 := Lib.hid (((ext_alloc w _).alloc _).trans g1)
  clear g1
  go_wp2_with (fail)
  refine Calls.mono (c_reverse p _ d cap bx ox N cx x w1 hpb.1 (by omega) hN1 hN6 (hx.ext G1.out) hgx) ?_
  rintro e w2 ⟨g, rc, rfl, ho, g2⟩
  go_wp2_with (fail)
  go_ret2
  exact ⟨g, rc, rfl, ho.mono G1.out.size, G1.out.trans g2⟩
set_option maxHeartbeats 1000000 in
theorem c_ScalarOf_ok {N : Nat} (p : Int) (a : Option Addr) (d cap : Nat) (qs : List Int) (ax : Option Addr) (cx : Nat) (x : List Int) (w : World) (hN : N = 2 ^ d) (hs : spaceB p qs = true) (hq : RdC w a d qs) (hx : RdC w ax N x) (hgx : Good p N x) :
    Calls Try.prog 30 #[.agg #[.int .i64 p, .slice a d cap], .slice ax N cx] w fun e w' => e = .returned (.tuple #[.int .i64 (nth x 0), .int .i64 0]) ∧ Ext w w' := by
  obtain ⟨hpr, hd1, hd6, hqb⟩ := space_of hs
  have hpb := prime_bd hpr
  rw [hq.1] at hd6
  have hN6 : N ≤ 64 := by rw [hN]; exact pow_le64 hd6
  have hN1 : 0 < N := by rw [hN]; exact pow_pos' d
  have HC := Lib.hid (show codeM p qs [x] = 0 from codeM_one0 hs (by rw [hq.1, ← hN]; exact hgx))
  have hcb : ((0 : Int) != 0) = false := by simp
  have HQB := Lib.hid hqb
  have HN := Lib.hid hN
  obtain ⟨bx, ox, rfl, hcx⟩ := hx.2 0 hN1
  clear hN hqb hs
  go_enter Try.func30, Try.ntmps30
  go_wp2_with (fail)
  refine Calls.mono (c_checkMultis p a d cap qs _ 1 _ [x] _ (by omega) (by omega) (len_one (by rw [hx.1]; omega)) (hq.ext ((ext_alloc _ _).alloc _)) (rdR_one (a := _) (n := N) (cap := cx) (by simp) (hx.ext ((ext_alloc _ _).alloc _)))) ?_
  rintro e w1 ⟨rfl, g1⟩
  rw [HC.out]
  have q0 : w1.cell? ⟨w.heap.size, 0, none⟩ = some (.int .i64 p) := g1.cell (by simp)
  have q1 : w1.cell? ⟨w.heap.size, 1, none⟩ = some (.slice a d cap) := g1.cell (by simp)
  have G1 := Lib.hid (((ext_alloc w _).alloc _).trans g1)
  clear g1
  have hcx1 : w1.cell? ⟨bx, ox, none⟩ = some (.int .i64 (nth x 0)) := by simpa using G1.out.cell hcx
  go_wp2_with (fail)
  go_ret2
  exact ⟨rfl, G1.out⟩
set_option maxHeartbeats 1000000 in
theorem c_ScaleMultivector_ok {N : Nat} (p : Int) (a : Option Addr) (d cap : Nat) (qs : List Int) (ax : Option Addr) (cx : Nat) (x : List Int) (k : Int) (w : World) (hN : N = 2 ^ d) (hs : spaceB p qs = true) (hq : RdC w a d qs) (hx : RdC w ax N x) (hgx : Good p N x) (hk0 : 0 ≤ k) (hk1 : k < p) :
    Calls Try.prog 54 #[.agg #[.int .i64 p, .slice a d cap], .slice ax N cx, .int .i64 k] w fun e w' => ∃ g rc, e = .returned (.tuple #[.slice (some ⟨g, 0, none⟩) N rc, .int .i64 0]) ∧ OwnC w.heap.size w' (some ⟨g, 0, none⟩) N rc (scaleL p x k N) ∧ Ext w w' := by
  obtain ⟨hpr, hd1, hd6, hqb⟩ := space_of hs
  have hpb := prime_bd hpr
  rw [hq.1] at hd6
  have hN6 : N ≤ 64 := by rw [hN]; exact pow_le64 hd6
  have hN1 : 0 < N := by rw [hN]; exact pow_pos' d
  have HC := Lib.hid (show codeM p qs [x] = 0 from codeM_one0 hs (by rw [hq.1, ← hN]; exact hgx))
  have hcb : ((0 : Int) != 0) = false := by simp
  have HQB := Lib.hid hqb
  have HN := Lib.hid hN
  clear hN hqb hs
  go_enter Try.func54, Try.ntmps54
  go_wp2_with (fail)
  refine Calls.mono (c_checkMultis p a d cap qs _ 1 _ [x] _ (by omega) (by omega) (len_one (by rw [hx.1]; omega)) (hq.ext ((ext_alloc _ _).alloc _)) (rdR_one (a := _) (n := N) (cap := cx) (by simp) (hx.ext ((ext_alloc _ _).alloc _)))) ?_
  rintro e w1 ⟨rfl, g1⟩
  rw [HC.out]
  have q0 : w1.cell? ⟨w.heap.size, 0, none⟩ = some (.int .i64 p) := g1.cell (by simp)
  have q1 : w1.cell? ⟨w.heap.size, 1, none⟩ = some (.slice a d cap) := g1.cell (by simp)
  have G1 := Lib.hid (((ext_alloc w _).alloc _).trans g1)
  clear g1
  go_wp2_with (fail)
  refine Calls.mono (c_field p _ w1) ?_
  rintro e w2 ⟨rfl, g2⟩
  have G2 := Lib.hid (G1.out.trans g2)
  have q0' := g2.cell q0
  have q1' := g2.cell q1
  clear g2
  go_wp2_with (fail)
  refine Calls.mono (c_is p _ 1 1 [k] _ (by omega) (by omega) (by omega) (rdC_lit w2 _ [k])) ?_
  rintro e w3 ⟨rfl, g3⟩
  have hkb : isB p [k] = true := by simp [isB, inB]; omega
  rw [hkb]
  have G3 := Lib.hid (G2.out.trans ((ext_alloc _ _).trans g3))
  have q0'' := g3.cell ((ext_alloc _ _).cell q0')
  have q1'' := g3.cell ((ext_alloc _ _).cell q1')
  clear g3
  go_wp2_with (fail)
  refine Calls.mono (c_field p _ w3) ?_
  rintro e w4 ⟨rfl, g4⟩
  have G4 := Lib.hid (G3.out.trans g4)
  clear g4
  go_wp2_with (fail)
  refine Calls.mono (c_scaled p ax N cx x k w4 hpb.1 (by omega) (by omega) (by omega) (hx.ext G4.out) hgx) ?_
  rintro e w5 ⟨g, rc, rfl, ho, g5⟩
  go_wp2_with (fail)
  go_ret2
  exact ⟨g, rc, rfl, ho.mono G4.out.size, G4.out.trans g5⟩
set_option maxHeartbeats 1000000 in
theorem c_IsMultivector (p : Int) (a : Option Addr) (d cap : Nat) (qs : List Int) (ax : Option Addr) (n cx : Nat) (xs : List Int) (w : World) (hd : d ≤ 4194304) (hl : n ≤ 4194304) (hq : RdC w a d qs) (hx : RdC w ax n xs) :
    Calls Try.prog 25 #[.agg #[.int .i64 p, .slice a d cap], .slice ax n cx] w fun e w' => e = .returned (.bool (spaceB p qs && multiB p d xs)) ∧ Ext w w' := by
  go_enter Try.func25, Try.ntmps25
  go_wp2_with (fail)
  refine Calls.mono (c_isSpace p a d cap qs _ hd (hq.ext (ext_alloc _ _))) ?_
  rintro e w1 ⟨rfl, g1⟩
  have q0 : w1.cell? ⟨w.heap.size, 0, none⟩ = some (.int .i64 p) := g1.cell (by simp)
  have q1 : w1.cell? ⟨w.heap.size, 1, none⟩ = some (.slice a d cap) := g1.cell (by simp)
  have G1 := Lib.hid ((ext_alloc w _).trans g1)
  clear g1
  cases hs : spaceB p qs
  · go_wp2_with (fail)
    go_ret
    exact ⟨by rw [hs]; rfl, G1.out⟩
  · obtain ⟨hpr, hd1, hd6, hqb⟩ := space_of hs
    have hpb := prime_bd hpr
    rw [hq.1] at hd6
    go_wp2_with (fail)
    refine Calls.mono (c_isMulti p a d cap ax n cx xs w1 (by omega) (by omega) hd6 hl (hx.ext G1.out)) ?_
    rintro e w2 ⟨rfl, g2⟩
    go_wp2_with (fail)
    go_ret
    exact ⟨by rw [hs]; rfl, G1.out.trans g2⟩
set_option maxHeartbeats 1000000 in
theorem s_IsMultivector (p : Int) (a : Option Addr) (d cap : Nat) (qs : List Int) (ax : Option Addr) (n cx : Nat) (xs : List Int) (w : World) (hd : d ≤ 4194304) (hl : n ≤ 4194304) (hq : RdC w a d qs) (hx : RdC w ax n xs) :
    Calls Try.prog 26 #[.agg #[.int .i64 p, .slice a d cap], .slice ax n cx] w fun e w' => e = .returned (.bool (spaceB p qs && multiB p d xs)) ∧ Ext w w' := by
  go_enter Try.func26, Try.ntmps26
  go_wp2_with (fail)
  first
  | refine Calls.mono (s_is4 p a d cap qs ax n cx xs _ hd hl (hq.ext (ext_alloc _ _)) (hx.ext (ext_alloc _ _))) ?_
    rintro e w1 ⟨rfl, g1⟩
    go_wp2_with (fail)
    go_ret
    exact ⟨rfl, (ext_alloc _ _).trans g1⟩
  | refine Calls.mono (s_is4 p a d cap qs ax n cx xs _ hd hl hq hx) ?_
    rintro e w1 ⟨rfl, g1⟩
    go_wp2_with (fail)
    go_ret
    exact ⟨rfl, g1⟩
end Go.Proofs.Ytbgnfjckbjmgbaa
