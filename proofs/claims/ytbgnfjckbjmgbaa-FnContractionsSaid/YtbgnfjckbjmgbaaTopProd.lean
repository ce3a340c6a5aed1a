/-
  Contracts of the listed products: the code, and where it is 0 the product.
  No condition.
-/
import Derived.Test.YtbgnfjckbjmgbaaTimes
namespace Go.Proofs.Ytbgnfjckbjmgbaa
set_option maxRecDepth 100000
open Go.RowKit

theorem good_two {p : Int} {N : Nat} {xs ys : List Int} (h : Good p N xs) (h' : Good p N ys) : ∀ i, i < 2 → Good p N (nthR [xs, ys] i) := fun i hi => by
  have : i = 0 ∨ i = 1 := by omega
  rcases this with rfl | rfl
  · exact h
  · exact h'

set_option maxHeartbeats 400000 in
theorem s_wedge (p : Int) (a : Option Addr) (d cap : Nat) (qs : List Int) (ax ay : Option Addr) (cx cy : Nat) (x y : List Int) (w : World) (hd : d ≤ 6) (hp1 : 3 ≤ p) (hp2 : p ≤ 1000) (hq : RdC w a d qs) (hqb : isB p qs = true)
    (hx : RdC w ax (2 ^ d) x) (hy : RdC w ay (2 ^ d) y) (hxb : isB p x = true) (hyb : isB p y = true) :
    Calls Try.prog 116 #[.agg #[.int .i64 p, .slice a d cap], .slice ax (2 ^ d) cx, .slice ay (2 ^ d) cy] w fun e w' =>
      ∃ g, e = .returned (.slice (some ⟨g, 0, none⟩) (2 ^ d) (2 ^ d)) ∧ OwnC w.heap.size w' (some ⟨g, 0, none⟩) (2 ^ d) (2 ^ d) (prodL p qs tkW x y) ∧ Ext w w' := by
  go_enter Try.func116, Try.ntmps116
  go_wp2_with (fail)
  refine (s_kind0 p a d cap qs _ _ _ _ x y _ hd hp1 hp2 (hq.ext (ext_alloc _ _)) hqb (hx.ext (ext_alloc _ _)) (hy.ext (ext_alloc _ _)) hxb hyb).mono ?_
  rintro e w1 ⟨g, rfl, ho, g1⟩
  have HO := Lib.hid ho
  have G1 := Lib.hid g1
  clear ho g1
  go_wp2_with (fail)
  go_ret
  exact ⟨g, rfl, HO.out.mono (by simp), (ext_alloc _ _).trans G1.out⟩

set_option maxHeartbeats 400000 in
theorem s_left (p : Int) (a : Option Addr) (d cap : Nat) (qs : List Int) (ax ay : Option Addr) (cx cy : Nat) (x y : List Int) (w : World) (hd : d ≤ 6) (hp1 : 3 ≤ p) (hp2 : p ≤ 1000) (hq : RdC w a d qs) (hqb : isB p qs = true)
    (hx : RdC w ax (2 ^ d) x) (hy : RdC w ay (2 ^ d) y) (hxb : isB p x = true) (hyb : isB p y = true) :
    Calls Try.prog 94 #[.agg #[.int .i64 p, .slice a d cap], .slice ax (2 ^ d) cx, .slice ay (2 ^ d) cy] w fun e w' =>
      ∃ g, e = .returned (.slice (some ⟨g, 0, none⟩) (2 ^ d) (2 ^ d)) ∧ OwnC w.heap.size w' (some ⟨g, 0, none⟩) (2 ^ d) (2 ^ d) (prodL p qs tkL x y) ∧ Ext w w' := by
  go_enter Try.func94, Try.ntmps94
  go_wp2_with (fail)
  refine (s_kind1 p a d cap qs _ _ _ _ x y _ hd hp1 hp2 (hq.ext (ext_alloc _ _)) hqb (hx.ext (ext_alloc _ _)) (hy.ext (ext_alloc _ _)) hxb hyb).mono ?_
  rintro e w1 ⟨g, rfl, ho, g1⟩
  have HO := Lib.hid ho
  have G1 := Lib.hid g1
  clear ho g1
  go_wp2_with (fail)
  go_ret
  exact ⟨g, rfl, HO.out.mono (by simp), (ext_alloc _ _).trans G1.out⟩

set_option maxHeartbeats 400000 in
theorem s_WedgeProduct_bad (p : Int) (a : Option Addr) (d cap : Nat) (qs : List Int) (ax : Option Addr) (n cx : Nat) (xs : List Int) (ay : Option Addr) (m cy : Nat) (ys : List Int) (w : World) (hd : d ≤ 4194304) (hl : n ≤ 4194304) (hm : m ≤ 4194304) (hq : RdC w a d qs) (hx : RdC w ax n xs) (hy : RdC w ay m ys) (hc : codeM p qs [xs, ys] ≠ 0) :
    Calls Try.prog 63 #[.agg #[.int .i64 p, .slice a d cap], .slice ax n cx, .slice ay m cy] w fun e w' => ∃ ra rc, e = .returned (.tuple #[.slice ra 0 rc, .int .i64 (codeM p qs [xs, ys])]) ∧ OwnC w.heap.size w' ra 0 rc [] ∧ Ext w w' := by
  have hcb : (codeM p qs [xs, ys] != 0) = true := by simp [hc]
  clear hc
  go_enter Try.func63, Try.ntmps63
  go_wp2_with (go_at_call 84; refine (s_code p a d cap qs _ 2 _ [xs, ys] _ hd (by omega) (len_two (by rw [hx.1]; exact hl) (by rw [hy.1]; exact hm)) (hq.ext ((ext_alloc _ _).alloc _)) (rdR_two (a := ax) (b := ay) (n := _) (m := _) (ca := cx) (cb := cy) (by simp) (by simp) (hx.ext ((ext_alloc _ _).alloc _)) (hy.ext ((ext_alloc _ _).alloc _)))).mono ?_; rintro e w1 ⟨rfl, g1⟩)
  go_ret2
  exact ⟨none, 0, rfl, own_nil _ _, ((ext_alloc _ _).alloc _).trans g1⟩

set_option maxHeartbeats 400000 in
theorem s_WedgeProduct_ok (p : Int) (a : Option Addr) (d cap : Nat) (qs : List Int) (ax : Option Addr) (n cx : Nat) (xs : List Int) (ay : Option Addr) (m cy : Nat) (ys : List Int) (w : World) (hd : d ≤ 4194304) (hl : n ≤ 4194304) (hm : m ≤ 4194304) (hq : RdC w a d qs) (hx : RdC w ax n xs) (hy : RdC w ay m ys) (hc : codeM p qs [xs, ys] = 0) :
    Calls Try.prog 63 #[.agg #[.int .i64 p, .slice a d cap], .slice ax n cx, .slice ay m cy] w fun e w' => ∃ ra rc, e = .returned (.tuple #[.slice ra n rc, .int .i64 0]) ∧ OwnC w.heap.size w' ra n rc (prodL p qs tkW xs ys) ∧ Ext w w' := by
  obtain ⟨hs, hxm, hym⟩ := codeM_two hc
  obtain ⟨hpr, hd1, hd6, hqb⟩ := space_of hs
  have hpb := prime_bd hpr
  obtain ⟨hxl, hxb⟩ := multi_of hxm
  obtain ⟨hyl, hyb⟩ := multi_of hym
  rw [hq.1] at hxl hyl hd6
  obtain rfl : n = 2 ^ d := hx.1.symm.trans hxl
  obtain rfl : m = 2 ^ d := hy.1.symm.trans hyl
  have HC := Lib.hid hc
  have HQB := Lib.hid hqb
  have HXB := Lib.hid hxb
  have HYB := Lib.hid hyb
  have HXL := Lib.hid hxl
  have HYL := Lib.hid hyl
  have HQL := Lib.hid hq.1
  have hcb : ((0 : Int) != 0) = false := by simp
  clear hc hs hxm hym hqb hxb hyb hxl hyl hpr hd1
  go_enter Try.func63, Try.ntmps63
  go_wp2_with (go_at_call 84; refine (s_code p a d cap qs _ 2 _ [xs, ys] _ hd (by omega) (len_two (by rw [hx.1]; exact hl) (by rw [hy.1]; exact hm)) (hq.ext ((ext_alloc _ _).alloc _)) (rdR_two (a := ax) (b := ay) (n := _) (m := _) (ca := cx) (cb := cy) (by simp) (by simp) (hx.ext ((ext_alloc _ _).alloc _)) (hy.ext ((ext_alloc _ _).alloc _)))).mono ?_; rintro e w1 ⟨rfl, g1⟩; rw [HC.out]; have hq0 : w1.cell? ⟨w.heap.size, 0, none⟩ = some (.int .i64 p) := g1.cell (by simp); have hq1 : w1.cell? ⟨w.heap.size, 1, none⟩ = some (.slice a d cap) := g1.cell (by simp))
  have G1 := Lib.hid (((ext_alloc w (.cells #[.int .i64 p, .slice a d cap] 26)).alloc (.cells #[.slice ax (2 ^ d) cx, .slice ay (2 ^ d) cy] 24)).trans g1)
  clear g1 hq0 hq1
  refine (s_wedge p a d cap qs _ _ _ _ xs ys w1 (by omega) (by omega) (by omega) (hq.ext G1.out) HQB.out (hx.ext G1.out) (hy.ext G1.out) HXB.out HYB.out).mono ?_
  rintro e w2 ⟨g, rfl, ho, g2⟩
  have HO := Lib.hid ho
  have G2 := Lib.hid g2
  clear ho g2
  go_wp2_with (fail)
  go_ret2
  exact ⟨some ⟨g, 0, none⟩, 2 ^ d, rfl, HO.out.mono G1.out.size, G1.out.trans G2.out⟩

set_option maxHeartbeats 400000 in
theorem s_LeftContraction_bad (p : Int) (a : Option Addr) (d cap : Nat) (qs : List Int) (ax : Option Addr) (n cx : Nat) (xs : List Int) (ay : Option Addr) (m cy : Nat) (ys : List Int) (w : World) (hd : d ≤ 4194304) (hl : n ≤ 4194304) (hm : m ≤ 4194304) (hq : RdC w a d qs) (hx : RdC w ax n xs) (hy : RdC w ay m ys) (hc : codeM p qs [xs, ys] ≠ 0) :
    Calls Try.prog 35 #[.agg #[.int .i64 p, .slice a d cap], .slice ax n cx, .slice ay m cy] w fun e w' => ∃ ra rc, e = .returned (.tuple #[.slice ra 0 rc, .int .i64 (codeM p qs [xs, ys])]) ∧ OwnC w.heap.size w' ra 0 rc [] ∧ Ext w w' := by
  have hcb : (codeM p qs [xs, ys] != 0) = true := by simp [hc]
  clear hc
  go_enter Try.func35, Try.ntmps35
  go_wp2_with (go_at_call 84; refine (s_code p a d cap qs _ 2 _ [xs, ys] _ hd (by omega) (len_two (by rw [hx.1]; exact hl) (by rw [hy.1]; exact hm)) (hq.ext ((ext_alloc _ _).alloc _)) (rdR_two (a := ax) (b := ay) (n := _) (m := _) (ca := cx) (cb := cy) (by simp) (by simp) (hx.ext ((ext_alloc _ _).alloc _)) (hy.ext ((ext_alloc _ _).alloc _)))).mono ?_; rintro e w1 ⟨rfl, g1⟩)
  go_ret2
  exact ⟨none, 0, rfl, own_nil _ _, ((ext_alloc _ _).alloc _).trans g1⟩

set_option maxHeartbeats 400000 in
theorem s_LeftContraction_ok (p : Int) (a : Option Addr) (d cap : Nat) (qs : List Int) (ax : Option Addr) (n cx : Nat) (xs : List Int) (ay : Option Addr) (m cy : Nat) (ys : List Int) (w : World) (hd : d ≤ 4194304) (hl : n ≤ 4194304) (hm : m ≤ 4194304) (hq : RdC w a d qs) (hx : RdC w ax n xs) (hy : RdC w ay m ys) (hc : codeM p qs [xs, ys] = 0) :
    Calls Try.prog 35 #[.agg #[.int .i64 p, .slice a d cap], .slice ax n cx, .slice ay m cy] w fun e w' => ∃ ra rc, e = .returned (.tuple #[.slice ra n rc, .int .i64 0]) ∧ OwnC w.heap.size w' ra n rc (prodL p qs tkL xs ys) ∧ Ext w w' := by
  obtain ⟨hs, hxm, hym⟩ := codeM_two hc
  obtain ⟨hpr, hd1, hd6, hqb⟩ := space_of hs
  have hpb := prime_bd hpr
  obtain ⟨hxl, hxb⟩ := multi_of hxm
  obtain ⟨hyl, hyb⟩ := multi_of hym
  rw [hq.1] at hxl hyl hd6
  obtain rfl : n = 2 ^ d := hx.1.symm.trans hxl
  obtain rfl : m = 2 ^ d := hy.1.symm.trans hyl
  have HC := Lib.hid hc
  have HQB := Lib.hid hqb
  have HXB := Lib.hid hxb
  have HYB := Lib.hid hyb
  have HXL := Lib.hid hxl
  have HYL := Lib.hid hyl
  have HQL := Lib.hid hq.1
  have hcb : ((0 : Int) != 0) = false := by simp
  clear hc hs hxm hym hqb hxb hyb hxl hyl hpr hd1
  go_enter Try.func35, Try.ntmps35
  go_wp2_with (go_at_call 84; refine (s_code p a d cap qs _ 2 _ [xs, ys] _ hd (by omega) (len_two (by rw [hx.1]; exact hl) (by rw [hy.1]; exact hm)) (hq.ext ((ext_alloc _ _).alloc _)) (rdR_two (a := ax) (b := ay) (n := _) (m := _) (ca := cx) (cb := cy) (by simp) (by simp) (hx.ext ((ext_alloc _ _).alloc _)) (hy.ext ((ext_alloc _ _).alloc _)))).mono ?_; rintro e w1 ⟨rfl, g1⟩; rw [HC.out]; have hq0 : w1.cell? ⟨w.heap.size, 0, none⟩ = some (.int .i64 p) := g1.cell (by simp); have hq1 : w1.cell? ⟨w.heap.size, 1, none⟩ = some (.slice a d cap) := g1.cell (by simp))
  have G1 := Lib.hid (((ext_alloc w (.cells #[.int .i64 p, .slice a d cap] 26)).alloc (.cells #[.slice ax (2 ^ d) cx, .slice ay (2 ^ d) cy] 24)).trans g1)
  clear g1 hq0 hq1
  refine (s_left p a d cap qs _ _ _ _ xs ys w1 (by omega) (by omega) (by omega) (hq.ext G1.out) HQB.out (hx.ext G1.out) (hy.ext G1.out) HXB.out HYB.out).mono ?_
  rintro e w2 ⟨g, rfl, ho, g2⟩
  have HO := Lib.hid ho
  have G2 := Lib.hid g2
  clear ho g2
  go_wp2_with (fail)
  go_ret2
  exact ⟨some ⟨g, 0, none⟩, 2 ^ d, rfl, HO.out.mono G1.out.size, G1.out.trans G2.out⟩


set_option maxHeartbeats 400000 in
theorem s_GeometricProduct_bad (p : Int) (a : Option Addr) (d cap : Nat) (qs : List Int) (ax : Option Addr) (n cx : Nat) (xs : List Int) (ay : Option Addr) (m cy : Nat) (ys : List Int) (w : World) (hd : d ≤ 4194304) (hl : n ≤ 4194304) (hm : m ≤ 4194304) (hq : RdC w a d qs) (hx : RdC w ax n xs) (hy : RdC w ay m ys) (hc : codeM p qs [xs, ys] ≠ 0) :
    Calls Try.prog 24 #[.agg #[.int .i64 p, .slice a d cap], .slice ax n cx, .slice ay m cy] w fun e w' => ∃ ra rc, e = .returned (.tuple #[.slice ra 0 rc, .int .i64 (codeM p qs [xs, ys])]) ∧ OwnC w.heap.size w' ra 0 rc [] ∧ Ext w w' := by
  have hcb : (codeM p qs [xs, ys] != 0) = true := by simp [hc]
  clear hc
  go_enter Try.func24, Try.ntmps24
  go_wp2_with (go_at_call 84; refine (s_code p a d cap qs _ 2 _ [xs, ys] _ hd (by omega) (len_two (by rw [hx.1]; exact hl) (by rw [hy.1]; exact hm)) (hq.ext ((ext_alloc _ _).alloc _)) (rdR_two (a := ax) (b := ay) (n := _) (m := _) (ca := cx) (cb := cy) (by simp) (by simp) (hx.ext ((ext_alloc _ _).alloc _)) (hy.ext ((ext_alloc _ _).alloc _)))).mono ?_; rintro e w1 ⟨rfl, g1⟩)
  go_ret2
  exact ⟨none, 0, rfl, own_nil _ _, ((ext_alloc _ _).alloc _).trans g1⟩

set_option maxHeartbeats 400000 in
theorem s_GeometricProduct_ok (p : Int) (a : Option Addr) (d cap : Nat) (qs : List Int) (ax : Option Addr) (n cx : Nat) (xs : List Int) (ay : Option Addr) (m cy : Nat) (ys : List Int) (w : World) (hd : d ≤ 4194304) (hl : n ≤ 4194304) (hm : m ≤ 4194304) (hq : RdC w a d qs) (hx : RdC w ax n xs) (hy : RdC w ay m ys) (hc : codeM p qs [xs, ys] = 0) :
    Calls Try.prog 24 #[.agg #[.int .i64 p, .slice a d cap], .slice ax n cx, .slice ay m cy] w fun e w' => ∃ ra rc, e = .returned (.tuple #[.slice ra n rc, .int .i64 0]) ∧ OwnC w.heap.size w' ra n rc (prodL p qs tkA xs ys) ∧ Ext w w' := by
  obtain ⟨hs, hxm, hym⟩ := codeM_two hc
  obtain ⟨hpr, hd1, hd6, hqb⟩ := space_of hs
  have hpb := prime_bd hpr
  obtain ⟨hxl, hxb⟩ := multi_of hxm
  obtain ⟨hyl, hyb⟩ := multi_of hym
  rw [hq.1] at hxl hyl hd6
  obtain rfl : n = 2 ^ d := hx.1.symm.trans hxl
  obtain rfl : m = 2 ^ d := hy.1.symm.trans hyl
  have HC := Lib.hid hc
  have HQB := Lib.hid hqb
  have HXB := Lib.hid hxb
  have HYB := Lib.hid hyb
  have HXL := Lib.hid hxl
  have HYL := Lib.hid hyl
  have HQL := Lib.hid hq.1
  have hcb : ((0 : Int) != 0) = false := by simp
  clear hc hs hxm hym hqb hxb hyb hxl hyl hpr hd1
  go_enter Try.func24, Try.ntmps24
  go_wp2_with (go_at_call 84; refine (s_code p a d cap qs _ 2 _ [xs, ys] _ hd (by omega) (len_two (by rw [hx.1]; exact hl) (by rw [hy.1]; exact hm)) (hq.ext ((ext_alloc _ _).alloc _)) (rdR_two (a := ax) (b := ay) (n := _) (m := _) (ca := cx) (cb := cy) (by simp) (by simp) (hx.ext ((ext_alloc _ _).alloc _)) (hy.ext ((ext_alloc _ _).alloc _)))).mono ?_; rintro e w1 ⟨rfl, g1⟩; rw [HC.out]; have hq0 : w1.cell? ⟨w.heap.size, 0, none⟩ = some (.int .i64 p) := g1.cell (by simp); have hq1 : w1.cell? ⟨w.heap.size, 1, none⟩ = some (.slice a d cap) := g1.cell (by simp))
  have G1 := Lib.hid (((ext_alloc w (.cells #[.int .i64 p, .slice a d cap] 26)).alloc (.cells #[.slice ax (2 ^ d) cx, .slice ay (2 ^ d) cy] 24)).trans g1)
  clear g1 hq0 hq1
  refine (s_times p a d cap qs _ _ _ _ xs ys w1 (by omega) (by omega) (by omega) (hq.ext G1.out) HQB.out (hx.ext G1.out) (hy.ext G1.out) HXB.out HYB.out).mono ?_
  rintro e w2 ⟨g, rfl, ho, g2⟩
  have HO := Lib.hid ho
  have G2 := Lib.hid g2
  clear ho g2
  go_wp2_with (fail)
  go_ret2
  exact ⟨some ⟨g, 0, none⟩, 2 ^ d, rfl, HO.out.mono G1.out.size, G1.out.trans G2.out⟩

set_option maxHeartbeats 400000 in
theorem c_WedgeProduct_bad (p : Int) (a : Option Addr) (d cap : Nat) (qs : List Int) (ax : Option Addr) (n cx : Nat) (xs : List Int) (ay : Option Addr) (m cy : Nat) (ys : List Int) (w : World) (hd : d ≤ 4194304) (hl : n ≤ 4194304) (hm : m ≤ 4194304) (hq : RdC w a d qs) (hx : RdC w ax n xs) (hy : RdC w ay m ys) (hc : codeM p qs [xs, ys] ≠ 0) :
    Calls Try.prog 36 #[.agg #[.int .i64 p, .slice a d cap], .slice ax n cx, .slice ay m cy] w fun e w' => ∃ ra rc, e = .returned (.tuple #[.slice ra 0 rc, .int .i64 (codeM p qs [xs, ys])]) ∧ OwnC w.heap.size w' ra 0 rc [] ∧ Ext w w' := by
  have hcb : (codeM p qs [xs, ys] != 0) = true := by simp [hc]
  clear hc
  go_enter Try.func36, Try.ntmps36
  go_wp2_with (go_at_call 79; refine (c_checkMultis p a d cap qs _ 2 _ [xs, ys] _ hd (by omega) (len_two (by rw [hx.1]; exact hl) (by rw [hy.1]; exact hm)) (hq.ext ((ext_alloc _ _).alloc _)) (rdR_two (a := ax) (b := ay) (n := _) (m := _) (ca := cx) (cb := cy) (by simp) (by simp) (hx.ext ((ext_alloc _ _).alloc _)) (hy.ext ((ext_alloc _ _).alloc _)))).mono ?_; rintro e w1 ⟨rfl, g1⟩)
  go_ret2
  exact ⟨none, 0, rfl, own_nil _ _, ((ext_alloc _ _).alloc _).trans g1⟩

set_option maxHeartbeats 400000 in
theorem c_WedgeProduct_ok (p : Int) (a : Option Addr) (d cap : Nat) (qs : List Int) (ax : Option Addr) (n cx : Nat) (xs : List Int) (ay : Option Addr) (m cy : Nat) (ys : List Int) (w : World) (hd : d ≤ 4194304) (hl : n ≤ 4194304) (hm : m ≤ 4194304) (hq : RdC w a d qs) (hx : RdC w ax n xs) (hy : RdC w ay m ys) (hc : codeM p qs [xs, ys] = 0) :
    Calls Try.prog 36 #[.agg #[.int .i64 p, .slice a d cap], .slice ax n cx, .slice ay m cy] w fun e w' => ∃ ra rc, e = .returned (.tuple #[.slice ra n rc, .int .i64 0]) ∧ OwnC w.heap.size w' ra n rc (prodL p qs tkW xs ys) ∧ Ext w w' := by
  obtain ⟨hs, hxm, hym⟩ := codeM_two hc
  obtain ⟨hpr, hd1, hd6, hqb⟩ := space_of hs
  have hpb := prime_bd hpr
  obtain ⟨hxl, hxb⟩ := multi_of hxm
  obtain ⟨hyl, hyb⟩ := multi_of hym
  rw [hq.1] at hxl hyl hd6
  obtain rfl : n = 2 ^ d := hx.1.symm.trans hxl
  obtain rfl : m = 2 ^ d := hy.1.symm.trans hyl
  have HC := Lib.hid hc
  have HQB := Lib.hid hqb
  have HXB := Lib.hid hxb
  have HYB := Lib.hid hyb
  have HXL := Lib.hid hxl
  have HYL := Lib.hid hyl
  have HQL := Lib.hid hq.1
  have hcb : ((0 : Int) != 0) = false := by simp
  clear hc hs hxm hym hqb hxb hyb hxl hyl hpr hd1
  go_enter Try.func36, Try.ntmps36
  go_wp2_with (go_at_call 79; refine (c_checkMultis p a d cap qs _ 2 _ [xs, ys] _ hd (by omega) (len_two (by rw [hx.1]; exact hl) (by rw [hy.1]; exact hm)) (hq.ext ((ext_alloc _ _).alloc _)) (rdR_two (a := ax) (b := ay) (n := _) (m := _) (ca := cx) (cb := cy) (by simp) (by simp) (hx.ext ((ext_alloc _ _).alloc _)) (hy.ext ((ext_alloc _ _).alloc _)))).mono ?_; rintro e w1 ⟨rfl, g1⟩; rw [HC.out]; have hq0 : w1.cell? ⟨w.heap.size, 0, none⟩ = some (.int .i64 p) := g1.cell (by simp); have hq1 : w1.cell? ⟨w.heap.size, 1, none⟩ = some (.slice a d cap) := g1.cell (by simp))
  have G1 := Lib.hid (((ext_alloc w (.cells #[.int .i64 p, .slice a d cap] 26)).alloc (.cells #[.slice ax (2 ^ d) cx, .slice ay (2 ^ d) cy] 24)).trans g1)
  clear g1 hq0 hq1
  refine (c_wedge p a d cap qs _ _ _ _ xs ys w1 (by omega) (by omega) (by omega) (hq.ext G1.out) HQB.out (hx.ext G1.out) (hy.ext G1.out) HXB.out HYB.out).mono ?_
  rintro e w2 ⟨g, rfl, ho, g2⟩
  have HO := Lib.hid ho
  have G2 := Lib.hid g2
  clear ho g2
  go_wp2_with (fail)
  go_ret2
  exact ⟨some ⟨g, 0, none⟩, 2 ^ d, rfl, HO.out.mono G1.out.size, G1.out.trans G2.out⟩

set_option maxHeartbeats 400000 in
theorem c_LeftContraction_bad (p : Int) (a : Option Addr) (d cap : Nat) (qs : List Int) (ax : Option Addr) (n cx : Nat) (xs : List Int) (ay : Option Addr) (m cy : Nat) (ys : List Int) (w : World) (hd : d ≤ 4194304) (hl : n ≤ 4194304) (hm : m ≤ 4194304) (hq : RdC w a d qs) (hx : RdC w ax n xs) (hy : RdC w ay m ys) (hc : codeM p qs [xs, ys] ≠ 0) :
    Calls Try.prog 34 #[.agg #[.int .i64 p, .slice a d cap], .slice ax n cx, .slice ay m cy] w fun e w' => ∃ ra rc, e = .returned (.tuple #[.slice ra 0 rc, .int .i64 (codeM p qs [xs, ys])]) ∧ OwnC w.heap.size w' ra 0 rc [] ∧ Ext w w' := by
  have hcb : (codeM p qs [xs, ys] != 0) = true := by simp [hc]
  clear hc
  go_enter Try.func34, Try.ntmps34
  go_wp2_with (go_at_call 79; refine (c_checkMultis p a d cap qs _ 2 _ [xs, ys] _ hd (by omega) (len_two (by rw [hx.1]; exact hl) (by rw [hy.1]; exact hm)) (hq.ext ((ext_alloc _ _).alloc _)) (rdR_two (a := ax) (b := ay) (n := _) (m := _) (ca := cx) (cb := cy) (by simp) (by simp) (hx.ext ((ext_alloc _ _).alloc _)) (hy.ext ((ext_alloc _ _).alloc _)))).mono ?_; rintro e w1 ⟨rfl, g1⟩)
  go_ret2
  exact ⟨none, 0, rfl, own_nil _ _, ((ext_alloc _ _).alloc _).trans g1⟩

set_option maxHeartbeats 400000 in
theorem c_LeftContraction_ok (p : Int) (a : Option Addr) (d cap : Nat) (qs : List Int) (ax : Option Addr) (n cx : Nat) (xs : List Int) (ay : Option Addr) (m cy : Nat) (ys : List Int) (w : World) (hd : d ≤ 4194304) (hl : n ≤ 4194304) (hm : m ≤ 4194304) (hq : RdC w a d qs) (hx : RdC w ax n xs) (hy : RdC w ay m ys) (hc : codeM p qs [xs, ys] = 0) :
    Calls Try.prog 34 #[.agg #[.int .i64 p, .slice a d cap], .slice ax n cx, .slice ay m cy] w fun e w' => ∃ ra rc, e = .returned (.tuple #[.slice ra n rc, .int .i64 0]) ∧ OwnC w.heap.size w' ra n rc (prodL p qs tkL xs ys) ∧ Ext w w' := by
  obtain ⟨hs, hxm, hym⟩ := codeM_two hc
  obtain ⟨hpr, hd1, hd6, hqb⟩ := space_of hs
  have hpb := prime_bd hpr
  obtain ⟨hxl, hxb⟩ := multi_of hxm
  obtain ⟨hyl, hyb⟩ := multi_of hym
  rw [hq.1] at hxl hyl hd6
  obtain rfl : n = 2 ^ d := hx.1.symm.trans hxl
  obtain rfl : m = 2 ^ d := hy.1.symm.trans hyl
  have HC := Lib.hid hc
  have HQB := Lib.hid hqb
  have HXB := Lib.hid hxb
  have HYB := Lib.hid hyb
  have HXL := Lib.hid hxl
  have HYL := Lib.hid hyl
  have HQL := Lib.hid hq.1
  have hcb : ((0 : Int) != 0) = false := by simp
  clear hc hs hxm hym hqb hxb hyb hxl hyl hpr hd1
  go_enter Try.func34, Try.ntmps34
  go_wp2_with (go_at_call 79; refine (c_checkMultis p a d cap qs _ 2 _ [xs, ys] _ hd (by omega) (len_two (by rw [hx.1]; exact hl) (by rw [hy.1]; exact hm)) (hq.ext ((ext_alloc _ _).alloc _)) (rdR_two (a := ax) (b := ay) (n := _) (m := _) (ca := cx) (cb := cy) (by simp) (by simp) (hx.ext ((ext_alloc _ _).alloc _)) (hy.ext ((ext_alloc _ _).alloc _)))).mono ?_; rintro e w1 ⟨rfl, g1⟩; rw [HC.out]; have hq0 : w1.cell? ⟨w.heap.size, 0, none⟩ = some (.int .i64 p) := g1.cell (by simp); have hq1 : w1.cell? ⟨w.heap.size, 1, none⟩ = some (.slice a d cap) := g1.cell (by simp))
  have G1 := Lib.hid (((ext_alloc w (.cells #[.int .i64 p, .slice a d cap] 26)).alloc (.cells #[.slice ax (2 ^ d) cx, .slice ay (2 ^ d) cy] 24)).trans g1)
  clear g1 hq0 hq1
  refine (c_contract p a d cap qs _ _ _ _ xs ys w1 (by omega) (by omega) (by omega) (hq.ext G1.out) HQB.out (hx.ext G1.out) (hy.ext G1.out) HXB.out HYB.out).mono ?_
  rintro e w2 ⟨g, rfl, ho, g2⟩
  have HO := Lib.hid ho
  have G2 := Lib.hid g2
  clear ho g2
  go_wp2_with (fail)
  go_ret2
  exact ⟨some ⟨g, 0, none⟩, 2 ^ d, rfl, HO.out.mono G1.out.size, G1.out.trans G2.out⟩

set_option maxHeartbeats 400000 in
theorem c_RightContraction_bad (p : Int) (a : Option Addr) (d cap : Nat) (qs : List Int) (ax : Option Addr) (n cx : Nat) (xs : List Int) (ay : Option Addr) (m cy : Nat) (ys : List Int) (w : World) (hd : d ≤ 4194304) (hl : n ≤ 4194304) (hm : m ≤ 4194304) (hq : RdC w a d qs) (hx : RdC w ax n xs) (hy : RdC w ay m ys) (hc : codeM p qs [xs, ys] ≠ 0) :
    Calls Try.prog 38 #[.agg #[.int .i64 p, .slice a d cap], .slice ax n cx, .slice ay m cy] w fun e w' => ∃ ra rc, e = .returned (.tuple #[.slice ra 0 rc, .int .i64 (codeM p qs [xs, ys])]) ∧ OwnC w.heap.size w' ra 0 rc [] ∧ Ext w w' := by
  have hcb : (codeM p qs [xs, ys] != 0) = true := by simp [hc]
  clear hc
  go_enter Try.func38, Try.ntmps38
  go_wp2_with (go_at_call 79; refine (c_checkMultis p a d cap qs _ 2 _ [xs, ys] _ hd (by omega) (len_two (by rw [hx.1]; exact hl) (by rw [hy.1]; exact hm)) (hq.ext ((ext_alloc _ _).alloc _)) (rdR_two (a := ax) (b := ay) (n := _) (m := _) (ca := cx) (cb := cy) (by simp) (by simp) (hx.ext ((ext_alloc _ _).alloc _)) (hy.ext ((ext_alloc _ _).alloc _)))).mono ?_; rintro e w1 ⟨rfl, g1⟩)
  go_ret2
  exact ⟨none, 0, rfl, own_nil _ _, ((ext_alloc _ _).alloc _).trans g1⟩

set_option maxHeartbeats 400000 in
theorem c_RightContraction_ok (p : Int) (a : Option Addr) (d cap : Nat) (qs : List Int) (ax : Option Addr) (n cx : Nat) (xs : List Int) (ay : Option Addr) (m cy : Nat) (ys : List Int) (w : World) (hd : d ≤ 4194304) (hl : n ≤ 4194304) (hm : m ≤ 4194304) (hq : RdC w a d qs) (hx : RdC w ax n xs) (hy : RdC w ay m ys) (hc : codeM p qs [xs, ys] = 0) :
    Calls Try.prog 38 #[.agg #[.int .i64 p, .slice a d cap], .slice ax n cx, .slice ay m cy] w fun e w' => ∃ ra rc, e = .returned (.tuple #[.slice ra n rc, .int .i64 0]) ∧ OwnC w.heap.size w' ra n rc (prodL p qs tkR xs ys) ∧ Ext w w' := by
  obtain ⟨hs, hxm, hym⟩ := codeM_two hc
  obtain ⟨hpr, hd1, hd6, hqb⟩ := space_of hs
  have hpb := prime_bd hpr
  obtain ⟨hxl, hxb⟩ := multi_of hxm
  obtain ⟨hyl, hyb⟩ := multi_of hym
  rw [hq.1] at hxl hyl hd6
  obtain rfl : n = 2 ^ d := hx.1.symm.trans hxl
  obtain rfl : m = 2 ^ d := hy.1.symm.trans hyl
  have HC := Lib.hid hc
  have HQB := Lib.hid hqb
  have HXB := Lib.hid hxb
  have HYB := Lib.hid hyb
  have HXL := Lib.hid hxl
  have HYL := Lib.hid hyl
  have HQL := Lib.hid hq.1
  have hcb : ((0 : Int) != 0) = false := by simp
  clear hc hs hxm hym hqb hxb hyb hxl hyl hpr hd1
  go_enter Try.func38, Try.ntmps38
  go_wp2_with (go_at_call 79; refine (c_checkMultis p a d cap qs _ 2 _ [xs, ys] _ hd (by omega) (len_two (by rw [hx.1]; exact hl) (by rw [hy.1]; exact hm)) (hq.ext ((ext_alloc _ _).alloc _)) (rdR_two (a := ax) (b := ay) (n := _) (m := _) (ca := cx) (cb := cy) (by simp) (by simp) (hx.ext ((ext_alloc _ _).alloc _)) (hy.ext ((ext_alloc _ _).alloc _)))).mono ?_; rintro e w1 ⟨rfl, g1⟩; rw [HC.out]; have hq0 : w1.cell? ⟨w.heap.size, 0, none⟩ = some (.int .i64 p) := g1.cell (by simp); have hq1 : w1.cell? ⟨w.heap.size, 1, none⟩ = some (.slice a d cap) := g1.cell (by simp))
  have G1 := Lib.hid (((ext_alloc w (.cells #[.int .i64 p, .slice a d cap] 26)).alloc (.cells #[.slice ax (2 ^ d) cx, .slice ay (2 ^ d) cy] 24)).trans g1)
  clear g1 hq0 hq1
  refine (c_product p a d cap qs _ _ _ _ xs ys 98 tkR w1 (by omega) (by omega) (by omega) (hq.ext G1.out) HQB.out (hx.ext G1.out) (hy.ext G1.out) HXB.out HYB.out ?_ (fun i j w hi hj => c_around i j w hi hj)).mono ?_
  · intro args w; go_simp
  rintro e w2 ⟨g, rfl, ho, g2⟩
  have HO := Lib.hid ho
  have G2 := Lib.hid g2
  clear ho g2
  go_wp2_with (fail)
  go_ret2
  exact ⟨some ⟨g, 0, none⟩, 2 ^ d, rfl, HO.out.mono G1.out.size, G1.out.trans G2.out⟩

set_option maxHeartbeats 400000 in
theorem c_GeometricProduct_bad (p : Int) (a : Option Addr) (d cap : Nat) (qs : List Int) (ax : Option Addr) (n cx : Nat) (xs : List Int) (ay : Option Addr) (m cy : Nat) (ys : List Int) (w : World) (hd : d ≤ 4194304) (hl : n ≤ 4194304) (hm : m ≤ 4194304) (hq : RdC w a d qs) (hx : RdC w ax n xs) (hy : RdC w ay m ys) (hc : codeM p qs [xs, ys] ≠ 0) :
    Calls Try.prog 23 #[.agg #[.int .i64 p, .slice a d cap], .slice ax n cx, .slice ay m cy] w fun e w' => ∃ ra rc, e = .returned (.tuple #[.slice ra 0 rc, .int .i64 (codeM p qs [xs, ys])]) ∧ OwnC w.heap.size w' ra 0 rc [] ∧ Ext w w' := by
  have hcb : (codeM p qs [xs, ys] != 0) = true := by simp [hc]
  clear hc
  go_enter Try.func23, Try.ntmps23
  go_wp2_with (go_at_call 79; refine (c_checkMultis p a d cap qs _ 2 _ [xs, ys] _ hd (by omega) (len_two (by rw [hx.1]; exact hl) (by rw [hy.1]; exact hm)) (hq.ext ((ext_alloc _ _).alloc _)) (rdR_two (a := ax) (b := ay) (n := _) (m := _) (ca := cx) (cb := cy) (by simp) (by simp) (hx.ext ((ext_alloc _ _).alloc _)) (hy.ext ((ext_alloc _ _).alloc _)))).mono ?_; rintro e w1 ⟨rfl, g1⟩)
  go_ret2
  exact ⟨none, 0, rfl, own_nil _ _, ((ext_alloc _ _).alloc _).trans g1⟩

set_option maxHeartbeats 400000 in
theorem c_GeometricProduct_ok (p : Int) (a : Option Addr) (d cap : Nat) (qs : List Int) (ax : Option Addr) (n cx : Nat) (xs : List Int) (ay : Option Addr) (m cy : Nat) (ys : List Int) (w : World) (hd : d ≤ 4194304) (hl : n ≤ 4194304) (hm : m ≤ 4194304) (hq : RdC w a d qs) (hx : RdC w ax n xs) (hy : RdC w ay m ys) (hc : codeM p qs [xs, ys] = 0) :
    Calls Try.prog 23 #[.agg #[.int .i64 p, .slice a d cap], .slice ax n cx, .slice ay m cy] w fun e w' => ∃ ra rc, e = .returned (.tuple #[.slice ra n rc, .int .i64 0]) ∧ OwnC w.heap.size w' ra n rc (prodL p qs tkA xs ys) ∧ Ext w w' := by
  obtain ⟨hs, hxm, hym⟩ := codeM_two hc
  obtain ⟨hpr, hd1, hd6, hqb⟩ := space_of hs
  have hpb := prime_bd hpr
  obtain ⟨hxl, hxb⟩ := multi_of hxm
  obtain ⟨hyl, hyb⟩ := multi_of hym
  rw [hq.1] at hxl hyl hd6
  obtain rfl : n = 2 ^ d := hx.1.symm.trans hxl
  obtain rfl : m = 2 ^ d := hy.1.symm.trans hyl
  have HC := Lib.hid hc
  have HQB := Lib.hid hqb
  have HXB := Lib.hid hxb
  have HYB := Lib.hid hyb
  have HXL := Lib.hid hxl
  have HYL := Lib.hid hyl
  have HQL := Lib.hid hq.1
  have hcb : ((0 : Int) != 0) = false := by simp
  clear hc hs hxm hym hqb hxb hyb hxl hyl hpr hd1
  go_enter Try.func23, Try.ntmps23
  go_wp2_with (go_at_call 79; refine (c_checkMultis p a d cap qs _ 2 _ [xs, ys] _ hd (by omega) (len_two (by rw [hx.1]; exact hl) (by rw [hy.1]; exact hm)) (hq.ext ((ext_alloc _ _).alloc _)) (rdR_two (a := ax) (b := ay) (n := _) (m := _) (ca := cx) (cb := cy) (by simp) (by simp) (hx.ext ((ext_alloc _ _).alloc _)) (hy.ext ((ext_alloc _ _).alloc _)))).mono ?_; rintro e w1 ⟨rfl, g1⟩; rw [HC.out]; have hq0 : w1.cell? ⟨w.heap.size, 0, none⟩ = some (.int .i64 p) := g1.cell (by simp); have hq1 : w1.cell? ⟨w.heap.size, 1, none⟩ = some (.slice a d cap) := g1.cell (by simp))
  have G1 := Lib.hid (((ext_alloc w (.cells #[.int .i64 p, .slice a d cap] 26)).alloc (.cells #[.slice ax (2 ^ d) cx, .slice ay (2 ^ d) cy] 24)).trans g1)
  clear g1 hq0 hq1
  refine (c_times p a d cap qs _ 2 _ [xs, ys] (w1.alloc (.cells #[.slice ax (2 ^ d) cx, .slice ay (2 ^ d) cy] 24)) (by omega) (by omega) (by omega) (by omega) (hq.ext (G1.out.alloc _)) HQB.out (rdR_two (a := ax) (b := ay) (n := _) (m := _) (ca := cx) (cb := cy) (by simp) (by simp) (hx.ext (G1.out.alloc _)) (hy.ext (G1.out.alloc _))) (good_two (good_isB HXL.out HXB.out) (good_isB HYL.out HYB.out))).mono ?_
  rintro e w2 ⟨g, rfl, ho, g2⟩
  have HO := Lib.hid ho
  have G2 := Lib.hid g2
  clear ho g2
  go_wp2_with (fail)
  go_ret2
  rw [timesL_two (by omega) (by rw [HQL.out]; exact good_isB HXL.out HXB.out)] at HO
  exact ⟨some ⟨g, 0, none⟩, 2 ^ d, rfl, HO.out.mono (Nat.le_trans G1.out.size (by simp)), (G1.out.alloc _).trans G2.out⟩

end Go.Proofs.Ytbgnfjckbjmgbaa
