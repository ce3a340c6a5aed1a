/-
  Contracts of the listed products: the code, and where it is 0 the product.
  No condition.
-/
import Derived.Test.YtlchmkaaogokiaaTimes
namespace Go.Proofs.Ytlchmkaaogokiaa
set_option maxRecDepth 100000
open Go.RowKit

theorem good_two {p : Int} {N : Nat} {xs ys : List Int} (h : Good p N xs) (h' : Good p N ys) : ∀ i, i < 2 → Good p N (nthR [xs, ys] i) := fun i hi => by
  have : i = 0 ∨ i = 1 := by omega
  rcases this with rfl | rfl
  · exact h
  · exact h'

set_option maxHeartbeats 400000 in
theorem s_wedge (p : Int) (a : Option Addr) (d cap : Nat) (qs : List Int) (ax ay : Option Addr) (cx cy : Nat) (x y : List Int) (w : World) (hd : d ≤ 6) (hp1 : 3 ≤ p) (hp2 : p ≤ 1000) (hq : RdC w a d qs) (hqb : isB p qs = true)
    (hx : RdC w ax (2 ^ d) x) (hy : RdC w ay (2 ^ d) y) (hxb : isB p x = true) (hyb : isB p y = true) :
    Calls Try.prog 48 #[.agg #[.int .i64 p, .slice a d cap], .slice ax (2 ^ d) cx, .slice ay (2 ^ d) cy] w fun e w' =>
      ∃ g, e = .returned (.slice (some ⟨g, 0, none⟩) (2 ^ d) (2 ^ d)) ∧ OwnC w.heap.size w' (some ⟨g, 0, none⟩) (2 ^ d) (2 ^ d) (prodL p qs tkW x y) ∧ Ext w w' := by
  go_enter Try.func48, Try.ntmps48
  go_wp2_with (fail)
  refine (s_kind0 p a d cap qs _ _ _ _ x y _ hd hp1 hp2 (hq.ext (ext_alloc _ _)) hqb (hx.ext (ext_alloc _ _)) (hy.ext (ext_alloc _ _)) hxb hyb).mono ?_
  rintro e w1 ⟨g, rfl, ho, g1⟩
  have HO := Lib.hid ho
  have G1 := Lib.hid g1
  clear ho g1
  go_wp2_with (fail)
  go_ret
  exact ⟨g, rfl, HO.out.mono (by simp), (ext_alloc _ _).trans G1.out⟩

set_option maxHeartbeats 400000 in
theorem s_left (p : Int) (a : Option Addr) (d cap : Nat) (qs : List Int) (ax ay : Option Addr) (cx cy : Nat) (x y : List Int) (w : World) (hd : d ≤ 6) (hp1 : 3 ≤ p) (hp2 : p ≤ 1000) (hq : RdC w a d qs) (hqb : isB p qs = true)
    (hx : RdC w ax (2 ^ d) x) (hy : RdC w ay (2 ^ d) y) (hxb : isB p x = true) (hyb : isB p y = true) :
    Calls Try.prog 110 #[.agg #[.int .i64 p, .slice a d cap], .slice ax (2 ^ d) cx, .slice ay (2 ^ d) cy] w fun e w' =>
      ∃ g, e = .returned (.slice (some ⟨g, 0, none⟩) (2 ^ d) (2 ^ d)) ∧ OwnC w.heap.size w' (some ⟨g, 0, none⟩) (2 ^ d) (2 ^ d) (prodL p qs tkL x y) ∧ Ext w w' := by
  go_enter Try.func110, Try.ntmps110
  go_wp2_with (fail)
  refine (s_kind1 p a d cap qs _ _ _ _ x y _ hd hp1 hp2 (hq.ext (ext_alloc _ _)) hqb (hx.ext (ext_alloc _ _)) (hy.ext (ext_alloc _ _)) hxb hyb).mono ?_
  rintro e w1 ⟨g, rfl, ho, g1⟩
  have HO := Lib.hid ho
  have G1 := Lib.hid g1
  clear ho g1
  go_wp2_with (fail)
  go_ret
  exact ⟨g, rfl, HO.out.mono (by simp), (ext_alloc _ _).trans G1.out⟩









end Go.Proofs.Ytlchmkaaogokiaa
