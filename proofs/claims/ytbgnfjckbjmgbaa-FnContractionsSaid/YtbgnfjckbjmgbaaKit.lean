/-
  Contracts of products and blades, with the number of coefficients as a letter.
  No condition.
-/
import Derived.Test.YtbgnfjckbjmgbaaTopProd
import Derived.Test.YtbgnfjckbjmgbaaPlus
namespace Go.Proofs.Ytbgnfjckbjmgbaa
set_option maxRecDepth 100000
open Go.RowKit

theorem c_nothingN {N : Nat} {d : Nat} (hN : N = 2 ^ d) (p : Int) (a : Option Addr) (cap : Nat) (w : World) (hd : d ≤ 6) :
    Calls Try.prog 161 #[.agg #[.int .i64 p, .slice a d cap]] w fun e w' => ∃ g, e = .returned (.slice (some ⟨g, 0, none⟩) N N) ∧ OwnC w.heap.size w' (some ⟨g, 0, none⟩) N N (List.replicate N 0) ∧ Ext w w' := by
  subst hN
  exact c_nothing p a d cap w hd
theorem c_productN {N : Nat} {d : Nat} (hN : N = 2 ^ d) (p : Int) (a : Option Addr) (cap : Nat) (qs : List Int) (ax ay : Option Addr) (cx cy : Nat) (x y : List Int) (F : Nat) (tk : Nat → Nat → Bool) (w : World) (hd : d ≤ 6) (hp1 : 3 ≤ p) (hp2 : p ≤ 1000) (hq : RdC w a d qs) (hqb : isB p qs = true)
    (hx : RdC w ax N x) (hy : RdC w ay N y) (hxb : isB p x = true) (hyb : isB p y = true)
    (hcf : ∀ args w, (callFunc F args).run Try.prog w = .ok (.enter F args) w)
    (htk : ∀ (i j : Nat) (w : World), i < 64 → j < 64 → Calls Try.prog F #[.int .i64 i, .int .i64 j] w fun e w' => e = .returned (.bool (tk i j)) ∧ Ext w w') :
    Calls Try.prog 97 #[.agg #[.int .i64 p, .slice a d cap], .slice ax N cx, .slice ay N cy, .func (.func F) #[] #[]] w fun e w' =>
      ∃ g, e = .returned (.slice (some ⟨g, 0, none⟩) N N) ∧ OwnC w.heap.size w' (some ⟨g, 0, none⟩) N N (prodL p qs tk x y) ∧ Ext w w' := by
  subst hN
  exact c_product p a d cap qs ax ay cx cy x y F tk w hd hp1 hp2 hq hqb hx hy hxb hyb hcf htk
theorem s_kind0N {N : Nat} {d : Nat} (hN : N = 2 ^ d) (p : Int) (a : Option Addr) (cap : Nat) (qs : List Int) (ax ay : Option Addr) (cx cy : Nat) (x y : List Int) (w : World) (hd : d ≤ 6) (hp1 : 3 ≤ p) (hp2 : p ≤ 1000) (hq : RdC w a d qs) (hqb : isB p qs = true)
    (hx : RdC w ax N x) (hy : RdC w ay N y) (hxb : isB p x = true) (hyb : isB p y = true) :
    Calls Try.prog 157 #[.agg #[.int .i64 p, .slice a d cap], .slice ax N cx, .slice ay N cy, .int .i64 0] w fun e w' =>
      ∃ g, e = .returned (.slice (some ⟨g, 0, none⟩) N N) ∧ OwnC w.heap.size w' (some ⟨g, 0, none⟩) N N (prodL p qs tkW x y) ∧ Ext w w' := by
  subst hN
  exact s_kind0 p a d cap qs ax ay cx cy x y w hd hp1 hp2 hq hqb hx hy hxb hyb
theorem s_kind1N {N : Nat} {d : Nat} (hN : N = 2 ^ d) (p : Int) (a : Option Addr) (cap : Nat) (qs : List Int) (ax ay : Option Addr) (cx cy : Nat) (x y : List Int) (w : World) (hd : d ≤ 6) (hp1 : 3 ≤ p) (hp2 : p ≤ 1000) (hq : RdC w a d qs) (hqb : isB p qs = true)
    (hx : RdC w ax N x) (hy : RdC w ay N y) (hxb : isB p x = true) (hyb : isB p y = true) :
    Calls Try.prog 157 #[.agg #[.int .i64 p, .slice a d cap], .slice ax N cx, .slice ay N cy, .int .i64 1] w fun e w' =>
      ∃ g, e = .returned (.slice (some ⟨g, 0, none⟩) N N) ∧ OwnC w.heap.size w' (some ⟨g, 0, none⟩) N N (prodL p qs tkL x y) ∧ Ext w w' := by
  subst hN
  exact s_kind1 p a d cap qs ax ay cx cy x y w hd hp1 hp2 hq hqb hx hy hxb hyb
theorem s_kind2N {N : Nat} {d : Nat} (hN : N = 2 ^ d) (p : Int) (a : Option Addr) (cap : Nat) (qs : List Int) (ax ay : Option Addr) (cx cy : Nat) (x y : List Int) (w : World) (hd : d ≤ 6) (hp1 : 3 ≤ p) (hp2 : p ≤ 1000) (hq : RdC w a d qs) (hqb : isB p qs = true)
    (hx : RdC w ax N x) (hy : RdC w ay N y) (hxb : isB p x = true) (hyb : isB p y = true) :
    Calls Try.prog 157 #[.agg #[.int .i64 p, .slice a d cap], .slice ax N cx, .slice ay N cy, .int .i64 2] w fun e w' =>
      ∃ g, e = .returned (.slice (some ⟨g, 0, none⟩) N N) ∧ OwnC w.heap.size w' (some ⟨g, 0, none⟩) N N (prodL p qs tkR x y) ∧ Ext w w' := by
  subst hN
  exact s_kind2 p a d cap qs ax ay cx cy x y w hd hp1 hp2 hq hqb hx hy hxb hyb
theorem s_timesN {N : Nat} {d : Nat} (hN : N = 2 ^ d) (p : Int) (a : Option Addr) (cap : Nat) (qs : List Int) (ax ay : Option Addr) (cx cy : Nat) (x y : List Int) (w : World) (hd : d ≤ 6) (hp1 : 3 ≤ p) (hp2 : p ≤ 1000) (hq : RdC w a d qs) (hqb : isB p qs = true)
    (hx : RdC w ax N x) (hy : RdC w ay N y) (hxb : isB p x = true) (hyb : isB p y = true) :
    Calls Try.prog 85 #[.agg #[.int .i64 p, .slice a d cap], .slice ax N cx, .slice ay N cy] w fun e w' =>
      ∃ g, e = .returned (.slice (some ⟨g, 0, none⟩) N N) ∧ OwnC w.heap.size w' (some ⟨g, 0, none⟩) N N (prodL p qs tkA x y) ∧ Ext w w' := by
  subst hN
  exact s_times p a d cap qs ax ay cx cy x y w hd hp1 hp2 hq hqb hx hy hxb hyb
theorem c_bladeN {N : Nat} {d : Nat} (hN : N = 2 ^ d) (p : Int) (a : Option Addr) (cap : Nat) (m : Nat) (w : World) (hd : d ≤ 6) (hm : m < N) :
    Calls Try.prog 155 #[.agg #[.int .i64 p, .slice a d cap], .int .i64 m] w fun e w' => ∃ g, e = .returned (.slice (some ⟨g, 0, none⟩) N N) ∧ OwnC w.heap.size w' (some ⟨g, 0, none⟩) N N (bladeL N m) ∧ Ext w w' := by
  subst hN
  exact c_blade p a d cap m w hd hm
theorem c_oneN {N : Nat} {d : Nat} (hN : N = 2 ^ d) (p : Int) (a : Option Addr) (cap : Nat) (w : World) (hd : d ≤ 6) :
    Calls Try.prog 92 #[.agg #[.int .i64 p, .slice a d cap]] w fun e w' => ∃ g, e = .returned (.slice (some ⟨g, 0, none⟩) N N) ∧ OwnC w.heap.size w' (some ⟨g, 0, none⟩) N N (bladeL N 0) ∧ Ext w w' := by
  subst hN
  exact c_one p a d cap w hd
theorem c_timesN {N : Nat} {d : Nat} (hN : N = 2 ^ d) (p : Int) (a : Option Addr) (cap : Nat) (qs : List Int) (al : Option Addr) (n cl : Nat) (rows : List (List Int)) (w : World) (hd : d ≤ 6) (hp1 : 3 ≤ p) (hp2 : p ≤ 1000) (hl : n ≤ 4194304) (hq : RdC w a d qs) (hqb : isB p qs = true)
    (hx : RdR w al n rows) (hr : ∀ i, i < n → Good p N (nthR rows i)) :
    Calls Try.prog 83 #[.agg #[.int .i64 p, .slice a d cap], .slice al n cl] w fun e w' => ∃ g, e = .returned (.slice (some ⟨g, 0, none⟩) N N) ∧ OwnC w.heap.size w' (some ⟨g, 0, none⟩) N N (timesL p qs rows) ∧ Ext w w' := by
  subst hN
  exact c_times p a d cap qs al n cl rows w hd hp1 hp2 hl hq hqb hx hr
theorem c_wedgeN {N : Nat} {d : Nat} (hN : N = 2 ^ d) (p : Int) (a : Option Addr) (cap : Nat) (qs : List Int) (ax ay : Option Addr) (cx cy : Nat) (x y : List Int) (w : World) (hd : d ≤ 6) (hp1 : 3 ≤ p) (hp2 : p ≤ 1000) (hq : RdC w a d qs) (hqb : isB p qs = true)
    (hx : RdC w ax N x) (hy : RdC w ay N y) (hxb : isB p x = true) (hyb : isB p y = true) :
    Calls Try.prog 95 #[.agg #[.int .i64 p, .slice a d cap], .slice ax N cx, .slice ay N cy] w fun e w' =>
      ∃ g, e = .returned (.slice (some ⟨g, 0, none⟩) N N) ∧ OwnC w.heap.size w' (some ⟨g, 0, none⟩) N N (prodL p qs tkW x y) ∧ Ext w w' := by
  subst hN
  exact c_wedge p a d cap qs ax ay cx cy x y w hd hp1 hp2 hq hqb hx hy hxb hyb
theorem c_contractN {N : Nat} {d : Nat} (hN : N = 2 ^ d) (p : Int) (a : Option Addr) (cap : Nat) (qs : List Int) (ax ay : Option Addr) (cx cy : Nat) (x y : List Int) (w : World) (hd : d ≤ 6) (hp1 : 3 ≤ p) (hp2 : p ≤ 1000) (hq : RdC w a d qs) (hqb : isB p qs = true)
    (hx : RdC w ax N x) (hy : RdC w ay N y) (hxb : isB p x = true) (hyb : isB p y = true) :
    Calls Try.prog 93 #[.agg #[.int .i64 p, .slice a d cap], .slice ax N cx, .slice ay N cy] w fun e w' =>
      ∃ g, e = .returned (.slice (some ⟨g, 0, none⟩) N N) ∧ OwnC w.heap.size w' (some ⟨g, 0, none⟩) N N (prodL p qs tkL x y) ∧ Ext w w' := by
  subst hN
  exact c_contract p a d cap qs ax ay cx cy x y w hd hp1 hp2 hq hqb hx hy hxb hyb
theorem s_wedgeN {N : Nat} {d : Nat} (hN : N = 2 ^ d) (p : Int) (a : Option Addr) (cap : Nat) (qs : List Int) (ax ay : Option Addr) (cx cy : Nat) (x y : List Int) (w : World) (hd : d ≤ 6) (hp1 : 3 ≤ p) (hp2 : p ≤ 1000) (hq : RdC w a d qs) (hqb : isB p qs = true)
    (hx : RdC w ax N x) (hy : RdC w ay N y) (hxb : isB p x = true) (hyb : isB p y = true) :
    Calls Try.prog 116 #[.agg #[.int .i64 p, .slice a d cap], .slice ax N cx, .slice ay N cy] w fun e w' =>
      ∃ g, e = .returned (.slice (some ⟨g, 0, none⟩) N N) ∧ OwnC w.heap.size w' (some ⟨g, 0, none⟩) N N (prodL p qs tkW x y) ∧ Ext w w' := by
  subst hN
  exact s_wedge p a d cap qs ax ay cx cy x y w hd hp1 hp2 hq hqb hx hy hxb hyb
theorem s_leftN {N : Nat} {d : Nat} (hN : N = 2 ^ d) (p : Int) (a : Option Addr) (cap : Nat) (qs : List Int) (ax ay : Option Addr) (cx cy : Nat) (x y : List Int) (w : World) (hd : d ≤ 6) (hp1 : 3 ≤ p) (hp2 : p ≤ 1000) (hq : RdC w a d qs) (hqb : isB p qs = true)
    (hx : RdC w ax N x) (hy : RdC w ay N y) (hxb : isB p x = true) (hyb : isB p y = true) :
    Calls Try.prog 94 #[.agg #[.int .i64 p, .slice a d cap], .slice ax N cx, .slice ay N cy] w fun e w' =>
      ∃ g, e = .returned (.slice (some ⟨g, 0, none⟩) N N) ∧ OwnC w.heap.size w' (some ⟨g, 0, none⟩) N N (prodL p qs tkL x y) ∧ Ext w w' := by
  subst hN
  exact s_left p a d cap qs ax ay cx cy x y w hd hp1 hp2 hq hqb hx hy hxb hyb
theorem c_fullN {N : Nat} {d : Nat} (hN : N = 2 ^ d) (p : Int) (a : Option Addr) (cap : Nat) (w : World) (hd : d ≤ 6) :
    Calls Try.prog 118 #[.agg #[.int .i64 p, .slice a d cap]] w fun e w' => ∃ g, e = .returned (.slice (some ⟨g, 0, none⟩) N N) ∧ OwnC w.heap.size w' (some ⟨g, 0, none⟩) N N (fullL d) ∧ Ext w w' := by
  subst hN
  exact c_full p a d cap w hd
theorem s_zeroN {N : Nat} {d : Nat} (hN : N = 2 ^ d) (p : Int) (a : Option Addr) (cap : Nat) (w : World) (hd : d ≤ 6) :
    Calls Try.prog 181 #[.agg #[.int .i64 p, .slice a d cap]] w fun e w' => ∃ g, e = .returned (.slice (some ⟨g, 0, none⟩) N N) ∧ OwnC w.heap.size w' (some ⟨g, 0, none⟩) N N (List.replicate N 0) ∧ Ext w w' := by
  subst hN
  exact s_zero p a d cap w hd
theorem s_oneN {N : Nat} {d : Nat} (hN : N = 2 ^ d) (p : Int) (a : Option Addr) (cap : Nat) (w : World) (hd : d ≤ 6) :
    Calls Try.prog 168 #[.agg #[.int .i64 p, .slice a d cap]] w fun e w' => ∃ g, e = .returned (.slice (some ⟨g, 0, none⟩) N N) ∧ OwnC w.heap.size w' (some ⟨g, 0, none⟩) N N (bladeL N 0) ∧ Ext w w' := by
  subst hN
  exact s_one p a d cap w hd
theorem s_topN {N : Nat} {d : Nat} (hN : N = 2 ^ d) (p : Int) (a : Option Addr) (cap : Nat) (k : Int) (w : World) (hd : d ≤ 6) :
    Calls Try.prog 175 #[.agg #[.int .i64 p, .slice a d cap], .int .i64 k] w fun e w' => ∃ g, e = .returned (.slice (some ⟨g, 0, none⟩) N N) ∧ OwnC w.heap.size w' (some ⟨g, 0, none⟩) N N (topL d k) ∧ Ext w w' := by
  subst hN
  exact s_top p a d cap k w hd
end Go.Proofs.Ytbgnfjckbjmgbaa
