/-
  Contracts and plain laws, part 3: Kit, Regular, Inv, Vec, Own, RowsC, Gauss, Reverse.
  No condition.
-/
import Derived.Test.YtbgnfjckbjmgbaaPart2
import Derived.Test.YtbgnfjckbjmgbaaPart0
/-
  Contracts of products and blades, with the number of coefficients as a letter.
  No condition.
-/
namespace Go.Proofs.Ytbgnfjckbjmgbaa
set_option maxRecDepth 100000
open Go.RowKit

theorem c_nothingN {N : Nat} {d : Nat} (hN : N = 2 ^ d) (p : Int) (a : Option Addr) (cap : Nat) (w : World) (hd : d ≤ 6) :
    Calls Try.prog 161 #[.agg #[.int .i64 p, .slice a d cap]] w fun e w' => ∃ g, e = .returned (.slice (some ⟨g, 0, none⟩) N N) ∧ OwnC w.heap.size w' (some ⟨g, 0, none⟩) N N (List.replicate N 0) ∧ Ext w w' := by
  subst hN
  exact c_nothing p a d cap w hd
theorem c_productN {N : Nat} {d : Nat} (hN : N = 2 ^ d) (p : Int) (a : Option Addr) (cap : Nat) (qs : List Int) (ax ay : Option Addr) (cx cy : Nat) (x y : List Int) (F : Nat) (tk : Nat → Nat → Bool) (w : World) (hd : d ≤ 6) (hp1 : 3 ≤ p) (hp2 : p ≤ 1000) (hq : RdC w a d qs) (hqb : isB p qs = true)
    (hx : RdC w ax N x) (hy : RdC w ay N y) (hxb : isB p x = true) (hyb : isB p y = true)
    (hcf : ∀ args w, (callFunc F args).run Try.prog w = .ok (.enter F args) w)
    (htk : ∀ (i j : Nat) (w : World), i < 64 → j < 64 → Calls Try.prog F #[.int .i64 i, .int .i64 j] w fun e w' => e = .returned (.bool (tk i j)) ∧ Ext w w') :
    Calls Try.prog 97 #[.agg #[.int .i64 p, .slice a d cap], .slice ax N cx, .slice ay N cy, .func (.func F) #[] #[]] w fun e w' =>
      ∃ g, e = .returned (.slice (some ⟨g, 0, none⟩) N N) ∧ OwnC w.heap.size w' (some ⟨g, 0, none⟩) N N (prodL p qs tk x y) ∧ Ext w w' := by
  subst hN
  exact c_product p a d cap qs ax ay cx cy x y F tk w hd hp1 hp2 hq hqb hx hy hxb hyb hcf htk
theorem s_kind0N {N : Nat} {d : Nat} (hN : N = 2 ^ d) (p : Int) (a : Option Addr) (cap : Nat) (qs : List Int) (ax ay : Option Addr) (cx cy : Nat) (x y : List Int) (w : World) (hd : d ≤ 6) (hp1 : 3 ≤ p) (hp2 : p ≤ 1000) (hq : RdC w a d qs) (hqb : isB p qs = true)
    (hx : RdC w ax N x) (hy : RdC w ay N y) (hxb : isB p x = true) (hyb : isB p y = true) :
    Calls Try.prog 157 #[.agg #[.int .i64 p, .slice a d cap], .slice ax N cx, .slice ay N cy, .int .i64 0] w fun e w' =>
      ∃ g, e = .returned (.slice (some ⟨g, 0, none⟩) N N) ∧ OwnC w.heap.size w' (some ⟨g, 0, none⟩) N N (prodL p qs tkW x y) ∧ Ext w w' := by
  subst hN
  exact s_kind0 p a d cap qs ax ay cx cy x y w hd hp1 hp2 hq hqb hx hy hxb hyb
theorem s_kind1N {N : Nat} {d : Nat} (hN : N = 2 ^ d) (p : Int) (a : Option Addr) (cap : Nat) (qs : List Int) (ax ay : Option Addr) (cx cy : Nat) (x y : List Int) (w : World) (hd : d ≤ 6) (hp1 : 3 ≤ p) (hp2 : p ≤ 1000) (hq : RdC w a d qs) (hqb : isB p qs = true)
    (hx : RdC w ax N x) (hy : RdC w ay N y) (hxb : isB p x = true) (hyb : isB p y = true) :
    Calls Try.prog 157 #[.agg #[.int .i64 p, .slice a d cap], .slice ax N cx, .slice ay N cy, .int .i64 1] w fun e w' =>
      ∃ g, e = .returned (.slice (some ⟨g, 0, none⟩) N N) ∧ OwnC w.heap.size w' (some ⟨g, 0, none⟩) N N (prodL p qs tkL x y) ∧ Ext w w' := by
  subst hN
  exact s_kind1 p a d cap qs ax ay cx cy x y w hd hp1 hp2 hq hqb hx hy hxb hyb
theorem s_kind2N {N : Nat} {d : Nat} (hN : N = 2 ^ d) (p : Int) (a : Option Addr) (cap : Nat) (qs : List Int) (ax ay : Option Addr) (cx cy : Nat) (x y : List Int) (w : World) (hd : d ≤ 6) (hp1 : 3 ≤ p) (hp2 : p ≤ 1000) (hq : RdC w a d qs) (hqb : isB p qs = true)
    (hx : RdC w ax N x) (hy : RdC w ay N y) (hxb : isB p x = true) (hyb : isB p y = true) :
    Calls Try.prog 157 #[.agg #[.int .i64 p, .slice a d cap], .slice ax N cx, .slice ay N cy, .int .i64 2] w fun e w' =>
      ∃ g, e = .returned (.slice (some ⟨g, 0, none⟩) N N) ∧ OwnC w.heap.size w' (some ⟨g, 0, none⟩) N N (prodL p qs tkR x y) ∧ Ext w w' := by
  subst hN
  exact s_kind2 p a d cap qs ax ay cx cy x y w hd hp1 hp2 hq hqb hx hy hxb hyb
theorem s_timesN {N : Nat} {d : Nat} (hN : N = 2 ^ d) (p : Int) (a : Option Addr) (cap : Nat) (qs : List Int) (ax ay : Option Addr) (cx cy : Nat) (x y : List Int) (w : World) (hd : d ≤ 6) (hp1 : 3 ≤ p) (hp2 : p ≤ 1000) (hq : RdC w a d qs) (hqb : isB p qs = true)
    (hx : RdC w ax N x) (hy : RdC w ay N y) (hxb : isB p x = true) (hyb : isB p y = true) :
    Calls Try.prog 85 #[.agg #[.int .i64 p, .slice a d cap], .slice ax N cx, .slice ay N cy] w fun e w' =>
      ∃ g, e = .returned (.slice (some ⟨g, 0, none⟩) N N) ∧ OwnC w.heap.size w' (some ⟨g, 0, none⟩) N N (prodL p qs tkA x y) ∧ Ext w w' := by
  subst hN
  exact s_times p a d cap qs ax ay cx cy x y w hd hp1 hp2 hq hqb hx hy hxb hyb
theorem c_bladeN {N : Nat} {d : Nat} (hN : N = 2 ^ d) (p : Int) (a : Option Addr) (cap : Nat) (m : Nat) (w : World) (hd : d ≤ 6) (hm : m < N) :
    Calls Try.prog 155 #[.agg #[.int .i64 p, .slice a d cap], .int .i64 m] w fun e w' => ∃ g, e = .returned (.slice (some ⟨g, 0, none⟩) N N) ∧ OwnC w.heap.size w' (some ⟨g, 0, none⟩) N N (bladeL N m) ∧ Ext w w' := by
  subst hN
  exact c_blade p a d cap m w hd hm
theorem c_oneN {N : Nat} {d : Nat} (hN : N = 2 ^ d) (p : Int) (a : Option Addr) (cap : Nat) (w : World) (hd : d ≤ 6) :
    Calls Try.prog 92 #[.agg #[.int .i64 p, .slice a d cap]] w fun e w' => ∃ g, e = .returned (.slice (some ⟨g, 0, none⟩) N N) ∧ OwnC w.heap.size w' (some ⟨g, 0, none⟩) N N (bladeL N 0) ∧ Ext w w' := by
  subst hN
  exact c_one p a d cap w hd
theorem c_timesN {N : Nat} {d : Nat} (hN : N = 2 ^ d) (p : Int) (a : Option Addr) (cap : Nat) (qs : List Int) (al : Option Addr) (n cl : Nat) (rows : List (List Int)) (w : World) (hd : d ≤ 6) (hp1 : 3 ≤ p) (hp2 : p ≤ 1000) (hl : n ≤ 4194304) (hq : RdC w a d qs) (hqb : isB p qs = true)
    (hx : RdR w al n rows) (hr : ∀ i, i < n → Good p N (nthR rows i)) :
    Calls Try.prog 83 #[.agg #[.int .i64 p, .slice a d cap], .slice al n cl] w fun e w' => ∃ g, e = .returned (.slice (some ⟨g, 0, none⟩) N N) ∧ OwnC w.heap.size w' (some ⟨g, 0, none⟩) N N (timesL p qs rows) ∧ Ext w w' := by
  subst hN
  exact c_times p a d cap qs al n cl rows w hd hp1 hp2 hl hq hqb hx hr
theorem c_wedgeN {N : Nat} {d : Nat} (hN : N = 2 ^ d) (p : Int) (a : Option Addr) (cap : Nat) (qs : List Int) (ax ay : Option Addr) (cx cy : Nat) (x y : List Int) (w : World) (hd : d ≤ 6) (hp1 : 3 ≤ p) (hp2 : p ≤ 1000) (hq : RdC w a d qs) (hqb : isB p qs = true)
    (hx : RdC w ax N x) (hy : RdC w ay N y) (hxb : isB p x = true) (hyb : isB p y = true) :
    Calls Try.prog 95 #[.agg #[.int .i64 p, .slice a d cap], .slice ax N cx, .slice ay N cy] w fun e w' =>
      ∃ g, e = .returned (.slice (some ⟨g, 0, none⟩) N N) ∧ OwnC w.heap.size w' (some ⟨g, 0, none⟩) N N (prodL p qs tkW x y) ∧ Ext w w' := by
  subst hN
  exact c_wedge p a d cap qs ax ay cx cy x y w hd hp1 hp2 hq hqb hx hy hxb hyb
theorem c_contractN {N : Nat} {d : Nat} (hN : N = 2 ^ d) (p : Int) (a : Option Addr) (cap : Nat) (qs : List Int) (ax ay : Option Addr) (cx cy : Nat) (x y : List Int) (w : World) (hd : d ≤ 6) (hp1 : 3 ≤ p) (hp2 : p ≤ 1000) (hq : RdC w a d qs) (hqb : isB p qs = true)
    (hx : RdC w ax N x) (hy : RdC w ay N y) (hxb : isB p x = true) (hyb : isB p y = true) :
    Calls Try.prog 93 #[.agg #[.int .i64 p, .slice a d cap], .slice ax N cx, .slice ay N cy] w fun e w' =>
      ∃ g, e = .returned (.slice (some ⟨g, 0, none⟩) N N) ∧ OwnC w.heap.size w' (some ⟨g, 0, none⟩) N N (prodL p qs tkL x y) ∧ Ext w w' := by
  subst hN
  exact c_contract p a d cap qs ax ay cx cy x y w hd hp1 hp2 hq hqb hx hy hxb hyb
theorem s_wedgeN {N : Nat} {d : Nat} (hN : N = 2 ^ d) (p : Int) (a : Option Addr) (cap : Nat) (qs : List Int) (ax ay : Option Addr) (cx cy : Nat) (x y : List Int) (w : World) (hd : d ≤ 6) (hp1 : 3 ≤ p) (hp2 : p ≤ 1000) (hq : RdC w a d qs) (hqb : isB p qs = true)
    (hx : RdC w ax N x) (hy : RdC w ay N y) (hxb : isB p x = true) (hyb : isB p y = true) :
    Calls Try.prog 116 #[.agg #[.int .i64 p, .slice a d cap], .slice ax N cx, .slice ay N cy] w fun e w' =>
      ∃ g, e = .returned (.slice (some ⟨g, 0, none⟩) N N) ∧ OwnC w.heap.size w' (some ⟨g, 0, none⟩) N N (prodL p qs tkW x y) ∧ Ext w w' := by
  subst hN
  exact s_wedge p a d cap qs ax ay cx cy x y w hd hp1 hp2 hq hqb hx hy hxb hyb
theorem s_leftN {N : Nat} {d : Nat} (hN : N = 2 ^ d) (p : Int) (a : Option Addr) (cap : Nat) (qs : List Int) (ax ay : Option Addr) (cx cy : Nat) (x y : List Int) (w : World) (hd : d ≤ 6) (hp1 : 3 ≤ p) (hp2 : p ≤ 1000) (hq : RdC w a d qs) (hqb : isB p qs = true)
    (hx : RdC w ax N x) (hy : RdC w ay N y) (hxb : isB p x = true) (hyb : isB p y = true) :
    Calls Try.prog 94 #[.agg #[.int .i64 p, .slice a d cap], .slice ax N cx, .slice ay N cy] w fun e w' =>
      ∃ g, e = .returned (.slice (some ⟨g, 0, none⟩) N N) ∧ OwnC w.heap.size w' (some ⟨g, 0, none⟩) N N (prodL p qs tkL x y) ∧ Ext w w' := by
  subst hN
  exact s_left p a d cap qs ax ay cx cy x y w hd hp1 hp2 hq hqb hx hy hxb hyb
theorem c_fullN {N : Nat} {d : Nat} (hN : N = 2 ^ d) (p : Int) (a : Option Addr) (cap : Nat) (w : World) (hd : d ≤ 6) :
    Calls Try.prog 118 #[.agg #[.int .i64 p, .slice a d cap]] w fun e w' => ∃ g, e = .returned (.slice (some ⟨g, 0, none⟩) N N) ∧ OwnC w.heap.size w' (some ⟨g, 0, none⟩) N N (fullL d) ∧ Ext w w' := by
  subst hN
  exact c_full p a d cap w hd
theorem s_zeroN {N : Nat} {d : Nat} (hN : N = 2 ^ d) (p : Int) (a : Option Addr) (cap : Nat) (w : World) (hd : d ≤ 6) :
    Calls Try.prog 181 #[.agg #[.int .i64 p, .slice a d cap]] w fun e w' => ∃ g, e = .returned (.slice (some ⟨g, 0, none⟩) N N) ∧ OwnC w.heap.size w' (some ⟨g, 0, none⟩) N N (List.replicate N 0) ∧ Ext w w' := by
  subst hN
  exact s_zero p a d cap w hd
theorem s_oneN {N : Nat} {d : Nat} (hN : N = 2 ^ d) (p : Int) (a : Option Addr) (cap : Nat) (w : World) (hd : d ≤ 6) :
    Calls Try.prog 168 #[.agg #[.int .i64 p, .slice a d cap]] w fun e w' => ∃ g, e = .returned (.slice (some ⟨g, 0, none⟩) N N) ∧ OwnC w.heap.size w' (some ⟨g, 0, none⟩) N N (bladeL N 0) ∧ Ext w w' := by
  subst hN
  exact s_one p a d cap w hd
theorem s_topN {N : Nat} {d : Nat} (hN : N = 2 ^ d) (p : Int) (a : Option Addr) (cap : Nat) (k : Int) (w : World) (hd : d ≤ 6) :
    Calls Try.prog 175 #[.agg #[.int .i64 p, .slice a d cap], .int .i64 k] w fun e w' => ∃ g, e = .returned (.slice (some ⟨g, 0, none⟩) N N) ∧ OwnC w.heap.size w' (some ⟨g, 0, none⟩) N N (topL d k) ∧ Ext w w' := by
  subst hN
  exact s_top p a d cap k w hd
end Go.Proofs.Ytbgnfjckbjmgbaa

/-
  Regular spaces: the library's search for a number, the discriminant, the codes of regular spaces.
  No condition.
-/
namespace Go.Proofs.Ytbgnfjckbjmgbaa
set_option maxRecDepth 100000
open Go.RowKit

set_option maxHeartbeats 400000 in
set_option maxRecDepth 20000 in
theorem c_index (a : Option Addr) (n cap : Nat) (xs : List Int) (v : Int) (w : World) (hl : n ≤ 4194304) (hx : RdC w a n xs) :
    Calls Try.prog 210 #[.slice a n cap, .int .i64 v] w fun e w' => e = .returned (.int .i64 (firstIx (fun i => v == nth xs i) n)) ∧ Ext w w' := by
  have HX := Lib.hid hx
  clear hx
  go_enter Try.func210, Try.ntmps210
  go_wp2_with (fail)
  go_loopw [5, 8] (fun _ i wr => ∃ k : Nat, k ≤ n ∧ i = .int .i64 k ∧ Hid (∀ j, j < k → (v == nth xs j) = false) ∧ Ext w wr) (fun _ i _ => n - (intOf i).toNat)
  case atStart => exact ⟨0, Nat.zero_le _, rfl, Lib.hid (fun j hj => by omega), Ext.refl _⟩
  case round =>
    obtain ⟨k, hk, rfl, HT, hext⟩ := hrel
    by_cases hlt : k < n
    · obtain ⟨b, off, rfl, hc⟩ := HX.out.2 k hlt
      have hc' := hext.cell hc
      clear hc
      cases hb : (v == nth xs k)
      · have HB := Lib.hid hb
        go_wp2_with (fail)
        go_roundw
        case rel => exact ⟨k + 1, by omega, by go_num, Lib.hid (fun j hj => by
          by_cases hjk : j = k
          · subst hjk; exact HB.out
          · exact HT.out j (by omega)), hext⟩
        case measure => simp [intOf]; omega
      · have HB := Lib.hid hb
        go_wp2_with (fail)
        go_ret
        exact ⟨ret_int (firstIx_hit (f := fun i => v == nth xs i) hlt HB.out HT.out).symm, hext⟩
    · go_wp2_with (fail)
      go_ret
      exact ⟨ret_int (firstIx_none (f := fun i => v == nth xs i) (fun j hj => HT.out j (by omega))).symm, hext⟩

def hasB (xs : List Int) (v : Int) : Bool := (List.range xs.length).any fun i => v == nth xs i
set_option maxHeartbeats 400000 in
theorem c_contains (a : Option Addr) (n cap : Nat) (xs : List Int) (v : Int) (w : World) (hl : n ≤ 4194304) (hx : RdC w a n xs) :
    Calls Try.prog 201 #[.slice a n cap, .int .i64 v] w fun e w' => e = .returned (.bool (hasB xs v)) ∧ Ext w w' := by
  have HA := Lib.hid (show decide (0 ≤ firstIx (fun i => v == nth xs i) n) = hasB xs v by rw [firstIx_any]; unfold hasB; rw [hx.1])
  have hbd := firstIx_bd (fun i => v == nth xs i) n
  go_enter Try.func201, Try.ntmps201
  go_wp2_with (go_at_call 210; refine (c_index _ _ _ _ _ _ hl hx).mono ?_; rintro e w1 ⟨rfl, h1⟩)
  go_ret
  exact ⟨ret_bool HA.out, h1⟩

def regB (qs : List Int) : Bool := !hasB qs 0
set_option maxHeartbeats 400000 in
theorem c_regular (p : Int) (a : Option Addr) (d cap : Nat) (qs : List Int) (w : World) (hl : d ≤ 4194304) (hq : RdC w a d qs) :
    Calls Try.prog 173 #[.agg #[.int .i64 p, .slice a d cap]] w fun e w' => e = .returned (.bool (regB qs)) ∧ Ext w w' := by
  go_enter Try.func173, Try.ntmps173
  go_wp2_with (go_at_call 201; refine (c_contains _ _ _ _ _ _ hl (hq.ext (ext_alloc _ _))).mono ?_; rintro e w1 ⟨rfl, h1⟩)
  go_ret
  exact ⟨rfl, (ext_alloc _ _).trans h1⟩

/-! ### The discriminant -/
def discS (p : Int) (qs : List Int) : Nat → Int
  | 0 => 1
  | k + 1 => discS p qs k * nth qs k % p
theorem discS_bd {p : Int} {qs : List Int} (hp : 3 ≤ p) : ∀ k, 0 ≤ discS p qs k ∧ discS p qs k < p
  | 0 => by simp [discS]; omega
  | k + 1 => ⟨Int.emod_nonneg _ (by omega), Int.emod_lt_of_pos _ (by omega)⟩
theorem mul_zero_of {p : Int} (hp : primeB p = true) {x y : Int} (hx0 : 0 ≤ x) (hx : x < p) (hy0 : 0 ≤ y) (hy : y < p) : x * y % p = 0 ↔ x = 0 ∨ y = 0 := by
  have key : ∀ q : Nat, (q = 3 ∨ q = 5 ∨ q = 7 ∨ q = 11 ∨ q = 13) → ∀ x : Nat, x < q → ∀ y : Nat, y < q → ((x * y) % q = 0 ↔ x = 0 ∨ y = 0) := by
    rintro q (rfl | rfl | rfl | rfl | rfl) <;> decide +kernel
  have hb := prime_bd hp
  obtain ⟨q, rfl⟩ := Int.eq_ofNat_of_zero_le (show 0 ≤ p by omega)
  obtain ⟨x, rfl⟩ := Int.eq_ofNat_of_zero_le hx0
  obtain ⟨y, rfl⟩ := Int.eq_ofNat_of_zero_le hy0
  have := key q (by simp [primeB] at hp; omega) x (by omega) y (by omega)
  rw [show ((x : Int) * (y : Int)) % (q : Int) = ((x * y % q : Nat) : Int) by simp]
  simp only [Int.natCast_eq_zero]
  exact this
theorem discS_zero {p : Int} {qs : List Int} (hp : primeB p = true) (hq : isB p qs = true) : ∀ k, k ≤ qs.length → ((discS p qs k == 0) = (List.range k).any fun i => (0 : Int) == nth qs i)
  | 0, _ => by simp [discS]
  | k + 1, h => by
    have hb := prime_bd hp
    have ih := discS_zero hp hq k (by omega)
    have hk := isB_nth hq (i := k) (by omega)
    have hd := discS_bd (qs := qs) (show 3 ≤ p by omega) k
    rw [List.range_succ, List.any_append, ← ih]
    rw [Bool.eq_iff_iff]
    simp only [discS, beq_iff_eq, Bool.or_eq_true, List.any_cons, List.any_nil, Bool.or_false]
    rw [mul_zero_of hp hd.1 hd.2 hk.1 hk.2]
    constructor
    · rintro (h | h)
      · exact .inl h
      · exact .inr h.symm
    · rintro (h | h)
      · exact .inl h
      · exact .inr h.symm
def discL (p : Int) (qs : List Int) : Int := discS p qs qs.length
theorem disc_reg {p : Int} {qs : List Int} (hp : primeB p = true) (hq : isB p qs = true) : (discL p qs == 0) = !regB qs := by
  rw [discL, discS_zero hp hq _ (Nat.le_refl _), regB, Bool.not_not]; rfl

set_option maxHeartbeats 1000000 in
set_option maxRecDepth 20000 in
theorem s_disc (p : Int) (a : Option Addr) (d cap : Nat) (qs : List Int) (w : World) (hd : d ≤ 64) (hp1 : 3 ≤ p) (hp2 : p ≤ 1000) (hq : RdC w a d qs) (hqb : isB p qs = true) :
    Calls Try.prog 174 #[.agg #[.int .i64 p, .slice a d cap]] w fun e w' => e = .returned (.int .i64 (discL p qs)) ∧ Ext w w' := by
  have hpz : ¬ p = 0 := by omega
  have HD := Lib.hid (show discL p qs = discS p qs d by unfold discL; rw [hq.1])
  have HQ := Lib.hid hq
  have HQB := Lib.hid hqb
  clear hq hqb
  obtain ⟨W, hW⟩ : ∃ W, W = w.alloc (.cells #[.int .i64 p, .slice a d cap] 26) := ⟨_, rfl⟩
  have gW : Ext w W := by rw [hW]; exact ext_alloc _ _
  have hs0 : W.cell? ⟨w.heap.size, 0, none⟩ = some (.int .i64 p) := by rw [hW]; simp
  have hs1 : W.cell? ⟨w.heap.size, 1, none⟩ = some (.slice a d cap) := by rw [hW]; simp
  have HS0 := Lib.hid (hs0)
  have HS1 := Lib.hid (hs1)
  have GW := Lib.hid (gW)
  have HW := Lib.hid hW
  clear hs0 hs1 gW hW
  go_enter Try.func174, Try.ntmps174
  go_wp2_with (fail)
  rw [← HW.out]
  go_loopw [3, 4] (fun v i wr => ∃ k : Nat, k ≤ d ∧ i = .int .i64 k ∧ v = .int .i64 (discS p qs k) ∧ Ext W wr) (fun _ i _ => d - (intOf i).toNat)
  case atStart => exact ⟨0, Nat.zero_le _, rfl, rfl, Ext.refl _⟩
  case round =>
    obtain ⟨k, hk, rfl, rfl, hext⟩ := hrel
    have HExt := Lib.hid hext
    clear hext
    have hq0 := HExt.out.cell HS0.out
    have hq1 := HExt.out.cell HS1.out
    by_cases hlt : k < d
    · obtain ⟨b, off, rfl, hc⟩ := HQ.out.2 k hlt
      have hc' := (GW.out.trans HExt.out).cell hc
      have hqk := isB_nth HQB.out (i := k) (by rw [HQ.out.1]; exact hlt)
      have hds := discS_bd (qs := qs) hp1 k
      obtain ⟨D, hD⟩ : ∃ D, D = discS p qs k := ⟨_, rfl⟩
      have HDk := Lib.hid (show discS p qs (k + 1) = D * nth qs k % p by rw [hD]; rfl)
      rw [← hD] at hds
      obtain ⟨hm1, hm2⟩ := mul_bd hp2 hds.1 hds.2 hqk.1 hqk.2
      have hw1 : IntKind.i64.wrap (D * nth qs k) = D * nth qs k := IntWalk.i64_in _ (by omega)
      have hw2 : (D * nth qs k).tmod p = D * nth qs k % p := Int.tmod_eq_emod_of_nonneg hm1
      have Hc0 := Lib.hid ((ext_drew _).cell hq0)
      have Hc1 := Lib.hid ((ext_drew _).cell hq1)
      have Hc2 := Lib.hid ((ext_drew _).cell hc')
      rw [← hD]
      clear hc
      go_wp2_with (fail)
      clear hq0 hq1 hc' hD
      refine wp_region_lex [] (by kernel_rfl) (by kernel_rfl) ?_
      repeat' first | (refine LexW.pure (v := ?_) rfl rfl (fun w1 he => ?_) ?_; rotate_left; ( have e0 := he.cell Hc0.out; have e1 := he.cell Hc1.out; have e2 := he.cell Hc2.out; go_simp; rfl); simp only [Act.put, List.setIfInBounds_toArray, List.set_cons_zero, List.set_cons_succ])
      refine LexW.nil (fun w3 he hk => ?_)
      have HE3 := Lib.hid (HExt.out.trans ((ext_drew _).trans he))
      clear he hk
      go_wp2_with (fail)
      go_roundw
      case rel => exact ⟨k + 1, by omega, by go_num, by rw [HDk.out], HE3.out⟩
      case measure => simp [intOf]; omega
    · go_wp2_with (fail)
      go_ret
      obtain rfl : k = d := by omega
      exact ⟨ret_int HD.out.symm, GW.out.trans HExt.out⟩

def codeR (p : Int) (qs : List Int) (rows : List (List Int)) : Int := if codeM p qs rows = 0 then (if regB qs = true then 0 else 5) else codeM p qs rows
theorem codeR_zero {p : Int} {qs : List Int} {rows : List (List Int)} (h : codeR p qs rows = 0) : codeM p qs rows = 0 ∧ regB qs = true := by
  unfold codeR at h
  split at h
  · rename_i hm
    split at h
    · rename_i hr; exact ⟨hm, hr⟩
    · omega
  · rename_i hm; exact absurd h hm

set_option maxHeartbeats 400000 in
theorem c_checkRegular (p : Int) (a : Option Addr) (d cap : Nat) (qs : List Int) (al : Option Addr) (n cl : Nat) (rows : List (List Int)) (w : World) (hd : d ≤ 4194304) (hl : n ≤ 4194304) (hr : ∀ i, i < n → (nthR rows i).length ≤ 4194304)
    (hq : RdC w a d qs) (hx : RdR w al n rows) :
    Calls Try.prog 111 #[.agg #[.int .i64 p, .slice a d cap], .slice al n cl] w fun e w' => e = .returned (.int .i64 (codeR p qs rows)) ∧ Ext w w' := by
  by_cases hm : codeM p qs rows = 0
  · have hcb : (codeM p qs rows != 0) = false := by simp [hm]
    have HM := Lib.hid hm
    have HC := Lib.hid (show codeR p qs rows = if regB qs = true then 0 else 5 by simp [codeR, hm])
    clear hm
    cases hg : regB qs
    all_goals
      rw [hg] at HC
      have HG := Lib.hid hg
      clear hg
      go_enter Try.func111, Try.ntmps111
      go_wp2_with (first | (go_at_call 79; refine (c_checkMultis _ _ _ _ _ _ _ _ _ _ hd hl hr (hq.ext (ext_alloc _ _)) (hx.ext (ext_alloc _ _))).mono ?_; rintro e w1 ⟨rfl, h1⟩; have hq0 : w1.cell? ⟨w.heap.size, 0, none⟩ = some (.int .i64 p) := h1.cell (by simp); have hq1 : w1.cell? ⟨w.heap.size, 1, none⟩ = some (.slice a d cap) := h1.cell (by simp)) | (go_at_call 173; refine (c_regular _ _ _ _ _ _ hd (hq.ext ((ext_alloc _ _).trans h1))).mono ?_; rintro e w2 ⟨rfl, h2⟩; rw [HG.out]))
      go_ret
      exact ⟨ret_int HC.out.symm, (ext_alloc _ _).trans (h1.trans h2)⟩
  · have hcb : (codeM p qs rows != 0) = true := by simp [hm]
    have HC := Lib.hid (show codeR p qs rows = codeM p qs rows by simp [codeR, hm])
    clear hm
    go_enter Try.func111, Try.ntmps111
    go_wp2_with (go_at_call 79; refine (c_checkMultis _ _ _ _ _ _ _ _ _ _ hd hl hr (hq.ext (ext_alloc _ _)) (hx.ext (ext_alloc _ _))).mono ?_; rintro e w1 ⟨rfl, h1⟩)
    go_ret
    exact ⟨ret_int HC.out.symm, (ext_alloc _ _).trans h1⟩

set_option maxHeartbeats 400000 in
theorem s_regular (p : Int) (a : Option Addr) (d cap : Nat) (qs : List Int) (al : Option Addr) (n cl : Nat) (rows : List (List Int)) (w : World) (hd : d ≤ 4194304) (hl : n ≤ 4194304) (hr : ∀ i, i < n → (nthR rows i).length ≤ 4194304)
    (hq : RdC w a d qs) (hx : RdR w al n rows) :
    Calls Try.prog 114 #[.agg #[.int .i64 p, .slice a d cap], .slice al n cl] w fun e w' => e = .returned (.int .i64 (codeR p qs rows)) ∧ Ext w w' := by
  by_cases hm : codeM p qs rows = 0
  · have hcb : (codeM p qs rows == 0) = true := by simp [hm]
    have HM := Lib.hid hm
    have HC := Lib.hid (show codeR p qs rows = if regB qs = true then 0 else 5 by simp [codeR, hm])
    have hs : spaceB p qs = true := by
      unfold codeM at hm
      split at hm
      · assumption
      · omega
    obtain ⟨hpr, hd1, hd6, hqb⟩ := space_of hs
    have hpb := prime_bd hpr
    have hdl := hq.1
    have HDR := Lib.hid (disc_reg hpr hqb)
    clear hm
    cases hg : regB qs
    all_goals
      have hdb : (discL p qs == 0) = !regB qs := HDR.out
      rw [hg] at HC hdb
      simp only [Bool.not_true, Bool.not_false] at hdb
      clear hg
      go_enter Try.func114, Try.ntmps114
      go_wp2_with (first | (go_at_call 84; refine (s_code _ _ _ _ _ _ _ _ _ _ hd hl hr (hq.ext (ext_alloc _ _)) (hx.ext (ext_alloc _ _))).mono ?_; rintro e w1 ⟨rfl, h1⟩; have hq0 : w1.cell? ⟨w.heap.size, 0, none⟩ = some (.int .i64 p) := h1.cell (by simp); have hq1 : w1.cell? ⟨w.heap.size, 1, none⟩ = some (.slice a d cap) := h1.cell (by simp)) | (go_at_call 174; refine (s_disc _ _ _ _ _ _ (by omega) (by omega) (by omega) (hq.ext ((ext_alloc _ _).trans h1)) hqb).mono ?_; rintro e w2 ⟨rfl, h2⟩))
      go_ret
      exact ⟨ret_int (by rw [HC.out]; first | rfl | exact HM.out), (ext_alloc _ _).trans (h1.trans h2)⟩
  · have hcb : (codeM p qs rows == 0) = false := by simp [hm]
    have HC := Lib.hid (show codeR p qs rows = codeM p qs rows by simp [codeR, hm])
    clear hm
    go_enter Try.func114, Try.ntmps114
    go_wp2_with (go_at_call 84; refine (s_code _ _ _ _ _ _ _ _ _ _ hd hl hr (hq.ext (ext_alloc _ _)) (hx.ext (ext_alloc _ _))).mono ?_; rintro e w1 ⟨rfl, h1⟩)
    go_ret
    exact ⟨ret_int HC.out.symm, (ext_alloc _ _).trans h1⟩
end Go.Proofs.Ytbgnfjckbjmgbaa

/-
  Powers and inverses of numbers, multiples of lists: walks; the square of the pseudoscalar of a regular space is not 0.
  No condition.
-/
namespace Go.Proofs.Ytbgnfjckbjmgbaa
set_option maxRecDepth 100000
open Go.RowKit

def powS (p a : Int) : Nat → Int
  | 0 => 1
  | k + 1 => powS p a k * a % p
theorem powS_bd {p a : Int} (hp : 3 ≤ p) : ∀ k, 0 ≤ powS p a k ∧ powS p a k < p
  | 0 => by simp [powS]; omega
  | k + 1 => ⟨Int.emod_nonneg _ (by omega), Int.emod_lt_of_pos _ (by omega)⟩
def invN (p a : Int) : Int := powS p a (p - 2).toNat
theorem invN_bd {p a : Int} (hp : 3 ≤ p) : 0 ≤ invN p a ∧ invN p a < p := powS_bd hp _

def powT (q a : Nat) : Nat → Nat
  | 0 => 1
  | k + 1 => powT q a k * a % q
theorem powT_eq (q a k : Nat) : powS (q : Int) (a : Int) k = (powT q a k : Int) := by
  induction k with
  | zero => rfl
  | succ k ih => simp only [powS, powT]; rw [ih]; simp
theorem inv_spec {p a : Int} (hp : primeB p = true) (h0 : 0 < a) (h1 : a < p) :
    1 ≤ invN p a ∧ a * invN p a % p = 1 ∧ ∀ j : Nat, 1 ≤ j → (j : Int) < invN p a → ¬ a * j % p = 1 := by
  have key : ∀ q : Nat, (q = 3 ∨ q = 5 ∨ q = 7 ∨ q = 11 ∨ q = 13) → ∀ a : Nat, a < q → 0 < a → 1 ≤ powT q a (q - 2) ∧ a * powT q a (q - 2) % q = 1 ∧ ∀ j : Nat, j < powT q a (q - 2) → 1 ≤ j → ¬ a * j % q = 1 := by
    rintro q (rfl | rfl | rfl | rfl | rfl) <;> decide +kernel
  have hb := prime_bd hp
  obtain ⟨q, rfl⟩ := Int.eq_ofNat_of_zero_le (show 0 ≤ p by omega)
  obtain ⟨a, rfl⟩ := Int.eq_ofNat_of_zero_le (show 0 ≤ a by omega)
  obtain ⟨k1, k2, k3⟩ := key q (by simp [primeB] at hp; omega) a (by omega) (by omega)
  have e : invN (q : Int) (a : Int) = (powT q a (q - 2) : Int) := by
    unfold invN
    rw [show ((q : Int) - 2).toNat = q - 2 by omega, powT_eq]
  rw [e]
  refine ⟨by omega, ?_, fun j hj1 hj2 hj => ?_⟩
  · rw [show ((a : Int) * (powT q a (q - 2) : Int)) % (q : Int) = ((a * powT q a (q - 2) % q : Nat) : Int) by simp, k2]; rfl
  · refine k3 j (by omega) hj1 ?_
    rw [show ((a : Int) * (j : Int)) % (q : Int) = ((a * j % q : Nat) : Int) by simp] at hj
    omega

set_option maxHeartbeats 400000 in
theorem c_pow (p a : Int) (k : Nat) (w : World) (hp1 : 3 ≤ p) (hp2 : p ≤ 1000) (ha : 0 ≤ a) (ha2 : a < p) (hk : k ≤ 1000) :
    Calls Try.prog 200 #[.int .i64 p, .int .i64 a, .int .i64 k] w fun e w' => e = .returned (.int .i64 (powS p a k)) ∧ Ext w w' := by
  go_enter Try.func200, Try.ntmps200
  go_wp2_with (fail)
  go_loopw [7, 9] (fun v i wr => ∃ j : Nat, j ≤ k ∧ i = .int .i64 j ∧ v = .int .i64 (powS p a j) ∧ Ext w wr) (fun _ i _ => k - (intOf i).toNat)
  case atStart => exact ⟨0, Nat.zero_le _, rfl, rfl, Ext.refl _⟩
  case round =>
    obtain ⟨j, hj, rfl, rfl, hext⟩ := hrel
    by_cases hlt : j < k
    · have hb := powS_bd (a := a) hp1 j
      obtain ⟨D, hD⟩ : ∃ D, D = powS p a j := ⟨_, rfl⟩
      have HDk := Lib.hid (show D * a % p = powS p a (j + 1) by rw [hD]; rfl)
      rw [← hD] at hb ⊢
      clear hD
      obtain ⟨hm1, hm2⟩ := mul_bd hp2 hb.1 hb.2 ha ha2
      have hw1 : IntKind.i64.wrap (D * a) = D * a := IntWalk.i64_in _ (by omega)
      go_wp2_with (go_at_call 154; refine (c_num _ _ _ (by omega) hp2).mono ?_; rintro e w2 ⟨rfl, g2⟩; rw [HDk.out])
      go_roundw
      case rel => exact ⟨j + 1, by omega, by go_num, rfl, hext.trans g2⟩
      case measure => simp [intOf]; omega
    · go_wp2_with (fail)
      go_ret
      obtain rfl : j = k := by omega
      exact ⟨rfl, hext⟩
set_option maxHeartbeats 400000 in
theorem c_inv (p a : Int) (w : World) (hp1 : 3 ≤ p) (hp2 : p ≤ 1000) (ha : 0 ≤ a) (ha2 : a < p) :
    Calls Try.prog 172 #[.int .i64 p, .int .i64 a] w fun e w' => e = .returned (.int .i64 (invN p a)) ∧ Ext w w' := by
  obtain ⟨k, hk⟩ := Int.eq_ofNat_of_zero_le (show 0 ≤ p - 2 by omega)
  have HI := Lib.hid (show powS p a k = invN p a by unfold invN; rw [hk]; rfl)
  have hw1 : IntKind.i64.wrap (p - 2) = (k : Int) := by rw [IntWalk.i64_in _ (by omega)]; exact hk
  have hkl : k ≤ 1000 := by omega
  have hk2 : p - 2 = (k : Int) := hk
  clear hk
  go_enter Try.func172, Try.ntmps172
  go_wp2_with (go_at_call 200; refine (c_pow _ _ _ _ hp1 hp2 ha ha2 hkl).mono ?_; rintro e w2 ⟨rfl, g2⟩; rw [HI.out])
  go_ret
  exact ⟨rfl, g2⟩

set_option maxHeartbeats 400000 in
theorem s_inv (p a : Int) (w : World) (hpr : primeB p = true) (ha : 0 < a) (ha2 : a < p) :
    Calls Try.prog 176 #[.int .i64 p, .int .i64 a] w fun e w' => e = .returned (.int .i64 (invN p a)) ∧ Ext w w' := by
  have hpb := prime_bd hpr
  have hpz : ¬ p = 0 := by omega
  obtain ⟨hi1, hi2, hi3⟩ := inv_spec hpr ha ha2
  have hib := invN_bd (a := a) (show 3 ≤ p by omega)
  obtain ⟨I, hI⟩ := Int.eq_ofNat_of_zero_le hib.1
  rw [hI] at hi1 hi2 hi3 hib ⊢
  have H2 := Lib.hid hi2
  have H3 := Lib.hid hi3
  clear hi2 hi3 hI hpr
  go_enter Try.func176, Try.ntmps176
  go_wp2_with (fail)
  go_loopw [5] (fun v wr => ∃ j : Nat, 1 ≤ j ∧ j ≤ I ∧ v = .int .i64 j ∧ Ext w wr) (fun v _ => I - (intOf v).toNat)
  case atStart => exact ⟨1, Nat.le_refl _, by omega, rfl, Ext.refl _⟩
  case round =>
    obtain ⟨j, hj1, hj, rfl, hext⟩ := hrel
    obtain ⟨hm1, hm2⟩ := mul_bd (show p ≤ 1000 by omega) (show 0 ≤ a by omega) ha2 (show 0 ≤ (j : Int) by omega) (show (j : Int) < p by omega)
    obtain ⟨R, hR⟩ : ∃ R, R = a * (j : Int) % p := ⟨_, rfl⟩
    have hw1 : IntKind.i64.wrap (a * (j : Int)) = a * (j : Int) := IntWalk.i64_in _ (by omega)
    have hw2 : (a * (j : Int)).tmod p = R := by rw [hR]; exact Int.tmod_eq_emod_of_nonneg hm1
    by_cases hlt : j < I
    · have hne := H3.out j hj1 (by omega)
      have hb : (R != 1) = true := by rw [hR]; simpa using hne
      clear hR hne
      go_wp2_with (fail)
      go_roundw
      case rel => exact ⟨j + 1, by omega, by omega, by go_num, hext⟩
      case measure => simp [intOf]; omega
    · obtain rfl : j = I := by omega
      have hb : (R != 1) = false := by rw [hR, H2.out]; rfl
      clear hR
      go_wp2_with (fail)
      go_ret
      exact ⟨rfl, hext⟩

/-! ### Multiples of lists -/
def scaleN (p : Int) (x : List Int) (k : Int) (i : Nat) : Int := (nth x i * k) % p
def scaleL (p : Int) (x : List Int) (k : Int) (n : Nat) : List Int := (List.range n).map (scaleN p x k)
theorem scaleL_len (p : Int) (x : List Int) (k : Int) (n : Nat) : (scaleL p x k n).length = n := by simp [scaleL]
theorem scaleL_succ (p : Int) (x : List Int) (k : Int) (n : Nat) : scaleL p x k (n + 1) = scaleL p x k n ++ [scaleN p x k n] := by simp [scaleL, List.range_succ]
theorem scaleL_nth {p : Int} {x : List Int} {k : Int} {n i : Nat} (h : i < n) : nth (scaleL p x k n) i = scaleN p x k i := by
  unfold scaleL; rw [nth_map (by simpa using h)]; simp
theorem scale_good {p : Int} {x : List Int} {k : Int} {n : Nat} (hp : 1 ≤ p) : Good p n (scaleL p x k n) := ⟨scaleL_len _ _ _ _, fun i hi => by
  rw [scaleL_nth hi]; exact ⟨Int.emod_nonneg _ (by omega), Int.emod_lt_of_pos _ (by omega)⟩⟩

set_option maxHeartbeats 1000000 in
theorem c_scaled (p : Int) (ax : Option Addr) (n cx : Nat) (x : List Int) (k : Int) (w : World) (hp1 : 3 ≤ p) (hp2 : p ≤ 1000) (hk : -1000 ≤ k ∧ k ≤ 1000) (hn : n ≤ 4194303) (hx : RdC w ax n x) (hgx : Good p n x) :
    Calls Try.prog 122 #[.int .i64 p, .slice ax n cx, .int .i64 k] w fun e w' => ∃ g rc, e = .returned (.slice (some ⟨g, 0, none⟩) n rc) ∧ OwnC w.heap.size w' (some ⟨g, 0, none⟩) n rc (scaleL p x k n) ∧ Ext w w' := by
  have HX := Lib.hid hx
  have HGX := Lib.hid hgx
  clear hx hgx
  go_enter Try.func122, Try.ntmps122
  go_wp2_with (fail)
  go_loopw [7, 13] (fun v i wr => ∃ (j g rc : Nat), j ≤ n ∧ i = .int .i64 j ∧ v = .slice (some ⟨g, 0, none⟩) j rc ∧ OwnC w.heap.size wr (some ⟨g, 0, none⟩) j rc (scaleL p x k j) ∧ Ext w wr) (fun _ i _ => n - (intOf i).toNat)
  case atStart => exact ⟨0, _, _, Nat.zero_le _, rfl, rfl, own_empty w, ext_alloc _ _⟩
  case round =>
    obtain ⟨j, g, rc, hj, rfl, rfl, hown, hext⟩ := hrel
    have HOwn := Lib.hid hown
    have HExt := Lib.hid hext
    clear hown hext
    by_cases hlt : j < n
    · obtain ⟨bx, ox, rfl, hcx⟩ := HX.out.2 j hlt
      have hcx' := HExt.out.cell hcx
      have hbx := HGX.out.2 j hlt
      have hkb := kmul_bd hk hbx.1 (show nth x j ≤ 1000 by omega)
      rw [Int.mul_comm] at hkb
      have hw1 : IntKind.i64.wrap (nth x j * k) = nth x j * k := IntWalk.i64_in _ (by omega)
      have HP := Lib.hid (show (nth x j * k) % p = scaleN p x k j from rfl)
      clear hcx
      go_wp2_with (first | (go_at_call 154; refine (c_num _ _ _ (by omega) hp2).mono ?_; rintro e w2 ⟨rfl, g2⟩; rw [HP.out]; have G2 := Lib.hid g2; clear g2) | (at_builtin; refine wpList_push rfl (.tmp 17) (.tmp 23) rfl rfl rfl (v := scaleN p x k j) (HOwn.out.ext (G2.out.trans (ext_alloc _ _))) ?hc ?hn ?hB ?hk))
      case hc => simp
      case hn => omega
      case hB => have hz := (HExt.out.trans G2.out).size'; simp; omega
      case hk =>
        intro g' cap' w3 ho3 hg3 he3
        have HO3 := Lib.hid ho3
        have HE3 := Lib.hid (he3 w (Nat.le_refl _) ((HExt.out.trans G2.out).alloc _))
        clear ho3 hg3 he3
        go_wp2_with (fail)
        go_roundw
        case rel => exact ⟨j + 1, g', cap', by omega, by go_num, rfl, by rw [scaleL_succ]; exact HO3.out, HE3.out⟩
        case measure => simp [intOf]; omega
    · go_wp2_with (fail)
      go_ret
      obtain rfl : j = n := by omega
      exact ⟨g, rc, rfl, HOwn.out, HExt.out⟩

theorem scale_full {p k : Int} {d : Nat} (h0 : 0 ≤ k) (h1 : k < p) : scaleL p (fullL d) k (2 ^ d) = topL d k := by
  have hN := pow_pos' d
  refine ext_nth (by rw [scaleL_len]; simp [topL]) fun i hi => ?_
  rw [scaleL_len] at hi
  rw [scaleL_nth hi]
  unfold scaleN fullL topL
  rw [bladeL_nth (by omega) hi, nth_set (by simp; omega), nth_replicate hi]
  split
  · rw [Int.one_mul, Int.emod_eq_of_lt h0 h1]
  · simp

/-! ### The square of the pseudoscalar -/
theorem facS_full {p : Int} {qs : List Int} {d : Nat} : ∀ k, k ≤ d → (facS p qs (2 ^ d - 1) (2 ^ d - 1) k).2 = discS p qs k
  | 0, _ => rfl
  | k + 1, hk => by
    have ht : (2 ^ d - 1).testBit k = true := by rw [Nat.testBit_two_pow_sub_one]; simp; omega
    rw [facS_two ht ht]
    simp only [discS]
    rw [facS_full k (by omega)]
theorem sqFull_eq {p : Int} {qs : List Int} (hp : 3 ≤ p) (hd : qs.length ≤ 6) : sqFull p qs = fac p qs (2 ^ qs.length - 1) (2 ^ qs.length - 1) := by
  have hN := pow_pos' qs.length
  have h64 := pow_le64 hd
  unfold sqFull
  rw [prod_nth1 (by omega) (by omega), sumN_single (k := 2 ^ qs.length - 1) (by omega) (fun i hi hne => by
    have hz : nth (fullL qs.length) i = 0 := by
      unfold fullL
      rw [bladeL_nth (by omega) hi, if_neg (fun h => hne h.symm)]
    rw [hz]; simp)]
  rw [Nat.xor_zero]
  unfold fullL
  rw [bladeL_nth (by omega) (by omega), if_pos rfl]
  simp only [tkA, if_true, Int.one_mul]
  have hb := fac_bd (p := p) (qs := qs) (a := 2 ^ qs.length - 1) (b := 2 ^ qs.length - 1) hp (by omega)
  exact Int.emod_eq_of_lt hb.1 hb.2
theorem sqFull_ne {p : Int} {qs : List Int} (hp : primeB p = true) (hq : isB p qs = true) (hd : qs.length ≤ 6) (hr : regB qs = true) : sqFull p qs ≠ 0 := by
  have hpb := prime_bd hp
  have hN := pow_pos' qs.length
  rw [sqFull_eq (by omega) hd]
  have hdz := disc_reg hp hq
  rw [hr] at hdz
  have hdne : discS p qs qs.length ≠ 0 := by simpa [discL] using hdz
  have hdb := discS_bd (p := p) (qs := qs) (by omega) qs.length
  unfold fac sgn
  rw [facS_full qs.length (Nat.le_refl _)]
  split
  · intro h
    obtain ⟨c, hc⟩ := Int.dvd_of_emod_eq_zero h
    have hc0 : c = 0 := by
      rcases Int.lt_trichotomy c 0 with h | h | h
      · have : p * c ≤ p * -1 := Int.mul_le_mul_of_nonneg_left (by omega) (by omega)
        omega
      · exact h
      · have : p * 1 ≤ p * c := Int.mul_le_mul_of_nonneg_left (by omega) (by omega)
        omega
    rw [hc0] at hc; omega
  · exact hdne
def dualL (p : Int) (qs x : List Int) : List Int := prodL p qs tkL x (topL qs.length (invN p (sqFull p qs)))
end Go.Proofs.Ytbgnfjckbjmgbaa

/-
  Vectors as multivectors; the codes of spaces and vectors.
  No condition.
-/
namespace Go.Proofs.Ytbgnfjckbjmgbaa
set_option maxRecDepth 100000
open Go.RowKit

def vecS (N : Nat) (v : List Int) : Nat → List Int
  | 0 => List.replicate N 0
  | k + 1 => (vecS N v k).set (2 ^ k) (nth v k)
def vecL (N : Nat) (v : List Int) : List Int := vecS N v v.length
theorem vecS_good {p : Int} {N n : Nat} {v : List Int} (hp : 1 ≤ p) (hv : Good p n v) : ∀ k, k ≤ n → Good p N (vecS N v k)
  | 0, _ => good_zero hp
  | k + 1, hk => good_set (vecS_good hp hv k (by omega)) (hv.2 k (by omega)).1 (hv.2 k (by omega)).2
theorem vec_good {p : Int} {N n : Nat} {v : List Int} (hp : 1 ≤ p) (hv : Good p n v) : Good p N (vecL N v) := vecS_good hp hv _ (by rw [hv.1]; exact Nat.le_refl _)

set_option maxHeartbeats 1000000 in
theorem c_vector {N d : Nat} (hN : N = 2 ^ d) (p : Int) (a : Option Addr) (cap : Nat) (av : Option Addr) (cv : Nat) (v : List Int) (w : World) (hd : d ≤ 6) (hv : RdC w av d v) :
    Calls Try.prog 147 #[.agg #[.int .i64 p, .slice a d cap], .slice av d cv] w fun e w' => ∃ g, e = .returned (.slice (some ⟨g, 0, none⟩) N N) ∧ OwnC w.heap.size w' (some ⟨g, 0, none⟩) N N (vecL N v) ∧ Ext w w' := by
  have HN := Lib.hid hN
  have HV := Lib.hid hv
  have HL := Lib.hid (show vecL N v = vecS N v d by unfold vecL; rw [hv.1])
  clear hN hv
  obtain ⟨W, hW⟩ : ∃ W, W = w.alloc (.cells #[.int .i64 p, .slice a d cap] 26) := ⟨_, rfl⟩
  have gW : Ext w W := by rw [hW]; exact ext_alloc _ _
  have hs0 : W.cell? ⟨w.heap.size, 0, none⟩ = some (.int .i64 p) := by rw [hW]; simp
  have hs1 : W.cell? ⟨w.heap.size, 1, none⟩ = some (.slice a d cap) := by rw [hW]; simp
  have HS0 := Lib.hid (hs0)
  have HS1 := Lib.hid (hs1)
  have GW := Lib.hid (gW)
  have HW := Lib.hid hW
  clear hs0 hs1 gW hW
  go_enter Try.func147, Try.ntmps147
  go_wp2_with (fail)
  rw [← HW.out]
  refine (c_nothingN HN.out p a cap W hd).mono ?_
  rintro e w1 ⟨g, rfl, ho, g1⟩
  have HO := Lib.hid ho
  have G1 := Lib.hid g1
  have hg := ho.base_le
  clear ho g1
  go_wp2_with (fail)
  go_loopw [12] (fun i wr => ∃ k : Nat, k ≤ d ∧ i = .int .i64 k ∧ OwnC W.heap.size wr (some ⟨g, 0, none⟩) N N (vecS N v k) ∧ Ext W wr) (fun i _ => d - (intOf i).toNat)
  case atStart => exact ⟨0, Nat.zero_le _, rfl, HO.out, G1.out⟩
  case round =>
    obtain ⟨k, hk, rfl, hown, hext⟩ := hrel
    have HOwn := Lib.hid hown
    have HExt := Lib.hid hext
    clear hown hext
    by_cases hlt : k < d
    · obtain ⟨b, off, rfl, hc⟩ := HV.out.2 k hlt
      have hc' := (GW.out.trans HExt.out).cell hc
      have hpi : IntKind.i64.wrap (2 ^ k) = ((2 ^ k : Nat) : Int) := pow_wrapI (by omega)
      have hpw : wrap64 (2 ^ k) = ((2 ^ k : Nat) : Int) := pow_wrap (by omega)
      have hMN : 2 ^ k < N := by rw [HN.out]; exact Nat.pow_lt_pow_right (by omega) hlt
      obtain ⟨M, hM⟩ : ∃ M, M = 2 ^ k := ⟨_, rfl⟩
      rw [← hM] at hpi hpw hMN
      have HM := Lib.hid hM
      have ec := HOwn.out.cell hMN
      have ef := HOwn.out.frozen M
      clear hc hM
      go_wp2_with (fail)
      go_roundw
      case rel => exact ⟨k + 1, by omega, by go_num, by unfold vecS; rw [← HM.out]; exact HOwn.out.store hMN _, HExt.out.setCell hg.1 _⟩
      case measure => simp [intOf]; omega
    · go_wp2_with (fail)
      go_ret
      obtain rfl : k = d := by omega
      exact ⟨g, rfl, by rw [HL.out]; exact HOwn.out.mono GW.out.size, GW.out.trans HExt.out⟩
set_option maxHeartbeats 1000000 in
theorem s_vector {N d : Nat} (hN : N = 2 ^ d) (p : Int) (a : Option Addr) (cap : Nat) (av : Option Addr) (cv : Nat) (v : List Int) (w : World) (hd : d ≤ 6) (hv : RdC w av d v) :
    Calls Try.prog 179 #[.agg #[.int .i64 p, .slice a d cap], .slice av d cv] w fun e w' => ∃ g, e = .returned (.slice (some ⟨g, 0, none⟩) N N) ∧ OwnC w.heap.size w' (some ⟨g, 0, none⟩) N N (vecL N v) ∧ Ext w w' := by
  have HN := Lib.hid hN
  have HV := Lib.hid hv
  have HL := Lib.hid (show vecL N v = vecS N v d by unfold vecL; rw [hv.1])
  clear hN hv
  obtain ⟨W, hW⟩ : ∃ W, W = w.alloc (.cells #[.int .i64 p, .slice a d cap] 26) := ⟨_, rfl⟩
  have gW : Ext w W := by rw [hW]; exact ext_alloc _ _
  have hs0 : W.cell? ⟨w.heap.size, 0, none⟩ = some (.int .i64 p) := by rw [hW]; simp
  have hs1 : W.cell? ⟨w.heap.size, 1, none⟩ = some (.slice a d cap) := by rw [hW]; simp
  have HS0 := Lib.hid (hs0)
  have HS1 := Lib.hid (hs1)
  have GW := Lib.hid (gW)
  have HW := Lib.hid hW
  clear hs0 hs1 gW hW
  go_enter Try.func179, Try.ntmps179
  go_wp2_with (fail)
  rw [← HW.out]
  refine (s_zeroN HN.out p a cap W hd).mono ?_
  rintro e w1 ⟨g, rfl, ho, g1⟩
  have HO := Lib.hid ho
  have G1 := Lib.hid g1
  have hg := ho.base_le
  clear ho g1
  go_wp2_with (fail)
  go_loopw [6] (fun i wr => ∃ k : Nat, k ≤ d ∧ i = .int .i64 k ∧ OwnC W.heap.size wr (some ⟨g, 0, none⟩) N N (vecS N v k) ∧ Ext W wr) (fun i _ => d - (intOf i).toNat)
  case atStart => exact ⟨0, Nat.zero_le _, rfl, HO.out, G1.out⟩
  case round =>
    obtain ⟨k, hk, rfl, hown, hext⟩ := hrel
    have HOwn := Lib.hid hown
    have HExt := Lib.hid hext
    clear hown hext
    by_cases hlt : k < d
    · obtain ⟨b, off, rfl, hc⟩ := HV.out.2 k hlt
      have hc' := (GW.out.trans HExt.out).cell hc
      have hpi : IntKind.i64.wrap (2 ^ k) = ((2 ^ k : Nat) : Int) := pow_wrapI (by omega)
      have hpw : wrap64 (2 ^ k) = ((2 ^ k : Nat) : Int) := pow_wrap (by omega)
      have hcv := conv_u k (by omega)
      have hMN : 2 ^ k < N := by rw [HN.out]; exact Nat.pow_lt_pow_right (by omega) hlt
      obtain ⟨M, hM⟩ : ∃ M, M = 2 ^ k := ⟨_, rfl⟩
      rw [← hM] at hpi hpw hMN
      have HM := Lib.hid hM
      have ec := HOwn.out.cell hMN
      have ef := HOwn.out.frozen M
      clear hc hM
      go_wp2_with (fail)
      go_roundw
      case rel => exact ⟨k + 1, by omega, by go_num, by unfold vecS; rw [← HM.out]; exact HOwn.out.store hMN _, HExt.out.setCell hg.1 _⟩
      case measure => simp [intOf]; omega
    · go_wp2_with (fail)
      go_ret
      obtain rfl : k = d := by omega
      exact ⟨g, rfl, by rw [HL.out]; exact HOwn.out.mono GW.out.size, GW.out.trans HExt.out⟩

/-! ### Codes of spaces and vectors -/
def vecB (p : Int) (d : Nat) (v : List Int) : Bool := decide (v.length = d) && isB p v
def codeV (p : Int) (qs : List Int) (rows : List (List Int)) : Int := if spaceB p qs then (if rows.all (vecB p qs.length) then 0 else 2) else 1
theorem vec_of {p : Int} {d : Nat} {v : List Int} (h : vecB p d v = true) : v.length = d ∧ isB p v = true := by
  simpa [vecB] using h
set_option maxHeartbeats 400000 in
theorem c_isVector (p : Int) (a : Option Addr) (d cap : Nat) (ax : Option Addr) (n cx : Nat) (xs : List Int) (w : World) (hp1 : 1 ≤ p) (hp2 : p ≤ 1000) (hl : n ≤ 4194304) (hx : RdC w ax n xs) :
    Calls Try.prog 144 #[.agg #[.int .i64 p, .slice a d cap], .slice ax n cx] w fun e w' => e = .returned (.bool (vecB p d xs)) ∧ Ext w w' := by
  by_cases hc : n = d
  · have HF := Lib.hid (show vecB p d xs = isB p xs by simp [vecB, hx.1, hc])
    have hcb : ((n : Int) == (d : Int)) = true := by simp [hc]
    clear hc
    go_enter Try.func144, Try.ntmps144
    go_wp2_with (first | (go_at_call 103; refine (c_dim _ _ _ _ _).mono ?_; rintro e w1 ⟨rfl, h1⟩; have hcc := Ext.cells h1) | (go_at_call 89; refine (c_field _ _ _).mono ?_; rintro e w2 ⟨rfl, h2⟩; have hcc2 := Ext.cells (h1.trans h2)) | (go_at_call 121; refine (c_is _ _ _ _ _ _ hp1 hp2 hl (hx.ext ((ext_alloc _ _).trans (h1.trans h2)))).mono ?_; rintro e w3 ⟨rfl, h3⟩))
    go_ret
    exact ⟨ret_bool HF.out.symm, (ext_alloc _ _).trans (h1.trans (h2.trans h3))⟩
  · have HF := Lib.hid (show vecB p d xs = false by simp [vecB, hx.1, hc])
    have hcb : ((n : Int) == (d : Int)) = false := by simp; omega
    go_enter Try.func144, Try.ntmps144
    go_wp2_with (first | (go_at_call 103; refine (c_dim _ _ _ _ _).mono ?_; rintro e w1 ⟨rfl, h1⟩; have hcc := Ext.cells h1))
    go_ret
    exact ⟨ret_bool HF.out.symm, (ext_alloc _ _).trans h1⟩

set_option maxHeartbeats 400000 in
theorem c_checkVectors1 (p : Int) (a : Option Addr) (d cap : Nat) (ax : Option Addr) (n cx : Nat) (xs : List Int) (q : Nat) (w : World) (hp1 : 1 ≤ p) (hp2 : p ≤ 1000) (hl : n ≤ 4194304) (hx : RdC w ax n xs)
    (hq0 : w.cell? ⟨q, 0, none⟩ = some (.int .i64 p)) (hq1 : w.cell? ⟨q, 1, none⟩ = some (.slice a d cap)) :
    Calls Try.prog 143 #[.slice ax n cx, .pointer (some ⟨q, 0, none⟩)] w fun e w' => e = .returned (.bool (!vecB p d xs)) ∧ Ext w w' := by
  go_enter Try.func143, Try.ntmps143
  go_wp2_with (go_at_call 144; refine (c_isVector _ _ _ _ _ _ _ _ _ hp1 hp2 hl hx).mono ?_; rintro e w1 ⟨rfl, h1⟩)
  go_ret
  exact ⟨rfl, h1⟩

theorem any_rowsV (p : Int) (d n : Nat) (rows : List (List Int)) (hn : rows.length = n) : (List.range n).any (fun i => !vecB p d (nthR rows i)) = !rows.all (vecB p d) := by
  subst hn
  rw [← any_not_all]
  rw [Bool.eq_iff_iff]
  simp only [List.any_eq_true, List.mem_range]
  constructor
  · rintro ⟨i, hi, h⟩
    exact ⟨i, hi, by rw [List.getElem?_eq_getElem hi]; rw [nthR_eq hi] at h; exact h⟩
  · rintro ⟨i, hi, h⟩
    exact ⟨i, hi, by rw [List.getElem?_eq_getElem hi] at h; rw [nthR_eq hi]; exact h⟩

set_option maxHeartbeats 400000 in
theorem c_checkVectors (p : Int) (a : Option Addr) (d cap : Nat) (qs : List Int) (al : Option Addr) (n cl : Nat) (rows : List (List Int)) (w : World) (hd : d ≤ 4194304) (hl : n ≤ 4194304) (hr : ∀ i, i < n → (nthR rows i).length ≤ 4194304)
    (hq : RdC w a d qs) (hx : RdR w al n rows) :
    Calls Try.prog 76 #[.agg #[.int .i64 p, .slice a d cap], .slice al n cl] w fun e w' => e = .returned (.int .i64 (codeV p qs rows)) ∧ Ext w w' := by
  cases hs : spaceB p qs
  · have HS := Lib.hid hs
    have HC := Lib.hid (show codeV p qs rows = 1 by simp [codeV, hs])
    clear hs
    go_enter Try.func76, Try.ntmps76
    go_wp2_with (go_at_call 86; refine (c_isSpace _ _ _ _ _ _ hd (hq.ext (ext_alloc _ _))).mono ?_; rintro e w1 ⟨rfl, h1⟩; rw [HS.out])
    go_ret
    exact ⟨ret_int HC.out.symm, (ext_alloc _ _).trans h1⟩
  · obtain ⟨hp, hd1, hd6, _⟩ := space_of hs
    have hpb := prime_bd hp
    have hdq := hq.1
    have HS := Lib.hid hs
    have HC := Lib.hid (show codeV p qs rows = if rows.all (vecB p d) then 0 else 2 by simp [codeV, hs, hdq])
    have HA := Lib.hid (any_rowsV p d n rows hx.1)
    clear hs hp hdq hd1 hd6
    obtain ⟨ai, ci, hR, hrow⟩ := hx.choose
    have HR := Lib.hid hR
    have HRow := Lib.hid hrow
    clear hR hrow
    cases ha : rows.all (vecB p d)
    all_goals
      have HAl := Lib.hid ha
      clear ha
      go_enter Try.func76, Try.ntmps76
      go_wp2_with (first | (go_at_call 86; refine (c_isSpace _ _ _ _ _ _ hd (hq.ext (ext_alloc _ _))).mono ?_; rintro e w1 ⟨rfl, h1⟩; rw [HS.out]; have hcc := Ext.cells h1) | (go_at_call 142; refine (c_containsFunc al n cl 143 #[.pointer (some ⟨w.heap.size, 0, none⟩)] (rowV ai ci rows) (fun i => !vecB p d (nthR rows i)) _ hl ?_ (fun i hi => ?_) (fun i hi w2 he => ?_)).mono ?_; rotate_right; rintro e w2 ⟨rfl, h2⟩; rw [HA.out, HAl.out]))
      rotate_left
      · intro args w; go_simp
      · obtain ⟨b, off, hb1, hb2⟩ := HR.out i hi
        exact ⟨b, off, hb1, ((ext_alloc _ _).trans h1).cell hb2⟩
      · refine c_checkVectors1 p a d cap _ _ _ _ _ _ (by omega) (by omega) (hr i hi) ((HRow.out i hi).ext ((ext_alloc _ _).trans (h1.trans he))) ?_ ?_
        · refine he.cell (h1.cell ?_); simp
        · refine he.cell (h1.cell ?_); simp
      go_ret
      refine ⟨ret_int ?_, (ext_alloc _ _).trans (h1.trans h2)⟩
      rw [HC.out, HAl.out]; rfl
end Go.Proofs.Ytbgnfjckbjmgbaa

/-
  Copies of slices, in the program and in the reference.
  No condition.
-/
namespace Go.Proofs.Ytbgnfjckbjmgbaa
set_option maxRecDepth 100000
open Go.RowKit

set_option maxHeartbeats 400000 in
theorem s_own (b off n cap : Nat) (xs : List Int) (w : World) (hn : 0 < n) (hl : n ≤ 4194303) (hx : RdC w (some ⟨b, off, none⟩) n xs) :
    Calls Try.prog 196 #[.slice (some ⟨b, off, none⟩) n cap] w fun e w' => ∃ g rc, e = .returned (.slice (some ⟨g, 0, none⟩) n rc) ∧ OwnC w.heap.size w' (some ⟨g, 0, none⟩) n rc xs ∧ Ext w w' := by
  go_enter Try.func196, Try.ntmps196
  go_wp2_with (at_builtin; refine wpList_appendAll rfl (.tmp 3) (.tmp 4) rfl rfl rfl (own_empty w) (hx.ext (ext_alloc _ _)) hn (by omega) (by omega) ?hB ?hk)
  case hB => simp
  case hk =>
    intro g' cap' w3 ho3 hg3 he3
    have HO3 := Lib.hid ho3
    have HE3 := Lib.hid (he3 w (Nat.le_refl _) (ext_alloc _ _))
    clear ho3 hg3 he3
    go_wp2_with (fail)
    go_ret
    exact ⟨g', cap', rfl, HO3.out, HE3.out⟩
set_option maxHeartbeats 400000 in
theorem c_clone (b off n cap : Nat) (xs : List Int) (w : World) (hn : 0 < n) (hl : n ≤ 4194303) (hx : RdC w (some ⟨b, off, none⟩) n xs) :
    Calls Try.prog 191 #[.slice (some ⟨b, off, none⟩) n cap] w fun e w' => ∃ g rc, e = .returned (.slice (some ⟨g, 0, none⟩) n rc) ∧ OwnC w.heap.size w' (some ⟨g, 0, none⟩) n rc xs ∧ Ext w w' := by
  have qT : ∀ (w : World) (a : Option Addr) (n c : Nat), (binOp .eql 24 (.slice a n c) (.slice none 0 0)).run Try.prog w = .ok (.bool a.isNone) w := fun w a n c => Lib.run_eql_slice_nil w _ _ a n c 0 0 Try.underlying24
  go_enter Try.func191, Try.ntmps191
  go_wp2_with (at_builtin; refine wpList_appendAll rfl (.tmp 5) (.tmp 6) rfl rfl rfl (own_empty w) (hx.ext (ext_alloc _ _)) hn (by omega) (by omega) ?hB ?hk)
  case hB => simp
  case hk =>
    intro g' cap' w3 ho3 hg3 he3
    have HO3 := Lib.hid ho3
    have HE3 := Lib.hid (he3 w (Nat.le_refl _) (ext_alloc _ _))
    clear ho3 hg3 he3
    go_wp2_with (fail)
    go_ret
    exact ⟨g', cap', rfl, HO3.out, HE3.out⟩

end Go.Proofs.Ytbgnfjckbjmgbaa

/-
  Contracts: copies of rows, transposed rows, unit rows, in the program and in the reference.
  No condition.
-/
namespace Go.Proofs.Ytbgnfjckbjmgbaa
set_option maxRecDepth 100000
open Go.RowKit

theorem RdC.addr {w : World} {a : Option Addr} {n : Nat} {xs : List Int} (h : RdC w a n xs) (hn : 0 < n) : ∃ b off, a = some ⟨b, off, none⟩ := by
  obtain ⟨b, off, ha, _⟩ := h.2 0 hn
  exact ⟨b, off, ha⟩

theorem cell_new (w : World) (z : Nat) (hz : z = w.heap.size) (v : Value) (t : TypeId) : (w.alloc (.cells #[v] t)).cell? ⟨z, 0, none⟩ = some v := by subst hz; simp

set_option maxHeartbeats 1000000 in
theorem c_cloneRows (a : Option Addr) (n cap m : Nat) (rows : List (List Int)) (w : World) (hm : 0 < m) (hm2 : m ≤ 4194303) (hl : n ≤ 4194303) (hrl : ∀ i, i < n → (nthR rows i).length = m) (hx : RdR w a n rows) :
    Calls Try.prog 171 #[.slice a n cap] w fun e w' => ∃ g rc, e = .returned (.slice (some ⟨g, 0, none⟩) n rc) ∧ OwnR w.heap.size w' (some ⟨g, 0, none⟩) n rc rows ∧ Ext w w' := by
  have HX := Lib.hid hx
  have HRL := Lib.hid hrl
  clear hx hrl
  go_enter Try.func171, Try.ntmps171
  go_wp2_with (fail)
  go_loopw [3, 9] (fun v i wr => ∃ (k g rc : Nat), k ≤ n ∧ i = .int .i64 k ∧ v = .slice (some ⟨g, 0, none⟩) k rc ∧ OwnR w.heap.size wr (some ⟨g, 0, none⟩) k rc (rows.take k) ∧ Ext w wr) (fun _ i _ => n - (intOf i).toNat)
  case atStart => exact ⟨0, _, _, Nat.zero_le _, rfl, rfl, ownR_empty w, ext_alloc _ _⟩
  case round =>
    obtain ⟨k, g, rc, hk, rfl, rfl, hown, hext⟩ := hrel
    have HOwn := Lib.hid hown
    have HExt := Lib.hid hext
    clear hown hext
    by_cases hlt : k < n
    · obtain ⟨b, off, ai, ci, rfl, hc, hri⟩ := HX.out.2 k hlt
      rw [HRL.out k hlt] at hc hri
      obtain ⟨bi, oi, rfl⟩ := hri.addr hm
      have hc' := HExt.out.cell hc
      have HRi := Lib.hid (hri.ext HExt.out)
      clear hc hri
      go_wp2_with (fail)
      refine (c_clone bi oi m ci _ _ hm hm2 HRi.out).mono ?_
      rintro e w1 ⟨g1, rc1, rfl, ho1, h1⟩
      have HO1 := Lib.hid ho1
      have H1 := Lib.hid h1
      clear ho1 h1
      go_wp2_with (at_builtin; refine wpList_pushR (w0 := wr) rfl (.tmp 13) (.tmp 16) rfl rfl rfl HOwn.out (H1.out.trans (ext_alloc _ _)) (HO1.out.ext (ext_alloc _ _)) ?hc (by omega) HExt.out.size ?hk)
      case hc => simp
      case hk =>
        intro g' cap' w3 ho3 hg3 he3
        have HO3 := Lib.hid ho3
        have HE3 := Lib.hid (he3 w (Nat.le_refl _) ((HExt.out.trans H1.out).alloc _))
        clear ho3 hg3 he3
        go_wp2_with (fail)
        go_roundw
        case rel => exact ⟨k + 1, g', cap', by omega, by go_num, rfl, by rw [takeR_snoc _ _ (by rw [HX.out.1]; exact hlt)]; exact HO3.out, HE3.out⟩
        case measure => simp [intOf]; omega
    · go_wp2_with (fail)
      go_ret
      obtain rfl : k = n := by omega
      exact ⟨g, rc, rfl, by have := HOwn.out; rwa [List.take_of_length_le (by rw [HX.out.1]; exact Nat.le_refl _)] at this, HExt.out⟩

set_option maxHeartbeats 1000000 in
theorem s_own2 (a : Option Addr) (n cap m : Nat) (rows : List (List Int)) (w : World) (hm : 0 < m) (hm2 : m ≤ 4194303) (hl : n ≤ 4194303) (hrl : ∀ i, i < n → (nthR rows i).length = m) (hx : RdR w a n rows) :
    Calls Try.prog 209 #[.slice a n cap] w fun e w' => ∃ g rc, e = .returned (.slice (some ⟨g, 0, none⟩) n rc) ∧ OwnR w.heap.size w' (some ⟨g, 0, none⟩) n rc rows ∧ Ext w w' := by
  have HX := Lib.hid hx
  have HRL := Lib.hid hrl
  clear hx hrl
  go_enter Try.func209, Try.ntmps209
  go_wp2_with (fail)
  go_loopw [3, 4] (fun v i wr => ∃ (k g rc : Nat), k ≤ n ∧ i = .int .i64 k ∧ v = .slice (some ⟨g, 0, none⟩) k rc ∧ OwnR w.heap.size wr (some ⟨g, 0, none⟩) k rc (rows.take k) ∧ Ext w wr) (fun _ i _ => n - (intOf i).toNat)
  case atStart => exact ⟨0, _, _, Nat.zero_le _, rfl, rfl, ownR_empty w, ext_alloc _ _⟩
  case round =>
    obtain ⟨k, g, rc, hk, rfl, rfl, hown, hext⟩ := hrel
    have HOwn := Lib.hid hown
    have HExt := Lib.hid hext
    clear hown hext
    by_cases hlt : k < n
    · obtain ⟨b, off, ai, ci, rfl, hc, hri⟩ := HX.out.2 k hlt
      rw [HRL.out k hlt] at hc hri
      obtain ⟨bi, oi, rfl⟩ := hri.addr hm
      have hc' := HExt.out.cell hc
      have HRi := Lib.hid (hri.ext HExt.out)
      clear hc hri
      go_wp2_with (fail)
      refine (s_own bi oi m ci _ _ hm hm2 HRi.out).mono ?_
      rintro e w1 ⟨g1, rc1, rfl, ho1, h1⟩
      have HO1 := Lib.hid ho1
      have H1 := Lib.hid h1
      clear ho1 h1
      go_wp2_with (at_builtin; refine wpList_pushR (w0 := wr) rfl (.tmp 12) (.tmp 18) rfl rfl rfl HOwn.out (H1.out.trans (ext_alloc _ _)) (HO1.out.ext (ext_alloc _ _)) ?hc (by omega) HExt.out.size ?hk)
      case hc => simp
      case hk =>
        intro g' cap' w3 ho3 hg3 he3
        have HO3 := Lib.hid ho3
        have HE3 := Lib.hid (he3 w (Nat.le_refl _) ((HExt.out.trans H1.out).alloc _))
        clear ho3 hg3 he3
        go_wp2_with (fail)
        go_roundw
        case rel => exact ⟨k + 1, g', cap', by omega, by go_num, rfl, by rw [takeR_snoc _ _ (by rw [HX.out.1]; exact hlt)]; exact HO3.out, HE3.out⟩
        case measure => simp [intOf]; omega
    · go_wp2_with (fail)
      go_ret
      obtain rfl : k = n := by omega
      exact ⟨g, rc, rfl, by have := HOwn.out; rwa [List.take_of_length_le (by rw [HX.out.1]; exact Nat.le_refl _)] at this, HExt.out⟩

/-! ### Transposed rows -/
def colL (rows : List (List Int)) (k n : Nat) : List Int := (List.range n).map fun i => nth (nthR rows i) k
theorem colL_succ (rows : List (List Int)) (k n : Nat) : colL rows k (n + 1) = colL rows k n ++ [nth (nthR rows n) k] := by simp [colL, List.range_succ]
theorem colL_len (rows : List (List Int)) (k n : Nat) : (colL rows k n).length = n := by simp [colL]
theorem colL_nth {rows : List (List Int)} {k n i : Nat} (h : i < n) : nth (colL rows k n) i = nth (nthR rows i) k := by
  unfold colL; rw [nth_map (by simpa using h)]; simp
/-- The first m columns of n rows. -/
def turnL (rows : List (List Int)) (n m : Nat) : List (List Int) := (List.range m).map fun k => colL rows k n
theorem turnL_succ (rows : List (List Int)) (n m : Nat) : turnL rows n (m + 1) = turnL rows n m ++ [colL rows m n] := by simp [turnL, List.range_succ]
theorem turnL_len (rows : List (List Int)) (n m : Nat) : (turnL rows n m).length = m := by simp [turnL]
theorem turnL_nth {rows : List (List Int)} {n m k : Nat} (h : k < m) : nthR (turnL rows n m) k = colL rows k n := by
  unfold turnL; rw [nthR_map (by simpa using h)]; simp

set_option maxHeartbeats 2000000 in
theorem c_transpose (a : Option Addr) (n cap m : Nat) (rows : List (List Int)) (w : World) (hn : 0 < n) (hm2 : m ≤ 1048576) (hl : n ≤ 1048576) (hrl : ∀ i, i < n → (nthR rows i).length = m) (hx : RdR w a n rows) :
    Calls Try.prog 166 #[.slice a n cap] w fun e w' => ∃ g rc, e = .returned (.slice (some ⟨g, 0, none⟩) m rc) ∧ OwnR w.heap.size w' (some ⟨g, 0, none⟩) m rc (turnL rows n m) ∧ Ext w w' := by
  have HX := Lib.hid hx
  have HRL := Lib.hid hrl
  obtain ⟨b0, off0, a0, c0, rfl, hc0, _⟩ := hx.2 0 hn
  rw [hrl 0 hn, Nat.add_zero] at hc0
  clear hx hrl
  go_enter Try.func166, Try.ntmps166
  have hc0' : (w.alloc (.cells #[] 24)).cell? ⟨b0, off0, none⟩ = some (.slice a0 m c0) := (ext_alloc w _).cell hc0
  go_wp2_with (fail)
  clear hc0' hc0
  go_loopw [3, 12] (fun v i wr => ∃ (k g rc : Nat), k ≤ m ∧ i = .int .i64 k ∧ v = .slice (some ⟨g, 0, none⟩) k rc ∧ OwnR w.heap.size wr (some ⟨g, 0, none⟩) k rc (turnL rows n k) ∧ Ext w wr) (fun _ i _ => m - (intOf i).toNat)
  case atStart => exact ⟨0, _, _, Nat.zero_le _, rfl, rfl, ownR_empty w, ext_alloc _ _⟩
  case round =>
    obtain ⟨k, g, rc, hk, rfl, rfl, hown, hext⟩ := hrel
    have HOwn := Lib.hid hown
    have HExt := Lib.hid hext
    clear hown hext
    by_cases hlt : k < m
    · go_wp2_with (fail)
      obtain ⟨wo, rfl⟩ : ∃ wo : World, wo = wr := ⟨_, rfl⟩
      go_loopw [5, 18] (fun v i wr => ∃ (j g rc : Nat), j ≤ n ∧ i = .int .i64 j ∧ v = .slice (some ⟨g, 0, none⟩) j rc ∧ OwnC wo.heap.size wr (some ⟨g, 0, none⟩) j rc (colL rows k j) ∧ Ext wo wr) (fun _ i _ => n - (intOf i).toNat)
      case atStart => exact ⟨0, _, _, Nat.zero_le _, rfl, rfl, own_empty wo, ext_alloc _ _⟩
      case round =>
        obtain ⟨j, g1, rc1, hj, rfl, rfl, hown1, hext1⟩ := hrel
        have HOwn1 := Lib.hid hown1
        have HExt1 := Lib.hid hext1
        clear hown1 hext1
        by_cases hlt1 : j < n
        · obtain ⟨b, off, ai, ci, hab, hc, hri⟩ := HX.out.2 j hlt1
          cases hab
          rw [HRL.out j hlt1] at hc hri
          obtain ⟨bi, oi, rfl, hci⟩ := hri.2 k hlt
          have hc' := (HExt.out.trans HExt1.out).cell hc
          have hci' := (HExt.out.trans HExt1.out).cell hci
          clear hc hri hci
          go_wp2_with (at_builtin; refine wpList_push rfl (.tmp 21) (.tmp 29) rfl rfl rfl (v := nth (nthR rows j) k) (HOwn1.out.ext (ext_alloc _ _)) ?hc (by omega) ?hB ?hk)
          case hc => simp
          case hB => have hz := HExt1.out.size'; simp; omega
          case hk =>
            intro g' cap' w3 ho3 hg3 he3
            have HO3 := Lib.hid ho3
            have HE3 := Lib.hid (he3 wo (Nat.le_refl _) (HExt1.out.alloc _))
            clear ho3 hg3 he3
            go_wp2_with (fail)
            go_roundw
            case rel => exact ⟨j + 1, g', cap', by omega, by go_num, rfl, by rw [colL_succ]; exact HO3.out, HE3.out⟩
            case measure => simp [intOf]; omega
        · obtain rfl : j = n := by omega
          go_wp2_with (at_builtin; refine wpList_pushR (w0 := wo) rfl (.tmp 32) (.tmp 34) rfl rfl rfl HOwn.out (HExt1.out.trans (ext_alloc _ _)) (HOwn1.out.ext (ext_alloc _ _)) ?hc (by omega) HExt.out.size ?hk)
          case hc => simp
          case hk =>
            intro g' cap' w3 ho3 hg3 he3
            have HO3 := Lib.hid ho3
            have HE3 := Lib.hid (he3 w (Nat.le_refl _) ((HExt.out.trans HExt1.out).alloc _))
            clear ho3 hg3 he3
            go_wp2_with (fail)
            go_roundw
            case rel => exact ⟨k + 1, g', cap', by omega, by go_num, rfl, by rw [turnL_succ]; exact HO3.out, HE3.out⟩
            case measure => simp [intOf]; omega
    · go_wp2_with (fail)
      go_ret
      obtain rfl : k = m := by omega
      exact ⟨g, rc, rfl, HOwn.out, HExt.out⟩

set_option maxHeartbeats 2000000 in
theorem s_turn (a : Option Addr) (n cap m : Nat) (rows : List (List Int)) (w : World) (hn : 0 < n) (hm2 : m ≤ 1048576) (hl : n ≤ 1048576) (hrl : ∀ i, i < n → (nthR rows i).length = m) (hx : RdR w a n rows) :
    Calls Try.prog 182 #[.slice a n cap] w fun e w' => ∃ g rc, e = .returned (.slice (some ⟨g, 0, none⟩) m rc) ∧ OwnR w.heap.size w' (some ⟨g, 0, none⟩) m rc (turnL rows n m) ∧ Ext w w' := by
  have HX := Lib.hid hx
  have HRL := Lib.hid hrl
  obtain ⟨b0, off0, a0, c0, rfl, hc0, _⟩ := hx.2 0 hn
  rw [hrl 0 hn, Nat.add_zero] at hc0
  have HC0 := Lib.hid hc0
  clear hx hrl hc0
  go_enter Try.func182, Try.ntmps182
  go_wp2_with (fail)
  go_loopw [3, 4] (fun v i wr => ∃ (k g rc : Nat), k ≤ m ∧ i = .int .i64 k ∧ v = .slice (some ⟨g, 0, none⟩) k rc ∧ OwnR w.heap.size wr (some ⟨g, 0, none⟩) k rc (turnL rows n k) ∧ Ext w wr) (fun _ i _ => m - (intOf i).toNat)
  case atStart => exact ⟨0, _, _, Nat.zero_le _, rfl, rfl, ownR_empty w, ext_alloc _ _⟩
  case round =>
    obtain ⟨k, g, rc, hk, rfl, rfl, hown, hext⟩ := hrel
    have HOwn := Lib.hid hown
    have HExt := Lib.hid hext
    have hc0 : wr.cell? ⟨b0, off0, none⟩ = some (.slice a0 m c0) := hext.cell HC0.out
    clear hown hext
    by_cases hlt : k < m
    · go_wp2_with (fail)
      clear hc0
      obtain ⟨wo, rfl⟩ : ∃ wo : World, wo = wr := ⟨_, rfl⟩
      go_loopw [5, 6] (fun v i wr => ∃ (j g rc : Nat), j ≤ n ∧ i = .int .i64 j ∧ v = .slice (some ⟨g, 0, none⟩) j rc ∧ OwnC wo.heap.size wr (some ⟨g, 0, none⟩) j rc (colL rows k j) ∧ Ext wo wr) (fun _ i _ => n - (intOf i).toNat)
      case atStart => exact ⟨0, _, _, Nat.zero_le _, rfl, rfl, own_empty wo, ext_alloc _ _⟩
      case round =>
        obtain ⟨j, g1, rc1, hj, rfl, rfl, hown1, hext1⟩ := hrel
        have HOwn1 := Lib.hid hown1
        have HExt1 := Lib.hid hext1
        clear hown1 hext1
        by_cases hlt1 : j < n
        · obtain ⟨b, off, ai, ci, hab, hc, hri⟩ := HX.out.2 j hlt1
          cases hab
          rw [HRL.out j hlt1] at hc hri
          obtain ⟨bi, oi, rfl, hci⟩ := hri.2 k hlt
          have hc' := (HExt.out.trans HExt1.out).cell hc
          have hci' := (HExt.out.trans HExt1.out).cell hci
          clear hc hri hci
          go_wp2_with (at_builtin; refine wpList_push rfl (.tmp 23) (.tmp 31) rfl rfl rfl (v := nth (nthR rows j) k) (HOwn1.out.ext (ext_alloc _ _)) ?hc (by omega) ?hB ?hk)
          case hc => simp
          case hB => have hz := HExt1.out.size'; simp; omega
          case hk =>
            intro g' cap' w3 ho3 hg3 he3
            have HO3 := Lib.hid ho3
            have HE3 := Lib.hid (he3 wo (Nat.le_refl _) (HExt1.out.alloc _))
            clear ho3 hg3 he3
            go_wp2_with (fail)
            go_roundw
            case rel => exact ⟨j + 1, g', cap', by omega, by go_num, rfl, by rw [colL_succ]; exact HO3.out, HE3.out⟩
            case measure => simp [intOf]; omega
        · obtain rfl : j = n := by omega
          go_wp2_with (at_builtin; refine wpList_pushR (w0 := wo) rfl (.tmp 33) (.tmp 35) rfl rfl rfl HOwn.out (HExt1.out.trans (ext_alloc _ _)) (HOwn1.out.ext (ext_alloc _ _)) ?hc (by omega) HExt.out.size ?hk)
          case hc => simp
          case hk =>
            intro g' cap' w3 ho3 hg3 he3
            have HO3 := Lib.hid ho3
            have HE3 := Lib.hid (he3 w (Nat.le_refl _) ((HExt.out.trans HExt1.out).alloc _))
            clear ho3 hg3 he3
            go_wp2_with (fail)
            go_roundw
            case rel => exact ⟨k + 1, g', cap', by omega, by go_num, rfl, by rw [turnL_succ]; exact HO3.out, HE3.out⟩
            case measure => simp [intOf]; omega
    · go_wp2_with (fail)
      go_ret
      obtain rfl : k = m := by omega
      exact ⟨g, rc, rfl, HOwn.out, HExt.out⟩

/-! ### Unit rows -/
def unitL (n k : Nat) : List (List Int) := (List.range k).map fun i => bladeL n i
theorem unitL_succ (n k : Nat) : unitL n (k + 1) = unitL n k ++ [bladeL n k] := by simp [unitL, List.range_succ]
theorem unitL_len (n k : Nat) : (unitL n k).length = k := by simp [unitL]
theorem unitL_nth {n k i : Nat} (h : i < k) : nthR (unitL n k) i = bladeL n i := by
  unfold unitL; rw [nthR_map (by simpa using h)]; simp
set_option maxHeartbeats 1000000 in
theorem c_unit (n : Nat) (w : World) (hl : n ≤ 1048576) :
    Calls Try.prog 199 #[.int .i64 n] w fun e w' => ∃ g rc, e = .returned (.slice (some ⟨g, 0, none⟩) n rc) ∧ OwnR w.heap.size w' (some ⟨g, 0, none⟩) n rc (unitL n n) ∧ Ext w w' := by
  go_enter Try.func199, Try.ntmps199
  go_wp2_with (fail)
  go_loopw [3, 8] (fun v i wr => ∃ (k g rc : Nat), k ≤ n ∧ i = .int .i64 k ∧ v = .slice (some ⟨g, 0, none⟩) k rc ∧ OwnR w.heap.size wr (some ⟨g, 0, none⟩) k rc (unitL n k) ∧ Ext w wr) (fun _ i _ => n - (intOf i).toNat)
  case atStart => exact ⟨0, _, _, Nat.zero_le _, rfl, rfl, ownR_empty w, ext_alloc _ _⟩
  case round =>
    obtain ⟨k, g, rc, hk, rfl, rfl, hown, hext⟩ := hrel
    have HOwn := Lib.hid hown
    have HExt := Lib.hid hext
    clear hown hext
    by_cases hlt : k < n
    · obtain ⟨w0, hmk, hown0, hext0⟩ := make_ints wr n (by omega)
      obtain ⟨g0, hg0⟩ : ∃ g, g = wr.heap.size := ⟨_, rfl⟩
      rw [← hg0] at hmk hown0
      have HG0 := Lib.hid hg0
      have hge : wr.heap.size ≤ g0 := by omega
      have HO0 := Lib.hid hown0
      have HE0 := Lib.hid hext0
      have hcg := hown0.cell hlt
      have hfz := hown0.frozen k
      clear hown0 hext0 hg0
      go_wp2_with (at_builtin; refine wpList_pushR (w0 := wr) rfl (.tmp 16) (.tmp 18) rfl rfl rfl HOwn.out ((HE0.out.setCell hge _).trans (ext_alloc _ _)) (xs := bladeL n k) (((HO0.out.store hlt 1).mono hge).ext (ext_alloc _ _)) ?hc (by omega) HExt.out.size ?hk)
      case hc => exact cell_new _ _ (by simp) _ _
      case hk =>
        intro g' cap' w3 ho3 hg3 he3
        have HO3 := Lib.hid ho3
        have HE3 := Lib.hid (he3 w (Nat.le_refl _) ((HExt.out.trans (HE0.out.setCell hge _)).alloc _))
        clear ho3 hg3 he3
        go_wp2_with (fail)
        go_roundw
        case rel => exact ⟨k + 1, g', cap', by omega, by go_num, rfl, by rw [unitL_succ]; exact HO3.out, HE3.out⟩
        case measure => simp [intOf]; omega
    · go_wp2_with (fail)
      go_ret
      obtain rfl : k = n := by omega
      exact ⟨g, rc, rfl, HOwn.out, HExt.out⟩
end Go.Proofs.Ytbgnfjckbjmgbaa

/-
  Reduced bases of lists of numbers, in plain words: columns one after another, a row with a number other than 0 there is brought up, divided, and taken from all others.
  No condition.
-/
namespace Go.Proofs.Ytbgnfjckbjmgbaa
set_option maxRecDepth 100000
open Go.RowKit

/-- All rows have m numbers. -/
def RowsG (p : Int) (m : Nat) (rows : List (List Int)) : Prop := ∀ i, i < rows.length → Good p m (nthR rows i)
theorem RowsG.set {p : Int} {m : Nat} {rows : List (List Int)} (h : RowsG p m rows) {j : Nat} {v : List Int} (hv : Good p m v) : RowsG p m (rows.set j v) := by
  intro i hi
  rw [List.length_set] at hi
  by_cases hj : j < rows.length
  · rw [nthR_set hj]
    split
    · exact hv
    · exact h i hi
  · rw [List.set_eq_of_length_le (by omega)]; exact h i hi
theorem plus_zero {p : Int} {m : Nat} {x y : List Int} (hx : Good p m x) : plusL p x y 0 m = x := by
  refine ext_nth (by rw [plusL_len, hx.1]) fun i hi => ?_
  rw [plusL_len] at hi
  rw [plusL_nth hi]
  unfold plusN
  rw [Int.zero_mul, Int.add_zero, Int.emod_eq_of_lt (hx.2 i hi).1 (hx.2 i hi).2]
theorem plus_mod {p k k' : Int} {m : Nat} {x y : List Int} (h : k % p = k' % p) : plusL p x y k m = plusL p x y k' m := by
  unfold plusL
  refine List.map_congr_left fun i _ => ?_
  unfold plusN
  rw [Int.add_emod, Int.mul_emod, h, ← Int.mul_emod, ← Int.add_emod]

/-- The first row from number d on whose number k is not 0, or the number of rows. -/
def pivG (rows : List (List Int)) (k d : Nat) : Nat := match (List.range rows.length).find? (fun i => decide (d ≤ i) && nth (nthR rows i) k != 0) with | some i => i | none => rows.length
theorem pivG_eq {rows : List (List Int)} {k d i : Nat} (hdi : d ≤ i) (hi : i ≤ rows.length) (hz : ∀ j, d ≤ j → j < i → nth (nthR rows j) k = 0) (he : i = rows.length ∨ nth (nthR rows i) k ≠ 0) : pivG rows k d = i := by
  unfold pivG
  by_cases hl : i < rows.length
  · have hne : nth (nthR rows i) k ≠ 0 := by rcases he with h | h; omega; exact h
    have : (List.range rows.length).find? (fun i => decide (d ≤ i) && nth (nthR rows i) k != 0) = some i := by
      rw [List.find?_range_eq_some]
      refine ⟨by simp [hdi, hne], by simpa using hl, fun j hj => ?_⟩
      by_cases hd : d ≤ j
      · simp [hz j hd hj]
      · simp [hd]
    rw [this]
  · have : (List.range rows.length).find? (fun i => decide (d ≤ i) && nth (nthR rows i) k != 0) = none := by
      rw [List.find?_range_eq_none]
      intro j hj
      by_cases hd : d ≤ j
      · simp [hz j hd (by omega)]
      · simp [hd]
    rw [this]
    show rows.length = i
    omega
theorem pivG_spec (rows : List (List Int)) (k d : Nat) (hd : d ≤ rows.length) : d ≤ pivG rows k d ∧ pivG rows k d ≤ rows.length ∧ (∀ j, d ≤ j → j < pivG rows k d → nth (nthR rows j) k = 0) ∧ (pivG rows k d = rows.length ∨ nth (nthR rows (pivG rows k d)) k ≠ 0) := by
  unfold pivG
  split
  · rename_i i h
    rw [List.find?_range_eq_some] at h
    obtain ⟨h1, h2, h3⟩ := h
    simp only [Bool.and_eq_true, decide_eq_true_eq, bne_iff_ne, ne_eq] at h1
    have h2' : i < rows.length := by simpa using h2
    refine ⟨h1.1, by omega, fun j hj hji => ?_, .inr h1.2⟩
    have := h3 j hji
    simpa [hj] using this
  · rename_i h
    rw [List.find?_range_eq_none] at h
    refine ⟨hd, Nat.le_refl _, fun j hj hjl => ?_, .inl rfl⟩
    have := h j hjl
    simpa [hj] using this

/-- Row d, times a number, is added to the first rows, such that their numbers k become 0. -/
def clrS (p : Int) (k m d : Nat) (rows : List (List Int)) : Nat → List (List Int)
  | 0 => rows
  | r + 1 => if r = d then clrS p k m d rows r else (clrS p k m d rows r).set r (plusL p (nthR (clrS p k m d rows r) r) (nthR (clrS p k m d rows r) d) (-(nth (nthR (clrS p k m d rows r) r) k)) m)
theorem clrS_len {p : Int} {k m d : Nat} {rows : List (List Int)} : ∀ r, (clrS p k m d rows r).length = rows.length
  | 0 => rfl
  | r + 1 => by unfold clrS; split; exact clrS_len r; rw [List.length_set]; exact clrS_len r
theorem clrS_good {p : Int} {k m d : Nat} {rows : List (List Int)} (hp : 1 ≤ p) (h : RowsG p m rows) : ∀ r, RowsG p m (clrS p k m d rows r)
  | 0 => h
  | r + 1 => by unfold clrS; split; exact clrS_good hp h r; exact (clrS_good hp h r).set (plus_good hp)
theorem clrS_nth {p : Int} {k m d : Nat} {rows : List (List Int)} : ∀ r, r ≤ rows.length → ∀ j, nthR (clrS p k m d rows r) j = if j < r ∧ j ≠ d then plusL p (nthR rows j) (nthR rows d) (-(nth (nthR rows j) k)) m else nthR rows j
  | 0, _, j => by rw [if_neg (by omega)]; rfl
  | r + 1, hr, j => by
    have ih := clrS_nth r (by omega) (p := p) (k := k) (m := m) (d := d) (rows := rows)
    unfold clrS
    by_cases hd : r = d
    · rw [if_pos hd, ih j]
      by_cases hj : j < r ∧ j ≠ d
      · rw [if_pos hj, if_pos (by omega)]
      · rw [if_neg hj, if_neg (by omega)]
    · have e1 : nthR (clrS p k m d rows r) r = nthR rows r := by rw [ih r, if_neg (by omega)]
      have e2 : nthR (clrS p k m d rows r) d = nthR rows d := by rw [ih d, if_neg (by omega)]
      rw [if_neg hd, nthR_set (by rw [clrS_len]; omega), e1, e2]
      by_cases hj : r = j
      · subst hj; rw [if_pos rfl, if_pos (by omega)]
      · rw [if_neg hj, ih j]
        by_cases hj' : j < r ∧ j ≠ d
        · rw [if_pos hj', if_pos (by omega)]
        · rw [if_neg hj', if_neg (by omega)]
theorem clrS_self {p : Int} {k m d : Nat} {rows : List (List Int)} {r : Nat} (h : r = d) : clrS p k m d rows (r + 1) = clrS p k m d rows r := by rw [clrS, if_pos h]
theorem clrS_ne {p : Int} {k m d : Nat} {rows : List (List Int)} {r : Nat} (h : ¬ r = d) : clrS p k m d rows (r + 1) = (clrS p k m d rows r).set r (plusL p (nthR (clrS p k m d rows r) r) (nthR (clrS p k m d rows r) d) (-(nth (nthR (clrS p k m d rows r) r) k)) m) := by rw [clrS, if_neg h]
theorem clrS_zero {p : Int} {k m d : Nat} {rows : List (List Int)} {r : Nat} (hp : 1 ≤ p) (h : RowsG p m rows) (hr : r < rows.length) (hz : nth (nthR (clrS p k m d rows r) r) k = 0) : clrS p k m d rows (r + 1) = clrS p k m d rows r := by
  by_cases hd : r = d
  · exact clrS_self hd
  · rw [clrS_ne hd, hz, Int.neg_zero, plus_zero (clrS_good hp h r r (by rw [clrS_len]; exact hr)), set_self]

def swapL (rows : List (List Int)) (i j : Nat) : List (List Int) := (rows.set i (nthR rows j)).set j (nthR rows i)
theorem swapL_len {rows : List (List Int)} {i j : Nat} : (swapL rows i j).length = rows.length := by simp [swapL]
theorem swapL_nth {rows : List (List Int)} {i j k : Nat} (hi : i < rows.length) (hj : j < rows.length) : nthR (swapL rows i j) k = if k = j then nthR rows i else if k = i then nthR rows j else nthR rows k := by
  unfold swapL
  rw [nthR_set (by simpa using hj)]
  by_cases hkj : j = k
  · subst hkj; simp
  · rw [if_neg hkj, if_neg (Ne.symm hkj), nthR_set hi]
    by_cases hki : i = k
    · subst hki; simp
    · rw [if_neg hki, if_neg (Ne.symm hki)]
theorem swapL_good {p : Int} {m : Nat} {rows : List (List Int)} (h : RowsG p m rows) {i j : Nat} (hi : i < rows.length) (hj : j < rows.length) : RowsG p m (swapL rows i j) := by
  intro k hk
  rw [swapL_len] at hk
  rw [swapL_nth hi hj]
  split
  · exact h i hi
  · split
    · exact h j hj
    · exact h k hk

/-- The rows with row i brought up to place d and divided by its number k. -/
def upG (p : Int) (m : Nat) (rows : List (List Int)) (d k i : Nat) : List (List Int) := (swapL rows d i).set d (scaleL p (nthR rows i) (invN p (nth (nthR rows i) k)) m)
theorem upG_len {p : Int} {m : Nat} {rows : List (List Int)} {d k i : Nat} : (upG p m rows d k i).length = rows.length := by simp [upG, swapL_len]
theorem upG_good {p : Int} {m : Nat} {rows : List (List Int)} {d k i : Nat} (hp : 1 ≤ p) (h : RowsG p m rows) (hd : d < rows.length) (hi : i < rows.length) : RowsG p m (upG p m rows d k i) := (swapL_good h hd hi).set (scale_good hp)
theorem upG_nth {p : Int} {m : Nat} {rows : List (List Int)} {d k i j : Nat} (hd : d < rows.length) (hi : i < rows.length) : nthR (upG p m rows d k i) j = if j = d then scaleL p (nthR rows i) (invN p (nth (nthR rows i) k)) m else if j = i then nthR rows d else nthR rows j := by
  unfold upG
  rw [nthR_set (by rw [swapL_len]; exact hd)]
  by_cases hj : d = j
  · subst hj; simp
  · rw [if_neg hj, if_neg (Ne.symm hj), swapL_nth hd hi]
    by_cases hji : j = i
    · rw [if_pos hji, if_pos hji]
    · rw [if_neg hji, if_neg hji, if_neg (Ne.symm hj)]
def stepG (p : Int) (m : Nat) (s : List (List Int) × Nat) (k : Nat) : List (List Int) × Nat :=
  if pivG s.1 k s.2 = s.1.length then s else (clrS p k m s.2 (upG p m s.1 s.2 k (pivG s.1 k s.2)) s.1.length, s.2 + 1)
def gaussS (p : Int) (m : Nat) (rows : List (List Int)) : Nat → List (List Int) × Nat
  | 0 => (rows, 0)
  | k + 1 => stepG p m (gaussS p m rows k) k
def basisL (p : Int) (m : Nat) (rows : List (List Int)) : List (List Int) := (gaussS p m rows m).1.take (gaussS p m rows m).2

theorem stepG_no {p : Int} {m : Nat} {s : List (List Int) × Nat} {k : Nat} (h : pivG s.1 k s.2 = s.1.length) : stepG p m s k = s := by rw [stepG, if_pos h]
theorem stepG_yes {p : Int} {m : Nat} {s : List (List Int) × Nat} {k i : Nat} (h : pivG s.1 k s.2 = i) (hi : i < s.1.length) : stepG p m s k = (clrS p k m s.2 (upG p m s.1 s.2 k i) s.1.length, s.2 + 1) := by
  rw [stepG, h, if_neg (by omega)]

/-- What holds of the rows when k columns are done: d rows have a 1 at a place of their own, where all other rows have 0. -/
structure Red (rows : List (List Int)) (d k : Nat) (c : Nat → Nat) : Prop where
  dle : d ≤ rows.length
  dk : d ≤ k
  clt : ∀ i, i < d → c i < k
  mono : ∀ i j, i < j → j < d → c i < c j
  one : ∀ i, i < d → ∀ j, j < rows.length → nth (nthR rows j) (c i) = if j = i then 1 else 0
  lead : ∀ i, i < d → ∀ t, t < c i → nth (nthR rows i) t = 0
  rest : ∀ i, d ≤ i → i < rows.length → ∀ t, t < k → nth (nthR rows i) t = 0

theorem Red.step {p : Int} {m : Nat} {rows : List (List Int)} {d k : Nat} {c : Nat → Nat} (hp : primeB p = true) (hk : k < m) (hg : RowsG p m rows) (h : Red rows d k c) :
    ∃ c', Red (stepG p m (rows, d) k).1 (stepG p m (rows, d) k).2 (k + 1) c' := by
  have hpb := prime_bd hp
  obtain ⟨h1, h2, h3, h4⟩ := pivG_spec rows k d h.dle
  by_cases hn : pivG rows k d = rows.length
  · rw [stepG_no (s := (rows, d)) hn]
    refine ⟨c, h.dle, Nat.le_succ_of_le h.dk, fun i hi => Nat.lt_succ_of_lt (h.clt i hi), h.mono, h.one, h.lead, fun i hdi hi t ht => ?_⟩
    rcases Nat.lt_or_eq_of_le (Nat.le_of_lt_succ ht) with ht | ht
    · exact h.rest i hdi hi t ht
    · subst ht; exact h3 i hdi (by rw [hn]; exact hi)
  · obtain ⟨i0, hi0⟩ : ∃ i0, i0 = pivG rows k d := ⟨_, rfl⟩
    rw [← hi0] at h1 h2 h3 h4 hn
    have hi : i0 < rows.length := by omega
    have hne : nth (nthR rows i0) k ≠ 0 := by rcases h4 with h | h; omega; exact h
    rw [stepG_yes (s := (rows, d)) hi0.symm hi]
    have hd : d < rows.length := by omega
    obtain ⟨R, hR⟩ : ∃ R, R = upG p m rows d k i0 := ⟨_, rfl⟩
    have Rl : R.length = rows.length := by rw [hR, upG_len]
    have Rg : RowsG p m R := by rw [hR]; exact upG_good (by omega) hg hd hi
    have Rn : ∀ j, nthR R j = if j = d then scaleL p (nthR rows i0) (invN p (nth (nthR rows i0) k)) m else if j = i0 then nthR rows d else nthR rows j := fun j => by rw [hR]; exact upG_nth hd hi
    have gi := hg i0 hi
    -- the row that is brought up
    have Dz : ∀ t, t < k → nth (nthR R d) t = 0 := fun t ht => by
      rw [Rn d, if_pos rfl, scaleL_nth (by omega), scaleN, h.rest i0 h1 hi t ht]; simp
    have D1 : nth (nthR R d) k = 1 := by
      rw [Rn d, if_pos rfl, scaleL_nth hk, scaleN]
      have hb := gi.2 k hk
      exact (inv_spec hp (by omega) hb.2).2.1
    -- zeros of the others
    have Rz : ∀ j, d ≤ j → j < rows.length → ∀ t, t < k → nth (nthR R j) t = 0 := fun j hj hjl t ht => by
      by_cases hjd : j = d
      · subst hjd; exact Dz t ht
      · rw [Rn j, if_neg hjd]
        split
        · exact h.rest d (Nat.le_refl _) hd t ht
        · exact h.rest j hj hjl t ht
    have Ro : ∀ j, j < d → nthR R j = nthR rows j := fun j hj => by rw [Rn j, if_neg (by omega), if_neg (by omega)]
    rw [← hR]
    have Cn : ∀ j, j < rows.length → nthR (clrS p k m d R rows.length) j = if j ≠ d then plusL p (nthR R j) (nthR R d) (-(nth (nthR R j) k)) m else nthR R j := fun j hj => by
      rw [clrS_nth _ (by omega)]
      by_cases hjd : j ≠ d
      · rw [if_pos ⟨hj, hjd⟩, if_pos hjd]
      · rw [if_neg (by omega), if_neg hjd]
    -- places ahead of k do not change
    have Ct : ∀ j, j < rows.length → ∀ t, t < k → nth (nthR (clrS p k m d R rows.length) j) t = nth (nthR R j) t := fun j hj t ht => by
      rw [Cn j hj]
      by_cases hjd : j ≠ d
      · rw [if_pos hjd, plusL_nth (by omega)]
        unfold plusN
        have gj := (Rg j (by omega)).2 t (by omega)
        rw [Dz t ht, Int.mul_zero, Int.add_zero, Int.emod_eq_of_lt gj.1 gj.2]
      · rw [if_neg hjd]
    have Ck : ∀ j, j < rows.length → nth (nthR (clrS p k m d R rows.length) j) k = if j = d then 1 else 0 := fun j hj => by
      rw [Cn j hj]
      by_cases hjd : j ≠ d
      · rw [if_pos hjd, plusL_nth hk, if_neg hjd]
        unfold plusN
        rw [D1, Int.mul_one]
        rw [show nth (nthR R j) k + -nth (nthR R j) k = 0 by omega]; simp
      · rw [if_neg hjd, if_pos (by omega), show j = d by omega, D1]
    refine ⟨fun i => if i = d then k else c i, ?_⟩
    constructor
    · show d + 1 ≤ _; rw [clrS_len, Rl]; omega
    · show d + 1 ≤ k + 1; have := h.dk; omega
    · intro i hid
      have hid' : i < d + 1 := hid
      by_cases hi' : i = d
      · simp [hi']
      · simp only [hi', if_false]; have := h.clt i (by omega); omega
    · intro i j hij hj
      have hj' : j < d + 1 := hj
      have e1 : i ≠ d := by omega
      simp only [e1, if_false]
      by_cases hjd : j = d
      · simp only [hjd, if_true]; exact h.clt i (by omega)
      · simp only [hjd, if_false]; exact h.mono i j hij (by omega)
    · intro i hid j hj
      have hid' : i < d + 1 := hid
      rw [clrS_len, Rl] at hj
      by_cases hi' : i = d
      · simp only [hi', if_true]; exact Ck j hj
      · simp only [hi', if_false]
        have hid2 : i < d := by omega
        have hc := h.clt i hid2
        rw [Ct j hj _ hc]
        by_cases hjd : j < d
        · rw [Ro j hjd]; exact h.one i hid2 j hj
        · rw [Rz j (by omega) hj _ hc, if_neg (by omega)]
    · intro i hid t ht
      have hid' : i < d + 1 := hid
      by_cases hi' : i = d
      · simp only [hi', if_true] at ht
        rw [hi', Ct d hd t ht]; exact Dz t ht
      · simp only [hi', if_false] at ht
        have hid2 : i < d := by omega
        have hc := h.clt i hid2
        rw [Ct i (by omega) t (by omega), Ro i hid2]
        exact h.lead i hid2 t ht
    · intro i hdi hil t ht
      have hdi' : d + 1 ≤ i := hdi
      rw [clrS_len, Rl] at hil
      rcases Nat.lt_or_eq_of_le (Nat.le_of_lt_succ ht) with ht | ht
      · rw [Ct i hil t ht]; exact Rz i (by omega) hil t ht
      · rw [ht, Ck i hil, if_neg (by omega)]

theorem gaussS_len {p : Int} {m : Nat} {rows : List (List Int)} : ∀ k, (gaussS p m rows k).1.length = rows.length
  | 0 => rfl
  | k + 1 => by
    have ih := gaussS_len (p := p) (m := m) (rows := rows) k
    show (stepG p m (gaussS p m rows k) k).1.length = _
    unfold stepG
    split
    · exact ih
    · simp only [clrS_len, upG_len]; exact ih
theorem gaussS_red {p : Int} {m : Nat} {rows : List (List Int)} (hp : primeB p = true) (hg : RowsG p m rows) : ∀ k, k ≤ m → RowsG p m (gaussS p m rows k).1 ∧ ∃ c, Red (gaussS p m rows k).1 (gaussS p m rows k).2 k c
  | 0, _ => ⟨hg, fun _ => 0, Nat.zero_le _, Nat.le_refl _, fun i hi => absurd hi (Nat.not_lt_zero _), fun i j _ hj => absurd hj (Nat.not_lt_zero _), fun i hi => absurd hi (Nat.not_lt_zero _), fun i hi => absurd hi (Nat.not_lt_zero _), fun i _ _ t ht => absurd ht (Nat.not_lt_zero _)⟩
  | k + 1, hk => by
    obtain ⟨h1, c, h2⟩ := gaussS_red hp hg k (by omega)
    refine ⟨?_, h2.step hp (by omega) h1⟩
    show RowsG p m (stepG p m (gaussS p m rows k) k).1
    have hpb := prime_bd hp
    obtain ⟨p1, p2, p3, p4⟩ := pivG_spec _ k _ h2.dle
    by_cases hn : pivG (gaussS p m rows k).1 k (gaussS p m rows k).2 = (gaussS p m rows k).1.length
    · rw [stepG_no hn]; exact h1
    · rw [stepG_yes rfl (by omega)]
      exact clrS_good (by omega) (upG_good (by omega) h1 (by omega) (by omega)) _
theorem gaussS_stop {p : Int} {m : Nat} {rows : List (List Int)} {k : Nat} (h : (gaussS p m rows k).2 = rows.length) : ∀ j, gaussS p m rows (k + j) = gaussS p m rows k
  | 0 => rfl
  | j + 1 => by
    show stepG p m (gaussS p m rows (k + j)) (k + j) = _
    rw [gaussS_stop h j]
    apply stepG_no
    have hl := gaussS_len (p := p) (m := m) (rows := rows) k
    obtain ⟨p1, p2, _, _⟩ := pivG_spec (gaussS p m rows k).1 (k + j) (gaussS p m rows k).2 (by omega)
    omega
theorem gauss_rank {p : Int} {m : Nat} {rows : List (List Int)} (hp : primeB p = true) (hg : RowsG p m rows) : (gaussS p m rows m).2 ≤ rows.length ∧ (gaussS p m rows m).2 ≤ m := by
  obtain ⟨_, c, h⟩ := gaussS_red hp hg m (Nat.le_refl _)
  have := gaussS_len (p := p) (m := m) (rows := rows) m
  exact ⟨by have := h.dle; omega, h.dk⟩
/-- A reduced basis: each row has its first number other than 0, a 1, at a place of its own; all others have 0 there. -/
structure Basis (p : Int) (m : Nat) (rows : List (List Int)) (c : Nat → Nat) : Prop where
  good : RowsG p m rows
  len : rows.length ≤ m
  clt : ∀ i, i < rows.length → c i < m
  mono : ∀ i j, i < j → j < rows.length → c i < c j
  one : ∀ i, i < rows.length → ∀ j, j < rows.length → nth (nthR rows j) (c i) = if j = i then 1 else 0
  lead : ∀ i, i < rows.length → ∀ t, t < c i → nth (nthR rows i) t = 0
theorem basis_red {p : Int} {m : Nat} {rows : List (List Int)} (hp : primeB p = true) (hg : RowsG p m rows) : ∃ c, Basis p m (basisL p m rows) c := by
  obtain ⟨h1, c, h2⟩ := gaussS_red hp hg m (Nat.le_refl _)
  have hl : (basisL p m rows).length = (gaussS p m rows m).2 := by unfold basisL; rw [List.length_take, Nat.min_eq_left h2.dle]
  have hn : ∀ i, i < (gaussS p m rows m).2 → nthR (basisL p m rows) i = nthR (gaussS p m rows m).1 i := fun i hi => by unfold basisL; exact nthR_take hi
  have hd := h2.dle
  refine ⟨c, fun i hi => ?_, by rw [hl]; exact h2.dk, fun i hi => h2.clt i (by omega), fun i j hij hj => h2.mono i j hij (by omega), fun i hi j hj => ?_, fun i hi t ht => ?_⟩
  · rw [hn i (by omega)]; exact h1 i (by omega)
  · rw [hn j (by omega)]; exact h2.one i (by omega) j (by omega)
  · rw [hn i (by omega)]; exact h2.lead i (by omega) t ht

end Go.Proofs.Ytbgnfjckbjmgbaa

/-
  Reverses of multivectors, in the program and in the reference.
  No condition.
-/
namespace Go.Proofs.Ytbgnfjckbjmgbaa
set_option maxRecDepth 100000
open Go.RowKit


def revB (g : Nat) : Bool := g * (g - 1) / 2 % 2 == 1
theorem rev_i (g : Nat) (hg : g ≤ 6) : ((wrap64 ((wrap64 ((g : Int) * ((g : Int) - 1))).tdiv 2)).tmod 2 == 1) = revB g := by
  have : ∀ g : Nat, g < 7 → ((wrap64 ((wrap64 ((g : Int) * ((g : Int) - 1))).tdiv 2)).tmod 2 == 1) = revB g := by decide +kernel
  exact this g (by omega)
set_option maxHeartbeats 400000 in
theorem c_reverse1 (g : Nat) (w : World) (hg : g ≤ 6) :
    Calls Try.prog 160 #[.int .i64 g] w fun e w' => e = .returned (.bool (revB g)) ∧ Ext w w' := by
  go_enter Try.func160, Try.ntmps160
  go_wp2
  go_ret
  exact ⟨ret_bool (rev_i g hg), Ext.refl _⟩

def signN (p : Int) (odd : Nat → Bool) (x : List Int) (i : Nat) : Int := if odd (popc i) = true then (-nth x i) % p else nth x i
def signL (p : Int) (odd : Nat → Bool) (x : List Int) (n : Nat) : List Int := (List.range n).map (signN p odd x)
theorem signL_len (p : Int) (odd : Nat → Bool) (x : List Int) (n : Nat) : (signL p odd x n).length = n := by simp [signL]
theorem signL_nth {p : Int} {odd : Nat → Bool} {x : List Int} {n i : Nat} (h : i < n) : nth (signL p odd x n) i = signN p odd x i := by
  unfold signL; rw [nth_map (by simpa using h)]; simp
theorem signL_succ (p : Int) (odd : Nat → Bool) (x : List Int) (n : Nat) : signL p odd x (n + 1) = signL p odd x n ++ [signN p odd x n] := by simp [signL, List.range_succ]
theorem signN_bd {p : Int} {odd : Nat → Bool} {x : List Int} {n i : Nat} (hp : 1 ≤ p) (hx : Good p n x) (h : i < n) : 0 ≤ signN p odd x i ∧ signN p odd x i < p := by
  unfold signN; split
  · exact ⟨Int.emod_nonneg _ (by omega), Int.emod_lt_of_pos _ (by omega)⟩
  · exact hx.2 i h
theorem sign_good {p : Int} {odd : Nat → Bool} {x : List Int} {n : Nat} (hp : 1 ≤ p) (hx : Good p n x) : Good p n (signL p odd x n) := ⟨signL_len _ _ _ _, fun i hi => by rw [signL_nth hi]; exact signN_bd hp hx hi⟩

set_option maxHeartbeats 1000000 in
set_option maxRecDepth 100000 in
theorem c_signed (p : Int) (a : Option Addr) (d cap : Nat) (b off n cx : Nat) (x : List Int) (F : Nat) (odd : Nat → Bool) (w : World) (hp1 : 3 ≤ p) (hp2 : p ≤ 1000) (hn : 0 < n) (hn6 : n ≤ 64) (hx : RdC w (some ⟨b, off, none⟩) n x) (hgx : Good p n x)
    (hcf : ∀ args w, (callFunc F args).run Try.prog w = .ok (.enter F args) w)
    (hF : ∀ (g : Nat) (w : World), g ≤ 6 → Calls Try.prog F #[.int .i64 g] w fun e w' => e = .returned (.bool (odd g)) ∧ Ext w w') :
    Calls Try.prog 159 #[.agg #[.int .i64 p, .slice a d cap], .slice (some ⟨b, off, none⟩) n cx, .func (.func F) #[] #[]] w fun e w' => ∃ g rc, e = .returned (.slice (some ⟨g, 0, none⟩) n rc) ∧ OwnC w.heap.size w' (some ⟨g, 0, none⟩) n rc (signL p odd x n) ∧ Ext w w' := by
  have HX := Lib.hid hx
  have HGX := Lib.hid hgx
  have HF := Lib.hid hF
  clear hx hgx hF
  obtain ⟨W, hW⟩ : ∃ W, W = w.alloc (.cells #[.int .i64 p, .slice a d cap] 26) := ⟨_, rfl⟩
  have gW : Ext w W := by rw [hW]; exact ext_alloc _ _
  have hs0 : W.cell? ⟨w.heap.size, 0, none⟩ = some (.int .i64 p) := by rw [hW]; simp
  have hs1 : W.cell? ⟨w.heap.size, 1, none⟩ = some (.slice a d cap) := by rw [hW]; simp
  have HS0 := Lib.hid (hs0)
  have HS1 := Lib.hid (hs1)
  have GW := Lib.hid (gW)
  have HW := Lib.hid hW
  clear hs0 hs1 gW hW
  go_enter Try.func159, Try.ntmps159
  go_wp2_with (fail)
  rw [← HW.out]
  refine (c_clone b off n cx x W hn (by omega) (HX.out.ext GW.out)).mono ?_
  rintro e w1 ⟨g, rc, rfl, ho, g1⟩
  have HO := Lib.hid ho
  have G1 := Lib.hid g1
  have hb := ho.base_le
  clear ho g1
  go_wp2_with (fail)
  go_loopw [14] (fun i wr => ∃ (k : Nat) (ys : List Int), k ≤ n ∧ i = .int .i64 k ∧ OwnC W.heap.size wr (some ⟨g, 0, none⟩) n rc ys ∧ Hid (∀ i, i < n → nth ys i = if i < k then signN p odd x i else nth x i) ∧ Ext W wr) (fun i _ => n - (intOf i).toNat)
  case atStart => exact ⟨0, x, Nat.zero_le _, rfl, HO.out, Lib.hid (fun i _ => by simp), G1.out⟩
  case round =>
    obtain ⟨k, ys, hk, rfl, hown, HT, hext⟩ := hrel
    have HOwn := Lib.hid hown
    have HExt := Lib.hid hext
    clear hown hext
    by_cases hlt : k < n
    · obtain ⟨bx, ox, hbx, hcx⟩ := HX.out.2 k hlt
      obtain ⟨rfl, rfl⟩ : b = bx ∧ off = ox := by cases hbx; exact ⟨rfl, rfl⟩
      clear hbx
      have hcx' := (GW.out.trans HExt.out).cell hcx
      have hxk := HGX.out.2 k hlt
      have hpk := popc_le (show k < 64 by omega)
      have HFk := Lib.hid (fun w => HF.out (popc k) w hpk)
      have hw1 : IntKind.i64.wrap (-nth x k) = -nth x k := IntWalk.i64_in _ (by omega)
      have hq0 := HExt.out.cell HS0.out
      have hq1 := HExt.out.cell HS1.out
      have HYL := Lib.hid (show k < ys.length by rw [HOwn.out.1]; exact hlt)
      clear hcx
      cases ho : odd (popc k)
      · have HD := Lib.hid ho
        have HSg := Lib.hid (show signN p odd x k = nth x k by simp [signN, ho])
        clear ho
        go_wp2_with (first | (go_at_call 192; refine (c_grade _ _ (by omega)).mono ?_; rintro e w2 ⟨rfl, g2⟩) | ((with_reducible refine (HFk.out _).mono ?_); rintro e w3 ⟨rfl, g3⟩; rw [HD.out]))
        go_roundw
        case rel => exact ⟨k + 1, ys, by omega, by go_num, HOwn.out.ext (g2.trans g3), Lib.hid (fun i hi => by
          rw [HT.out i hi]
          by_cases h1 : i < k
          · rw [if_pos h1, if_pos (by omega)]
          · by_cases h2 : i = k
            · subst h2; rw [if_neg h1, if_pos (by omega), HSg.out]
            · rw [if_neg h1, if_neg (by omega)]), HExt.out.trans (g2.trans g3)⟩
        case measure => simp [intOf]; omega
      · have HD := Lib.hid ho
        have HSg := Lib.hid (show (-nth x k) % p = signN p odd x k by simp [signN, ho])
        clear ho
        go_wp2_with (first | (go_at_call 192; refine (c_grade _ _ (by omega)).mono ?_; rintro e w2 ⟨rfl, g2⟩) | ((with_reducible refine (HFk.out _).mono ?_); rintro e w3 ⟨rfl, g3⟩; rw [HD.out]; have G3 := Lib.hid (g2.trans g3); have HO3 := Lib.hid (HOwn.out.ext G3.out); have hr0 := G3.out.cell hq0; have hr1 := G3.out.cell hq1; clear g2 g3 hcx' hq0 hq1) | (go_at_call 89; refine (c_field _ _ _).mono ?_; rintro e w4 ⟨rfl, g4⟩; have G4 := Lib.hid g4; clear g4 hr0 hr1) | (go_at_call 154; refine (c_num _ _ _ (by omega) hp2).mono ?_; rintro e w5 ⟨rfl, g5⟩; rw [HSg.out]; have G5 := Lib.hid (G4.out.trans g5); have HO5 := Lib.hid (HO3.out.ext G5.out); have ec := HO5.out.cell hlt; have ef := HO5.out.frozen k; have hz := G5.out.size'; clear g5))
        go_roundw
        case rel => exact ⟨k + 1, ys.set k (signN p odd x k), by omega, by go_num, HO5.out.store hlt _, Lib.hid (fun i hi => by
          rw [nth_set HYL.out, HT.out i hi]
          by_cases h1 : i < k
          · rw [if_neg (by omega), if_pos h1, if_pos (by omega)]
          · by_cases h2 : k = i
            · subst h2; rw [if_pos rfl, if_pos (by omega)]
            · rw [if_neg h2, if_neg h1, if_neg (by omega)]), (HExt.out.trans (G3.out.trans G5.out)).setCell (by simp; omega) _⟩
        case measure => simp [intOf]; omega
    · go_wp2_with (fail)
      go_ret
      obtain rfl : k = n := by omega
      refine ⟨g, rc, rfl, ?_, GW.out.trans HExt.out⟩
      have e : ys = signL p odd x k := ext_nth (by rw [HOwn.out.1, signL_len]) (fun i hi => by
        rw [HOwn.out.1] at hi
        rw [HT.out i hi, if_pos hi, signL_nth hi])
      rw [← e]
      exact HOwn.out.mono GW.out.size

set_option maxHeartbeats 400000 in
theorem c_reverse (p : Int) (a : Option Addr) (d cap : Nat) (b off n cx : Nat) (x : List Int) (w : World) (hp1 : 3 ≤ p) (hp2 : p ≤ 1000) (hn : 0 < n) (hn6 : n ≤ 64) (hx : RdC w (some ⟨b, off, none⟩) n x) (hgx : Good p n x) :
    Calls Try.prog 96 #[.agg #[.int .i64 p, .slice a d cap], .slice (some ⟨b, off, none⟩) n cx] w fun e w' => ∃ g rc, e = .returned (.slice (some ⟨g, 0, none⟩) n rc) ∧ OwnC w.heap.size w' (some ⟨g, 0, none⟩) n rc (signL p revB x n) ∧ Ext w w' := by
  go_enter Try.func96, Try.ntmps96
  go_wp2_with (fail)
  refine (c_signed p a d cap b off n cx x 160 revB _ hp1 hp2 hn hn6 (hx.ext (ext_alloc _ _)) hgx ?_ (fun g w hg => c_reverse1 g w hg)).mono ?_
  · intro args w; go_simp
  rintro e w1 ⟨g, rc, rfl, ho, g1⟩
  have HO := Lib.hid ho
  have G1 := Lib.hid g1
  clear ho g1
  go_wp2_with (fail)
  go_ret
  exact ⟨g, rc, rfl, HO.out.mono (by simp), (ext_alloc _ _).trans G1.out⟩

theorem neg_ref {p x : Int} : (p - x) % p = (-x) % p := by
  rw [show p - x = -x + p * 1 by omega, Int.add_mul_emod_self_left]


end Go.Proofs.Ytbgnfjckbjmgbaa
