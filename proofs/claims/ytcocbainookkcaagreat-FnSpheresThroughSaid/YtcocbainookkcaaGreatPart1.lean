/-
  Contracts and plain laws, part 1: SpecA, Fac, Prod, Blades, SProd, Times, TopProd, Pseudo, Plus, Kit.
  No condition.
-/
import Derived.Test.YtcocbainookkcaaGreatPart0
/-
  Contracts: checks of spaces and multivectors in the reference.
  No condition.
-/
namespace Go.Proofs.YtcocbainookkcaaGreat
set_option maxRecDepth 100000
open Go.RowKit

set_option maxHeartbeats 400000 in
theorem s_prime (p : Int) (w : World) :
    Calls Tryz.prog 99 #[.int .i64 p] w fun e w' => e = .returned (.bool (primeB p)) ∧ Ext w w' := by
  go_enter Tryz.func99, Tryz.ntmps99
  go_wp2
  all_goals go_ret
  all_goals refine ⟨?_, Ext.refl _⟩
  all_goals simp_all [primeB]

set_option maxHeartbeats 400000 in
theorem s_in (n l h : Int) (w : World) :
    Calls Tryz.prog 100 #[.int .i64 n, .int .i64 l, .int .i64 h] w fun e w' => e = .returned (.bool (inB n l h)) ∧ Ext w w' := by
  go_enter Tryz.func100, Tryz.ntmps100
  go_wp2
  all_goals go_ret
  all_goals refine ⟨?_, Ext.refl _⟩
  all_goals simp [inB]; omega

set_option maxHeartbeats 400000 in
theorem s_numbers (p : Int) (a : Option Addr) (n cap : Nat) (xs : List Int) (w : World) (hp1 : 1 ≤ p) (hp2 : p ≤ 1000) (hl : n ≤ 4194304) (hx : RdC w a n xs) :
    Calls Tryz.prog 101 #[.int .i64 p, .slice a n cap] w fun e w' => e = .returned (.bool (isB p xs)) ∧ Ext w w' := by
  obtain ⟨hn, hx⟩ := hx
  have HX := Lib.hid hx
  have HN := Lib.hid hn
  clear hx hn
  go_enter Tryz.func101, Tryz.ntmps101
  go_wp2_with (fail)
  go_loopw [5] (fun i wr => ∃ k : Nat, k ≤ n ∧ i = .int .i64 k ∧ isB p (xs.take k) = true ∧ Ext w wr) (fun i _ => n - (intOf i).toNat)
  case atStart => exact ⟨0, Nat.zero_le _, rfl, rfl, Ext.refl _⟩
  case round =>
    obtain ⟨k, hk, rfl, ht, hext⟩ := hrel
    have HT := Lib.hid ht; clear ht
    by_cases hlt : k < n
    · obtain ⟨b, off, rfl, hc⟩ := HX.out k hlt
      have hc' := hext.cell hc
      clear hc
      have HS := Lib.hid (take_snoc xs k (by rw [HN.out]; omega))
      cases hb : inB (nth xs k) 0 (p - 1)
      · have HB := Lib.hid hb
        go_wp2_with (go_at_call 100; refine (s_in _ _ _ _).mono ?_; rintro e w1 ⟨rfl, h1⟩)
        go_ret
        exact ⟨ret_bool (isB_false (by rw [HN.out]; exact hlt) HB.out).symm, hext.trans h1⟩
      · have HB := Lib.hid hb
        go_wp2_with (go_at_call 100; refine (s_in _ _ _ _).mono ?_; rintro e w1 ⟨rfl, h1⟩)
        go_roundw
        case rel => exact ⟨k + 1, by omega, by go_num, by rw [HS.out, isB_snoc, HT.out, HB.out]; rfl, hext.trans h1⟩
        case measure => simp [intOf]; omega
    · go_wp2_with (fail)
      go_ret
      have hh := HT.out
      rw [List.take_of_length_le (by rw [HN.out]; omega)] at hh
      exact ⟨ret_bool hh.symm, hext⟩

set_option maxHeartbeats 400000 in
theorem s_is (p : Int) (a : Option Addr) (d cap : Nat) (qs : List Int) (w : World) (hl : d ≤ 4194304) (hq : RdC w a d qs) :
    Calls Tryz.prog 83 #[.agg #[.int .i64 p, .slice a d cap]] w fun e w' => e = .returned (.bool (spaceB p qs)) ∧ Ext w w' := by
  cases h1 : primeB p
  · have HF := Lib.hid (show spaceB p qs = false by simp [spaceB, h1])
    have H1 := Lib.hid h1
    clear h1
    go_enter Tryz.func83, Tryz.ntmps83
    go_wp2_with (go_at_call 99; refine (s_prime _ _).mono ?_; rintro e w1 ⟨rfl, g1⟩; rw [H1.out]; have hcc := Ext.cells g1)
    go_ret
    exact ⟨ret_bool HF.out.symm, (ext_alloc _ _).trans g1⟩
  · have H1 := Lib.hid h1
    have hp := prime_bd h1
    clear h1
    cases h2 : inB (d : Int) 1 6
    · have HF := Lib.hid (show spaceB p qs = false by simp [spaceB, hq.1, h2])
      have H2 := Lib.hid h2
      clear h2
      go_enter Tryz.func83, Tryz.ntmps83
      go_wp2_with (first | (go_at_call 99; refine (s_prime _ _).mono ?_; rintro e w1 ⟨rfl, g1⟩; rw [H1.out]; have hcc := Ext.cells g1) | (go_at_call 100; refine (s_in _ _ _ _).mono ?_; rintro e w2 ⟨rfl, g2⟩; rw [H2.out]; have hcc2 := Ext.cells (g1.trans g2)))
      go_ret
      exact ⟨ret_bool HF.out.symm, (ext_alloc _ _).trans (g1.trans g2)⟩
    · have HF := Lib.hid (show spaceB p qs = isB p qs by simp [spaceB, hq.1, h2, H1.out])
      have H2 := Lib.hid h2
      clear h2
      go_enter Tryz.func83, Tryz.ntmps83
      go_wp2_with (first | (go_at_call 99; refine (s_prime _ _).mono ?_; rintro e w1 ⟨rfl, g1⟩; rw [H1.out]; have hcc := Ext.cells g1) | (go_at_call 100; refine (s_in _ _ _ _).mono ?_; rintro e w2 ⟨rfl, g2⟩; rw [H2.out]; have hcc2 := Ext.cells (g1.trans g2)) | (go_at_call 101; refine (s_numbers _ _ _ _ _ _ (by omega) (by omega) hl (hq.ext ((ext_alloc _ _).trans (g1.trans g2)))).mono ?_; rintro e w3 ⟨rfl, g3⟩))
      go_ret
      exact ⟨ret_bool HF.out.symm, (ext_alloc _ _).trans (g1.trans (g2.trans g3))⟩

set_option maxHeartbeats 400000 in
theorem s_size (p : Int) (a : Option Addr) (d cap : Nat) (w : World) (hd : d ≤ 6) :
    Calls Tryz.prog 91 #[.agg #[.int .i64 p, .slice a d cap]] w fun e w' => e = .returned (.int .i64 ((2 ^ d : Nat) : Int)) ∧ Ext w w' := by
  have HW := Lib.hid (pow_wrap hd)
  go_enter Tryz.func91, Tryz.ntmps91
  go_wp2
  go_ret
  refine ⟨ret_int ?_, ext_alloc _ _⟩
  rw [← HW.out]

theorem all_false {p : Int} {d n k : Nat} {rows : List (List Int)} (hn : rows.length = n) (hk : k < n) (h : multiB p d (nthR rows k) = false) : rows.all (multiB p d) = false := by
  rw [List.all_eq_false]
  subst hn
  exact ⟨rows[k], List.getElem_mem hk, by rw [nthR_eq hk] at h; simp [h]⟩
theorem all_true {p : Int} {d n : Nat} {rows : List (List Int)} (hn : rows.length = n) (h : ∀ j, j < n → multiB p d (nthR rows j) = true) : rows.all (multiB p d) = true := by
  rw [List.all_eq_true]
  intro x hx
  obtain ⟨i, hi, rfl⟩ := List.getElem_of_mem hx
  have := h i (by omega)
  rwa [nthR_eq hi] at this

end Go.Proofs.YtcocbainookkcaaGreat

/-
  The factor of a product of two blades, in plain numbers; the contracts of the two functions that compute it.
  No condition.
-/
namespace Go.Proofs.YtcocbainookkcaaGreat
set_option maxRecDepth 100000
open Go.RowKit

/-- How many swaps, and the product of the common squares, behind k places. -/
def facS (p : Int) (qs : List Int) (a b : Nat) : Nat → Nat × Int
  | 0 => (0, 1)
  | k + 1 => if b.testBit k then ((facS p qs a b k).1 + popc (a >>> (k + 1)), if a.testBit k then (facS p qs a b k).2 * nth qs k % p else (facS p qs a b k).2) else facS p qs a b k
def sgn (p : Int) (s : Nat) (o : Int) : Int := if s % 2 = 1 then (-o) % p else o
/-- The factor of the product of the blades a and b. -/
def fac (p : Int) (qs : List Int) (a b : Nat) : Int := sgn p (facS p qs a b qs.length).1 (facS p qs a b qs.length).2

theorem facS_bd {p : Int} {qs : List Int} {a b : Nat} (hp : 3 ≤ p) (ha : a < 64) (k : Nat) : (facS p qs a b k).1 ≤ 6 * k ∧ 0 ≤ (facS p qs a b k).2 ∧ (facS p qs a b k).2 < p := by
  induction k with
  | zero => simp [facS]; omega
  | succ k ih =>
    unfold facS
    have h1 := popc_le (shr_lt (k + 1) ha)
    have h2 := Int.emod_nonneg ((facS p qs a b k).2 * nth qs k) (show p ≠ 0 by omega)
    have h3 := Int.emod_lt_of_pos ((facS p qs a b k).2 * nth qs k) (show 0 < p by omega)
    split
    · refine ⟨by dsimp only; omega, ?_⟩
      dsimp only
      split <;> omega
    · omega
theorem sgn_bd {p o : Int} {s : Nat} (hp : 3 ≤ p) (h0 : 0 ≤ o) (h1 : o < p) : 0 ≤ sgn p s o ∧ sgn p s o < p := by
  unfold sgn
  split
  · exact ⟨Int.emod_nonneg _ (by omega), Int.emod_lt_of_pos _ (by omega)⟩
  · exact ⟨h0, h1⟩
theorem fac_bd {p : Int} {qs : List Int} {a b : Nat} (hp : 3 ≤ p) (ha : a < 64) : 0 ≤ fac p qs a b ∧ fac p qs a b < p := by
  have := facS_bd (qs := qs) (b := b) hp ha qs.length
  exact sgn_bd hp this.2.1 this.2.2

theorem facS_no {p : Int} {qs : List Int} {a b k : Nat} (h : b.testBit k = false) : facS p qs a b (k + 1) = facS p qs a b k := by simp [facS, h]
theorem facS_one {p : Int} {qs : List Int} {a b k : Nat} (h : b.testBit k = true) (h' : a.testBit k = false) : facS p qs a b (k + 1) = ((facS p qs a b k).1 + popc (a >>> (k + 1)), (facS p qs a b k).2) := by simp [facS, h, h']
theorem facS_two {p : Int} {qs : List Int} {a b k : Nat} (h : b.testBit k = true) (h' : a.testBit k = true) : facS p qs a b (k + 1) = ((facS p qs a b k).1 + popc (a >>> (k + 1)), (facS p qs a b k).2 * nth qs k % p) := by simp [facS, h, h']

theorem mul_bd {p x y : Int} (hp : p ≤ 1000) (hx0 : 0 ≤ x) (hx : x < p) (hy0 : 0 ≤ y) (hy : y < p) : 0 ≤ x * y ∧ x * y ≤ 1000000 := by
  refine ⟨Int.mul_nonneg hx0 hy0, ?_⟩
  have h1 : x * y ≤ 1000 * y := Int.mul_le_mul_of_nonneg_right (by omega) hy0
  omega

set_option maxHeartbeats 1000000 in
theorem c_factor (p : Int) (a : Option Addr) (d cap : Nat) (qs : List Int) (x y : Nat) (w : World) (hd : d ≤ 6) (hp1 : 3 ≤ p) (hp2 : p ≤ 1000) (hx : x < 64) (hy : y < 64) (hq : RdC w a d qs) (hqb : isB p qs = true) :
    Calls Tryz.prog 104 #[.agg #[.int .i64 p, .slice a d cap], .int .i64 x, .int .i64 y] w fun e w' => e = .returned (.int .i64 (fac p qs x y)) ∧ Ext w w' := by
  have HQ := Lib.hid hq.2
  have HN := Lib.hid hq.1
  have HB := Lib.hid hqb
  clear hq hqb
  go_enter Tryz.func104, Tryz.ntmps104
  go_wp2_with (go_at_call 53; refine (c_dim _ _ _ _ _).mono ?_; rintro e w1 ⟨rfl, g1⟩)
  have hs0 : w1.cell? ⟨w.heap.size, 0, none⟩ = some (.int .i64 p) := g1.cell (by simp)
  have hs1 : w1.cell? ⟨w.heap.size, 1, none⟩ = some (.slice a d cap) := g1.cell (by simp)
  have HS0 := Lib.hid hs0
  have HS1 := Lib.hid hs1
  have G1 := Lib.hid ((ext_alloc w (.cells #[.int .i64 p, .slice a d cap] 26)).trans g1)
  clear g1 hs0 hs1
  go_loopw [7, 8, 9, 12] (fun s o _ i wr => ∃ k : Nat, k ≤ d ∧ i = .int .i64 k ∧ s = .int .i64 (facS p qs x y k).1 ∧ o = .int .i64 (facS p qs x y k).2 ∧ Ext w1 wr) (fun _ _ _ i _ => d - (intOf i).toNat)
  case atStart => exact ⟨0, Nat.zero_le _, rfl, rfl, rfl, Ext.refl _⟩
  case round =>
    obtain ⟨k, hk, rfl, rfl, rfl, hext⟩ := hrel
    obtain ⟨hf1, hf2, hf3⟩ := facS_bd (qs := qs) (b := y) hp1 hx k
    obtain ⟨S, hS⟩ : ∃ S, S = (facS p qs x y k).1 := ⟨_, rfl⟩
    obtain ⟨O, hO⟩ : ∃ O, O = (facS p qs x y k).2 := ⟨_, rfl⟩
    rw [← hS] at hf1 ⊢
    rw [← hO] at hf2 hf3 ⊢
    have HS := Lib.hid hS
    have HO := Lib.hid hO
    clear hS hO
    by_cases hlt : k < d
    · have hy1 := bit_i y k hy (by omega)
      have hx1 := bit_i x k hx (by omega)
      have hsh := shr_u x k hx (by omega)
      have hpl := popc_le (shr_lt (k + 1) hx)
      obtain ⟨b, off, ha, hc⟩ := HQ.out k hlt
      have Hc := Lib.hid ((G1.out.trans (hext)).cell hc)
      have hqk := isB_nth HB.out (i := k) (by rw [HN.out]; exact hlt)
      clear hc
      have hmul := mul_bd (x := O) (y := nth qs k) hp2 hf2 hf3 hqk.1 hqk.2
      cases hyb : y.testBit k
      · have HYB := Lib.hid hyb
        rw [hyb] at hy1
        clear hyb hx1 hsh ha
        go_wp2_with (fail)
        go_roundw
        case rel => exact ⟨k + 1, by omega, by go_num, by rw [facS_no HYB.out, HS.out], by rw [facS_no HYB.out, HO.out], hext⟩
        case measure => simp [intOf]; omega
      · have HYB := Lib.hid hyb
        rw [hyb] at hy1
        clear hyb
        cases hxb : x.testBit k
        · have HXB := Lib.hid hxb
          rw [hxb] at hx1
          clear hxb ha
          go_wp2_with (go_at_call 107; refine (c_ones (x >>> (k + 1)) _ (shr_lt _ hx)).mono ?_; rintro e w2 ⟨rfl, g2⟩)
          go_roundw
          case rel => exact ⟨k + 1, by omega, by go_num, by rw [facS_one HYB.out HXB.out, HS.out]; go_num, by rw [facS_one HYB.out HXB.out, HO.out], hext.trans g2⟩
          case measure => simp [intOf]; omega
        · have HXB := Lib.hid hxb
          rw [hxb] at hx1
          clear hxb
          subst ha
          go_wp2_with (go_at_call 107; refine (c_ones (x >>> (k + 1)) _ (shr_lt _ hx)).mono ?_; rintro e w2 ⟨rfl, g2⟩)
          refine wp_region_lex [(1, .val (.int .i64 p)), (9, .val (.int .i64 (O * nth qs k % p)))] (by kernel_rfl) (by kernel_rfl) ?_
          have X2 := Lib.hid (g2.trans (ext_drew _))
          have Y2 := Lib.hid (hext.trans X2.out)
          have hw : IntKind.i64.wrap (O * nth qs k) = O * nth qs k := IntWalk.i64_in _ (by omega)
          repeat' first | (refine LexW.pure (v := ?_) rfl rfl (fun w1 he => ?_) ?_; rotate_left; ( have e1 := (Y2.out.trans he).cell HS0.out; have e2 := (Y2.out.trans he).cell HS1.out; have e3 := (X2.out.trans he).cell Hc.out; go_simp; rfl); simp only [Act.put, List.setIfInBounds_toArray, List.set_cons_zero, List.set_cons_succ]) | (refine LexW.call (f := ?_) (args := ?_) rfl rfl (fun w1 => ?_) (fun w1 he hdep => ?_) ?_; rotate_left 2; (go_simp; refine ⟨?_, ?_⟩ <;> rfl); ( first | (go_at_call 38; exact c_field _ _ _) | (go_at_call 81; exact c_num _ _ _ (by omega) hp2)); simp only [Act.put, List.setIfInBounds_toArray, List.set_cons_zero, List.set_cons_succ])
          refine LexW.nil (fun w3 he hk => ?_)
          go_wp2_with (fail)
          go_roundw
          case rel => exact ⟨k + 1, by omega, by go_num, by rw [facS_two HYB.out HXB.out, HS.out]; go_num, by rw [facS_two HYB.out HXB.out, HO.out], Y2.out.trans he⟩
          case measure => simp [intOf]; omega
    · have hkd : k = d := by omega
      have e1 := hext.cell HS0.out
      have e2 := hext.cell HS1.out
      by_cases hodd : S % 2 = 1
      · have ht : (((S : Int) % 2) == 1) = true := by simp; omega
        have HF := Lib.hid (show fac p qs x y = (-O) % p by simp only [fac, sgn]; rw [HN.out, ← hkd, ← HS.out, if_pos hodd, ← HO.out])
        clear hkd hodd
        go_wp2_with (first | (go_at_call 38; refine (c_field _ _ _).mono ?_; rintro e w2 ⟨rfl, g2⟩) | (go_at_call 81; refine (c_num _ _ _ (by omega) hp2).mono ?_; rintro e w3 ⟨rfl, g3⟩))
        go_ret
        exact ⟨ret_int HF.out.symm, G1.out.trans (hext.trans (g2.trans g3))⟩
      · have ht : (((S : Int) % 2) == 1) = false := by simp; omega
        have HF := Lib.hid (show fac p qs x y = O by simp only [fac, sgn]; rw [HN.out, ← hkd, ← HS.out, if_neg hodd, ← HO.out])
        clear hkd hodd
        go_wp2_with (fail)
        go_ret
        exact ⟨ret_int HF.out.symm, G1.out.trans hext⟩

/-! ### The reference's way: it turns the first mask as it goes -/
def aS (a b : Nat) : Nat → Nat
  | 0 => a
  | k + 1 => if b.testBit k then aS a b k ^^^ (1 <<< k) else aS a b k
theorem aS_all (a b k : Nat) (ha : a < 64) (hb : b < 64) (hk : k < 6) : aS a b k < 64 ∧ aS a b k >>> (k + 1) = a >>> (k + 1) ∧ (aS a b k).testBit k = a.testBit k := by
  have : ∀ a : Nat, a < 64 → ∀ b : Nat, b < 64 → ∀ k : Nat, k < 6 → aS a b k < 64 ∧ aS a b k >>> (k + 1) = a >>> (k + 1) ∧ (aS a b k).testBit k = a.testBit k := by decide +kernel
  exact this a ha b hb k hk

theorem aS_no {a b k : Nat} (h : b.testBit k = false) : aS a b (k + 1) = aS a b k := by simp [aS, h]
theorem aS_yes {a b k : Nat} (h : b.testBit k = true) : aS a b (k + 1) = aS a b k ^^^ (1 <<< k) := by simp [aS, h]
theorem xor_i (A k : Nat) (hA : A < 64) (hk : k < 6) : bits BinOp.xor IntKind.i64 (A : Int) (IntKind.i64.wrap (2 ^ k)) = ((A ^^^ (1 <<< k) : Nat) : Int) := by
  have : ∀ A : Nat, A < 64 → ∀ k : Nat, k < 6 → bits BinOp.xor IntKind.i64 (A : Int) (IntKind.i64.wrap (2 ^ k)) = ((A ^^^ (1 <<< k) : Nat) : Int) := by decide +kernel
  exact this A hA k hk
theorem xor_i' (A k : Nat) (hA : A < 64) (hk : k < 6) : bits BinOp.xor IntKind.i64 (A : Int) (wrap64 (2 ^ k)) = ((A ^^^ (1 <<< k) : Nat) : Int) := by
  have : ∀ A : Nat, A < 64 → ∀ k : Nat, k < 6 → bits BinOp.xor IntKind.i64 (A : Int) (wrap64 (2 ^ k)) = ((A ^^^ (1 <<< k) : Nat) : Int) := by decide +kernel
  exact this A hA k hk
theorem shr_i (A k : Nat) : (A : Int) / 2 ^ (k + 1) = ((A >>> (k + 1) : Nat) : Int) := by
  rw [Nat.shiftRight_eq_div_pow]; simp
theorem sgn_odd {p o : Int} {s g : Nat} (hg : g % 2 = 1) (h0 : 0 ≤ o) (h1 : o < p) : sgn p (s + g) o = (p - sgn p s o) % p := by
  unfold sgn
  by_cases hs : s % 2 = 1
  · rw [if_neg (by omega), if_pos hs, Int.sub_emod_emod, Int.sub_neg, Int.add_emod_left, Int.emod_eq_of_lt h0 h1]
  · rw [if_pos (by omega), if_neg hs, Int.sub_eq_add_neg, Int.add_emod_left]
theorem sgn_even {p o : Int} {s g : Nat} (hg : ¬ g % 2 = 1) : sgn p (s + g) o = sgn p s o := by
  unfold sgn
  by_cases hs : s % 2 = 1
  · rw [if_pos (by omega), if_pos hs]
  · rw [if_neg (by omega), if_neg hs]
theorem sgn_mul {p o q : Int} {s : Nat} : sgn p s (o * q % p) = sgn p s o * q % p := by
  unfold sgn
  by_cases hs : s % 2 = 1
  · rw [if_pos hs, if_pos hs]
    rw [Int.mul_emod ((-o) % p), Int.emod_emod, ← Int.mul_emod, Int.neg_mul]
    have := Int.sub_emod_emod 0 (o * q) p
    simpa using this
  · rw [if_neg hs, if_neg hs]

end Go.Proofs.YtcocbainookkcaaGreat

/-
  The products of multivectors in plain numbers; the contract of the program's product with a choice of pairs.
  No condition.
-/
namespace Go.Proofs.YtcocbainookkcaaGreat
set_option maxRecDepth 100000
open Go.RowKit

/-- One pair of blades is taken into a product. -/
def stepP (p : Int) (f : Nat → Nat → Int) (tk : Nat → Nat → Bool) (x y : List Int) (a b : Nat) (out : List Int) : List Int :=
  if tk a b then out.set (a ^^^ b) ((nth out (a ^^^ b) + nth x a * nth y b * f a b) % p) else out
def inP (p : Int) (f : Nat → Nat → Int) (tk : Nat → Nat → Bool) (x y : List Int) (a : Nat) : Nat → List Int → List Int
  | 0, out => out
  | b + 1, out => stepP p f tk x y a b (inP p f tk x y a b out)
def outP (p : Int) (f : Nat → Nat → Int) (tk : Nat → Nat → Bool) (x y : List Int) (N : Nat) : Nat → List Int
  | 0 => List.replicate N 0
  | a + 1 => inP p f tk x y a N (outP p f tk x y N a)
/-- The product of two multivectors, of the pairs that are taken. -/
def prodL (p : Int) (qs : List Int) (tk : Nat → Nat → Bool) (x y : List Int) : List Int := outP p (fac p qs) tk x y (2 ^ qs.length) (2 ^ qs.length)

/-- N numbers from 0 to p - 1. -/
def Good (p : Int) (N : Nat) (xs : List Int) : Prop := xs.length = N ∧ ∀ i, i < N → 0 ≤ nth xs i ∧ nth xs i < p
theorem good_zero {p : Int} {N : Nat} (hp : 1 ≤ p) : Good p N (List.replicate N 0) := ⟨by simp, fun i hi => by rw [nth_replicate hi]; omega⟩
theorem good_set {p : Int} {N c : Nat} {xs : List Int} {v : Int} (h : Good p N xs) (h0 : 0 ≤ v) (h1 : v < p) : Good p N (xs.set c v) := by
  refine ⟨by simpa using h.1, fun i hi => ?_⟩
  by_cases hc : c < xs.length
  · rw [nth_set hc]
    split
    · exact ⟨h0, h1⟩
    · exact h.2 i hi
  · rw [List.set_eq_of_length_le (by omega)]; exact h.2 i hi
theorem good_isB {p : Int} {N : Nat} {xs : List Int} (h : xs.length = N) (hb : isB p xs = true) : Good p N xs := ⟨h, fun i hi => isB_nth hb (by omega)⟩
theorem Good.isB {p : Int} {N : Nat} {xs : List Int} (h : Good p N xs) : isB p xs = true := by
  unfold Go.Proofs.YtcocbainookkcaaGreat.isB
  rw [List.all_eq_true]
  intro v hv
  obtain ⟨i, hi, rfl⟩ := List.getElem_of_mem hv
  have := h.2 i (by rw [← h.1]; exact hi)
  rw [nth_eq hi] at this
  simp [inB]; omega

section
variable {p : Int} {f : Nat → Nat → Int} {tk : Nat → Nat → Bool} {x y : List Int} {a b N : Nat} {out : List Int}
theorem stepP_good (hp : 1 ≤ p) (h : Good p N out) : Good p N (stepP p f tk x y a b out) := by
  unfold stepP
  split
  · exact good_set h (Int.emod_nonneg _ (by omega)) (Int.emod_lt_of_pos _ (by omega))
  · exact h
theorem inP_good (hp : 1 ≤ p) (h : Good p N out) : ∀ b, Good p N (inP p f tk x y a b out)
  | 0 => h
  | b + 1 => stepP_good hp (inP_good hp h b)
theorem outP_good (hp : 1 ≤ p) : ∀ a, Good p N (outP p f tk x y N a)
  | 0 => good_zero hp
  | a + 1 => inP_good hp (outP_good hp a) N
theorem stepP_not (h : tk a b = false) : stepP p f tk x y a b out = out := by simp [stepP, h]
theorem stepP_zero (h : Good p N out) (hc : a ^^^ b < N) (hz : nth x a = 0 ∨ nth y b = 0) : stepP p f tk x y a b out = out := by
  unfold stepP
  split
  · have e : nth x a * nth y b * f a b = 0 := by rcases hz with hz | hz <;> simp [hz]
    have hb := h.2 _ hc
    rw [e, Int.add_zero, Int.emod_eq_of_lt hb.1 hb.2, nth_eq (by rw [h.1]; exact hc)]
    exact List.set_getElem_self _
  · rfl
theorem stepP_yes (h : tk a b = true) : stepP p f tk x y a b out = out.set (a ^^^ b) ((nth out (a ^^^ b) + nth x a * nth y b * f a b) % p) := by simp [stepP, h]
theorem inP_zero {d : Nat} (hp : 1 ≤ p) (hN : N = 2 ^ d) (ha : a < N) (h : Good p N out) (hz : nth x a = 0) : ∀ b, b ≤ N → inP p f tk x y a b out = out
  | 0, _ => rfl
  | b + 1, hb => by
    have ih := inP_zero (d := d) hp hN ha h hz b (by omega)
    unfold inP
    rw [ih]
    exact stepP_zero h (by subst hN; exact Nat.xor_lt_two_pow ha (by omega)) (.inl hz)
end

theorem xor_ab (a b : Nat) (ha : a < 64) (hb : b < 64) : bits BinOp.xor IntKind.i64 (a : Int) (b : Int) = ((a ^^^ b : Nat) : Int) := by
  have : ∀ a : Nat, a < 64 → ∀ b : Nat, b < 64 → bits BinOp.xor IntKind.i64 (a : Int) (b : Int) = ((a ^^^ b : Nat) : Int) := by decide +kernel
  exact this a ha b hb
theorem mul3_bd {p x y z : Int} (hp : p ≤ 1000) (hx0 : 0 ≤ x) (hx : x < p) (hy0 : 0 ≤ y) (hy : y < p) (hz0 : 0 ≤ z) (hz : z < p) : 0 ≤ x * y * z ∧ x * y * z ≤ 1000000000 := by
  obtain ⟨h1, h2⟩ := mul_bd hp hx0 hx hy0 hy
  refine ⟨Int.mul_nonneg h1 hz0, ?_⟩
  have h3 : x * y * z ≤ 1000000 * z := Int.mul_le_mul_of_nonneg_right h2 hz0
  omega

set_option maxHeartbeats 400000 in
theorem c_nothing (p : Int) (a : Option Addr) (d cap : Nat) (w : World) (hd : d ≤ 6) :
    Calls Tryz.prog 90 #[.agg #[.int .i64 p, .slice a d cap]] w fun e w' => ∃ g, e = .returned (.slice (some ⟨g, 0, none⟩) (2 ^ d) (2 ^ d)) ∧ OwnC w.heap.size w' (some ⟨g, 0, none⟩) (2 ^ d) (2 ^ d) (List.replicate (2 ^ d) 0) ∧ Ext w w' := by
  have hpw := pow_wrap hd
  have hN := pow_le64 hd
  obtain ⟨N, hN'⟩ : ∃ N, N = 2 ^ d := ⟨_, rfl⟩
  rw [← hN'] at hpw hN ⊢
  clear hN'
  go_enter Tryz.func90, Tryz.ntmps90
  go_wp2_with (go_at_call 53; refine (c_dim _ _ _ _ _).mono ?_; rintro e w1 ⟨rfl, g1⟩)
  obtain ⟨w2, hmk, ho, he⟩ := make_ints w1 N (by omega)
  have HO := Lib.hid ho
  have HE := Lib.hid ((ext_alloc _ _).trans (g1.trans he))
  have hz := g1.size'
  simp only [World.size_alloc] at hz
  clear ho he g1
  rw [hmk]
  go_wp2_with (fail)
  go_ret
  exact ⟨w1.heap.size, rfl, HO.out.mono (by omega), HE.out⟩

set_option maxHeartbeats 2000000 in
set_option maxRecDepth 100000 in
theorem c_product (p : Int) (a : Option Addr) (d cap : Nat) (qs : List Int) (ax ay : Option Addr) (cx cy : Nat) (x y : List Int) (F : Nat) (tk : Nat → Nat → Bool) (w : World) (hd : d ≤ 6) (hp1 : 3 ≤ p) (hp2 : p ≤ 1000) (hq : RdC w a d qs) (hqb : isB p qs = true)
    (hx : RdC w ax (2 ^ d) x) (hy : RdC w ay (2 ^ d) y) (hxb : isB p x = true) (hyb : isB p y = true)
    (hcf : ∀ args w, (callFunc F args).run Tryz.prog w = .ok (.enter F args) w)
    (htk : ∀ (i j : Nat) (w : World), i < 64 → j < 64 → Calls Tryz.prog F #[.int .i64 i, .int .i64 j] w fun e w' => e = .returned (.bool (tk i j)) ∧ Ext w w') :
    Calls Tryz.prog 88 #[.agg #[.int .i64 p, .slice a d cap], .slice ax (2 ^ d) cx, .slice ay (2 ^ d) cy, .func (.func F) #[] #[]] w fun e w' =>
      ∃ g, e = .returned (.slice (some ⟨g, 0, none⟩) (2 ^ d) (2 ^ d)) ∧ OwnC w.heap.size w' (some ⟨g, 0, none⟩) (2 ^ d) (2 ^ d) (prodL p qs tk x y) ∧ Ext w w' := by
  have hN := pow_le64 hd
  obtain ⟨N, hN'⟩ : ∃ N, N = 2 ^ d := ⟨_, rfl⟩
  have HPr := Lib.hid (show prodL p qs tk x y = outP p (fac p qs) tk x y N N by unfold prodL; rw [hq.1, hN'])
  have HN := Lib.hid hN'
  rw [← hN'] at hN hx hy ⊢
  clear hN'
  have HX := Lib.hid hx
  have HY := Lib.hid hy
  have HXB := Lib.hid hxb
  have HYB := Lib.hid hyb
  have HT := Lib.hid htk
  have HQB := Lib.hid hqb
  have HQ := Lib.hid hq
  clear hx hy hxb hyb htk hqb hq
  obtain ⟨W, hW⟩ : ∃ W, W = w.alloc (.cells #[.int .i64 p, .slice a d cap] 26) := ⟨_, rfl⟩
  have gW : Ext w W := by rw [hW]; exact ext_alloc _ _
  have hs0 : W.cell? ⟨w.heap.size, 0, none⟩ = some (.int .i64 p) := by rw [hW]; simp
  have hs1 : W.cell? ⟨w.heap.size, 1, none⟩ = some (.slice a d cap) := by rw [hW]; simp
  have HS0 := Lib.hid hs0
  have HS1 := Lib.hid hs1
  have GW := Lib.hid gW
  have HW := Lib.hid hW
  go_enter Tryz.func88, Tryz.ntmps88
  go_wp2_with (fail)
  rw [← HW.out]
  have Hno := c_nothing p a d cap W hd
  rw [← HN.out] at Hno
  refine Hno.mono ?_
  rintro e w1 ⟨g, rfl, ho, g1⟩
  have HO := Lib.hid ho
  have G1 := Lib.hid g1
  clear Hno ho g1 hW gW hs0 hs1
  go_wp2_with (fail)
  go_loopw [18] (fun i wr => ∃ k : Nat, k ≤ N ∧ i = .int .i64 k ∧ OwnC W.heap.size wr (some ⟨g, 0, none⟩) N N (outP p (fac p qs) tk x y N k) ∧ Ext W wr) (fun i _ => N - (intOf i).toNat)
  case atStart => exact ⟨0, Nat.zero_le _, rfl, HO.out, G1.out⟩
  case round =>
    obtain ⟨k, hk, rfl, hown, hext⟩ := hrel
    have HOwn := Lib.hid hown
    have HExt := Lib.hid hext
    clear hown hext
    by_cases hlt : k < N
    · obtain ⟨bx, ox, rfl, hcx⟩ := HX.out.2 k hlt
      have hcx' := (GW.out.trans HExt.out).cell hcx
      clear hcx
      have hgood := Lib.hid (outP_good (f := fac p qs) (tk := tk) (x := x) (y := y) (N := N) (show 1 ≤ p by omega) k)
      have hxk := isB_nth HXB.out (i := k) (by rw [HX.out.1]; exact hlt)
      by_cases hz : nth x k = 0
      · have hzb : (nth x k == 0) = true := by simp [hz]
        have HZ := Lib.hid (inP_zero (f := fac p qs) (tk := tk) (y := y) (d := d) (show 1 ≤ p by omega) HN.out hlt hgood.out hz N (Nat.le_refl _))
        clear hz
        go_wp2_with (fail)
        go_roundw
        case rel => exact ⟨k + 1, by omega, by go_num, by unfold outP; rw [HZ.out]; exact HOwn.out, HExt.out⟩
        case measure => simp [intOf]; omega
      · have hzb : (nth x k == 0) = false := by simp [hz]
        clear hz
        go_wp2_with (fail)
        obtain ⟨wo, hwo⟩ : ∃ wo : World, wo = wr := ⟨_, rfl⟩
        clear hwo
        go_loopw [27] (fun i wr => ∃ j : Nat, j ≤ N ∧ i = .int .i64 j ∧ OwnC W.heap.size wr (some ⟨g, 0, none⟩) N N (inP p (fac p qs) tk x y k j (outP p (fac p qs) tk x y N k)) ∧ Ext W wr) (fun i _ => N - (intOf i).toNat)
        case atStart => exact ⟨0, Nat.zero_le _, rfl, HOwn.out, HExt.out⟩
        case round =>
          obtain ⟨j, hj, rfl, hown, hext⟩ := hrel
          have HOwn2 := Lib.hid hown
          have HExt2 := Lib.hid hext
          clear hown hext
          by_cases hlj : j < N
          · obtain ⟨by', oy, rfl, hcy⟩ := HY.out.2 j hlj
            have hcy' := (GW.out.trans HExt2.out).cell hcy
            clear hcy hcx'
            have hin := Lib.hid (inP_good (f := fac p qs) (tk := tk) (x := x) (y := y) (a := k) (show 1 ≤ p by omega) hgood.out j)
            have hc : k ^^^ j < N := by rw [HN.out] at hlt hlj ⊢; exact Nat.xor_lt_two_pow hlt hlj
            by_cases hzj : nth y j = 0
            · have hzb2 : (nth y j != 0) = false := by simp [hzj]
              have HZ := Lib.hid (stepP_zero (f := fac p qs) (tk := tk) (x := x) (y := y) (a := k) (b := j) hin.out hc (.inr hzj))
              clear hzj
              go_wp2_with (fail)
              go_roundw
              case rel => exact ⟨j + 1, by omega, by go_num, by unfold inP; rw [HZ.out]; exact HOwn2.out, HExt2.out⟩
              case measure => simp [intOf]; omega
            · have hzb2 : (nth y j != 0) = true := by simp [hzj]
              have htk := Lib.hid (HT.out k j wr (by omega) (by omega))
              clear hzj
              cases ht : tk k j
              · have HTK := Lib.hid ht
                have HZ := Lib.hid (stepP_not (p := p) (f := fac p qs) (x := x) (y := y) (out := inP p (fac p qs) tk x y k j (outP p (fac p qs) tk x y N k)) ht)
                clear ht
                go_wp2_with ((with_reducible refine (htk.out).mono ?_); rintro e w2 ⟨rfl, g2⟩; rw [HTK.out])
                go_roundw
                case rel => exact ⟨j + 1, by omega, by go_num, by unfold inP; rw [HZ.out]; exact HOwn2.out.ext g2, HExt2.out.trans g2⟩
                case measure => simp [intOf]; omega
              · have HTK := Lib.hid ht
                have HZ := Lib.hid (stepP_yes (p := p) (f := fac p qs) (x := x) (y := y) (out := inP p (fac p qs) tk x y k j (outP p (fac p qs) tk x y N k)) ht)
                clear ht
                go_wp2_with ((with_reducible refine (htk.out).mono ?_); rintro e w2 ⟨rfl, g2⟩; rw [HTK.out])
                obtain ⟨Z, hZ⟩ : ∃ Z, Z = inP p (fac p qs) tk x y k j (outP p (fac p qs) tk x y N k) := ⟨_, rfl⟩
                rw [← hZ] at hin HOwn2 HZ
                have HZZ := Lib.hid hZ
                clear hZ
                have X2 := Lib.hid (g2.trans (ext_drew _))
                have Y2 := Lib.hid (HExt2.out.trans X2.out)
                have HO2 := Lib.hid (HOwn2.out.ext X2.out)
                have Hc := Lib.hid (HO2.out.cell hc)
                have hzc := hin.out.2 _ hc
                have hyj := isB_nth HYB.out (i := j) (by rw [HY.out.1]; exact hlj)
                have hfb := fac_bd (qs := qs) (b := j) hp1 (show k < 64 by omega)
                have hxor := xor_ab k j (by omega) (by omega)
                obtain ⟨Fk, hFk⟩ : ∃ Fk, Fk = fac p qs k j := ⟨_, rfl⟩
                rw [← hFk] at hfb HZ
                obtain ⟨c, hcc⟩ : ∃ c, c = k ^^^ j := ⟨_, rfl⟩
                rw [← hcc] at hc HZ hzc hxor
                rw [← hcc] at Hc
                obtain ⟨zc, hzc'⟩ : ∃ zc, zc = nth Z c := ⟨_, rfl⟩
                rw [← hzc'] at hzc HZ
                rw [← hzc'] at Hc
                obtain ⟨hm1, hm2⟩ := mul_bd hp2 hxk.1 hxk.2 hyj.1 hyj.2
                obtain ⟨hm3, hm4⟩ := mul3_bd hp2 hxk.1 hxk.2 hyj.1 hyj.2 hfb.1 hfb.2
                have hw1 : IntKind.i64.wrap (nth x k * nth y j) = nth x k * nth y j := IntWalk.i64_in _ (by omega)
                have hw2 : IntKind.i64.wrap (nth x k * nth y j * Fk) = nth x k * nth y j * Fk := IntWalk.i64_in _ (by omega)
                have hw3 : IntKind.i64.wrap (zc + nth x k * nth y j * Fk) = zc + nth x k * nth y j * Fk := IntWalk.i64_in _ (by omega)
                have hcn : (c : Int) < N := by omega
                have hc0 : (0 : Int) ≤ c := by omega
                have HFk := Lib.hid hFk
                have Hcc := Lib.hid hcc
                have Hzc := Lib.hid hzc'
                clear hFk hcc hzc' hzc
                refine wp_region_lex_tail 23 [(5, .val (.int .i64 p)), (18, .val (.int .i64 Fk)), (21, .val (.int .i64 ((zc + nth x k * nth y j * Fk) % p)))] (by kernel_rfl) (by kernel_rfl) ?_
                simp only [List.take, List.drop]
                repeat' first | (refine LexW.pure (v := ?_) rfl rfl (fun w1 he => ?_) ?_; rotate_left; ( have e1 := (Y2.out.trans he).cell HS0.out; have e2 := (Y2.out.trans he).cell HS1.out; have e3 := he.cell Hc.out; go_simp; rfl); simp only [Act.put, List.setIfInBounds_toArray, List.set_cons_zero, List.set_cons_succ]) | (refine LexW.call (f := ?_) (args := ?_) rfl rfl (fun w1 => ?_) (fun w1 he hdep => ?_) ?_; rotate_left 2; (go_simp; refine ⟨?_, ?_⟩ <;> rfl); ( first | (go_at_call 38; exact c_field _ _ _) | (go_at_call 104; rw [HFk.out]; exact c_factor _ _ _ _ _ _ _ _ hd hp1 hp2 (by omega) (by omega) (HQ.out.ext (GW.out.trans (Y2.out.trans he))) HQB.out) | (go_at_call 81; exact c_num _ _ _ (by omega) hp2)); simp only [Act.put, List.setIfInBounds_toArray, List.set_cons_zero, List.set_cons_succ])
                refine LexW.nil (fun w3 he hk => ?_)
                have HO3 := Lib.hid (HO2.out.ext he)
                have ec := HO3.out.cell hc
                have ef := HO3.out.frozen c
                have hgb := HO3.out.base_le
                go_wp2_with (fail)
                go_roundw
                case rel => exact ⟨j + 1, by omega, by go_num, by unfold inP; rw [← HZZ.out, HZ.out]; exact HO3.out.store hc _, (Y2.out.trans he).setCell hgb.1 _⟩
                case measure => simp [intOf]; omega
          · clear hcx'
            go_wp2_with (fail)
            go_roundw
            case rel => exact ⟨k + 1, by omega, by go_num, by
              have hjn : j = N := by omega
              unfold outP; rw [← hjn]; rw [hjn]; have := HOwn2.out; rw [hjn] at this; exact this, HExt2.out⟩
            case measure => simp [intOf]; omega
    · go_wp2_with (fail)
      go_ret
      have hkn : k = N := by omega
      refine ⟨g, rfl, ?_, GW.out.trans HExt.out⟩
      rw [HPr.out]
      have := HOwn.out
      rw [hkn] at this
      exact this.mono GW.out.size

end Go.Proofs.YtcocbainookkcaaGreat

/-
  Contract of the reference's function that computes the factor of a product of two blades.
  No condition.
-/
namespace Go.Proofs.YtcocbainookkcaaGreat
set_option maxRecDepth 100000
open Go.RowKit

set_option maxHeartbeats 2000000 in
theorem s_blades (p : Int) (a : Option Addr) (d cap : Nat) (qs : List Int) (x y : Nat) (w : World) (hd : d ≤ 6) (hp1 : 3 ≤ p) (hp2 : p ≤ 1000) (hx : x < 64) (hy : y < 64) (hq : RdC w a d qs) (hqb : isB p qs = true) :
    Calls Tryz.prog 92 #[.agg #[.int .i64 p, .slice a d cap], .int .i64 x, .int .i64 y] w fun e w' => e = .returned (.int .i64 (fac p qs x y)) ∧ Ext w w' := by
  have HQ := Lib.hid hq.2
  have HN := Lib.hid hq.1
  have HB := Lib.hid hqb
  have hpz : ¬ p = 0 := by omega
  clear hq hqb
  go_enter Tryz.func92, Tryz.ntmps92
  go_wp2_with (fail)
  obtain ⟨w1, hw1⟩ : ∃ w1, w1 = w.alloc (.cells #[.int .i64 p, .slice a d cap] 26) := ⟨_, rfl⟩
  have g1 : Ext w w1 := by rw [hw1]; exact ext_alloc _ _
  have hs0 : w1.cell? ⟨w.heap.size, 0, none⟩ = some (.int .i64 p) := by rw [hw1]; simp
  have hs1 : w1.cell? ⟨w.heap.size, 1, none⟩ = some (.slice a d cap) := by rw [hw1]; simp
  rw [← hw1]
  have HS0 := Lib.hid hs0
  have HS1 := Lib.hid hs1
  have G1 := Lib.hid g1
  clear g1 hs0 hs1 hw1
  go_loopw [1, 7, 8] (fun m o i wr => ∃ k : Nat, k ≤ d ∧ i = .int .i64 k ∧ m = .int .i64 (aS x y k) ∧ o = .int .i64 (sgn p (facS p qs x y k).1 (facS p qs x y k).2) ∧ Ext w1 wr) (fun _ _ i _ => d - (intOf i).toNat)
  case atStart => exact ⟨0, Nat.zero_le _, rfl, rfl, rfl, Ext.refl _⟩
  case round =>
    obtain ⟨k, hk, rfl, rfl, rfl, hext⟩ := hrel
    have e1 := hext.cell HS0.out
    have e2 := hext.cell HS1.out
    obtain ⟨hf1, hf2, hf3⟩ := facS_bd (qs := qs) (b := y) hp1 hx k
    have HF2 := Lib.hid hf2
    have HF3 := Lib.hid hf3
    obtain ⟨hr2, hr3⟩ := sgn_bd (s := (facS p qs x y k).1) hp1 hf2 hf3
    obtain ⟨R, hR⟩ : ∃ R, R = sgn p (facS p qs x y k).1 (facS p qs x y k).2 := ⟨_, rfl⟩
    rw [← hR] at hr2 hr3 ⊢
    have HR := Lib.hid hR
    clear hR hf1 hf2 hf3
    by_cases hlt : k < d
    · have hy1 := bit_z y k hy (by omega)
      obtain ⟨hA1, hA2, hA3⟩ := aS_all x y k hx hy (by omega)
      obtain ⟨A, hA⟩ : ∃ A, A = aS x y k := ⟨_, rfl⟩
      rw [← hA] at hA1 hA2 hA3 ⊢
      have hx1 := bit_i A k hA1 (by omega)
      have hsh := shr_i A k
      have hxor := xor_i A k hA1 (by omega)
      have hxor' := xor_i' A k hA1 (by omega)
      rw [hA2] at hsh
      rw [hA3] at hx1
      have HA := Lib.hid hA
      clear hA hA2 hA3
      have hpl := popc_le (shr_lt (k + 1) hx)
      obtain ⟨G, hG⟩ : ∃ G, G = popc (x >>> (k + 1)) := ⟨_, rfl⟩
      rw [← hG] at hpl
      have HG := Lib.hid hG
      clear hG
      obtain ⟨b, off, ha, hc⟩ := HQ.out k hlt
      have Hc := Lib.hid ((G1.out.trans (hext)).cell hc)
      have hqk := isB_nth HB.out (i := k) (by rw [HN.out]; exact hlt)
      clear hc
      subst ha
      cases hyb : y.testBit k
      · have HYB := Lib.hid hyb
        rw [hyb] at hy1
        clear hyb hx1 hsh hxor hxor'
        go_wp2_with (fail)
        go_roundw
        case rel => exact ⟨k + 1, by omega, by go_num, by rw [aS_no HYB.out, HA.out], by rw [facS_no HYB.out, HR.out], hext⟩
        case measure => simp [intOf]; omega
      · have HYB := Lib.hid hyb
        rw [hyb] at hy1
        clear hyb
        have haa := aS_yes (a := x) HYB.out
        rw [← HA.out] at haa
        have HAA := Lib.hid haa
        clear haa
        obtain ⟨R1, hR1⟩ : ∃ R1, (p - R) % p = R1 := ⟨_, rfl⟩
        have hR2 : -R % p = R1 := by rw [← hR1, Int.sub_eq_add_neg, Int.add_emod_left]
        have h0 := Int.emod_nonneg (p - R) (show p ≠ 0 by omega)
        have h1 := Int.emod_lt_of_pos (p - R) (show 0 < p by omega)
        rw [hR1] at h0 h1
        have HR1 := Lib.hid hR1
        by_cases hodd : G % 2 = 1
        · have ht : (((G : Int) % 2) == 1) = true := by simp; omega
          obtain ⟨hm0, hm1⟩ := mul_bd (x := R1) (y := nth qs k) hp2 h0 h1 hqk.1 hqk.2
          have hw : IntKind.i64.wrap (R1 * nth qs k) = R1 * nth qs k := IntWalk.i64_in _ (by omega)
          have hmd : (R1 * nth qs k).tmod p = R1 * nth qs k % p := Int.tmod_eq_emod_of_nonneg hm0
          have HS : Hid (R1 = sgn p ((facS p qs x y k).1 + popc (x >>> (k + 1))) (facS p qs x y k).2) := by
            show R1 = _
            rw [sgn_odd (by rw [← HG.out]; exact hodd) HF2.out HF3.out, ← HR.out, HR1.out]
          clear hodd
          cases hxb : x.testBit k
          · have HXB := Lib.hid hxb
            rw [hxb] at hx1
            clear hxb hm0 hm1 hw hmd
            go_wp2_with (go_at_call 105; refine (s_grade (x >>> (k + 1)) _ (shr_lt _ hx)).mono ?_; rintro e w2 ⟨rfl, g2⟩; rw [← HG.out]; have e3 := (hext.trans g2).cell HS0.out; have e4 := (hext.trans g2).cell HS1.out)
            go_roundw
            case rel => exact ⟨k + 1, by omega, by go_num, by rw [HAA.out], by have e := HR1.out; rw [facS_one HYB.out HXB.out, ← HS.out]; try rw [e], hext.trans g2⟩
            case measure => simp [intOf]; omega
          · have HXB := Lib.hid hxb
            rw [hxb] at hx1
            clear hxb
            go_wp2_with (go_at_call 105; refine (s_grade (x >>> (k + 1)) _ (shr_lt _ hx)).mono ?_; rintro e w2 ⟨rfl, g2⟩; rw [← HG.out]; have e3 := (hext.trans g2).cell HS0.out; have e4 := (hext.trans g2).cell HS1.out)
            have X2 := Lib.hid (g2.trans (ext_drew _))
            have Y2 := Lib.hid (hext.trans X2.out)
            refine wp_region_lex [] (by kernel_rfl) (by kernel_rfl) ?_
            repeat' first | (refine LexW.pure (v := ?_) rfl rfl (fun w1 he => ?_) ?_; rotate_left; ( have e1 := (Y2.out.trans he).cell HS0.out; have e2 := (Y2.out.trans he).cell HS1.out; have e3 := (X2.out.trans he).cell Hc.out; go_simp; rfl); simp only [Act.put, List.setIfInBounds_toArray, List.set_cons_zero, List.set_cons_succ])
            refine LexW.nil (fun w3 he hk => ?_)
            have e5 := (Y2.out.trans he).cell HS0.out
            go_wp2_with (fail)
            go_roundw
            case rel => exact ⟨k + 1, by omega, by go_num, by rw [HAA.out], by have e := HR1.out; rw [facS_two HYB.out HXB.out, sgn_mul, ← HS.out]; try rw [e], Y2.out.trans he⟩
            case measure => simp [intOf]; omega
        · have ht : (((G : Int) % 2) == 1) = false := by simp; omega
          obtain ⟨hm0, hm1⟩ := mul_bd (x := R) (y := nth qs k) hp2 hr2 hr3 hqk.1 hqk.2
          have hw : IntKind.i64.wrap (R * nth qs k) = R * nth qs k := IntWalk.i64_in _ (by omega)
          have hmd : (R * nth qs k).tmod p = R * nth qs k % p := Int.tmod_eq_emod_of_nonneg hm0
          have HS : Hid (R = sgn p ((facS p qs x y k).1 + popc (x >>> (k + 1))) (facS p qs x y k).2) := by
            show R = _
            rw [sgn_even (by rw [← HG.out]; exact hodd), ← HR.out]
          clear hodd
          cases hxb : x.testBit k
          · have HXB := Lib.hid hxb
            rw [hxb] at hx1
            clear hxb hm0 hm1 hw hmd
            go_wp2_with (go_at_call 105; refine (s_grade (x >>> (k + 1)) _ (shr_lt _ hx)).mono ?_; rintro e w2 ⟨rfl, g2⟩; rw [← HG.out]; have e3 := (hext.trans g2).cell HS0.out; have e4 := (hext.trans g2).cell HS1.out)
            go_roundw
            case rel => exact ⟨k + 1, by omega, by go_num, by rw [HAA.out], by have e := HR1.out; rw [facS_one HYB.out HXB.out, ← HS.out]; try rw [e], hext.trans g2⟩
            case measure => simp [intOf]; omega
          · have HXB := Lib.hid hxb
            rw [hxb] at hx1
            clear hxb
            go_wp2_with (go_at_call 105; refine (s_grade (x >>> (k + 1)) _ (shr_lt _ hx)).mono ?_; rintro e w2 ⟨rfl, g2⟩; rw [← HG.out]; have e3 := (hext.trans g2).cell HS0.out; have e4 := (hext.trans g2).cell HS1.out)
            have X2 := Lib.hid (g2.trans (ext_drew _))
            have Y2 := Lib.hid (hext.trans X2.out)
            refine wp_region_lex [] (by kernel_rfl) (by kernel_rfl) ?_
            repeat' first | (refine LexW.pure (v := ?_) rfl rfl (fun w1 he => ?_) ?_; rotate_left; ( have e1 := (Y2.out.trans he).cell HS0.out; have e2 := (Y2.out.trans he).cell HS1.out; have e3 := (X2.out.trans he).cell Hc.out; go_simp; rfl); simp only [Act.put, List.setIfInBounds_toArray, List.set_cons_zero, List.set_cons_succ])
            refine LexW.nil (fun w3 he hk => ?_)
            have e5 := (Y2.out.trans he).cell HS0.out
            go_wp2_with (fail)
            go_roundw
            case rel => exact ⟨k + 1, by omega, by go_num, by rw [HAA.out], by have e := HR1.out; rw [facS_two HYB.out HXB.out, sgn_mul, ← HS.out]; try rw [e], Y2.out.trans he⟩
            case measure => simp [intOf]; omega
    · have hkd : k = d := by omega
      have HF := Lib.hid (show fac p qs x y = R by simp only [fac]; rw [HN.out, ← hkd, ← HR.out])
      go_wp2_with (fail)
      go_ret
      exact ⟨ret_int HF.out.symm, G1.out.trans hext⟩

end Go.Proofs.YtcocbainookkcaaGreat

/-
  Contracts of the reference's products of multivectors.
  No condition.
-/
namespace Go.Proofs.YtcocbainookkcaaGreat
set_option maxRecDepth 100000
open Go.RowKit

def tkA (_ _ : Nat) : Bool := true
def tkW (i j : Nat) : Bool := i &&& j == 0
def tkL (i j : Nat) : Bool := i &&& j == i
def tkR (i j : Nat) : Bool := i &&& j == j
theorem and_ab (a b : Nat) (ha : a < 64) (hb : b < 64) : bits BinOp.and IntKind.i64 (a : Int) (b : Int) = ((a &&& b : Nat) : Int) := by
  have : ∀ a : Nat, a < 64 → ∀ b : Nat, b < 64 → bits BinOp.and IntKind.i64 (a : Int) (b : Int) = ((a &&& b : Nat) : Int) := by decide +kernel
  exact this a ha b hb
theorem ne_nat (a b : Nat) : ((a : Int) != (b : Int)) = !(a == b) := by
  rw [Bool.eq_iff_iff]; simp; omega
theorem ne_zero' (a : Nat) : ((a : Int) != 0) = !(a == 0) := by
  rw [Bool.eq_iff_iff]; simp
theorem step_ref {p o m f : Int} : (o + m % p * f) % p = (o + m * f) % p := by
  rw [Int.add_emod, Int.mul_emod (m % p), Int.emod_emod, ← Int.mul_emod, ← Int.add_emod]
theorem ref_bd {p m f : Int} (hp : 3 ≤ p) (hp2 : p ≤ 1000) (hf0 : 0 ≤ f) (hf1 : f < p) : 0 ≤ m % p * f ∧ m % p * f ≤ 1000000 :=
  mul_bd hp2 (Int.emod_nonneg _ (by omega)) (Int.emod_lt_of_pos _ (by omega)) hf0 hf1

set_option maxHeartbeats 4000000 in
set_option maxRecDepth 100000 in
theorem s_kind0 (p : Int) (a : Option Addr) (d cap : Nat) (qs : List Int) (ax ay : Option Addr) (cx cy : Nat) (x y : List Int) (w : World) (hd : d ≤ 6) (hp1 : 3 ≤ p) (hp2 : p ≤ 1000) (hq : RdC w a d qs) (hqb : isB p qs = true)
    (hx : RdC w ax (2 ^ d) x) (hy : RdC w ay (2 ^ d) y) (hxb : isB p x = true) (hyb : isB p y = true) :
    Calls Tryz.prog 68 #[.agg #[.int .i64 p, .slice a d cap], .slice ax (2 ^ d) cx, .slice ay (2 ^ d) cy, .int .i64 0] w fun e w' =>
      ∃ g, e = .returned (.slice (some ⟨g, 0, none⟩) (2 ^ d) (2 ^ d)) ∧ OwnC w.heap.size w' (some ⟨g, 0, none⟩) (2 ^ d) (2 ^ d) (prodL p qs tkW x y) ∧ Ext w w' := by
  have hN := pow_le64 hd
  have hpz : ¬ p = 0 := by omega
  obtain ⟨N, hN'⟩ : ∃ N, N = 2 ^ d := ⟨_, rfl⟩
  have HPr := Lib.hid (show prodL p qs tkW x y = outP p (fac p qs) tkW x y N N by unfold prodL; rw [hq.1, hN'])
  have HN := Lib.hid hN'
  rw [← hN'] at hN hx hy ⊢
  clear hN'
  have HX := Lib.hid hx
  have HY := Lib.hid hy
  have HXB := Lib.hid hxb
  have HYB := Lib.hid hyb
  have HQB := Lib.hid hqb
  have HQ := Lib.hid hq
  clear hx hy hxb hyb hqb hq
  obtain ⟨W, hW⟩ : ∃ W, W = w.alloc (.cells #[.int .i64 p, .slice a d cap] 26) := ⟨_, rfl⟩
  have gW : Ext w W := by rw [hW]; exact ext_alloc _ _
  have hs0 : W.cell? ⟨w.heap.size, 0, none⟩ = some (.int .i64 p) := by rw [hW]; simp
  have hs1 : W.cell? ⟨w.heap.size, 1, none⟩ = some (.slice a d cap) := by rw [hW]; simp
  have HS0 := Lib.hid hs0
  have HS1 := Lib.hid hs1
  have GW := Lib.hid gW
  obtain ⟨w1, hmk, ho, g1⟩ := make_ints W N (by omega)
  obtain ⟨g, hg⟩ : ∃ g, g = W.heap.size := ⟨_, rfl⟩
  rw [← hg] at hmk
  have HO : Hid (OwnC W.heap.size w1 (some ⟨g, 0, none⟩) N N (List.replicate N 0)) := by rw [← hg] at ho ⊢; exact ho
  have G1 := Lib.hid g1
  rw [hW] at hmk
  clear ho g1 gW hs0 hs1 hg hW
  go_enter Tryz.func68, Tryz.ntmps68
  go_wp2_with (fail)
  go_loopw [10] (fun i wr => ∃ k : Nat, k ≤ N ∧ i = .int .i64 k ∧ OwnC W.heap.size wr (some ⟨g, 0, none⟩) N N (outP p (fac p qs) tkW x y N k) ∧ Ext W wr) (fun i _ => N - (intOf i).toNat)
  case atStart => exact ⟨0, Nat.zero_le _, rfl, HO.out, G1.out⟩
  case round =>
    obtain ⟨k, hk, rfl, hown, hext⟩ := hrel
    have HOwn := Lib.hid hown
    have HExt := Lib.hid hext
    clear hown hext hmk
    by_cases hlt : k < N
    · obtain ⟨bx, ox, rfl, hcx⟩ := HX.out.2 k hlt
      have Hcx := Lib.hid (GW.out.cell hcx)
      clear hcx
      have hgood := Lib.hid (outP_good (f := fac p qs) (tk := tkW) (x := x) (y := y) (N := N) (show 1 ≤ p by omega) k)
      have hxk := isB_nth HXB.out (i := k) (by rw [HX.out.1]; exact hlt)
      go_wp2_with (fail)
      obtain ⟨wo, hwo⟩ : ∃ wo : World, wo = wr := ⟨_, rfl⟩
      clear hwo
      go_loopw [11] (fun i wr => ∃ j : Nat, j ≤ N ∧ i = .int .i64 j ∧ OwnC W.heap.size wr (some ⟨g, 0, none⟩) N N (inP p (fac p qs) tkW x y k j (outP p (fac p qs) tkW x y N k)) ∧ Ext W wr) (fun i _ => N - (intOf i).toNat)
      case atStart => exact ⟨0, Nat.zero_le _, rfl, HOwn.out, HExt.out⟩
      case round =>
        obtain ⟨j, hj, rfl, hown, hext⟩ := hrel
        have HOwn2 := Lib.hid hown
        have HExt2 := Lib.hid hext
        clear hown hext
        by_cases hlj : j < N
        · obtain ⟨by', oy, rfl, hcy⟩ := HY.out.2 j hlj
          have Hcy := Lib.hid (GW.out.cell hcy)
          clear hcy
          have hin := Lib.hid (inP_good (f := fac p qs) (tk := tkW) (x := x) (y := y) (a := k) (show 1 ≤ p by omega) hgood.out j)
          have hc : k ^^^ j < N := by rw [HN.out] at hlt hlj ⊢; exact Nat.xor_lt_two_pow hlt hlj
          have hand := and_ab k j (by omega) (by omega)
          have htst : (((k &&& j : Nat) : Int) != 0) = !tkW k j := ne_zero' _
          cases ht : tkW k j
          · have HZ := Lib.hid (stepP_not (p := p) (f := fac p qs) (x := x) (y := y) (out := inP p (fac p qs) tkW x y k j (outP p (fac p qs) tkW x y N k)) ht)
            rw [ht] at htst
            clear ht
            simp only [Bool.not_false] at htst
            go_wp2_with (fail)
            go_roundw
            case rel => exact ⟨j + 1, by omega, by go_num, by unfold inP; rw [HZ.out]; exact HOwn2.out, HExt2.out⟩
            case measure => simp [intOf]; omega
          · have HZ := Lib.hid (stepP_yes (p := p) (f := fac p qs) (x := x) (y := y) (out := inP p (fac p qs) tkW x y k j (outP p (fac p qs) tkW x y N k)) ht)
            rw [ht] at htst
            clear ht
            simp only [Bool.not_true] at htst
            go_wp2_with (fail)
            have X2 := Lib.hid (ext_drew wr)
            have Y2 := Lib.hid (HExt2.out.trans X2.out)
            obtain ⟨Z, hZ⟩ : ∃ Z, Z = inP p (fac p qs) tkW x y k j (outP p (fac p qs) tkW x y N k) := ⟨_, rfl⟩
            rw [← hZ] at hin HOwn2 HZ
            have HZZ := Lib.hid hZ
            clear hZ
            have HO2 := Lib.hid (HOwn2.out.ext X2.out)
            have Hc := Lib.hid (HO2.out.cell hc)
            have hzc := hin.out.2 _ hc
            have hyj := isB_nth HYB.out (i := j) (by rw [HY.out.1]; exact hlj)
            have hfb := fac_bd (qs := qs) (b := j) hp1 (show k < 64 by omega)
            have hxor := xor_ab k j (by omega) (by omega)
            obtain ⟨Fk, hFk⟩ : ∃ Fk, Fk = fac p qs k j := ⟨_, rfl⟩
            rw [← hFk] at hfb HZ
            obtain ⟨c, hcc⟩ : ∃ c, c = k ^^^ j := ⟨_, rfl⟩
            rw [← hcc] at hc HZ hzc hxor
            rw [← hcc] at Hc
            obtain ⟨zc, hzc'⟩ : ∃ zc, zc = nth Z c := ⟨_, rfl⟩
            rw [← hzc'] at hzc HZ
            rw [← hzc'] at Hc
            obtain ⟨hm1, hm2⟩ := mul_bd hp2 hxk.1 hxk.2 hyj.1 hyj.2
            obtain ⟨hm3, hm4⟩ := ref_bd (m := nth x k * nth y j) hp1 hp2 hfb.1 hfb.2
            have hw1 : IntKind.i64.wrap (nth x k * nth y j) = nth x k * nth y j := IntWalk.i64_in _ (by omega)
            have hw1t : (nth x k * nth y j).tmod p = nth x k * nth y j % p := Int.tmod_eq_emod_of_nonneg hm1
            obtain ⟨MM, hMM⟩ : ∃ MM, nth x k * nth y j % p = MM := ⟨_, rfl⟩
            have hST := step_ref (p := p) (o := zc) (m := nth x k * nth y j) (f := Fk)
            rw [hMM] at hw1t hm3 hm4 hST
            have hw2 : IntKind.i64.wrap (MM * Fk) = MM * Fk := IntWalk.i64_in _ (by omega)
            have hw3 : IntKind.i64.wrap (zc + MM * Fk) = zc + MM * Fk := IntWalk.i64_in _ (by omega)
            have hw4 : (zc + MM * Fk).tmod p = (zc + MM * Fk) % p := Int.tmod_eq_emod_of_nonneg (by omega)
            obtain ⟨RR, hRR⟩ : ∃ RR, (zc + MM * Fk) % p = RR := ⟨_, rfl⟩
            rw [hRR] at hw4 hST
            have HST := Lib.hid hST
            have hcn : (c : Int) < N := by omega
            have hc0 : (0 : Int) ≤ c := by omega
            have HFk := Lib.hid hFk
            have Hcc := Lib.hid hcc
            have Hzc := Lib.hid hzc'
            clear hFk hcc hzc' hzc hMM hRR hST
            refine wp_region_lex_tail 32 [(25, .val (.int .i64 Fk))] (by kernel_rfl) (by kernel_rfl) ?_
            simp only [List.take, List.drop]
            repeat' first | (refine LexW.pure (v := ?_) rfl rfl (fun w1 he => ?_) ?_; rotate_left; ( have e1 := (Y2.out.trans he).cell HS0.out; have e2 := (Y2.out.trans he).cell HS1.out; have e3 := he.cell Hc.out; have e4 := (Y2.out.trans he).cell Hcx.out; have e5 := (Y2.out.trans he).cell Hcy.out; go_simp; rfl); simp only [Act.put, List.setIfInBounds_toArray, List.set_cons_zero, List.set_cons_succ]) | (refine LexW.call (f := ?_) (args := ?_) rfl rfl (fun w1 => ?_) (fun w1 he hdep => ?_) ?_; rotate_left 2; (go_simp; refine ⟨?_, ?_⟩ <;> rfl); ( rw [HFk.out]; exact s_blades _ _ _ _ _ _ _ _ hd hp1 hp2 (by omega) (by omega) (HQ.out.ext (GW.out.trans (Y2.out.trans he))) HQB.out); simp only [Act.put, List.setIfInBounds_toArray, List.set_cons_zero, List.set_cons_succ])
            refine LexW.nil (fun w3 he hk => ?_)
            have HO3 := Lib.hid (HO2.out.ext he)
            have ec := HO3.out.cell hc
            have ef := HO3.out.frozen c
            have hgb := HO3.out.base_le
            go_wp2_with (fail)
            go_roundw
            case rel => exact ⟨j + 1, by omega, by go_num, by unfold inP; rw [← HZZ.out, HZ.out, ← HST.out]; exact HO3.out.store hc _, (Y2.out.trans he).setCell hgb.1 _⟩
            case measure => simp [intOf]; omega
        · go_wp2_with (fail)
          go_roundw
          case rel => exact ⟨k + 1, by omega, by go_num, by
            have hjn : j = N := by omega
            have := HOwn2.out; rw [hjn] at this; exact this, HExt2.out⟩
          case measure => simp [intOf]; omega
    · go_wp2_with (fail)
      go_ret
      have hkn : k = N := by omega
      refine ⟨g, rfl, ?_, GW.out.trans HExt.out⟩
      rw [HPr.out]
      have := HOwn.out
      rw [hkn] at this
      exact this.mono GW.out.size

set_option maxHeartbeats 4000000 in
set_option maxRecDepth 100000 in
theorem s_kind1 (p : Int) (a : Option Addr) (d cap : Nat) (qs : List Int) (ax ay : Option Addr) (cx cy : Nat) (x y : List Int) (w : World) (hd : d ≤ 6) (hp1 : 3 ≤ p) (hp2 : p ≤ 1000) (hq : RdC w a d qs) (hqb : isB p qs = true)
    (hx : RdC w ax (2 ^ d) x) (hy : RdC w ay (2 ^ d) y) (hxb : isB p x = true) (hyb : isB p y = true) :
    Calls Tryz.prog 68 #[.agg #[.int .i64 p, .slice a d cap], .slice ax (2 ^ d) cx, .slice ay (2 ^ d) cy, .int .i64 1] w fun e w' =>
      ∃ g, e = .returned (.slice (some ⟨g, 0, none⟩) (2 ^ d) (2 ^ d)) ∧ OwnC w.heap.size w' (some ⟨g, 0, none⟩) (2 ^ d) (2 ^ d) (prodL p qs tkL x y) ∧ Ext w w' := by
  have hN := pow_le64 hd
  have hpz : ¬ p = 0 := by omega
  obtain ⟨N, hN'⟩ : ∃ N, N = 2 ^ d := ⟨_, rfl⟩
  have HPr := Lib.hid (show prodL p qs tkL x y = outP p (fac p qs) tkL x y N N by unfold prodL; rw [hq.1, hN'])
  have HN := Lib.hid hN'
  rw [← hN'] at hN hx hy ⊢
  clear hN'
  have HX := Lib.hid hx
  have HY := Lib.hid hy
  have HXB := Lib.hid hxb
  have HYB := Lib.hid hyb
  have HQB := Lib.hid hqb
  have HQ := Lib.hid hq
  clear hx hy hxb hyb hqb hq
  obtain ⟨W, hW⟩ : ∃ W, W = w.alloc (.cells #[.int .i64 p, .slice a d cap] 26) := ⟨_, rfl⟩
  have gW : Ext w W := by rw [hW]; exact ext_alloc _ _
  have hs0 : W.cell? ⟨w.heap.size, 0, none⟩ = some (.int .i64 p) := by rw [hW]; simp
  have hs1 : W.cell? ⟨w.heap.size, 1, none⟩ = some (.slice a d cap) := by rw [hW]; simp
  have HS0 := Lib.hid hs0
  have HS1 := Lib.hid hs1
  have GW := Lib.hid gW
  obtain ⟨w1, hmk, ho, g1⟩ := make_ints W N (by omega)
  obtain ⟨g, hg⟩ : ∃ g, g = W.heap.size := ⟨_, rfl⟩
  rw [← hg] at hmk
  have HO : Hid (OwnC W.heap.size w1 (some ⟨g, 0, none⟩) N N (List.replicate N 0)) := by rw [← hg] at ho ⊢; exact ho
  have G1 := Lib.hid g1
  rw [hW] at hmk
  clear ho g1 gW hs0 hs1 hg hW
  go_enter Tryz.func68, Tryz.ntmps68
  go_wp2_with (fail)
  go_loopw [10] (fun i wr => ∃ k : Nat, k ≤ N ∧ i = .int .i64 k ∧ OwnC W.heap.size wr (some ⟨g, 0, none⟩) N N (outP p (fac p qs) tkL x y N k) ∧ Ext W wr) (fun i _ => N - (intOf i).toNat)
  case atStart => exact ⟨0, Nat.zero_le _, rfl, HO.out, G1.out⟩
  case round =>
    obtain ⟨k, hk, rfl, hown, hext⟩ := hrel
    have HOwn := Lib.hid hown
    have HExt := Lib.hid hext
    clear hown hext hmk
    by_cases hlt : k < N
    · obtain ⟨bx, ox, rfl, hcx⟩ := HX.out.2 k hlt
      have Hcx := Lib.hid (GW.out.cell hcx)
      clear hcx
      have hgood := Lib.hid (outP_good (f := fac p qs) (tk := tkL) (x := x) (y := y) (N := N) (show 1 ≤ p by omega) k)
      have hxk := isB_nth HXB.out (i := k) (by rw [HX.out.1]; exact hlt)
      go_wp2_with (fail)
      obtain ⟨wo, hwo⟩ : ∃ wo : World, wo = wr := ⟨_, rfl⟩
      clear hwo
      go_loopw [11] (fun i wr => ∃ j : Nat, j ≤ N ∧ i = .int .i64 j ∧ OwnC W.heap.size wr (some ⟨g, 0, none⟩) N N (inP p (fac p qs) tkL x y k j (outP p (fac p qs) tkL x y N k)) ∧ Ext W wr) (fun i _ => N - (intOf i).toNat)
      case atStart => exact ⟨0, Nat.zero_le _, rfl, HOwn.out, HExt.out⟩
      case round =>
        obtain ⟨j, hj, rfl, hown, hext⟩ := hrel
        have HOwn2 := Lib.hid hown
        have HExt2 := Lib.hid hext
        clear hown hext
        by_cases hlj : j < N
        · obtain ⟨by', oy, rfl, hcy⟩ := HY.out.2 j hlj
          have Hcy := Lib.hid (GW.out.cell hcy)
          clear hcy
          have hin := Lib.hid (inP_good (f := fac p qs) (tk := tkL) (x := x) (y := y) (a := k) (show 1 ≤ p by omega) hgood.out j)
          have hc : k ^^^ j < N := by rw [HN.out] at hlt hlj ⊢; exact Nat.xor_lt_two_pow hlt hlj
          have hand := and_ab k j (by omega) (by omega)
          have htst : (((k &&& j : Nat) : Int) != (k : Int)) = !tkL k j := ne_nat _ _
          cases ht : tkL k j
          · have HZ := Lib.hid (stepP_not (p := p) (f := fac p qs) (x := x) (y := y) (out := inP p (fac p qs) tkL x y k j (outP p (fac p qs) tkL x y N k)) ht)
            rw [ht] at htst
            clear ht
            simp only [Bool.not_false] at htst
            go_wp2_with (fail)
            go_roundw
            case rel => exact ⟨j + 1, by omega, by go_num, by unfold inP; rw [HZ.out]; exact HOwn2.out, HExt2.out⟩
            case measure => simp [intOf]; omega
          · have HZ := Lib.hid (stepP_yes (p := p) (f := fac p qs) (x := x) (y := y) (out := inP p (fac p qs) tkL x y k j (outP p (fac p qs) tkL x y N k)) ht)
            rw [ht] at htst
            clear ht
            simp only [Bool.not_true] at htst
            go_wp2_with (fail)
            have X2 := Lib.hid (ext_drew wr)
            have Y2 := Lib.hid (HExt2.out.trans X2.out)
            obtain ⟨Z, hZ⟩ : ∃ Z, Z = inP p (fac p qs) tkL x y k j (outP p (fac p qs) tkL x y N k) := ⟨_, rfl⟩
            rw [← hZ] at hin HOwn2 HZ
            have HZZ := Lib.hid hZ
            clear hZ
            have HO2 := Lib.hid (HOwn2.out.ext X2.out)
            have Hc := Lib.hid (HO2.out.cell hc)
            have hzc := hin.out.2 _ hc
            have hyj := isB_nth HYB.out (i := j) (by rw [HY.out.1]; exact hlj)
            have hfb := fac_bd (qs := qs) (b := j) hp1 (show k < 64 by omega)
            have hxor := xor_ab k j (by omega) (by omega)
            obtain ⟨Fk, hFk⟩ : ∃ Fk, Fk = fac p qs k j := ⟨_, rfl⟩
            rw [← hFk] at hfb HZ
            obtain ⟨c, hcc⟩ : ∃ c, c = k ^^^ j := ⟨_, rfl⟩
            rw [← hcc] at hc HZ hzc hxor
            rw [← hcc] at Hc
            obtain ⟨zc, hzc'⟩ : ∃ zc, zc = nth Z c := ⟨_, rfl⟩
            rw [← hzc'] at hzc HZ
            rw [← hzc'] at Hc
            obtain ⟨hm1, hm2⟩ := mul_bd hp2 hxk.1 hxk.2 hyj.1 hyj.2
            obtain ⟨hm3, hm4⟩ := ref_bd (m := nth x k * nth y j) hp1 hp2 hfb.1 hfb.2
            have hw1 : IntKind.i64.wrap (nth x k * nth y j) = nth x k * nth y j := IntWalk.i64_in _ (by omega)
            have hw1t : (nth x k * nth y j).tmod p = nth x k * nth y j % p := Int.tmod_eq_emod_of_nonneg hm1
            obtain ⟨MM, hMM⟩ : ∃ MM, nth x k * nth y j % p = MM := ⟨_, rfl⟩
            have hST := step_ref (p := p) (o := zc) (m := nth x k * nth y j) (f := Fk)
            rw [hMM] at hw1t hm3 hm4 hST
            have hw2 : IntKind.i64.wrap (MM * Fk) = MM * Fk := IntWalk.i64_in _ (by omega)
            have hw3 : IntKind.i64.wrap (zc + MM * Fk) = zc + MM * Fk := IntWalk.i64_in _ (by omega)
            have hw4 : (zc + MM * Fk).tmod p = (zc + MM * Fk) % p := Int.tmod_eq_emod_of_nonneg (by omega)
            obtain ⟨RR, hRR⟩ : ∃ RR, (zc + MM * Fk) % p = RR := ⟨_, rfl⟩
            rw [hRR] at hw4 hST
            have HST := Lib.hid hST
            have hcn : (c : Int) < N := by omega
            have hc0 : (0 : Int) ≤ c := by omega
            have HFk := Lib.hid hFk
            have Hcc := Lib.hid hcc
            have Hzc := Lib.hid hzc'
            clear hFk hcc hzc' hzc hMM hRR hST
            refine wp_region_lex_tail 32 [(25, .val (.int .i64 Fk))] (by kernel_rfl) (by kernel_rfl) ?_
            simp only [List.take, List.drop]
            repeat' first | (refine LexW.pure (v := ?_) rfl rfl (fun w1 he => ?_) ?_; rotate_left; ( have e1 := (Y2.out.trans he).cell HS0.out; have e2 := (Y2.out.trans he).cell HS1.out; have e3 := he.cell Hc.out; have e4 := (Y2.out.trans he).cell Hcx.out; have e5 := (Y2.out.trans he).cell Hcy.out; go_simp; rfl); simp only [Act.put, List.setIfInBounds_toArray, List.set_cons_zero, List.set_cons_succ]) | (refine LexW.call (f := ?_) (args := ?_) rfl rfl (fun w1 => ?_) (fun w1 he hdep => ?_) ?_; rotate_left 2; (go_simp; refine ⟨?_, ?_⟩ <;> rfl); ( rw [HFk.out]; exact s_blades _ _ _ _ _ _ _ _ hd hp1 hp2 (by omega) (by omega) (HQ.out.ext (GW.out.trans (Y2.out.trans he))) HQB.out); simp only [Act.put, List.setIfInBounds_toArray, List.set_cons_zero, List.set_cons_succ])
            refine LexW.nil (fun w3 he hk => ?_)
            have HO3 := Lib.hid (HO2.out.ext he)
            have ec := HO3.out.cell hc
            have ef := HO3.out.frozen c
            have hgb := HO3.out.base_le
            go_wp2_with (fail)
            go_roundw
            case rel => exact ⟨j + 1, by omega, by go_num, by unfold inP; rw [← HZZ.out, HZ.out, ← HST.out]; exact HO3.out.store hc _, (Y2.out.trans he).setCell hgb.1 _⟩
            case measure => simp [intOf]; omega
        · go_wp2_with (fail)
          go_roundw
          case rel => exact ⟨k + 1, by omega, by go_num, by
            have hjn : j = N := by omega
            have := HOwn2.out; rw [hjn] at this; exact this, HExt2.out⟩
          case measure => simp [intOf]; omega
    · go_wp2_with (fail)
      go_ret
      have hkn : k = N := by omega
      refine ⟨g, rfl, ?_, GW.out.trans HExt.out⟩
      rw [HPr.out]
      have := HOwn.out
      rw [hkn] at this
      exact this.mono GW.out.size

set_option maxHeartbeats 4000000 in
set_option maxRecDepth 100000 in
theorem s_kind2 (p : Int) (a : Option Addr) (d cap : Nat) (qs : List Int) (ax ay : Option Addr) (cx cy : Nat) (x y : List Int) (w : World) (hd : d ≤ 6) (hp1 : 3 ≤ p) (hp2 : p ≤ 1000) (hq : RdC w a d qs) (hqb : isB p qs = true)
    (hx : RdC w ax (2 ^ d) x) (hy : RdC w ay (2 ^ d) y) (hxb : isB p x = true) (hyb : isB p y = true) :
    Calls Tryz.prog 68 #[.agg #[.int .i64 p, .slice a d cap], .slice ax (2 ^ d) cx, .slice ay (2 ^ d) cy, .int .i64 2] w fun e w' =>
      ∃ g, e = .returned (.slice (some ⟨g, 0, none⟩) (2 ^ d) (2 ^ d)) ∧ OwnC w.heap.size w' (some ⟨g, 0, none⟩) (2 ^ d) (2 ^ d) (prodL p qs tkR x y) ∧ Ext w w' := by
  have hN := pow_le64 hd
  have hpz : ¬ p = 0 := by omega
  obtain ⟨N, hN'⟩ : ∃ N, N = 2 ^ d := ⟨_, rfl⟩
  have HPr := Lib.hid (show prodL p qs tkR x y = outP p (fac p qs) tkR x y N N by unfold prodL; rw [hq.1, hN'])
  have HN := Lib.hid hN'
  rw [← hN'] at hN hx hy ⊢
  clear hN'
  have HX := Lib.hid hx
  have HY := Lib.hid hy
  have HXB := Lib.hid hxb
  have HYB := Lib.hid hyb
  have HQB := Lib.hid hqb
  have HQ := Lib.hid hq
  clear hx hy hxb hyb hqb hq
  obtain ⟨W, hW⟩ : ∃ W, W = w.alloc (.cells #[.int .i64 p, .slice a d cap] 26) := ⟨_, rfl⟩
  have gW : Ext w W := by rw [hW]; exact ext_alloc _ _
  have hs0 : W.cell? ⟨w.heap.size, 0, none⟩ = some (.int .i64 p) := by rw [hW]; simp
  have hs1 : W.cell? ⟨w.heap.size, 1, none⟩ = some (.slice a d cap) := by rw [hW]; simp
  have HS0 := Lib.hid hs0
  have HS1 := Lib.hid hs1
  have GW := Lib.hid gW
  obtain ⟨w1, hmk, ho, g1⟩ := make_ints W N (by omega)
  obtain ⟨g, hg⟩ : ∃ g, g = W.heap.size := ⟨_, rfl⟩
  rw [← hg] at hmk
  have HO : Hid (OwnC W.heap.size w1 (some ⟨g, 0, none⟩) N N (List.replicate N 0)) := by rw [← hg] at ho ⊢; exact ho
  have G1 := Lib.hid g1
  rw [hW] at hmk
  clear ho g1 gW hs0 hs1 hg hW
  go_enter Tryz.func68, Tryz.ntmps68
  go_wp2_with (fail)
  go_loopw [10] (fun i wr => ∃ k : Nat, k ≤ N ∧ i = .int .i64 k ∧ OwnC W.heap.size wr (some ⟨g, 0, none⟩) N N (outP p (fac p qs) tkR x y N k) ∧ Ext W wr) (fun i _ => N - (intOf i).toNat)
  case atStart => exact ⟨0, Nat.zero_le _, rfl, HO.out, G1.out⟩
  case round =>
    obtain ⟨k, hk, rfl, hown, hext⟩ := hrel
    have HOwn := Lib.hid hown
    have HExt := Lib.hid hext
    clear hown hext hmk
    by_cases hlt : k < N
    · obtain ⟨bx, ox, rfl, hcx⟩ := HX.out.2 k hlt
      have Hcx := Lib.hid (GW.out.cell hcx)
      clear hcx
      have hgood := Lib.hid (outP_good (f := fac p qs) (tk := tkR) (x := x) (y := y) (N := N) (show 1 ≤ p by omega) k)
      have hxk := isB_nth HXB.out (i := k) (by rw [HX.out.1]; exact hlt)
      go_wp2_with (fail)
      obtain ⟨wo, hwo⟩ : ∃ wo : World, wo = wr := ⟨_, rfl⟩
      clear hwo
      go_loopw [11] (fun i wr => ∃ j : Nat, j ≤ N ∧ i = .int .i64 j ∧ OwnC W.heap.size wr (some ⟨g, 0, none⟩) N N (inP p (fac p qs) tkR x y k j (outP p (fac p qs) tkR x y N k)) ∧ Ext W wr) (fun i _ => N - (intOf i).toNat)
      case atStart => exact ⟨0, Nat.zero_le _, rfl, HOwn.out, HExt.out⟩
      case round =>
        obtain ⟨j, hj, rfl, hown, hext⟩ := hrel
        have HOwn2 := Lib.hid hown
        have HExt2 := Lib.hid hext
        clear hown hext
        by_cases hlj : j < N
        · obtain ⟨by', oy, rfl, hcy⟩ := HY.out.2 j hlj
          have Hcy := Lib.hid (GW.out.cell hcy)
          clear hcy
          have hin := Lib.hid (inP_good (f := fac p qs) (tk := tkR) (x := x) (y := y) (a := k) (show 1 ≤ p by omega) hgood.out j)
          have hc : k ^^^ j < N := by rw [HN.out] at hlt hlj ⊢; exact Nat.xor_lt_two_pow hlt hlj
          have hand := and_ab k j (by omega) (by omega)
          have htst : (((k &&& j : Nat) : Int) != (j : Int)) = !tkR k j := ne_nat _ _
          cases ht : tkR k j
          · have HZ := Lib.hid (stepP_not (p := p) (f := fac p qs) (x := x) (y := y) (out := inP p (fac p qs) tkR x y k j (outP p (fac p qs) tkR x y N k)) ht)
            rw [ht] at htst
            clear ht
            simp only [Bool.not_false] at htst
            go_wp2_with (fail)
            go_roundw
            case rel => exact ⟨j + 1, by omega, by go_num, by unfold inP; rw [HZ.out]; exact HOwn2.out, HExt2.out⟩
            case measure => simp [intOf]; omega
          · have HZ := Lib.hid (stepP_yes (p := p) (f := fac p qs) (x := x) (y := y) (out := inP p (fac p qs) tkR x y k j (outP p (fac p qs) tkR x y N k)) ht)
            rw [ht] at htst
            clear ht
            simp only [Bool.not_true] at htst
            go_wp2_with (fail)
            have X2 := Lib.hid (ext_drew wr)
            have Y2 := Lib.hid (HExt2.out.trans X2.out)
            obtain ⟨Z, hZ⟩ : ∃ Z, Z = inP p (fac p qs) tkR x y k j (outP p (fac p qs) tkR x y N k) := ⟨_, rfl⟩
            rw [← hZ] at hin HOwn2 HZ
            have HZZ := Lib.hid hZ
            clear hZ
            have HO2 := Lib.hid (HOwn2.out.ext X2.out)
            have Hc := Lib.hid (HO2.out.cell hc)
            have hzc := hin.out.2 _ hc
            have hyj := isB_nth HYB.out (i := j) (by rw [HY.out.1]; exact hlj)
            have hfb := fac_bd (qs := qs) (b := j) hp1 (show k < 64 by omega)
            have hxor := xor_ab k j (by omega) (by omega)
            obtain ⟨Fk, hFk⟩ : ∃ Fk, Fk = fac p qs k j := ⟨_, rfl⟩
            rw [← hFk] at hfb HZ
            obtain ⟨c, hcc⟩ : ∃ c, c = k ^^^ j := ⟨_, rfl⟩
            rw [← hcc] at hc HZ hzc hxor
            rw [← hcc] at Hc
            obtain ⟨zc, hzc'⟩ : ∃ zc, zc = nth Z c := ⟨_, rfl⟩
            rw [← hzc'] at hzc HZ
            rw [← hzc'] at Hc
            obtain ⟨hm1, hm2⟩ := mul_bd hp2 hxk.1 hxk.2 hyj.1 hyj.2
            obtain ⟨hm3, hm4⟩ := ref_bd (m := nth x k * nth y j) hp1 hp2 hfb.1 hfb.2
            have hw1 : IntKind.i64.wrap (nth x k * nth y j) = nth x k * nth y j := IntWalk.i64_in _ (by omega)
            have hw1t : (nth x k * nth y j).tmod p = nth x k * nth y j % p := Int.tmod_eq_emod_of_nonneg hm1
            obtain ⟨MM, hMM⟩ : ∃ MM, nth x k * nth y j % p = MM := ⟨_, rfl⟩
            have hST := step_ref (p := p) (o := zc) (m := nth x k * nth y j) (f := Fk)
            rw [hMM] at hw1t hm3 hm4 hST
            have hw2 : IntKind.i64.wrap (MM * Fk) = MM * Fk := IntWalk.i64_in _ (by omega)
            have hw3 : IntKind.i64.wrap (zc + MM * Fk) = zc + MM * Fk := IntWalk.i64_in _ (by omega)
            have hw4 : (zc + MM * Fk).tmod p = (zc + MM * Fk) % p := Int.tmod_eq_emod_of_nonneg (by omega)
            obtain ⟨RR, hRR⟩ : ∃ RR, (zc + MM * Fk) % p = RR := ⟨_, rfl⟩
            rw [hRR] at hw4 hST
            have HST := Lib.hid hST
            have hcn : (c : Int) < N := by omega
            have hc0 : (0 : Int) ≤ c := by omega
            have HFk := Lib.hid hFk
            have Hcc := Lib.hid hcc
            have Hzc := Lib.hid hzc'
            clear hFk hcc hzc' hzc hMM hRR hST
            refine wp_region_lex_tail 32 [(25, .val (.int .i64 Fk))] (by kernel_rfl) (by kernel_rfl) ?_
            simp only [List.take, List.drop]
            repeat' first | (refine LexW.pure (v := ?_) rfl rfl (fun w1 he => ?_) ?_; rotate_left; ( have e1 := (Y2.out.trans he).cell HS0.out; have e2 := (Y2.out.trans he).cell HS1.out; have e3 := he.cell Hc.out; have e4 := (Y2.out.trans he).cell Hcx.out; have e5 := (Y2.out.trans he).cell Hcy.out; go_simp; rfl); simp only [Act.put, List.setIfInBounds_toArray, List.set_cons_zero, List.set_cons_succ]) | (refine LexW.call (f := ?_) (args := ?_) rfl rfl (fun w1 => ?_) (fun w1 he hdep => ?_) ?_; rotate_left 2; (go_simp; refine ⟨?_, ?_⟩ <;> rfl); ( rw [HFk.out]; exact s_blades _ _ _ _ _ _ _ _ hd hp1 hp2 (by omega) (by omega) (HQ.out.ext (GW.out.trans (Y2.out.trans he))) HQB.out); simp only [Act.put, List.setIfInBounds_toArray, List.set_cons_zero, List.set_cons_succ])
            refine LexW.nil (fun w3 he hk => ?_)
            have HO3 := Lib.hid (HO2.out.ext he)
            have ec := HO3.out.cell hc
            have ef := HO3.out.frozen c
            have hgb := HO3.out.base_le
            go_wp2_with (fail)
            go_roundw
            case rel => exact ⟨j + 1, by omega, by go_num, by unfold inP; rw [← HZZ.out, HZ.out, ← HST.out]; exact HO3.out.store hc _, (Y2.out.trans he).setCell hgb.1 _⟩
            case measure => simp [intOf]; omega
        · go_wp2_with (fail)
          go_roundw
          case rel => exact ⟨k + 1, by omega, by go_num, by
            have hjn : j = N := by omega
            have := HOwn2.out; rw [hjn] at this; exact this, HExt2.out⟩
          case measure => simp [intOf]; omega
    · go_wp2_with (fail)
      go_ret
      have hkn : k = N := by omega
      refine ⟨g, rfl, ?_, GW.out.trans HExt.out⟩
      rw [HPr.out]
      have := HOwn.out
      rw [hkn] at this
      exact this.mono GW.out.size


end Go.Proofs.YtcocbainookkcaaGreat

/-
  Contracts: choices of pairs, blades, products of lists of multivectors, in the program.
  No condition.
-/
namespace Go.Proofs.YtcocbainookkcaaGreat
set_option maxRecDepth 100000
open Go.RowKit

/-! ### The choices of pairs -/
set_option maxHeartbeats 400000 in
theorem c_apart (i j : Nat) (w : World) (hi : i < 64) (hj : j < 64) :
    Calls Tryz.prog 89 #[.int .i64 i, .int .i64 j] w fun e w' => e = .returned (.bool (tkW i j)) ∧ Ext w w' := by
  have hand := and_ab i j hi hj
  have HT := Lib.hid (show (((i &&& j : Nat) : Int) == 0) = tkW i j by rw [Bool.eq_iff_iff]; simp [tkW])
  go_enter Tryz.func89, Tryz.ntmps89
  go_wp2
  go_ret
  exact ⟨ret_bool HT.out, Ext.refl _⟩
theorem andn_ab (a b : Nat) (ha : a < 64) (hb : b < 64) : (bits BinOp.andNot IntKind.i64 (a : Int) (b : Int) == 0) = tkL a b := by
  have : ∀ a : Nat, a < 64 → ∀ b : Nat, b < 64 → (bits BinOp.andNot IntKind.i64 (a : Int) (b : Int) == 0) = tkL a b := by decide +kernel
  exact this a ha b hb
theorem andn_ba (a b : Nat) (ha : a < 64) (hb : b < 64) : (bits BinOp.andNot IntKind.i64 (b : Int) (a : Int) == 0) = tkR a b := by
  have : ∀ a : Nat, a < 64 → ∀ b : Nat, b < 64 → (bits BinOp.andNot IntKind.i64 (b : Int) (a : Int) == 0) = tkR a b := by decide +kernel
  exact this a ha b hb

/-! ### Blades -/
def bladeL (N m : Nat) : List Int := (List.replicate N 0).set m 1
theorem bladeL_len (N m : Nat) : (bladeL N m).length = N := by simp [bladeL]
theorem bladeL_nth {N m i : Nat} (hm : m < N) (hi : i < N) : nth (bladeL N m) i = if m = i then 1 else 0 := by
  unfold bladeL
  rw [nth_set (by simpa using hm)]
  split
  · rfl
  · exact nth_replicate hi
theorem blade_good {p : Int} {N m : Nat} (hp : 3 ≤ p) : Good p N (bladeL N m) := good_set (good_zero (by omega)) (by omega) (by omega)

set_option maxHeartbeats 400000 in
theorem c_blade (p : Int) (a : Option Addr) (d cap : Nat) (m : Nat) (w : World) (hd : d ≤ 6) (hm : m < 2 ^ d) :
    Calls Tryz.prog 87 #[.agg #[.int .i64 p, .slice a d cap], .int .i64 m] w fun e w' => ∃ g, e = .returned (.slice (some ⟨g, 0, none⟩) (2 ^ d) (2 ^ d)) ∧ OwnC w.heap.size w' (some ⟨g, 0, none⟩) (2 ^ d) (2 ^ d) (bladeL (2 ^ d) m) ∧ Ext w w' := by
  have hN := pow_le64 hd
  obtain ⟨N, hN'⟩ : ∃ N, N = 2 ^ d := ⟨_, rfl⟩
  have HN := Lib.hid hN'
  rw [← hN'] at hN hm ⊢
  clear hN'
  go_enter Tryz.func87, Tryz.ntmps87
  go_wp2_with (fail)
  have Hno := c_nothing p a d cap (w.alloc (.cells #[.int .i64 p, .slice a d cap] 26)) hd
  rw [← HN.out] at Hno
  refine Hno.mono ?_
  rintro e w1 ⟨g, rfl, ho, g1⟩
  have HO := Lib.hid ho
  have G1 := Lib.hid g1
  have ec := ho.cell hm
  have ef := ho.frozen m
  have hg := ho.base_le
  simp only [World.size_alloc] at hg
  have hmN : (m : Int) < N := by omega
  clear Hno ho g1
  go_wp2_with (fail)
  go_ret
  exact ⟨g, rfl, (HO.out.store hm _).mono (by simp), ((ext_alloc _ _).trans G1.out).setCell (by simp; omega) _⟩

set_option maxHeartbeats 400000 in
theorem c_one (p : Int) (a : Option Addr) (d cap : Nat) (w : World) (hd : d ≤ 6) :
    Calls Tryz.prog 64 #[.agg #[.int .i64 p, .slice a d cap]] w fun e w' => ∃ g, e = .returned (.slice (some ⟨g, 0, none⟩) (2 ^ d) (2 ^ d)) ∧ OwnC w.heap.size w' (some ⟨g, 0, none⟩) (2 ^ d) (2 ^ d) (bladeL (2 ^ d) 0) ∧ Ext w w' := by
  go_enter Tryz.func64, Tryz.ntmps64
  go_wp2_with (go_at_call 87; refine (c_blade p a d cap 0 _ hd (Nat.pos_of_ne_zero (by simp))).mono ?_; rintro e w1 ⟨g, rfl, ho, g1⟩)
  go_ret
  exact ⟨g, rfl, ho.mono (by simp), (ext_alloc _ _).trans g1⟩

/-! ### 1 is neutral -/
theorem popc_zero : popc 0 = 0 := by decide
theorem facS_zero (p : Int) (qs : List Int) (b : Nat) (k : Nat) : facS p qs 0 b k = (0, 1) := by
  induction k with
  | zero => rfl
  | succ k ih =>
    cases hb : b.testBit k with
    | false => rw [facS_no hb, ih]
    | true => rw [facS_one hb (by simp), ih]; simp [popc_zero]
theorem fac_zero (p : Int) (qs : List Int) (b : Nat) : fac p qs 0 b = 1 := by simp [fac, facS_zero, sgn]

theorem inP_first {p : Int} {f : Nat → Nat → Int} {x y : List Int} {N : Nat} (hy : Good p N y) (hx : nth x 0 = 1) (hf : ∀ b, f 0 b = 1) : ∀ b, b ≤ N →
    (inP p f tkA x y 0 b (List.replicate N 0)).length = N ∧ ∀ i, i < N → nth (inP p f tkA x y 0 b (List.replicate N 0)) i = if i < b then nth y i else 0
  | 0, _ => ⟨by simp [inP], fun i hi => by simp [inP, nth_replicate hi]⟩
  | b + 1, hb => by
    obtain ⟨ih1, ih2⟩ := inP_first hy hx hf b (by omega)
    unfold inP
    rw [stepP_yes rfl, Nat.zero_xor, hx, hf, ih2 b (by omega), if_neg (by omega)]
    have hyb := hy.2 b (by omega)
    have e : (0 + 1 * nth y b * 1) % p = nth y b := by rw [Int.one_mul, Int.mul_one, Int.zero_add, Int.emod_eq_of_lt hyb.1 hyb.2]
    rw [e]
    refine ⟨by simpa using ih1, fun i hi => ?_⟩
    rw [nth_set (by omega)]
    by_cases h : b = i
    · subst h; simp
    · rw [if_neg h, ih2 i hi]
      by_cases h2 : i < b
      · rw [if_pos h2, if_pos (by omega)]
      · rw [if_neg h2, if_neg (by omega)]
theorem outP_rest {p : Int} {f : Nat → Nat → Int} {tk : Nat → Nat → Bool} {x y : List Int} {N d : Nat} (hp : 1 ≤ p) (hN : N = 2 ^ d) (hx : ∀ a, 0 < a → a < N → nth x a = 0) : ∀ a, 1 ≤ a → a ≤ N → outP p f tk x y N a = outP p f tk x y N 1
  | 0, h, _ => by omega
  | 1, _, _ => rfl
  | a + 2, _, ha => by
    have ih := outP_rest (f := f) (tk := tk) (y := y) hp hN hx (a + 1) (by omega) (by omega)
    rw [← ih]
    show inP p f tk x y (a + 1) N (outP p f tk x y N (a + 1)) = _
    exact inP_zero (d := d) hp hN (by omega) (outP_good hp (a + 1)) (hx (a + 1) (by omega) (by omega)) N (Nat.le_refl _)
theorem one_times {p : Int} {qs : List Int} {y : List Int} (hp : 3 ≤ p) (hy : Good p (2 ^ qs.length) y) : prodL p qs tkA (bladeL (2 ^ qs.length) 0) y = y := by
  have hN : 0 < 2 ^ qs.length := Nat.pos_of_ne_zero (by simp)
  unfold prodL
  rw [outP_rest (d := qs.length) (by omega) rfl (fun a h1 h2 => by rw [bladeL_nth hN h2, if_neg (by omega)]) _ hN (Nat.le_refl _)]
  show inP p (fac p qs) tkA _ y 0 (2 ^ qs.length) (List.replicate _ 0) = y
  obtain ⟨h1, h2⟩ := inP_first (f := fac p qs) (x := bladeL (2 ^ qs.length) 0) hy (by rw [bladeL_nth hN hN, if_pos rfl]) (fac_zero p qs) (2 ^ qs.length) (Nat.le_refl _)
  refine ext_nth (by rw [h1, hy.1]) (fun i hi => ?_)
  rw [h1] at hi
  rw [h2 i hi, if_pos hi]

theorem prod_good {p : Int} {qs x y : List Int} {tk : Nat → Nat → Bool} (hp : 1 ≤ p) : Good p (2 ^ qs.length) (prodL p qs tk x y) := outP_good hp _

/-! ### Products of lists -/
def timesL (p : Int) (qs : List Int) (rows : List (List Int)) : List Int := rows.foldl (fun o x => prodL p qs tkA o x) (bladeL (2 ^ qs.length) 0)
theorem timesL_good {p : Int} {qs : List Int} (hp : 3 ≤ p) (rows : List (List Int)) : Good p (2 ^ qs.length) (timesL p qs rows) := by
  rcases List.eq_nil_or_concat rows with rfl | ⟨l, x, rfl⟩
  · exact blade_good hp
  · unfold timesL
    rw [List.concat_eq_append, List.foldl_append]
    exact prod_good (by omega)
theorem timesL_snoc {p : Int} {qs : List Int} (rows : List (List Int)) (x : List Int) : timesL p qs (rows ++ [x]) = prodL p qs tkA (timesL p qs rows) x := by
  unfold timesL; rw [List.foldl_append]; rfl
theorem timesL_two {p : Int} {qs x y : List Int} (hp : 3 ≤ p) (hx : Good p (2 ^ qs.length) x) : timesL p qs [x, y] = prodL p qs tkA x y := by
  show prodL p qs tkA (prodL p qs tkA (bladeL (2 ^ qs.length) 0) x) y = _
  rw [one_times hp hx]
theorem take_snocR (rows : List (List Int)) (k : Nat) (h : k < rows.length) : rows.take (k + 1) = rows.take k ++ [nthR rows k] := by
  rw [List.take_succ_eq_append_getElem h, nthR_eq h]


set_option maxHeartbeats 400000 in
theorem c_wedge (p : Int) (a : Option Addr) (d cap : Nat) (qs : List Int) (ax ay : Option Addr) (cx cy : Nat) (x y : List Int) (w : World) (hd : d ≤ 6) (hp1 : 3 ≤ p) (hp2 : p ≤ 1000) (hq : RdC w a d qs) (hqb : isB p qs = true)
    (hx : RdC w ax (2 ^ d) x) (hy : RdC w ay (2 ^ d) y) (hxb : isB p x = true) (hyb : isB p y = true) :
    Calls Tryz.prog 65 #[.agg #[.int .i64 p, .slice a d cap], .slice ax (2 ^ d) cx, .slice ay (2 ^ d) cy] w fun e w' =>
      ∃ g, e = .returned (.slice (some ⟨g, 0, none⟩) (2 ^ d) (2 ^ d)) ∧ OwnC w.heap.size w' (some ⟨g, 0, none⟩) (2 ^ d) (2 ^ d) (prodL p qs tkW x y) ∧ Ext w w' := by
  go_enter Tryz.func65, Tryz.ntmps65
  go_wp2_with (fail)
  refine (c_product p a d cap qs _ _ _ _ x y 89 tkW _ hd hp1 hp2 (hq.ext (ext_alloc _ _)) hqb (hx.ext (ext_alloc _ _)) (hy.ext (ext_alloc _ _)) hxb hyb ?_ (fun i j w hi hj => c_apart i j w hi hj)).mono ?_
  · intro args w; go_simp
  rintro e w1 ⟨g, rfl, ho, g1⟩
  have HO := Lib.hid ho
  have G1 := Lib.hid g1
  clear ho g1
  go_wp2_with (fail)
  go_ret
  exact ⟨g, rfl, HO.out.mono (by simp), (ext_alloc _ _).trans G1.out⟩

end Go.Proofs.YtcocbainookkcaaGreat

/-
  Contracts of the listed products: the code, and where it is 0 the product.
  No condition.
-/
namespace Go.Proofs.YtcocbainookkcaaGreat
set_option maxRecDepth 100000
open Go.RowKit

theorem good_two {p : Int} {N : Nat} {xs ys : List Int} (h : Good p N xs) (h' : Good p N ys) : ∀ i, i < 2 → Good p N (nthR [xs, ys] i) := fun i hi => by
  have : i = 0 ∨ i = 1 := by omega
  rcases this with rfl | rfl
  · exact h
  · exact h'

set_option maxHeartbeats 400000 in
theorem s_wedge (p : Int) (a : Option Addr) (d cap : Nat) (qs : List Int) (ax ay : Option Addr) (cx cy : Nat) (x y : List Int) (w : World) (hd : d ≤ 6) (hp1 : 3 ≤ p) (hp2 : p ≤ 1000) (hq : RdC w a d qs) (hqb : isB p qs = true)
    (hx : RdC w ax (2 ^ d) x) (hy : RdC w ay (2 ^ d) y) (hxb : isB p x = true) (hyb : isB p y = true) :
    Calls Tryz.prog 34 #[.agg #[.int .i64 p, .slice a d cap], .slice ax (2 ^ d) cx, .slice ay (2 ^ d) cy] w fun e w' =>
      ∃ g, e = .returned (.slice (some ⟨g, 0, none⟩) (2 ^ d) (2 ^ d)) ∧ OwnC w.heap.size w' (some ⟨g, 0, none⟩) (2 ^ d) (2 ^ d) (prodL p qs tkW x y) ∧ Ext w w' := by
  go_enter Tryz.func34, Tryz.ntmps34
  go_wp2_with (fail)
  refine (s_kind0 p a d cap qs _ _ _ _ x y _ hd hp1 hp2 (hq.ext (ext_alloc _ _)) hqb (hx.ext (ext_alloc _ _)) (hy.ext (ext_alloc _ _)) hxb hyb).mono ?_
  rintro e w1 ⟨g, rfl, ho, g1⟩
  have HO := Lib.hid ho
  have G1 := Lib.hid g1
  clear ho g1
  go_wp2_with (fail)
  go_ret
  exact ⟨g, rfl, HO.out.mono (by simp), (ext_alloc _ _).trans G1.out⟩










end Go.Proofs.YtcocbainookkcaaGreat

/-
  The pseudoscalar, its square; 0 and 1 in the reference.
  No condition.
-/
namespace Go.Proofs.YtcocbainookkcaaGreat
set_option maxRecDepth 100000
open Go.RowKit

/-- A row of numbers of the call's own, that begins a block. -/
def SPred.ownG (B n : Nat) (xs : List Int) : SPred := ⟨fun v w => ∃ g, v = .slice (some ⟨g, 0, none⟩) n n ∧ OwnC B w (some ⟨g, 0, none⟩) n n xs, fun _ _ _ ⟨g, hv, h⟩ he => ⟨g, hv, h.ext he⟩⟩
/-- A row of numbers of the call's own, that begins a block, with room behind it. -/
def SPred.ownS (B n : Nat) (xs : List Int) : SPred := ⟨fun v w => ∃ g cap, v = .slice (some ⟨g, 0, none⟩) n cap ∧ OwnC B w (some ⟨g, 0, none⟩) n cap xs, fun _ _ _ ⟨g, cap, hv, h⟩ he => ⟨g, cap, hv, h.ext he⟩⟩
/-- A row of rows. -/
def SPred.rows (n : Nat) (rows : List (List Int)) : SPred := ⟨fun v w => ∃ g, v = .slice (some ⟨g, 0, none⟩) n n ∧ RdR w (some ⟨g, 0, none⟩) n rows, fun _ _ _ ⟨g, hv, h⟩ he => ⟨g, hv, h.ext he⟩⟩
/-- A cell with a number. -/
def SPred.cell (x : Int) : SPred := ⟨fun v w => ∃ b off, v = .pointer (some ⟨b, off, none⟩) ∧ w.cell? ⟨b, off, none⟩ = some (.int .i64 x), fun _ _ _ ⟨b, off, hv, h⟩ he => ⟨b, off, hv, he.cell h⟩⟩

/-- Any other operation whose value is known. -/
theorem LexW.relV {P : Program} {ops : Array Oper} {w0 : World} {sp : Nat → Option SPred} {Q : Act → World → Prop} {o : Oper} {l : List Oper} {k : Nat} {a : Act} {env : List (Nat × Value)} {v : Value} (hsp : sp k = some (SPred.val v)) (hw : Region.wanted o (yielded ops a.tmps) = true)
    (hr : ∀ w, Ext w0 w → Dep sp (depsOf ops k) a w → ∃ w', (execOp a.eval o).run P w = .ok (.value v) w' ∧ Ext w w')
    (h : LexW P ops w0 sp Q l (k + 1) (a.put o.dst v) ((k, v) :: env)) : LexW P ops w0 sp Q (o :: l) k a env :=
  LexW.rel hsp hw (fun w he hd => let ⟨w', h1, h2⟩ := hr w he hd; ⟨v, w', h1, h2, rfl⟩) fun v' ⟨_, hv⟩ => by
    have hv' : v' = v := hv
    subst hv'
    exact h

def fullL (d : Nat) : List Int := bladeL (2 ^ d) (2 ^ d - 1)
def topL (d : Nat) (k : Int) : List Int := (List.replicate (2 ^ d) 0).set (2 ^ d - 1) k
theorem topL_one (d : Nat) : topL d 1 = fullL d := rfl
theorem pow_pos' (d : Nat) : 1 ≤ 2 ^ d := Nat.pos_of_ne_zero (by simp)
theorem full_good {p : Int} {d : Nat} (hp : 3 ≤ p) : Good p (2 ^ d) (fullL d) := blade_good hp
theorem top_good {p : Int} {d : Nat} {k : Int} (hp : 3 ≤ p) (h0 : 0 ≤ k) (h1 : k < p) : Good p (2 ^ d) (topL d k) := good_set (good_zero (by omega)) h0 h1

theorem pow_wrapI {d : Nat} (h : d ≤ 6) : IntKind.i64.wrap (2 ^ d) = ((2 ^ d : Nat) : Int) := by
  have : d = 0 ∨ d = 1 ∨ d = 2 ∨ d = 3 ∨ d = 4 ∨ d = 5 ∨ d = 6 := by omega
  rcases this with rfl | rfl | rfl | rfl | rfl | rfl | rfl <;> decide +kernel


set_option maxHeartbeats 400000 in
theorem s_zero (p : Int) (a : Option Addr) (d cap : Nat) (w : World) (hd : d ≤ 6) :
    Calls Tryz.prog 67 #[.agg #[.int .i64 p, .slice a d cap]] w fun e w' => ∃ g, e = .returned (.slice (some ⟨g, 0, none⟩) (2 ^ d) (2 ^ d)) ∧ OwnC w.heap.size w' (some ⟨g, 0, none⟩) (2 ^ d) (2 ^ d) (List.replicate (2 ^ d) 0) ∧ Ext w w' := by
  have hN := pow_le64 hd
  obtain ⟨N, hN'⟩ : ∃ N, N = 2 ^ d := ⟨_, rfl⟩
  have HN := Lib.hid hN'
  rw [← hN'] at hN ⊢
  clear hN'
  go_enter Tryz.func67, Tryz.ntmps67
  go_wp2_with (go_at_call 91; refine (s_size _ _ _ _ _ hd).mono ?_; rintro e w1 ⟨rfl, g1⟩; rw [← HN.out])
  obtain ⟨w2, hmk, ho, he⟩ := make_ints w1 N (by omega)
  have HO := Lib.hid ho
  have HE := Lib.hid ((ext_alloc _ _).trans (g1.trans he))
  have hz := g1.size'
  simp only [World.size_alloc] at hz
  clear ho he g1
  rw [hmk]
  go_wp2_with (fail)
  go_ret
  exact ⟨w1.heap.size, rfl, HO.out.mono (by omega), HE.out⟩

set_option maxHeartbeats 400000 in
theorem s_one (p : Int) (a : Option Addr) (d cap : Nat) (w : World) (hd : d ≤ 6) :
    Calls Tryz.prog 33 #[.agg #[.int .i64 p, .slice a d cap]] w fun e w' => ∃ g, e = .returned (.slice (some ⟨g, 0, none⟩) (2 ^ d) (2 ^ d)) ∧ OwnC w.heap.size w' (some ⟨g, 0, none⟩) (2 ^ d) (2 ^ d) (bladeL (2 ^ d) 0) ∧ Ext w w' := by
  have hN1 := pow_pos' d
  obtain ⟨N, hN'⟩ : ∃ N, N = 2 ^ d := ⟨_, rfl⟩
  have HN := Lib.hid hN'
  rw [← hN'] at hN1 ⊢
  clear hN'
  go_enter Tryz.func33, Tryz.ntmps33
  go_wp2_with (fail)
  have Hno := s_zero p a d cap (w.alloc (.cells #[.int .i64 p, .slice a d cap] 26)) hd
  rw [← HN.out] at Hno
  refine Hno.mono ?_
  rintro e w1 ⟨g, rfl, ho, g1⟩
  have HO := Lib.hid ho
  have G1 := Lib.hid g1
  have ec := ho.cell hN1
  have ef := ho.frozen 0
  have hg := ho.base_le
  simp only [World.size_alloc] at hg
  clear Hno ho g1
  go_wp2_with (fail)
  go_ret
  exact ⟨g, rfl, (HO.out.store hN1 _).mono (by simp), ((ext_alloc _ _).trans G1.out).setCell (by simp; omega) _⟩


theorem nth_bd {p : Int} {N : Nat} {xs : List Int} (h : Good p N xs) {i : Nat} (hi : i < N) : 0 ≤ nth xs i ∧ nth xs i < p := h.2 i hi
def sqFull (p : Int) (qs : List Int) : Int := nth (prodL p qs tkA (fullL qs.length) (fullL qs.length)) 0
theorem sqFull_bd {p : Int} {qs : List Int} (hp : 3 ≤ p) : 0 ≤ sqFull p qs ∧ sqFull p qs < p := (prod_good (by omega)).2 0 (pow_pos' _)
theorem own_cell0 {B : Nat} {w : World} {g n cap : Nat} {xs : List Int} (h : OwnC B w (some ⟨g, 0, none⟩) n cap xs) (hn : 0 < n) : w.cell? ⟨g, 0, none⟩ = some (.int .i64 (nth xs 0)) := h.cell hn

theorem good_pair {p : Int} {N : Nat} {xs ys : List Int} (h : Good p N xs) (h' : Good p N ys) : ∀ i, i < 2 → Good p N (nthR [xs, ys] i) := fun i hi => by
  have : i = 0 ∨ i = 1 := by omega
  rcases this with rfl | rfl
  · exact h
  · exact h'


end Go.Proofs.YtcocbainookkcaaGreat

/-
  Sums of lists, in the program and in the reference.
  No condition.
-/
namespace Go.Proofs.YtcocbainookkcaaGreat
set_option maxRecDepth 100000
open Go.RowKit

def plusN (p : Int) (x y : List Int) (k : Int) (i : Nat) : Int := (nth x i + k * nth y i) % p
def plusL (p : Int) (x y : List Int) (k : Int) (n : Nat) : List Int := (List.range n).map (plusN p x y k)
theorem plusL_len (p : Int) (x y : List Int) (k : Int) (n : Nat) : (plusL p x y k n).length = n := by simp [plusL]
theorem plusL_succ (p : Int) (x y : List Int) (k : Int) (n : Nat) : plusL p x y k (n + 1) = plusL p x y k n ++ [plusN p x y k n] := by simp [plusL, List.range_succ]
theorem plusL_nth {p : Int} {x y : List Int} {k : Int} {n i : Nat} (h : i < n) : nth (plusL p x y k n) i = plusN p x y k i := by
  unfold plusL; rw [nth_map (by simpa using h)]; simp
theorem plus_good {p : Int} {x y : List Int} {k : Int} {n : Nat} (hp : 1 ≤ p) : Good p n (plusL p x y k n) := ⟨plusL_len _ _ _ _ _, fun i hi => by
  rw [plusL_nth hi]; exact ⟨Int.emod_nonneg _ (by omega), Int.emod_lt_of_pos _ (by omega)⟩⟩
theorem plus_minus {p : Int} {x y : List Int} {n : Nat} : plusL p x y (p - 1) n = plusL p x y (-1) n := by
  unfold plusL
  refine List.map_congr_left fun i _ => ?_
  unfold plusN
  rw [show nth x i + (p - 1) * nth y i = (nth x i + -1 * nth y i) + p * nth y i by rw [Int.sub_mul]; omega, Int.add_mul_emod_self_left]

/-- A row of one number. -/
def SPred.one (x : Int) : SPred := ⟨fun v w => ∃ g, v = .slice (some ⟨g, 0, none⟩) 1 1 ∧ w.cell? ⟨g, 0, none⟩ = some (.int .i64 x), fun _ _ _ ⟨g, hv, h⟩ he => ⟨g, hv, he.cell h⟩⟩
theorem kmul_bd {k y : Int} (hk : -1000 ≤ k ∧ k ≤ 1000) (hy0 : 0 ≤ y) (hy : y ≤ 1000) : -1000000 ≤ k * y ∧ k * y ≤ 1000000 := by
  constructor
  · have : -1000 * y ≤ k * y := Int.mul_le_mul_of_nonneg_right hk.1 hy0
    omega
  · have : k * y ≤ 1000 * y := Int.mul_le_mul_of_nonneg_right hk.2 hy0
    omega

set_option maxHeartbeats 1000000 in
theorem c_plus (p : Int) (ax ay : Option Addr) (n cx cy : Nat) (x y : List Int) (k : Int) (w : World) (hp1 : 3 ≤ p) (hp2 : p ≤ 1000) (hk : -1000 ≤ k ∧ k ≤ 1000) (hn : n ≤ 4194303) (hx : RdC w ax n x) (hy : RdC w ay n y) (hgx : Good p n x) (hgy : Good p n y) :
    Calls Tryz.prog 48 #[.int .i64 p, .slice ax n cx, .slice ay n cy, .int .i64 k] w fun e w' => ∃ g rc, e = .returned (.slice (some ⟨g, 0, none⟩) n rc) ∧ OwnC w.heap.size w' (some ⟨g, 0, none⟩) n rc (plusL p x y k n) ∧ Ext w w' := by
  have HX := Lib.hid hx
  have HY := Lib.hid hy
  have HGX := Lib.hid hgx
  have HGY := Lib.hid hgy
  clear hx hy hgx hgy
  go_enter Tryz.func48, Tryz.ntmps48
  go_wp2_with (fail)
  go_loopw [9, 15] (fun v i wr => ∃ (j g rc : Nat), j ≤ n ∧ i = .int .i64 j ∧ v = .slice (some ⟨g, 0, none⟩) j rc ∧ OwnC w.heap.size wr (some ⟨g, 0, none⟩) j rc (plusL p x y k j) ∧ Ext w wr) (fun _ i _ => n - (intOf i).toNat)
  case atStart => exact ⟨0, _, _, Nat.zero_le _, rfl, rfl, own_empty w, ext_alloc _ _⟩
  case round =>
    obtain ⟨j, g, rc, hj, rfl, rfl, hown, hext⟩ := hrel
    have HOwn := Lib.hid hown
    have HExt := Lib.hid hext
    clear hown hext
    by_cases hlt : j < n
    · obtain ⟨bx, ox, rfl, hcx⟩ := HX.out.2 j hlt
      obtain ⟨by', oy, rfl, hcy⟩ := HY.out.2 j hlt
      have hcx' := HExt.out.cell hcx
      have hcy' := HExt.out.cell hcy
      have hbx := HGX.out.2 j hlt
      have hby := HGY.out.2 j hlt
      have hkb := kmul_bd hk hby.1 (show nth y j ≤ 1000 by omega)
      have hw1 : IntKind.i64.wrap (k * nth y j) = k * nth y j := IntWalk.i64_in _ (by omega)
      have hw2 : IntKind.i64.wrap (nth x j + k * nth y j) = nth x j + k * nth y j := IntWalk.i64_in _ (by omega)
      have HP := Lib.hid (show (nth x j + k * nth y j) % p = plusN p x y k j from rfl)
      clear hcx hcy
      go_wp2_with (first | (go_at_call 81; refine (c_num _ _ _ (by omega) hp2).mono ?_; rintro e w2 ⟨rfl, g2⟩; rw [HP.out]; have G2 := Lib.hid g2; clear g2) | (at_builtin; refine wpList_push rfl (.tmp 20) (.tmp 31) rfl rfl rfl (v := plusN p x y k j) (HOwn.out.ext (G2.out.trans (ext_alloc _ _))) ?hc ?hn ?hB ?hk))
      case hc => simp
      case hn => omega
      case hB => have hz := (HExt.out.trans G2.out).size'; simp; omega
      case hk =>
        intro g' cap' w3 ho3 hg3 he3
        have HO3 := Lib.hid ho3
        have HE3 := Lib.hid (he3 w (Nat.le_refl _) ((HExt.out.trans G2.out).alloc _))
        clear ho3 hg3 he3
        go_wp2_with (fail)
        go_roundw
        case rel => exact ⟨j + 1, g', cap', by omega, by go_num, rfl, by rw [plusL_succ]; exact HO3.out, HE3.out⟩
        case measure => simp [intOf]; omega
    · go_wp2_with (fail)
      go_ret
      obtain rfl : j = n := by omega
      exact ⟨g, rc, rfl, HOwn.out, HExt.out⟩

end Go.Proofs.YtcocbainookkcaaGreat

/-
  Contracts of products and blades, with the number of coefficients as a letter.
  No condition.
-/
namespace Go.Proofs.YtcocbainookkcaaGreat
set_option maxRecDepth 100000
open Go.RowKit

theorem c_nothingN {N : Nat} {d : Nat} (hN : N = 2 ^ d) (p : Int) (a : Option Addr) (cap : Nat) (w : World) (hd : d ≤ 6) :
    Calls Tryz.prog 90 #[.agg #[.int .i64 p, .slice a d cap]] w fun e w' => ∃ g, e = .returned (.slice (some ⟨g, 0, none⟩) N N) ∧ OwnC w.heap.size w' (some ⟨g, 0, none⟩) N N (List.replicate N 0) ∧ Ext w w' := by
  subst hN
  exact c_nothing p a d cap w hd
theorem c_productN {N : Nat} {d : Nat} (hN : N = 2 ^ d) (p : Int) (a : Option Addr) (cap : Nat) (qs : List Int) (ax ay : Option Addr) (cx cy : Nat) (x y : List Int) (F : Nat) (tk : Nat → Nat → Bool) (w : World) (hd : d ≤ 6) (hp1 : 3 ≤ p) (hp2 : p ≤ 1000) (hq : RdC w a d qs) (hqb : isB p qs = true)
    (hx : RdC w ax N x) (hy : RdC w ay N y) (hxb : isB p x = true) (hyb : isB p y = true)
    (hcf : ∀ args w, (callFunc F args).run Tryz.prog w = .ok (.enter F args) w)
    (htk : ∀ (i j : Nat) (w : World), i < 64 → j < 64 → Calls Tryz.prog F #[.int .i64 i, .int .i64 j] w fun e w' => e = .returned (.bool (tk i j)) ∧ Ext w w') :
    Calls Tryz.prog 88 #[.agg #[.int .i64 p, .slice a d cap], .slice ax N cx, .slice ay N cy, .func (.func F) #[] #[]] w fun e w' =>
      ∃ g, e = .returned (.slice (some ⟨g, 0, none⟩) N N) ∧ OwnC w.heap.size w' (some ⟨g, 0, none⟩) N N (prodL p qs tk x y) ∧ Ext w w' := by
  subst hN
  exact c_product p a d cap qs ax ay cx cy x y F tk w hd hp1 hp2 hq hqb hx hy hxb hyb hcf htk
theorem s_kind0N {N : Nat} {d : Nat} (hN : N = 2 ^ d) (p : Int) (a : Option Addr) (cap : Nat) (qs : List Int) (ax ay : Option Addr) (cx cy : Nat) (x y : List Int) (w : World) (hd : d ≤ 6) (hp1 : 3 ≤ p) (hp2 : p ≤ 1000) (hq : RdC w a d qs) (hqb : isB p qs = true)
    (hx : RdC w ax N x) (hy : RdC w ay N y) (hxb : isB p x = true) (hyb : isB p y = true) :
    Calls Tryz.prog 68 #[.agg #[.int .i64 p, .slice a d cap], .slice ax N cx, .slice ay N cy, .int .i64 0] w fun e w' =>
      ∃ g, e = .returned (.slice (some ⟨g, 0, none⟩) N N) ∧ OwnC w.heap.size w' (some ⟨g, 0, none⟩) N N (prodL p qs tkW x y) ∧ Ext w w' := by
  subst hN
  exact s_kind0 p a d cap qs ax ay cx cy x y w hd hp1 hp2 hq hqb hx hy hxb hyb
theorem s_kind1N {N : Nat} {d : Nat} (hN : N = 2 ^ d) (p : Int) (a : Option Addr) (cap : Nat) (qs : List Int) (ax ay : Option Addr) (cx cy : Nat) (x y : List Int) (w : World) (hd : d ≤ 6) (hp1 : 3 ≤ p) (hp2 : p ≤ 1000) (hq : RdC w a d qs) (hqb : isB p qs = true)
    (hx : RdC w ax N x) (hy : RdC w ay N y) (hxb : isB p x = true) (hyb : isB p y = true) :
    Calls Tryz.prog 68 #[.agg #[.int .i64 p, .slice a d cap], .slice ax N cx, .slice ay N cy, .int .i64 1] w fun e w' =>
      ∃ g, e = .returned (.slice (some ⟨g, 0, none⟩) N N) ∧ OwnC w.heap.size w' (some ⟨g, 0, none⟩) N N (prodL p qs tkL x y) ∧ Ext w w' := by
  subst hN
  exact s_kind1 p a d cap qs ax ay cx cy x y w hd hp1 hp2 hq hqb hx hy hxb hyb
theorem s_kind2N {N : Nat} {d : Nat} (hN : N = 2 ^ d) (p : Int) (a : Option Addr) (cap : Nat) (qs : List Int) (ax ay : Option Addr) (cx cy : Nat) (x y : List Int) (w : World) (hd : d ≤ 6) (hp1 : 3 ≤ p) (hp2 : p ≤ 1000) (hq : RdC w a d qs) (hqb : isB p qs = true)
    (hx : RdC w ax N x) (hy : RdC w ay N y) (hxb : isB p x = true) (hyb : isB p y = true) :
    Calls Tryz.prog 68 #[.agg #[.int .i64 p, .slice a d cap], .slice ax N cx, .slice ay N cy, .int .i64 2] w fun e w' =>
      ∃ g, e = .returned (.slice (some ⟨g, 0, none⟩) N N) ∧ OwnC w.heap.size w' (some ⟨g, 0, none⟩) N N (prodL p qs tkR x y) ∧ Ext w w' := by
  subst hN
  exact s_kind2 p a d cap qs ax ay cx cy x y w hd hp1 hp2 hq hqb hx hy hxb hyb
theorem c_bladeN {N : Nat} {d : Nat} (hN : N = 2 ^ d) (p : Int) (a : Option Addr) (cap : Nat) (m : Nat) (w : World) (hd : d ≤ 6) (hm : m < N) :
    Calls Tryz.prog 87 #[.agg #[.int .i64 p, .slice a d cap], .int .i64 m] w fun e w' => ∃ g, e = .returned (.slice (some ⟨g, 0, none⟩) N N) ∧ OwnC w.heap.size w' (some ⟨g, 0, none⟩) N N (bladeL N m) ∧ Ext w w' := by
  subst hN
  exact c_blade p a d cap m w hd hm
theorem c_oneN {N : Nat} {d : Nat} (hN : N = 2 ^ d) (p : Int) (a : Option Addr) (cap : Nat) (w : World) (hd : d ≤ 6) :
    Calls Tryz.prog 64 #[.agg #[.int .i64 p, .slice a d cap]] w fun e w' => ∃ g, e = .returned (.slice (some ⟨g, 0, none⟩) N N) ∧ OwnC w.heap.size w' (some ⟨g, 0, none⟩) N N (bladeL N 0) ∧ Ext w w' := by
  subst hN
  exact c_one p a d cap w hd
theorem c_wedgeN {N : Nat} {d : Nat} (hN : N = 2 ^ d) (p : Int) (a : Option Addr) (cap : Nat) (qs : List Int) (ax ay : Option Addr) (cx cy : Nat) (x y : List Int) (w : World) (hd : d ≤ 6) (hp1 : 3 ≤ p) (hp2 : p ≤ 1000) (hq : RdC w a d qs) (hqb : isB p qs = true)
    (hx : RdC w ax N x) (hy : RdC w ay N y) (hxb : isB p x = true) (hyb : isB p y = true) :
    Calls Tryz.prog 65 #[.agg #[.int .i64 p, .slice a d cap], .slice ax N cx, .slice ay N cy] w fun e w' =>
      ∃ g, e = .returned (.slice (some ⟨g, 0, none⟩) N N) ∧ OwnC w.heap.size w' (some ⟨g, 0, none⟩) N N (prodL p qs tkW x y) ∧ Ext w w' := by
  subst hN
  exact c_wedge p a d cap qs ax ay cx cy x y w hd hp1 hp2 hq hqb hx hy hxb hyb
theorem s_wedgeN {N : Nat} {d : Nat} (hN : N = 2 ^ d) (p : Int) (a : Option Addr) (cap : Nat) (qs : List Int) (ax ay : Option Addr) (cx cy : Nat) (x y : List Int) (w : World) (hd : d ≤ 6) (hp1 : 3 ≤ p) (hp2 : p ≤ 1000) (hq : RdC w a d qs) (hqb : isB p qs = true)
    (hx : RdC w ax N x) (hy : RdC w ay N y) (hxb : isB p x = true) (hyb : isB p y = true) :
    Calls Tryz.prog 34 #[.agg #[.int .i64 p, .slice a d cap], .slice ax N cx, .slice ay N cy] w fun e w' =>
      ∃ g, e = .returned (.slice (some ⟨g, 0, none⟩) N N) ∧ OwnC w.heap.size w' (some ⟨g, 0, none⟩) N N (prodL p qs tkW x y) ∧ Ext w w' := by
  subst hN
  exact s_wedge p a d cap qs ax ay cx cy x y w hd hp1 hp2 hq hqb hx hy hxb hyb
theorem s_zeroN {N : Nat} {d : Nat} (hN : N = 2 ^ d) (p : Int) (a : Option Addr) (cap : Nat) (w : World) (hd : d ≤ 6) :
    Calls Tryz.prog 67 #[.agg #[.int .i64 p, .slice a d cap]] w fun e w' => ∃ g, e = .returned (.slice (some ⟨g, 0, none⟩) N N) ∧ OwnC w.heap.size w' (some ⟨g, 0, none⟩) N N (List.replicate N 0) ∧ Ext w w' := by
  subst hN
  exact s_zero p a d cap w hd
theorem s_oneN {N : Nat} {d : Nat} (hN : N = 2 ^ d) (p : Int) (a : Option Addr) (cap : Nat) (w : World) (hd : d ≤ 6) :
    Calls Tryz.prog 33 #[.agg #[.int .i64 p, .slice a d cap]] w fun e w' => ∃ g, e = .returned (.slice (some ⟨g, 0, none⟩) N N) ∧ OwnC w.heap.size w' (some ⟨g, 0, none⟩) N N (bladeL N 0) ∧ Ext w w' := by
  subst hN
  exact s_one p a d cap w hd
end Go.Proofs.YtcocbainookkcaaGreat
