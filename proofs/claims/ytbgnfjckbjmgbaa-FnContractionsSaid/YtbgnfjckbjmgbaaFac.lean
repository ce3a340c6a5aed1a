/-
  The factor of a product of two blades, in plain numbers; the contracts of the two functions that compute it.
  No condition.
-/
import Derived.Test.YtbgnfjckbjmgbaaBits
import Derived.Test.YtbgnfjckbjmgbaaSpecA
namespace Go.Proofs.Ytbgnfjckbjmgbaa
set_option maxRecDepth 100000
open Go.RowKit

/-- How many swaps, and the product of the common squares, behind k places. -/
def facS (p : Int) (qs : List Int) (a b : Nat) : Nat → Nat × Int
  | 0 => (0, 1)
  | k + 1 => if b.testBit k then ((facS p qs a b k).1 + popc (a >>> (k + 1)), if a.testBit k then (facS p qs a b k).2 * nth qs k % p else (facS p qs a b k).2) else facS p qs a b k
def sgn (p : Int) (s : Nat) (o : Int) : Int := if s % 2 = 1 then (-o) % p else o
/-- The factor of the product of the blades a and b. -/
def fac (p : Int) (qs : List Int) (a b : Nat) : Int := sgn p (facS p qs a b qs.length).1 (facS p qs a b qs.length).2

theorem facS_bd {p : Int} {qs : List Int} {a b : Nat} (hp : 3 ≤ p) (ha : a < 64) (k : Nat) : (facS p qs a b k).1 ≤ 6 * k ∧ 0 ≤ (facS p qs a b k).2 ∧ (facS p qs a b k).2 < p := by
  induction k with
  | zero => simp [facS]; omega
  | succ k ih =>
    unfold facS
    have h1 := popc_le (shr_lt (k + 1) ha)
    have h2 := Int.emod_nonneg ((facS p qs a b k).2 * nth qs k) (show p ≠ 0 by omega)
    have h3 := Int.emod_lt_of_pos ((facS p qs a b k).2 * nth qs k) (show 0 < p by omega)
    split
    · refine ⟨by dsimp only; omega, ?_⟩
      dsimp only
      split <;> omega
    · omega
theorem sgn_bd {p o : Int} {s : Nat} (hp : 3 ≤ p) (h0 : 0 ≤ o) (h1 : o < p) : 0 ≤ sgn p s o ∧ sgn p s o < p := by
  unfold sgn
  split
  · exact ⟨Int.emod_nonneg _ (by omega), Int.emod_lt_of_pos _ (by omega)⟩
  · exact ⟨h0, h1⟩
theorem fac_bd {p : Int} {qs : List Int} {a b : Nat} (hp : 3 ≤ p) (ha : a < 64) : 0 ≤ fac p qs a b ∧ fac p qs a b < p := by
  have := facS_bd (qs := qs) (b := b) hp ha qs.length
  exact sgn_bd hp this.2.1 this.2.2

theorem facS_no {p : Int} {qs : List Int} {a b k : Nat} (h : b.testBit k = false) : facS p qs a b (k + 1) = facS p qs a b k := by simp [facS, h]
theorem facS_one {p : Int} {qs : List Int} {a b k : Nat} (h : b.testBit k = true) (h' : a.testBit k = false) : facS p qs a b (k + 1) = ((facS p qs a b k).1 + popc (a >>> (k + 1)), (facS p qs a b k).2) := by simp [facS, h, h']
theorem facS_two {p : Int} {qs : List Int} {a b k : Nat} (h : b.testBit k = true) (h' : a.testBit k = true) : facS p qs a b (k + 1) = ((facS p qs a b k).1 + popc (a >>> (k + 1)), (facS p qs a b k).2 * nth qs k % p) := by simp [facS, h, h']

theorem mul_bd {p x y : Int} (hp : p ≤ 1000) (hx0 : 0 ≤ x) (hx : x < p) (hy0 : 0 ≤ y) (hy : y < p) : 0 ≤ x * y ∧ x * y ≤ 1000000 := by
  refine ⟨Int.mul_nonneg hx0 hy0, ?_⟩
  have h1 : x * y ≤ 1000 * y := Int.mul_le_mul_of_nonneg_right (by omega) hy0
  omega

set_option maxHeartbeats 1000000 in
theorem c_factor (p : Int) (a : Option Addr) (d cap : Nat) (qs : List Int) (x y : Nat) (w : World) (hd : d ≤ 6) (hp1 : 3 ≤ p) (hp2 : p ≤ 1000) (hx : x < 64) (hy : y < 64) (hq : RdC w a d qs) (hqb : isB p qs = true) :
    Calls Try.prog 162 #[.agg #[.int .i64 p, .slice a d cap], .int .i64 x, .int .i64 y] w fun e w' => e = .returned (.int .i64 (fac p qs x y)) ∧ Ext w w' := by
  have HQ := Lib.hid hq.2
  have HN := Lib.hid hq.1
  have HB := Lib.hid hqb
  clear hq hqb
  go_enter Try.func162, Try.ntmps162
  go_wp2_with (go_at_call 103; refine (c_dim _ _ _ _ _).mono ?_; rintro e w1 ⟨rfl, g1⟩)
  have hs0 : w1.cell? ⟨w.heap.size, 0, none⟩ = some (.int .i64 p) := g1.cell (by simp)
  have hs1 : w1.cell? ⟨w.heap.size, 1, none⟩ = some (.slice a d cap) := g1.cell (by simp)
  have HS0 := Lib.hid hs0
  have HS1 := Lib.hid hs1
  have G1 := Lib.hid ((ext_alloc w (.cells #[.int .i64 p, .slice a d cap] 26)).trans g1)
  clear g1 hs0 hs1
  go_loopw [7, 8, 9, 12] (fun s o _ i wr => ∃ k : Nat, k ≤ d ∧ i = .int .i64 k ∧ s = .int .i64 (facS p qs x y k).1 ∧ o = .int .i64 (facS p qs x y k).2 ∧ Ext w1 wr) (fun _ _ _ i _ => d - (intOf i).toNat)
  case atStart => exact ⟨0, Nat.zero_le _, rfl, rfl, rfl, Ext.refl _⟩
  case round =>
    obtain ⟨k, hk, rfl, rfl, rfl, hext⟩ := hrel
    obtain ⟨hf1, hf2, hf3⟩ := facS_bd (qs := qs) (b := y) hp1 hx k
    obtain ⟨S, hS⟩ : ∃ S, S = (facS p qs x y k).1 := ⟨_, rfl⟩
    obtain ⟨O, hO⟩ : ∃ O, O = (facS p qs x y k).2 := ⟨_, rfl⟩
    rw [← hS] at hf1 ⊢
    rw [← hO] at hf2 hf3 ⊢
    have HS := Lib.hid hS
    have HO := Lib.hid hO
    clear hS hO
    by_cases hlt : k < d
    · have hy1 := bit_i y k hy (by omega)
      have hx1 := bit_i x k hx (by omega)
      have hsh := shr_u x k hx (by omega)
      have hpl := popc_le (shr_lt (k + 1) hx)
      obtain ⟨b, off, ha, hc⟩ := HQ.out k hlt
      have Hc := Lib.hid ((G1.out.trans (hext)).cell hc)
      have hqk := isB_nth HB.out (i := k) (by rw [HN.out]; exact hlt)
      clear hc
      have hmul := mul_bd (x := O) (y := nth qs k) hp2 hf2 hf3 hqk.1 hqk.2
      cases hyb : y.testBit k
      · have HYB := Lib.hid hyb
        rw [hyb] at hy1
        clear hyb hx1 hsh ha
        go_wp2_with (fail)
        go_roundw
        case rel => exact ⟨k + 1, by omega, by go_num, by rw [facS_no HYB.out, HS.out], by rw [facS_no HYB.out, HO.out], hext⟩
        case measure => simp [intOf]; omega
      · have HYB := Lib.hid hyb
        rw [hyb] at hy1
        clear hyb
        cases hxb : x.testBit k
        · have HXB := Lib.hid hxb
          rw [hxb] at hx1
          clear hxb ha
          go_wp2_with (go_at_call 193; refine (c_ones (x >>> (k + 1)) _ (shr_lt _ hx)).mono ?_; rintro e w2 ⟨rfl, g2⟩)
          go_roundw
          case rel => exact ⟨k + 1, by omega, by go_num, by rw [facS_one HYB.out HXB.out, HS.out]; go_num, by rw [facS_one HYB.out HXB.out, HO.out], hext.trans g2⟩
          case measure => simp [intOf]; omega
        · have HXB := Lib.hid hxb
          rw [hxb] at hx1
          clear hxb
          subst ha
          go_wp2_with (go_at_call 193; refine (c_ones (x >>> (k + 1)) _ (shr_lt _ hx)).mono ?_; rintro e w2 ⟨rfl, g2⟩)
          refine wp_region_lex [(1, .val (.int .i64 p)), (9, .val (.int .i64 (O * nth qs k % p)))] (by kernel_rfl) (by kernel_rfl) ?_
          have X2 := Lib.hid (g2.trans (ext_drew _))
          have Y2 := Lib.hid (hext.trans X2.out)
          have hw : IntKind.i64.wrap (O * nth qs k) = O * nth qs k := IntWalk.i64_in _ (by omega)
          repeat' first | (refine LexW.pure (v := ?_) rfl rfl (fun w1 he => ?_) ?_; rotate_left; ( have e1 := (Y2.out.trans he).cell HS0.out; have e2 := (Y2.out.trans he).cell HS1.out; have e3 := (X2.out.trans he).cell Hc.out; go_simp; rfl); simp only [Act.put, List.setIfInBounds_toArray, List.set_cons_zero, List.set_cons_succ]) | (refine LexW.call (f := ?_) (args := ?_) rfl rfl (fun w1 => ?_) (fun w1 he hdep => ?_) ?_; rotate_left 2; (go_simp; refine ⟨?_, ?_⟩ <;> rfl); ( first | (go_at_call 89; exact c_field _ _ _) | (go_at_call 154; exact c_num _ _ _ (by omega) hp2)); simp only [Act.put, List.setIfInBounds_toArray, List.set_cons_zero, List.set_cons_succ])
          refine LexW.nil (fun w3 he hk => ?_)
          go_wp2_with (fail)
          go_roundw
          case rel => exact ⟨k + 1, by omega, by go_num, by rw [facS_two HYB.out HXB.out, HS.out]; go_num, by rw [facS_two HYB.out HXB.out, HO.out], Y2.out.trans he⟩
          case measure => simp [intOf]; omega
    · have hkd : k = d := by omega
      have e1 := hext.cell HS0.out
      have e2 := hext.cell HS1.out
      by_cases hodd : S % 2 = 1
      · have ht : (((S : Int) % 2) == 1) = true := by simp; omega
        have HF := Lib.hid (show fac p qs x y = (-O) % p by simp only [fac, sgn]; rw [HN.out, ← hkd, ← HS.out, if_pos hodd, ← HO.out])
        clear hkd hodd
        go_wp2_with (first | (go_at_call 89; refine (c_field _ _ _).mono ?_; rintro e w2 ⟨rfl, g2⟩) | (go_at_call 154; refine (c_num _ _ _ (by omega) hp2).mono ?_; rintro e w3 ⟨rfl, g3⟩))
        go_ret
        exact ⟨ret_int HF.out.symm, G1.out.trans (hext.trans (g2.trans g3))⟩
      · have ht : (((S : Int) % 2) == 1) = false := by simp; omega
        have HF := Lib.hid (show fac p qs x y = O by simp only [fac, sgn]; rw [HN.out, ← hkd, ← HS.out, if_neg hodd, ← HO.out])
        clear hkd hodd
        go_wp2_with (fail)
        go_ret
        exact ⟨ret_int HF.out.symm, G1.out.trans hext⟩

/-! ### The reference's way: it turns the first mask as it goes -/
def aS (a b : Nat) : Nat → Nat
  | 0 => a
  | k + 1 => if b.testBit k then aS a b k ^^^ (1 <<< k) else aS a b k
theorem aS_all (a b k : Nat) (ha : a < 64) (hb : b < 64) (hk : k < 6) : aS a b k < 64 ∧ aS a b k >>> (k + 1) = a >>> (k + 1) ∧ (aS a b k).testBit k = a.testBit k := by
  have : ∀ a : Nat, a < 64 → ∀ b : Nat, b < 64 → ∀ k : Nat, k < 6 → aS a b k < 64 ∧ aS a b k >>> (k + 1) = a >>> (k + 1) ∧ (aS a b k).testBit k = a.testBit k := by decide +kernel
  exact this a ha b hb k hk

theorem aS_no {a b k : Nat} (h : b.testBit k = false) : aS a b (k + 1) = aS a b k := by simp [aS, h]
theorem aS_yes {a b k : Nat} (h : b.testBit k = true) : aS a b (k + 1) = aS a b k ^^^ (1 <<< k) := by simp [aS, h]
theorem xor_i (A k : Nat) (hA : A < 64) (hk : k < 6) : bits BinOp.xor IntKind.i64 (A : Int) (IntKind.i64.wrap (2 ^ k)) = ((A ^^^ (1 <<< k) : Nat) : Int) := by
  have : ∀ A : Nat, A < 64 → ∀ k : Nat, k < 6 → bits BinOp.xor IntKind.i64 (A : Int) (IntKind.i64.wrap (2 ^ k)) = ((A ^^^ (1 <<< k) : Nat) : Int) := by decide +kernel
  exact this A hA k hk
theorem xor_i' (A k : Nat) (hA : A < 64) (hk : k < 6) : bits BinOp.xor IntKind.i64 (A : Int) (wrap64 (2 ^ k)) = ((A ^^^ (1 <<< k) : Nat) : Int) := by
  have : ∀ A : Nat, A < 64 → ∀ k : Nat, k < 6 → bits BinOp.xor IntKind.i64 (A : Int) (wrap64 (2 ^ k)) = ((A ^^^ (1 <<< k) : Nat) : Int) := by decide +kernel
  exact this A hA k hk
theorem shr_i (A k : Nat) : (A : Int) / 2 ^ (k + 1) = ((A >>> (k + 1) : Nat) : Int) := by
  rw [Nat.shiftRight_eq_div_pow]; simp
theorem sgn_odd {p o : Int} {s g : Nat} (hg : g % 2 = 1) (h0 : 0 ≤ o) (h1 : o < p) : sgn p (s + g) o = (p - sgn p s o) % p := by
  unfold sgn
  by_cases hs : s % 2 = 1
  · rw [if_neg (by omega), if_pos hs, Int.sub_emod_emod, Int.sub_neg, Int.add_emod_left, Int.emod_eq_of_lt h0 h1]
  · rw [if_pos (by omega), if_neg hs, Int.sub_eq_add_neg, Int.add_emod_left]
theorem sgn_even {p o : Int} {s g : Nat} (hg : ¬ g % 2 = 1) : sgn p (s + g) o = sgn p s o := by
  unfold sgn
  by_cases hs : s % 2 = 1
  · rw [if_pos (by omega), if_pos hs]
  · rw [if_neg (by omega), if_neg hs]
theorem sgn_mul {p o q : Int} {s : Nat} : sgn p s (o * q % p) = sgn p s o * q % p := by
  unfold sgn
  by_cases hs : s % 2 = 1
  · rw [if_pos hs, if_pos hs]
    rw [Int.mul_emod ((-o) % p), Int.emod_emod, ← Int.mul_emod, Int.neg_mul]
    have := Int.sub_emod_emod 0 (o * q) p
    simpa using this
  · rw [if_neg hs, if_neg hs]

end Go.Proofs.Ytbgnfjckbjmgbaa
