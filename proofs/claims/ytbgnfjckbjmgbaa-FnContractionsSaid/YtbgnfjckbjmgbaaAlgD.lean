/-
  Vectors in products, and matrices of multiplications, in plain numbers.
  No condition. No program in sight.
-/
import Derived.Test.YtbgnfjckbjmgbaaAlgC
import Derived.Test.YtbgnfjckbjmgbaaVec
namespace Go.Proofs.Ytbgnfjckbjmgbaa
set_option maxRecDepth 100000
open Go.RowKit

theorem vecS_nth {N d : Nat} {v : List Int} (hN : N = 2 ^ d) : ∀ k, k ≤ d → ∀ m, m < N → (∀ i, i < k → m = 2 ^ i → nth (vecS N v k) m = nth v i) ∧ ((∀ i, i < k → m ≠ 2 ^ i) → nth (vecS N v k) m = 0)
  | 0, _, m, hm => ⟨fun i hi => absurd hi (Nat.not_lt_zero _), fun _ => nth_replicate hm⟩
  | k + 1, hk, m, hm => by
    obtain ⟨h1, h2⟩ := vecS_nth hN k (by omega) m hm (v := v)
    have hl : (vecS N v k).length = N := by
      have : ∀ j, (vecS N v j).length = N := fun j => by
        induction j with
        | zero => simp [vecS]
        | succ j ih => simp [vecS, ih]
      exact this k
    have hkN : 2 ^ k < N := by rw [hN]; exact Nat.pow_lt_pow_right (by omega) (by omega)
    unfold vecS
    rw [nth_set (by rw [hl]; exact hkN)]
    constructor
    · intro i hi he
      by_cases hik : i = k
      · subst hik; rw [if_pos he.symm]
      · have : ¬ 2 ^ k = m := fun h => by have : 2 ^ i < 2 ^ k := Nat.pow_lt_pow_right (by omega) (by omega); omega
        rw [if_neg this]; exact h1 i (by omega) he
    · intro h
      rw [if_neg (fun e => h k (by omega) e.symm)]
      exact h2 fun i hi => h i (by omega)
theorem vec_bit {d i : Nat} {v : List Int} (hv : v.length = d) (hi : i < d) : nth (vecL (2 ^ d) v) (2 ^ i) = nth v i := by
  unfold vecL
  exact (vecS_nth rfl v.length (by omega) (2 ^ i) (Nat.pow_lt_pow_right (by omega) (by omega))).1 i (by omega) rfl
theorem vec_no {d m : Nat} {v : List Int} (hv : v.length = d) (hm : m < 2 ^ d) (h : ∀ i, i < d → m ≠ 2 ^ i) : nth (vecL (2 ^ d) v) m = 0 := by
  unfold vecL
  exact (vecS_nth rfl v.length (by omega) m hm).2 fun i hi => h i (by omega)
/-- A sum over blades with a vector is a sum over its numbers. -/
theorem sum_bits (g : Nat → Int) : ∀ d, (∀ m, m < 2 ^ d → (∀ i, i < d → m ≠ 2 ^ i) → g m = 0) → sumN (2 ^ d) g = sumN d fun i => g (2 ^ i)
  | 0, h => by
    show sumN 0 g + g 0 = 0
    rw [h 0 (by decide) (fun i hi => absurd hi (Nat.not_lt_zero _))]; rfl
  | d + 1, h => by
    have split : ∀ n m, sumN (n + m) g = sumN n g + sumN m fun i => g (n + i) := fun n m => by
      induction m with
      | zero => simp [sumN]
      | succ m ih => rw [← Nat.add_assoc]; simp only [sumN]; rw [ih, Int.add_assoc]
    have hpos : 0 < 2 ^ d := Nat.pos_of_ne_zero (by simp)
    rw [Nat.pow_succ, Nat.mul_two, split]
    have h1 : sumN (2 ^ d) g = sumN d fun i => g (2 ^ i) := sum_bits g d fun m hm hno => h m (by rw [Nat.pow_succ]; omega) fun i hi => by
      by_cases hid : i = d
      · subst hid; omega
      · exact hno i (by omega)
    rw [h1, sumN_single (k := 0) hpos (fun m hm hne => h (2 ^ d + m) (by rw [Nat.pow_succ]; omega) fun i hi => by
      by_cases hid : i = d
      · subst hid; omega
      · have : 2 ^ i < 2 ^ d := Nat.pow_lt_pow_right (by omega) (by omega)
        omega)]
    rfl
theorem sum_vec {d : Nat} {v : List Int} (hv : v.length = d) (g : Nat → Int) : sumN (2 ^ d) (fun m => nth (vecL (2 ^ d) v) m * g m) = sumN d fun i => nth v i * g (2 ^ i) := by
  rw [sum_bits _ d fun m hm hno => by rw [vec_no hv hm hno, Int.zero_mul]]
  exact sumN_congr fun i hi => by rw [vec_bit hv hi]

/-- The product of two vectors of a space. -/
def pairZ (qs v w : List Int) : Int := sumN qs.length fun i => nth v i * nth w i * nth qs i
theorem sgS_bits (i j : Nat) (hi : i < 6) (hj : j < 6) : (i ≠ j → sgS (2 ^ i) (2 ^ j) 6 = - sgS (2 ^ j) (2 ^ i) 6) ∧ sgS (2 ^ i) (2 ^ i) 6 = 1 := by
  have : ∀ i : Nat, i < 6 → ∀ j : Nat, j < 6 → (i ≠ j → sgS (2 ^ i) (2 ^ j) 6 = - sgS (2 ^ j) (2 ^ i) 6) ∧ sgS (2 ^ i) (2 ^ i) 6 = 1 := by decide +kernel
  exact this i hi j hj
theorem sqS_one (qs : List Int) {a b : Nat} : ∀ k, (∀ i, i < k → (a.testBit i && b.testBit i) = false) → sqS qs a b k = 1
  | 0, _ => rfl
  | k + 1, h => by
    rw [sqS, sqS_one qs k fun i hi => h i (by omega), h k (by omega)]; rfl
theorem sqS_bit (qs : List Int) {i : Nat} : ∀ k, sqS qs (2 ^ i) (2 ^ i) k = if i < k then nth qs i else 1
  | 0 => rfl
  | k + 1 => by
    rw [sqS, sqS_bit qs k, Nat.testBit_two_pow]
    by_cases hik : i = k
    · subst hik; simp
    · have : ¬ (i = k) := hik
      simp only [this, decide_false, Bool.and_false, Bool.false_eq_true, if_false, Int.mul_one]
      by_cases h : i < k
      · rw [if_pos h, if_pos (by omega)]
      · rw [if_neg h, if_neg (by omega)]
theorem facZ_bits {qs : List Int} {i j : Nat} (hd : qs.length ≤ 6) (hi : i < qs.length) (hj : j < qs.length) : (i ≠ j → facZ qs (2 ^ i) (2 ^ j) qs.length = - facZ qs (2 ^ j) (2 ^ i) qs.length) ∧ facZ qs (2 ^ i) (2 ^ i) qs.length = nth qs i := by
  obtain ⟨h1, h2⟩ := sgS_bits i j (by omega) (by omega)
  have lt : ∀ i, i < qs.length → (2 : Nat) ^ i < 2 ^ qs.length := fun i hi => Nat.pow_lt_pow_right (by omega) hi
  have e1 := sgS_rest (a := 2 ^ i) (lt j hj) (6 - qs.length)
  have e2 := sgS_rest (a := 2 ^ j) (lt i hi) (6 - qs.length)
  have e3 := sgS_rest (a := 2 ^ i) (lt i hi) (6 - qs.length)
  rw [Nat.add_sub_cancel' hd] at e1 e2 e3
  rw [facZ_parts, facZ_parts, facZ_parts, ← e1, ← e2, ← e3, h2, sqS_bit, if_pos hi, Int.one_mul]
  refine ⟨fun hne => ?_, rfl⟩
  rw [h1 hne, sqS_comm qs (2 ^ j)]
  exact Int.neg_mul _ _
/-- v w + w v -/
theorem vec_anti {p : Int} {qs v w : List Int} (hp : 1 ≤ p) (hd : qs.length ≤ 6) (hv : v.length = qs.length) (hw : w.length = qs.length) :
    plusL p (prodL p qs tkA (vecL (2 ^ qs.length) v) (vecL (2 ^ qs.length) w)) (prodL p qs tkA (vecL (2 ^ qs.length) w) (vecL (2 ^ qs.length) v)) 1 (2 ^ qs.length) = (List.replicate (2 ^ qs.length) 0).set 0 ((2 * pairZ qs v w) % p) := by
  have hN := pow_pos' qs.length
  refine ext_nth (by rw [plusL_len]; simp) fun k hk => ?_
  rw [plusL_len] at hk
  rw [plusL_nth hk, plusN, prodA_nth hp hk, prodA_nth hp hk, Int.one_mul, Int.emod_add_emod, Int.add_emod_emod, nth_set (by simp; omega), nth_replicate hk]
  have e : ∀ x y : List Int, sumN (2 ^ qs.length) (fun i => nth (vecL (2 ^ qs.length) x) i * nth (vecL (2 ^ qs.length) y) (i ^^^ k) * facZ qs i (i ^^^ k) qs.length) = sumN (2 ^ qs.length) (fun i => nth (vecL (2 ^ qs.length) x) i * (nth (vecL (2 ^ qs.length) y) (i ^^^ k) * facZ qs i (i ^^^ k) qs.length)) := fun x y => sumN_congr fun i _ => Int.mul_assoc _ _ _
  have lt : ∀ i, i < qs.length → (2 : Nat) ^ i < 2 ^ qs.length := fun i hi => Nat.pow_lt_pow_right (by omega) hi
  by_cases h0 : 0 = k
  · subst h0
    rw [if_pos rfl, e, e, sum_vec hv, sum_vec hw]
    simp only [Nat.xor_zero]
    congr 1
    unfold pairZ
    rw [← sumN_add, ← sumN_mul]
    refine sumN_congr fun i hi => ?_
    rw [vec_bit hv hi, vec_bit hw hi, (facZ_bits hd hi hi).2, Int.two_mul]
    congr 1
    · exact (Int.mul_assoc _ _ _).symm
    · ac_rfl
  · rw [if_neg h0]
    -- the second sum, blade by blade, is the first one's opposite
    rw [← sumN_xor hd hk (fun i => nth (vecL (2 ^ qs.length) w) i * nth (vecL (2 ^ qs.length) v) (i ^^^ k) * facZ qs i (i ^^^ k) qs.length), ← sumN_add]
    have : ∀ i, i < 2 ^ qs.length → nth (vecL (2 ^ qs.length) v) i * nth (vecL (2 ^ qs.length) w) (i ^^^ k) * facZ qs i (i ^^^ k) qs.length + nth (vecL (2 ^ qs.length) w) (k ^^^ i) * nth (vecL (2 ^ qs.length) v) (k ^^^ i ^^^ k) * facZ qs (k ^^^ i) (k ^^^ i ^^^ k) qs.length = 0 := fun i hi => by
      have x1 : k ^^^ i ^^^ k = i := by rw [Nat.xor_comm k i, Nat.xor_assoc, Nat.xor_self, Nat.xor_zero]
      rw [x1, Nat.xor_comm k i]
      have hik := Nat.xor_lt_two_pow hi hk
      by_cases hb : ∃ s, s < qs.length ∧ i = 2 ^ s
      · obtain ⟨s, hs, rfl⟩ := hb
        by_cases hc : ∃ t, t < qs.length ∧ 2 ^ s ^^^ k = 2 ^ t
        · obtain ⟨t, ht, hst⟩ := hc
          rw [hst]
          have hne : s ≠ t := fun h => by
            subst h
            exact h0 (by have := xor_eq_iff.1 hst; rw [Nat.xor_self] at this; exact this.symm)
          rw [(facZ_bits hd hs ht).1 hne]
          rw [Int.mul_comm (nth (vecL (2 ^ qs.length) w) _), Int.mul_neg]
          omega
        · rw [vec_no hw hik (fun t ht h => hc ⟨t, ht, h⟩)]; simp
      · rw [vec_no hv hi (fun s hs h => hb ⟨s, hs, h⟩)]; simp
    rw [sumN_zero this]; rfl

/-- The geometric product of a vector is its left contraction and its wedge product together. -/
theorem vec_prod {p : Int} {qs v y : List Int} (hp : 1 ≤ p) (hv : v.length = qs.length) :
    prodL p qs tkA (vecL (2 ^ qs.length) v) y = plusL p (prodL p qs tkL (vecL (2 ^ qs.length) v) y) (prodL p qs tkW (vecL (2 ^ qs.length) v) y) 1 (2 ^ qs.length) := by
  refine ext_nth (by rw [(prod_good hp).1, plusL_len]) fun k hk => ?_
  rw [(prod_good hp).1] at hk
  rw [plusL_nth hk, plusN, prodT_nth hp hk, prodT_nth hp hk, prodT_nth hp hk, Int.one_mul, Int.emod_add_emod, Int.add_emod_emod, ← sumN_add]
  congr 1
  refine sumN_congr fun i hi => ?_
  by_cases hb : ∃ s, s < qs.length ∧ i = 2 ^ s
  · obtain ⟨s, hs, rfl⟩ := hb
    have : tkI tkA (2 ^ s) (2 ^ s ^^^ k) = tkI tkL (2 ^ s) (2 ^ s ^^^ k) + tkI tkW (2 ^ s) (2 ^ s ^^^ k) := by
      unfold tkI
      rw [if_pos (show tkA (2 ^ s) (2 ^ s ^^^ k) = true from rfl)]
      cases hbit : (2 ^ s ^^^ k).testBit s
      · have hw : tkW (2 ^ s) (2 ^ s ^^^ k) = true := tkW_iff.2 fun i => by
          rw [Nat.testBit_two_pow]
          by_cases h : s = i
          · subst h; rw [hbit]; simp
          · simp [h]
        have hl : tkL (2 ^ s) (2 ^ s ^^^ k) = false := by
          cases h : tkL (2 ^ s) (2 ^ s ^^^ k)
          · rfl
          · have := tkL_iff.1 h s (by simp)
            rw [hbit] at this; cases this
        simp [hw, hl]
      · have hl : tkL (2 ^ s) (2 ^ s ^^^ k) = true := tkL_iff.2 fun i hi => by
          rw [Nat.testBit_two_pow] at hi
          simp only [decide_eq_true_eq] at hi
          subst hi; exact hbit
        have hw : tkW (2 ^ s) (2 ^ s ^^^ k) = false := by
          cases h : tkW (2 ^ s) (2 ^ s ^^^ k)
          · rfl
          · have := tkW_iff.1 h s
            rw [hbit] at this; simp at this
        simp [hw, hl]
    rw [this, Int.add_mul]
  · rw [vec_no hv hi (fun s hs h => hb ⟨s, hs, h⟩)]; simp
end Go.Proofs.Ytbgnfjckbjmgbaa
