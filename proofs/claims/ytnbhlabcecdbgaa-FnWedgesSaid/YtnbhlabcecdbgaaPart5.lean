/-
  Contracts and plain laws, part 5: AlgC, AlgD, LawVectorSquares, Power, LawGeometricProducts, Rows3, DrawL, Draw5L.
  No condition.
-/
import Derived.Test.YtnbhlabcecdbgaaPart4
import Derived.Test.YtnbhlabcecdbgaaPart2
import Derived.Test.YtnbhlabcecdbgaaPart3
import Derived.Test.YtnbhlabcecdbgaaPart0
/-
  Reverses of products, and products with the pseudoscalar, in plain numbers.
  No condition. No program in sight.
-/
namespace Go.Proofs.Ytnbhlabcecdbgaa
set_option maxRecDepth 100000
open Go.RowKit

/-! ### Signs and squares apart -/
def sgS (a b : Nat) : Nat → Int
  | 0 => 1
  | k + 1 => sgS a b k * (if b.testBit k then sgZ a k else 1)
def sqS (qs : List Int) (a b : Nat) : Nat → Int
  | 0 => 1
  | k + 1 => sqS qs a b k * (if (a.testBit k && b.testBit k) = true then nth qs k else 1)
theorem facZ_parts (qs : List Int) (a b : Nat) : ∀ k, facZ qs a b k = sgS a b k * sqS qs a b k
  | 0 => rfl
  | k + 1 => by
    rw [facZ, facZ_parts qs a b k, sgS, sqS, stZ]
    cases a.testBit k <;> cases b.testBit k <;> simp <;> ac_rfl
theorem sqS_comm (qs : List Int) (a b : Nat) : ∀ k, sqS qs a b k = sqS qs b a k
  | 0 => rfl
  | k + 1 => by rw [sqS, sqS, sqS_comm qs a b k, Bool.and_comm]
theorem sgS_rest {a b d : Nat} (hb : b < 2 ^ d) : ∀ k, sgS a b (d + k) = sgS a b d
  | 0 => rfl
  | k + 1 => by
    rw [← Nat.add_assoc, sgS, sgS_rest hb k]
    have : b.testBit (d + k) = false := Nat.testBit_lt_two_pow (Nat.lt_of_lt_of_le hb (Nat.pow_le_pow_right (by omega) (by omega)))
    simp [this]
def rvS (a : Nat) : Int := if revB (popc a) = true then -1 else 1
theorem rvS_sq (a : Nat) : rvS a * rvS a = 1 := by unfold rvS; split <;> rfl
theorem rev_sign (a b : Nat) (ha : a < 64) (hb : b < 64) : sgS b a 6 * (rvS a * rvS b) = rvS (a ^^^ b) * sgS a b 6 := by
  have : ∀ a : Nat, a < 64 → ∀ b : Nat, b < 64 → sgS b a 6 * (rvS a * rvS b) = rvS (a ^^^ b) * sgS a b 6 := by decide +kernel
  exact this a ha b hb
theorem facZ_rev {qs : List Int} {a b : Nat} (hd : qs.length ≤ 6) (ha : a < 2 ^ qs.length) (hb : b < 2 ^ qs.length) : facZ qs b a qs.length * (rvS a * rvS b) = rvS (a ^^^ b) * facZ qs a b qs.length := by
  have hN := pow_le64 hd
  have h1 := sgS_rest (a := b) ha (6 - qs.length)
  have h2 := sgS_rest (a := a) hb (6 - qs.length)
  rw [Nat.add_sub_cancel' hd] at h1 h2
  rw [facZ_parts, facZ_parts, ← h1, ← h2, sqS_comm qs b a, show sgS b a 6 * sqS qs a b qs.length * (rvS a * rvS b) = sgS b a 6 * (rvS a * rvS b) * sqS qs a b qs.length by ac_rfl, rev_sign a b (by omega) (by omega), Int.mul_assoc]
theorem sign_emod {p : Int} {x : List Int} {n i : Nat} (h : i < n) : nth (signL p revB x n) i % p = (rvS i * nth x i) % p := by
  rw [signL_nth h]
  unfold signN rvS
  split
  · rw [Int.emod_emod]; congr 1; omega
  · rw [Int.one_mul]
/-- The reverse of a product is the product of the reverses in the other order. -/
theorem rev_prod {p : Int} {qs x y : List Int} {tk tk' : Nat → Nat → Bool} (hp : 1 ≤ p) (hd : qs.length ≤ 6) (ht : ∀ a b, tk' b a = tk a b) :
    signL p revB (prodL p qs tk x y) (2 ^ qs.length) = prodL p qs tk' (signL p revB y (2 ^ qs.length)) (signL p revB x (2 ^ qs.length)) := by
  have g1 : Good p (2 ^ qs.length) (signL p revB (prodL p qs tk x y) (2 ^ qs.length)) := sign_good hp (prod_good hp)
  have g2 : Good p (2 ^ qs.length) (prodL p qs tk' (signL p revB y (2 ^ qs.length)) (signL p revB x (2 ^ qs.length))) := prod_good hp
  refine ext_nth (by rw [g1.1, g2.1]) fun k hk => ?_
  rw [g1.1] at hk
  have b1 := g1.2 k hk
  have b2 := g2.2 k hk
  rw [← Int.emod_eq_of_lt b1.1 b1.2, ← Int.emod_eq_of_lt b2.1 b2.2, sign_emod hk, prodT_nth hp hk, prodT_nth hp hk, Int.emod_emod, Int.mul_emod, Int.emod_emod, ← Int.mul_emod, ← sumN_mul, ← sumN_xor hd hk]
  refine sumN_emod fun i hi => ?_
  have hki := Nat.xor_lt_two_pow hk hi
  have x1 : k ^^^ i ^^^ k = i := by rw [Nat.xor_comm k i, Nat.xor_assoc, Nat.xor_self, Nat.xor_zero]
  rw [x1]
  have x2 : i ^^^ k = k ^^^ i := Nat.xor_comm _ _
  have hf := facZ_rev (qs := qs) hd hki hi
  rw [show k ^^^ i ^^^ i = k by rw [Nat.xor_assoc, Nat.xor_self, Nat.xor_zero]] at hf
  rw [x2, show tkI tk' i (k ^^^ i) = tkI tk (k ^^^ i) i by unfold tkI; rw [ht]]
  have e : (tkI tk (k ^^^ i) i * (nth (signL p revB y (2 ^ qs.length)) i * nth (signL p revB x (2 ^ qs.length)) (k ^^^ i) * facZ qs i (k ^^^ i) qs.length)) % p =
      (tkI tk (k ^^^ i) i * ((rvS i * nth y i) * (rvS (k ^^^ i) * nth x (k ^^^ i)) * facZ qs i (k ^^^ i) qs.length)) % p :=
    mul_emod_congr rfl (mul_emod_congr (mul_emod_congr (sign_emod hi) (sign_emod hki)) rfl)
  rw [e]
  congr 1
  rw [show tkI tk (k ^^^ i) i * ((rvS i * nth y i) * (rvS (k ^^^ i) * nth x (k ^^^ i)) * facZ qs i (k ^^^ i) qs.length) = tkI tk (k ^^^ i) i * nth x (k ^^^ i) * nth y i * (facZ qs i (k ^^^ i) qs.length * (rvS (k ^^^ i) * rvS i)) by ac_rfl, hf]
  ac_rfl

/-! ### The pseudoscalar -/
theorem topL_len (d : Nat) (k : Int) : (topL d k).length = 2 ^ d := by simp [topL]
theorem topL_nth {d i : Nat} {k : Int} (hi : i < 2 ^ d) : nth (topL d k) i = if i = 2 ^ d - 1 then k else 0 := by
  have := pow_pos' d
  unfold topL
  rw [nth_set (by simp; omega), nth_replicate hi]
  by_cases h : 2 ^ d - 1 = i
  · rw [if_pos h, if_pos h.symm]
  · rw [if_neg h, if_neg (Ne.symm h)]
theorem and_full {d i : Nat} (hi : i < 2 ^ d) : i &&& (2 ^ d - 1) = i := by
  rw [Nat.and_two_pow_sub_one_eq_mod, Nat.mod_eq_of_lt hi]
/-- The left contraction into a multiple of the pseudoscalar is the geometric product. -/
theorem left_top {p k : Int} {qs x : List Int} (hp : 1 ≤ p) : prodL p qs tkL x (topL qs.length k) = prodL p qs tkA x (topL qs.length k) := by
  refine ext_nth (by rw [(prod_good hp).1, (prod_good hp).1]) fun i hi => ?_
  rw [(prod_good hp).1] at hi
  rw [prodT_nth hp hi, prodT_nth hp hi]
  congr 1
  refine sumN_congr fun j hj => ?_
  have hji := Nat.xor_lt_two_pow hj hi
  rw [topL_nth hji]
  by_cases h : j ^^^ i = 2 ^ qs.length - 1
  · rw [h]
    have : tkI tkL j (2 ^ qs.length - 1) = tkI tkA j (2 ^ qs.length - 1) := by
      unfold tkI tkL tkA
      rw [and_full hj]; simp
    rw [this]
  · rw [if_neg h]; simp
theorem top_top {p j k : Int} {qs : List Int} (hp : 3 ≤ p) (hd : qs.length ≤ 6) (h : (j * k * sqFull p qs) % p = 1) : prodL p qs tkA (topL qs.length j) (topL qs.length k) = bladeL (2 ^ qs.length) 0 := by
  have hN := pow_pos' qs.length
  refine ext_nth (by rw [(prod_good (by omega)).1, bladeL_len]) fun i hi => ?_
  rw [(prod_good (by omega)).1] at hi
  rw [bladeL_nth (by omega) hi, prodA_nth (by omega) hi, sumN_single (k := 2 ^ qs.length - 1) (by omega) (fun m hm hne => by rw [topL_nth hm, if_neg hne]; simp)]
  rw [topL_nth (by omega), if_pos rfl, topL_nth (Nat.xor_lt_two_pow (by omega) hi)]
  by_cases h0 : 0 = i
  · subst h0
    rw [Nat.xor_zero, if_pos rfl, if_pos rfl, ← h, sqFull_eq hp hd]
    exact mul_emod_congr rfl (fac_emod.symm)
  · rw [if_neg h0, if_neg (fun e => h0 (by
      have := xor_eq_iff.1 e
      rw [Nat.xor_self] at this; exact this.symm))]
    simp
/-- The undual of the dual. -/
theorem undual_dual {p : Int} {qs x : List Int} (hp : primeB p = true) (hq : isB p qs = true) (hd : qs.length ≤ 6) (hr : regB qs = true) (hx : Good p (2 ^ qs.length) x) :
    prodL p qs tkL (dualL p qs x) (fullL qs.length) = x := by
  have hpb := prime_bd hp
  have hb := sqFull_bd (p := p) (qs := qs) (by omega)
  have hne := sqFull_ne hp hq hd hr
  have hi := (inv_spec hp (show 0 < sqFull p qs by omega) hb.2).2.1
  unfold dualL
  rw [← topL_one, left_top (by omega), left_top (by omega), prod_assoc (by omega) hd, top_top (by omega) hd (by rw [Int.mul_one, Int.mul_comm]; exact hi), times_one (by omega) hx]
theorem dual_undual {p : Int} {qs x : List Int} (hp : primeB p = true) (hq : isB p qs = true) (hd : qs.length ≤ 6) (hr : regB qs = true) (hx : Good p (2 ^ qs.length) x) :
    dualL p qs (prodL p qs tkL x (fullL qs.length)) = x := by
  have hpb := prime_bd hp
  have hb := sqFull_bd (p := p) (qs := qs) (by omega)
  have hne := sqFull_ne hp hq hd hr
  have hi := (inv_spec hp (show 0 < sqFull p qs by omega) hb.2).2.1
  unfold dualL
  rw [← topL_one, left_top (by omega), left_top (by omega), prod_assoc (by omega) hd, top_top (by omega) hd (by rw [Int.one_mul, Int.mul_comm]; exact hi), times_one (by omega) hx]

end Go.Proofs.Ytnbhlabcecdbgaa

/-
  Vectors in products, and matrices of multiplications, in plain numbers.
  No condition. No program in sight.
-/
namespace Go.Proofs.Ytnbhlabcecdbgaa
set_option maxRecDepth 100000
open Go.RowKit

theorem vecS_nth {N d : Nat} {v : List Int} (hN : N = 2 ^ d) : ∀ k, k ≤ d → ∀ m, m < N → (∀ i, i < k → m = 2 ^ i → nth (vecS N v k) m = nth v i) ∧ ((∀ i, i < k → m ≠ 2 ^ i) → nth (vecS N v k) m = 0)
  | 0, _, m, hm => ⟨fun i hi => absurd hi (Nat.not_lt_zero _), fun _ => nth_replicate hm⟩
  | k + 1, hk, m, hm => by
    obtain ⟨h1, h2⟩ := vecS_nth hN k (by omega) m hm (v := v)
    have hl : (vecS N v k).length = N := by
      have : ∀ j, (vecS N v j).length = N := fun j => by
        induction j with
        | zero => simp [vecS]
        | succ j ih => simp [vecS, ih]
      exact this k
    have hkN : 2 ^ k < N := by rw [hN]; exact Nat.pow_lt_pow_right (by omega) (by omega)
    unfold vecS
    rw [nth_set (by rw [hl]; exact hkN)]
    constructor
    · intro i hi he
      by_cases hik : i = k
      · subst hik; rw [if_pos he.symm]
      · have : ¬ 2 ^ k = m := fun h => by have : 2 ^ i < 2 ^ k := Nat.pow_lt_pow_right (by omega) (by omega); omega
        rw [if_neg this]; exact h1 i (by omega) he
    · intro h
      rw [if_neg (fun e => h k (by omega) e.symm)]
      exact h2 fun i hi => h i (by omega)
theorem vec_bit {d i : Nat} {v : List Int} (hv : v.length = d) (hi : i < d) : nth (vecL (2 ^ d) v) (2 ^ i) = nth v i := by
  unfold vecL
  exact (vecS_nth rfl v.length (by omega) (2 ^ i) (Nat.pow_lt_pow_right (by omega) (by omega))).1 i (by omega) rfl
theorem vec_no {d m : Nat} {v : List Int} (hv : v.length = d) (hm : m < 2 ^ d) (h : ∀ i, i < d → m ≠ 2 ^ i) : nth (vecL (2 ^ d) v) m = 0 := by
  unfold vecL
  exact (vecS_nth rfl v.length (by omega) m hm).2 fun i hi => h i (by omega)
/-- A sum over blades with a vector is a sum over its numbers. -/
theorem sum_bits (g : Nat → Int) : ∀ d, (∀ m, m < 2 ^ d → (∀ i, i < d → m ≠ 2 ^ i) → g m = 0) → sumN (2 ^ d) g = sumN d fun i => g (2 ^ i)
  | 0, h => by
    show sumN 0 g + g 0 = 0
    rw [h 0 (by decide) (fun i hi => absurd hi (Nat.not_lt_zero _))]; rfl
  | d + 1, h => by
    have split : ∀ n m, sumN (n + m) g = sumN n g + sumN m fun i => g (n + i) := fun n m => by
      induction m with
      | zero => simp [sumN]
      | succ m ih => rw [← Nat.add_assoc]; simp only [sumN]; rw [ih, Int.add_assoc]
    have hpos : 0 < 2 ^ d := Nat.pos_of_ne_zero (by simp)
    rw [Nat.pow_succ, Nat.mul_two, split]
    have h1 : sumN (2 ^ d) g = sumN d fun i => g (2 ^ i) := sum_bits g d fun m hm hno => h m (by rw [Nat.pow_succ]; omega) fun i hi => by
      by_cases hid : i = d
      · subst hid; omega
      · exact hno i (by omega)
    rw [h1, sumN_single (k := 0) hpos (fun m hm hne => h (2 ^ d + m) (by rw [Nat.pow_succ]; omega) fun i hi => by
      by_cases hid : i = d
      · subst hid; omega
      · have : 2 ^ i < 2 ^ d := Nat.pow_lt_pow_right (by omega) (by omega)
        omega)]
    rfl
theorem sum_vec {d : Nat} {v : List Int} (hv : v.length = d) (g : Nat → Int) : sumN (2 ^ d) (fun m => nth (vecL (2 ^ d) v) m * g m) = sumN d fun i => nth v i * g (2 ^ i) := by
  rw [sum_bits _ d fun m hm hno => by rw [vec_no hv hm hno, Int.zero_mul]]
  exact sumN_congr fun i hi => by rw [vec_bit hv hi]

/-- The product of two vectors of a space. -/
def pairZ (qs v w : List Int) : Int := sumN qs.length fun i => nth v i * nth w i * nth qs i
theorem sgS_bits (i j : Nat) (hi : i < 6) (hj : j < 6) : (i ≠ j → sgS (2 ^ i) (2 ^ j) 6 = - sgS (2 ^ j) (2 ^ i) 6) ∧ sgS (2 ^ i) (2 ^ i) 6 = 1 := by
  have : ∀ i : Nat, i < 6 → ∀ j : Nat, j < 6 → (i ≠ j → sgS (2 ^ i) (2 ^ j) 6 = - sgS (2 ^ j) (2 ^ i) 6) ∧ sgS (2 ^ i) (2 ^ i) 6 = 1 := by decide +kernel
  exact this i hi j hj
theorem sqS_one (qs : List Int) {a b : Nat} : ∀ k, (∀ i, i < k → (a.testBit i && b.testBit i) = false) → sqS qs a b k = 1
  | 0, _ => rfl
  | k + 1, h => by
    rw [sqS, sqS_one qs k fun i hi => h i (by omega), h k (by omega)]; rfl
theorem sqS_bit (qs : List Int) {i : Nat} : ∀ k, sqS qs (2 ^ i) (2 ^ i) k = if i < k then nth qs i else 1
  | 0 => rfl
  | k + 1 => by
    rw [sqS, sqS_bit qs k, Nat.testBit_two_pow]
    by_cases hik : i = k
    · subst hik; simp
    · have : ¬ (i = k) := hik
      simp only [this, decide_false, Bool.and_false, Bool.false_eq_true, if_false, Int.mul_one]
      by_cases h : i < k
      · rw [if_pos h, if_pos (by omega)]
      · rw [if_neg h, if_neg (by omega)]
theorem facZ_bits {qs : List Int} {i j : Nat} (hd : qs.length ≤ 6) (hi : i < qs.length) (hj : j < qs.length) : (i ≠ j → facZ qs (2 ^ i) (2 ^ j) qs.length = - facZ qs (2 ^ j) (2 ^ i) qs.length) ∧ facZ qs (2 ^ i) (2 ^ i) qs.length = nth qs i := by
  obtain ⟨h1, h2⟩ := sgS_bits i j (by omega) (by omega)
  have lt : ∀ i, i < qs.length → (2 : Nat) ^ i < 2 ^ qs.length := fun i hi => Nat.pow_lt_pow_right (by omega) hi
  have e1 := sgS_rest (a := 2 ^ i) (lt j hj) (6 - qs.length)
  have e2 := sgS_rest (a := 2 ^ j) (lt i hi) (6 - qs.length)
  have e3 := sgS_rest (a := 2 ^ i) (lt i hi) (6 - qs.length)
  rw [Nat.add_sub_cancel' hd] at e1 e2 e3
  rw [facZ_parts, facZ_parts, facZ_parts, ← e1, ← e2, ← e3, h2, sqS_bit, if_pos hi, Int.one_mul]
  refine ⟨fun hne => ?_, rfl⟩
  rw [h1 hne, sqS_comm qs (2 ^ j)]
  exact Int.neg_mul _ _
/-- v w + w v -/
theorem vec_anti {p : Int} {qs v w : List Int} (hp : 1 ≤ p) (hd : qs.length ≤ 6) (hv : v.length = qs.length) (hw : w.length = qs.length) :
    plusL p (prodL p qs tkA (vecL (2 ^ qs.length) v) (vecL (2 ^ qs.length) w)) (prodL p qs tkA (vecL (2 ^ qs.length) w) (vecL (2 ^ qs.length) v)) 1 (2 ^ qs.length) = (List.replicate (2 ^ qs.length) 0).set 0 ((2 * pairZ qs v w) % p) := by
  have hN := pow_pos' qs.length
  refine ext_nth (by rw [plusL_len]; simp) fun k hk => ?_
  rw [plusL_len] at hk
  rw [plusL_nth hk, plusN, prodA_nth hp hk, prodA_nth hp hk, Int.one_mul, Int.emod_add_emod, Int.add_emod_emod, nth_set (by simp; omega), nth_replicate hk]
  have e : ∀ x y : List Int, sumN (2 ^ qs.length) (fun i => nth (vecL (2 ^ qs.length) x) i * nth (vecL (2 ^ qs.length) y) (i ^^^ k) * facZ qs i (i ^^^ k) qs.length) = sumN (2 ^ qs.length) (fun i => nth (vecL (2 ^ qs.length) x) i * (nth (vecL (2 ^ qs.length) y) (i ^^^ k) * facZ qs i (i ^^^ k) qs.length)) := fun x y => sumN_congr fun i _ => Int.mul_assoc _ _ _
  have lt : ∀ i, i < qs.length → (2 : Nat) ^ i < 2 ^ qs.length := fun i hi => Nat.pow_lt_pow_right (by omega) hi
  by_cases h0 : 0 = k
  · subst h0
    rw [if_pos rfl, e, e, sum_vec hv, sum_vec hw]
    simp only [Nat.xor_zero]
    congr 1
    unfold pairZ
    rw [← sumN_add, ← sumN_mul]
    refine sumN_congr fun i hi => ?_
    rw [vec_bit hv hi, vec_bit hw hi, (facZ_bits hd hi hi).2, Int.two_mul]
    congr 1
    · exact (Int.mul_assoc _ _ _).symm
    · ac_rfl
  · rw [if_neg h0]
    -- the second sum, blade by blade, is the first one's opposite
    rw [← sumN_xor hd hk (fun i => nth (vecL (2 ^ qs.length) w) i * nth (vecL (2 ^ qs.length) v) (i ^^^ k) * facZ qs i (i ^^^ k) qs.length), ← sumN_add]
    have : ∀ i, i < 2 ^ qs.length → nth (vecL (2 ^ qs.length) v) i * nth (vecL (2 ^ qs.length) w) (i ^^^ k) * facZ qs i (i ^^^ k) qs.length + nth (vecL (2 ^ qs.length) w) (k ^^^ i) * nth (vecL (2 ^ qs.length) v) (k ^^^ i ^^^ k) * facZ qs (k ^^^ i) (k ^^^ i ^^^ k) qs.length = 0 := fun i hi => by
      have x1 : k ^^^ i ^^^ k = i := by rw [Nat.xor_comm k i, Nat.xor_assoc, Nat.xor_self, Nat.xor_zero]
      rw [x1, Nat.xor_comm k i]
      have hik := Nat.xor_lt_two_pow hi hk
      by_cases hb : ∃ s, s < qs.length ∧ i = 2 ^ s
      · obtain ⟨s, hs, rfl⟩ := hb
        by_cases hc : ∃ t, t < qs.length ∧ 2 ^ s ^^^ k = 2 ^ t
        · obtain ⟨t, ht, hst⟩ := hc
          rw [hst]
          have hne : s ≠ t := fun h => by
            subst h
            exact h0 (by have := xor_eq_iff.1 hst; rw [Nat.xor_self] at this; exact this.symm)
          rw [(facZ_bits hd hs ht).1 hne]
          rw [Int.mul_comm (nth (vecL (2 ^ qs.length) w) _), Int.mul_neg]
          omega
        · rw [vec_no hw hik (fun t ht h => hc ⟨t, ht, h⟩)]; simp
      · rw [vec_no hv hi (fun s hs h => hb ⟨s, hs, h⟩)]; simp
    rw [sumN_zero this]; rfl

/-- The geometric product of a vector is its left contraction and its wedge product together. -/
theorem vec_prod {p : Int} {qs v y : List Int} (hp : 1 ≤ p) (hv : v.length = qs.length) :
    prodL p qs tkA (vecL (2 ^ qs.length) v) y = plusL p (prodL p qs tkL (vecL (2 ^ qs.length) v) y) (prodL p qs tkW (vecL (2 ^ qs.length) v) y) 1 (2 ^ qs.length) := by
  refine ext_nth (by rw [(prod_good hp).1, plusL_len]) fun k hk => ?_
  rw [(prod_good hp).1] at hk
  rw [plusL_nth hk, plusN, prodT_nth hp hk, prodT_nth hp hk, prodT_nth hp hk, Int.one_mul, Int.emod_add_emod, Int.add_emod_emod, ← sumN_add]
  congr 1
  refine sumN_congr fun i hi => ?_
  by_cases hb : ∃ s, s < qs.length ∧ i = 2 ^ s
  · obtain ⟨s, hs, rfl⟩ := hb
    have : tkI tkA (2 ^ s) (2 ^ s ^^^ k) = tkI tkL (2 ^ s) (2 ^ s ^^^ k) + tkI tkW (2 ^ s) (2 ^ s ^^^ k) := by
      unfold tkI
      rw [if_pos (show tkA (2 ^ s) (2 ^ s ^^^ k) = true from rfl)]
      cases hbit : (2 ^ s ^^^ k).testBit s
      · have hw : tkW (2 ^ s) (2 ^ s ^^^ k) = true := tkW_iff.2 fun i => by
          rw [Nat.testBit_two_pow]
          by_cases h : s = i
          · subst h; rw [hbit]; simp
          · simp [h]
        have hl : tkL (2 ^ s) (2 ^ s ^^^ k) = false := by
          cases h : tkL (2 ^ s) (2 ^ s ^^^ k)
          · rfl
          · have := tkL_iff.1 h s (by simp)
            rw [hbit] at this; cases this
        simp [hw, hl]
      · have hl : tkL (2 ^ s) (2 ^ s ^^^ k) = true := tkL_iff.2 fun i hi => by
          rw [Nat.testBit_two_pow] at hi
          simp only [decide_eq_true_eq] at hi
          subst hi; exact hbit
        have hw : tkW (2 ^ s) (2 ^ s ^^^ k) = false := by
          cases h : tkW (2 ^ s) (2 ^ s ^^^ k)
          · rfl
          · have := tkW_iff.1 h s
            rw [hbit] at this; simp at this
        simp [hw, hl]
    rw [this, Int.add_mul]
  · rw [vec_no hv hi (fun s hs h => hb ⟨s, hs, h⟩)]; simp
end Go.Proofs.Ytnbhlabcecdbgaa

/-
  The law FnVectorSquares returns true.
  No condition.
-/
namespace Go.Proofs.Ytnbhlabcecdbgaa
set_option maxRecDepth 100000
open Go.RowKit

theorem dotS_sum (x y : List Int) : ∀ n, dotS x y n = sumN n fun i => nth x i * nth y i
  | 0 => rfl
  | n + 1 => by rw [dotS, sumN, dotS_sum x y n]
theorem pairL_Z {p : Int} {qs v w : List Int} : pairL p qs v w qs.length = pairZ qs v w % p := by
  unfold pairL dotL pairZ
  rw [dotS_sum]
  refine sumN_emod fun i hi => ?_
  rw [wtL_nth hi, wtN, Int.mul_emod, Int.emod_emod, ← Int.mul_emod]
  congr 1
  ac_rfl
theorem half_mod {p a n : Int} (hp : primeB p = true) (h0 : 0 ≤ a) (h1 : a < p) (h : (a + a) % p = (2 * n) % p) : a = n % p := by
  simp only [primeB, Bool.or_eq_true, beq_iff_eq] at hp
  rcases hp with (((rfl | rfl) | rfl) | rfl) | rfl <;> omega
theorem vec_sym {p : Int} {qs v w : List Int} (hp : 1 ≤ p) (hd : qs.length ≤ 6) (hv : v.length = qs.length) (hw : w.length = qs.length) :
    plusL p (prodL p qs tkA (vecL (2 ^ qs.length) v) (vecL (2 ^ qs.length) w)) (prodL p qs tkA (vecL (2 ^ qs.length) w) (vecL (2 ^ qs.length) v)) 1 (2 ^ qs.length) = (List.replicate (2 ^ qs.length) 0).set 0 ((2 * pairL p qs v w qs.length) % p) := by
  rw [vec_anti hp hd hv hw, pairL_Z, Int.mul_emod 2 (pairZ qs v w % p), Int.emod_emod, ← Int.mul_emod]
theorem vec_square {p : Int} {qs v : List Int} (hp : primeB p = true) (hd : qs.length ≤ 6) (hv : v.length = qs.length) :
    prodL p qs tkA (vecL (2 ^ qs.length) v) (vecL (2 ^ qs.length) v) = (List.replicate (2 ^ qs.length) 0).set 0 (pairL p qs v v qs.length) := by
  have hp1 := (prime_bd hp).1
  have h := vec_anti (p := p) (by omega) hd hv hv
  have hg : Good p (2 ^ qs.length) (prodL p qs tkA (vecL (2 ^ qs.length) v) (vecL (2 ^ qs.length) v)) := prod_good (by omega)
  refine ext_nth (by rw [hg.1]; simp) fun k hk => ?_
  rw [hg.1] at hk
  have hk1 := congrArg (fun l => nth l k) h
  have hN := pow_pos' qs.length
  rw [plusL_nth hk, plusN, Int.one_mul, nth_set (by simp; omega), nth_replicate hk] at hk1
  rw [nth_set (by simp; omega), nth_replicate hk]
  have hb := hg.2 k hk
  by_cases h0 : 0 = k
  · rw [if_pos h0] at hk1 ⊢
    rw [pairL_Z]
    exact half_mod hp hb.1 hb.2 hk1
  · rw [if_neg h0] at hk1 ⊢
    have := half_mod (n := 0) hp hb.1 hb.2 (by rw [hk1]; simp)
    simpa using this

end Go.Proofs.Ytnbhlabcecdbgaa

/-
  The listed function PowerOf.
  No condition.
-/
namespace Go.Proofs.Ytnbhlabcecdbgaa
set_option maxRecDepth 100000
open Go.RowKit

def codeP (p : Int) (qs : List Int) (rows : List (List Int)) (v : Int) : Int := if codeM p qs rows = 0 then (if inB v 0 100 = true then 0 else 2) else codeM p qs rows
theorem codeP_zero {p : Int} {qs : List Int} {rows : List (List Int)} {v : Int} (h : codeP p qs rows v = 0) : codeM p qs rows = 0 ∧ inB v 0 100 = true := by
  unfold codeP at h
  split at h
  · rename_i hm
    split at h
    · rename_i hr; exact ⟨hm, hr⟩
    · omega
  · rename_i hm; exact absurd h hm
theorem pow_odd {u t k K : Nat} (h : u + t * k = K) (ho : k % 2 = 1) : u + t + (t + t) * (k / 2) = K := by
  obtain ⟨m, hm⟩ : ∃ m, k = 2 * m + 1 := ⟨k / 2, by omega⟩
  subst hm
  rw [show (2 * m + 1) / 2 = m by omega, Nat.add_mul, ← h, Nat.mul_add, Nat.mul_one, Nat.mul_left_comm]
  omega
theorem pow_even {u t k K : Nat} (h : u + t * k = K) (ho : ¬ k % 2 = 1) : u + (t + t) * (k / 2) = K := by
  obtain ⟨m, hm⟩ : ∃ m, k = 2 * m := ⟨k / 2, by omega⟩
  subst hm
  rw [show 2 * m / 2 = m by omega, Nat.add_mul, ← h, Nat.mul_left_comm]
  omega
theorem in_bd {v l h : Int} (hh : inB v l h = true) : l ≤ v ∧ v ≤ h := by simpa [inB] using hh





end Go.Proofs.Ytnbhlabcecdbgaa

/-
  The law FnGeometricProducts returns true.
  No condition.
-/
namespace Go.Proofs.Ytnbhlabcecdbgaa
set_option maxRecDepth 100000
open Go.RowKit

theorem sum_comm0 {p : Int} {qs x y : List Int} (hp : 1 ≤ p) : nth (prodL p qs tkA x y) 0 = nth (prodL p qs tkA y x) 0 := by
  have h0 : 0 < 2 ^ qs.length := pow_pos' _
  rw [prodA_nth hp h0, prodA_nth hp h0]
  congr 1
  refine sumN_congr fun i _ => ?_
  rw [Nat.xor_zero]
  congr 1
  exact Int.mul_comm _ _
theorem codeM_of2 {p : Int} {qs x y : List Int} (h : codeM p qs [x, y] = 0) : spaceB p qs = true ∧ Good p (2 ^ qs.length) x ∧ Good p (2 ^ qs.length) y := by
  obtain ⟨h1, h2, h3⟩ := codeM_two h
  exact ⟨h1, good_isB (multi_of h2).1 (multi_of h2).2, good_isB (multi_of h3).1 (multi_of h3).2⟩

end Go.Proofs.Ytnbhlabcecdbgaa

/-
  append of a row to rows that may be the empty ones made at the start.
  No condition.
-/
namespace Go.Proofs.Ytnbhlabcecdbgaa
set_option maxRecDepth 100000
open Go.RowKit

/-- Rows of the call's own, as a value. -/
def SPred.ownR (B n : Nat) (rows : List (List Int)) : SPred := ⟨fun v w => ∃ g cap, v = .slice (some ⟨g, 0, none⟩) n cap ∧ OwnR B w (some ⟨g, 0, none⟩) n cap rows, fun _ _ _ ⟨g, cap, hv, h⟩ he => ⟨g, cap, hv, h.ext he⟩⟩
/-- Rows of the call's own from block B on, or the empty rows that were made at the start. -/
def OwnW (B : Nat) (w : World) (a : Option Addr) (n cap : Nat) (rows : List (List Int)) : Prop :=
  (n = 0 ∧ cap = 0 ∧ rows = [] ∧ ∃ g, a = some ⟨g, 0, none⟩) ∨ OwnR B w a n cap rows
theorem OwnW.start (B g : Nat) (w : World) : OwnW B w (some ⟨g, 0, none⟩) 0 0 [] := .inl ⟨rfl, rfl, rfl, g, rfl⟩
theorem OwnW.strong {B : Nat} {w : World} {a : Option Addr} {n cap : Nat} {rows : List (List Int)} (h : OwnW B w a n cap rows) (hn : 0 < n) : OwnR B w a n cap rows := by
  rcases h with ⟨h, _⟩ | h
  · omega
  · exact h
theorem OwnW.rd {B : Nat} {w : World} {a : Option Addr} {n cap : Nat} {rows : List (List Int)} (h : OwnW B w a n cap rows) : RdR w a n rows := by
  rcases h with ⟨rfl, _, rfl, _⟩ | h
  · exact ⟨rfl, fun i hi => by omega⟩
  · exact h.rd
theorem OwnW.len {B : Nat} {w : World} {a : Option Addr} {n cap : Nat} {rows : List (List Int)} (h : OwnW B w a n cap rows) : rows.length = n := by
  rcases h with ⟨rfl, _, rfl, _⟩ | h
  · rfl
  · exact h.1
/-- The rows of a call that began in a world whose blocks are all below. -/
theorem OwnW.own {B B' : Nat} {w : World} {a : Option Addr} {n cap : Nat} {rows : List (List Int)} (h : OwnW B w a n cap rows) (hb : B' ≤ B) (h0 : OwnR B' w a 0 0 [] ∨ 0 < n) : OwnR B' w a n cap rows := by
  rcases h with ⟨rfl, rfl, rfl, _⟩ | h
  · rcases h0 with h0 | h0
    · exact h0
    · omega
  · exact h.mono hb

theorem append_empty (w : World) (b : Addr) (t : Addr) (v : Value) (c : Nat) (ty : TypeId) (hc : w.cell? (t.add 0) = some v) :
    (Builtin.append_ #[37, 37] ty #[.slice (some b) 0 0, .slice (some t) 1 c]).run Try.prog w =
    (Builtin.append_ #[37, 37] ty #[.slice none 0 0, .slice (some t) 1 c]).run Try.prog w := by
  obtain ⟨i0, hi, hz0, hz1, hz2⟩ := info_parts Try.infoR
  have hn : ∀ j u, [v][j]? = some u → w.cell? (t.add j) = some u := fun j u hj => by
    cases j with
    | zero => simp only [List.getElem?_cons_zero, Option.some.injEq] at hj; subst hj; exact hc
    | succ j => simp at hj
  have e : Builtin.nextslicecap (0 + 1) 0 * i0.bytes ≤ 281474976710656 := by
    rw [hz2]; decide
  rw [run_append_grow (P := Try.prog) w 37 ty 24 i0 (.slice none 0 0) Try.underlying37 hi hz0 b 0 0 [] (by simp) (fun j u hj => by simp at hj) t 1 c [v] (by simp [hz1]) hn (by omega) (by omega) e,
    run_append_nil (P := Try.prog) w 37 ty 24 i0 (.slice none 0 0) Try.underlying37 hi hz0 t 1 c [v] (by simp [hz1]) hn (by omega) (by omega) (by rw [hz2]; omega)]
  simp

theorem run_pushRW {B : Nat} {w0 w : World} {ra : Option Addr} {n cap : Nat} {rows : List (List Int)} {b : Option Addr} {m c : Nat} {xs : List Int} {g : Nat} (hown : OwnW B w0 ra n cap rows) (he : Ext w0 w) (hc : w.cell? ⟨g, 0, none⟩ = some (.slice b m c)) (hx : OwnC w0.heap.size w b m c xs) (hn : n ≤ 4194304) (hB : B ≤ w0.heap.size) (ty : TypeId) :
    ∃ g' cap' w', (Builtin.append_ #[37, 37] ty #[.slice ra n cap, .slice (some ⟨g, 0, none⟩) 1 1]).run Try.prog w = .ok (.slice (some ⟨g', 0, none⟩) (n + 1) cap') w' ∧
      OwnR B w' (some ⟨g', 0, none⟩) (n + 1) cap' (rows ++ [xs]) ∧ (∀ W : World, W.heap.size ≤ B → Ext W w → Ext W w') := by
  rcases hown with ⟨rfl, rfl, rfl, g0, rfl⟩ | hown
  · obtain ⟨g', cap', w', h1, h2, _, h4⟩ := run_pushR (OwnR.nil B w0) he hc hx hn hB ty
    exact ⟨g', cap', w', by rw [append_empty w _ _ (.slice b m c) 1 ty (by simpa [Addr.add] using hc)]; exact h1, h2, h4⟩
  · obtain ⟨g', cap', w', h1, h2, _, h4⟩ := run_pushR hown he hc hx hn hB ty
    exact ⟨g', cap', w', h1, h2, h4⟩

theorem wpList_pushRW {ops : Array Oper} {rest : List Oper} {o : Oper} {a : Act} {Q : Exit → Act → World → Prop} {w0 w : World} (hgd : o.guard = none) (s x : Operand)
    (ho : o.op = .call { callee := .builtin .append, args := #[s, x], argTypes := #[37, 37] })
    {B : Nat} {ra : Option Addr} {n cap : Nat} {rows : List (List Int)} {b : Option Addr} {m c : Nat} {xs : List Int} {g : Nat} (hs : a.eval s = .slice ra n cap) (hx : a.eval x = .slice (some ⟨g, 0, none⟩) 1 1)
    (hown : OwnW B w0 ra n cap rows) (he : Ext w0 w) (hxs : OwnC w0.heap.size w b m c xs) (hc : w.cell? ⟨g, 0, none⟩ = some (.slice b m c)) (hn : n ≤ 4194304) (hB : B ≤ w0.heap.size)
    (h : ∀ g' cap' w', OwnR B w' (some ⟨g', 0, none⟩) (n + 1) cap' (rows ++ [xs]) → (∀ W : World, W.heap.size ≤ B → Ext W w → Ext W w') →
      wpList Try.prog ops Q rest (a.put o.dst (.slice (some ⟨g', 0, none⟩) (n + 1) cap')) w') : wpList Try.prog ops Q (o :: rest) a w := by
  refine wpList_plain hgd fun K hK => ?_
  obtain ⟨g', cap', w', hr, h1, h3⟩ := run_pushRW hown he hc hxs hn hB o.type
  unfold Oper.wp execOp
  simp only [ho, resolve, invoke, builtin, Sem.run_bind, Sem.run_pure, Result.andThen_ok, List.map_toArray, List.map_cons, List.map_nil, hs, hx, hr]
  exact hK _ _ (h g' cap' w' h1 h3)

end Go.Proofs.Ytnbhlabcecdbgaa

/-
  Draws of lists of vectors.
  No condition.
-/
namespace Go.Proofs.Ytnbhlabcecdbgaa
set_option maxRecDepth 100000
open Go.RowKit

/-! ### Rows under draws -/
theorem ownsRow_keep {B : Nat} {w w' : World} {e : TypeId} {v : Value} {n : Nat} {vs : List Value} (h : w.ownsRow B e 1 v n vs) (hk : ∀ k, B ≤ k → k < w.heap.size → w'.heap[k]? = w.heap[k]?) : w'.ownsRow B e 1 v n vs := by
  have hlt := h.lt
  obtain ⟨h2, h3⟩ := h
  refine ⟨h2, ?_⟩
  rcases h3 with h3 | ⟨g, c, cur, hv, hb, hh, h5⟩
  · exact .inl h3
  · refine .inr ⟨g, c, cur, hv, hb, ?_, h5⟩
    have hg := hlt g (by rw [hv]; rfl)
    rw [hk g hg.1 hg.2]; exact hh
theorem OwnR.keepB {B : Nat} {w w' : World} {a : Option Addr} {n cap : Nat} {rows : List (List Int)} (h : OwnR B w a n cap rows) (hk : ∀ k, B ≤ k → k < w.heap.size → w'.heap[k]? = w.heap[k]?) : OwnR B w' a n cap rows := by
  obtain ⟨h1, vs, h2, h3, h4⟩ := h
  refine ⟨h1, vs, ownsRow_keep h2 hk, h3, fun i hi => ?_⟩
  obtain ⟨ai, ci, h5, h6⟩ := h4 i hi
  exact ⟨ai, ci, h5, h6.keep fun g hg => by have := h6.base_of g hg; exact hk g this.1 this.2⟩
theorem Drw.ownR {S : SrcP} {B : Nat} {w w' : World} {a : Option Addr} {n cap : Nat} {rows : List (List Int)} (h : Drw S w w') (ho : OwnR B w a n cap rows) (hB : S.g < B) : OwnR B w' a n cap rows :=
  ho.keepB fun k hk hl => h.block k hl (by omega)
/-- The world's first blocks. -/
def cutW (w : World) (n : Nat) : World := { w with heap := w.heap.extract 0 n }
theorem cutW_size {w : World} {n : Nat} (h : n ≤ w.heap.size) : (cutW w n).heap.size = n := by simp [cutW]; omega
theorem cutW_get {w : World} {n k : Nat} (h : k < n) : (cutW w n).heap[k]? = w.heap[k]? := by
  simp only [cutW, Array.getElem?_extract]
  by_cases hk : k < w.heap.size
  · rw [if_pos (by omega), Nat.zero_add]
  · rw [if_neg (by omega), Array.getElem?_eq_none (by omega)]
theorem cutW_ext {w : World} {n : Nat} (h : n ≤ w.heap.size) : Ext (cutW w n) w := by
  have hs := cutW_size h
  exact ⟨rfl, rfl, rfl, by rw [hs]; exact h, fun k hk => by rw [hs] at hk; exact (cutW_get hk).symm⟩
/-- Rows of a world ahead of a draw, as rows of the first blocks of the world behind it. -/
theorem Drw.ownCut {S : SrcP} {B : Nat} {w w' : World} {a : Option Addr} {n cap : Nat} {rows : List (List Int)} (h : Drw S w w') (ho : OwnR B w a n cap rows) (hB : S.g < B) : OwnR B (cutW w' w.heap.size) a n cap rows :=
  ho.keepB fun k hk hl => by rw [cutW_get hl]; exact h.block k hl (by omega)

set_option maxHeartbeats 8000000 in
set_option maxRecDepth 100000 in
theorem s_drawList (S : SrcP) (p : Int) (a : Option Addr) (d cap : Nat) (most : Nat) (w : World) (hS : Src S w) (hp : p ≤ 1000000) (hd : d ≤ 100) (hm : most ≤ 16) :
    Calls Try.prog 49 #[.pointer (some ⟨S.g, 0, none⟩), .agg #[.int .i64 p, .slice a d cap], .int .i64 most] w fun e w' => ∃ b n c rows, e = .returned (.slice b n c) ∧ n ≤ 17 ∧ (∀ i, i < n → (nthR rows i).length ≤ d + 1) ∧ OwnR w.heap.size w' b n c rows ∧ Drw S w w' := by
  have HS := Lib.hid hS
  have hlt := hS.lt
  clear hS
  obtain ⟨O, hO⟩ : ∃ O, O = w.heap.size := ⟨_, rfl⟩
  obtain ⟨W, hW⟩ : ∃ W, W = w.alloc (.cells #[.int .i64 p, .slice a d cap] 26) := ⟨_, rfl⟩
  have gW : Ext w W := by rw [hW]; exact ext_alloc _ _
  have HC := Lib.hid (show SpAt W O p (.slice a d cap) by rw [hW, hO]; exact ⟨by simp, by simp, by simp, by simp⟩)
  have hgO : O ≠ S.g := by omega
  have HZ := Lib.hid (show W.heap.size = w.heap.size + 1 by rw [hW]; simp)
  have HW := Lib.hid hW
  have HOO := Lib.hid hO
  have G := Lib.hid (Drw.of_ext (S := S) gW)
  clear gW hW
  go_enter Try.func49, Try.ntmps49
  have c0 := HC.out.c0
  have c1 := HC.out.c1
  go_wp2_with (fail)
  rw [← HOO.out, ← HW.out]
  clear c0 c1 hO
  have hww : w.heap.size + 1 = W.heap.size := HZ.out.symm
  have RW := Lib.hid (show OwnR (O + 1) (W.alloc (.cells #[] 24)) (some ⟨O + 1, 0, none⟩) 0 0 [] by
    have h := ownR_empty W
    rw [HZ.out, ← HOO.out] at h
    exact h)
  have G1 := Lib.hid (G.out.alloc (.cells #[] 24))
  have HC1 := Lib.hid (HC.out.ext (ext_alloc W (.cells #[] 24)))
  obtain ⟨V, hV⟩ : ∃ V, V = W.alloc (.cells #[] 24) := ⟨_, rfl⟩
  rw [← hV] at RW G1 HC1
  have HV := Lib.hid hV
  clear hV HC G
  have hlO : S.g < O + 1 := by have := HOO.out; omega
  have hwO : w.heap.size ≤ O := by have := HOO.out; omega
  go_wp2_with (fail)
  rw [← HV.out]
  refine Calls.mono (s_next S (most + 1) V (G1.out.src HS.out) (by omega)) ?_
  rintro e v1 ⟨r, rfl, hr, g1⟩
  obtain ⟨k, rfl⟩ : ∃ k : Nat, r = (k : Int) := ⟨r.toNat, by have := hr.2 (by omega); omega⟩
  have hk : k ≤ most := by have := hr.2 (by omega); omega
  have R1 := Lib.hid (g1.ownR RW.out hlO)
  have HC2 := Lib.hid (HC1.out.drw g1 hgO)
  have G2 := Lib.hid (G1.out.trans g1)
  clear RW HC1 G1 g1 hr HV
  go_wp2_with (fail)
  go_loopw [7, 8] (fun o i wr => ∃ (n j : Nat) (b : Option Addr) (c : Nat) (rows : List (List Int)), n + j ≤ most ∧ i = .int .i64 j ∧ o = .slice b n c ∧ Hid (∀ i, i < n → (nthR rows i).length ≤ d + 1) ∧ Hid (OwnR (O + 1) wr b n c rows) ∧ Hid (SpAt wr O p (.slice a d cap)) ∧ Hid (Drw S w wr)) (fun _ i _ => (intOf i).toNat)
  case atStart => exact ⟨0, k, _, _, _, by omega, rfl, rfl, Lib.hid (fun i hi => absurd hi (Nat.not_lt_zero _)), R1, HC2, G2⟩
  case round =>
    clear R1 HC2 G2
    obtain ⟨n, j, b, c, rows, hnj, rfl, rfl, HL, HR, HC, G⟩ := hrel
    by_cases hj : 0 < j
    · obtain ⟨t, rfl⟩ : ∃ t, j = t + 1 := ⟨j - 1, by omega⟩
      have c0 := HC.out.c0
      have c1 := HC.out.c1
      go_wp2_with (fail)
      clear c0 c1
      refine Calls.mono (s_drawVec S p a d cap wr (G.out.src HS.out) hp hd) ?_
      rintro e v2 ⟨a2, cap2, m2, xs2, rfl, hm2, ho2, g2⟩
      have HX := Lib.hid (show OwnC (cutW v2 wr.heap.size).heap.size v2 a2 m2 cap2 xs2 by rw [cutW_size g2.size]; exact ho2)
      have GG := Lib.hid g2
      have HCL := HC.out.lt
      have HC3 := Lib.hid (HC.out.drw g2 hgO)
      have G3 := Lib.hid (G.out.trans g2)
      clear ho2 g2 HC
      go_wp2_with (at_builtin; refine wpList_pushR rfl (.tmp 18) (.tmp 22) rfl rfl rfl (w0 := cutW v2 wr.heap.size) (GG.out.ownCut HR.out hlO) ((cutW_ext GG.out.size).trans (ext_alloc _ _)) (HX.out.ext (ext_alloc _ _)) ?hc ?hn ?hB ?hk)
      case hc => simp
      case hn => omega
      case hB => rw [cutW_size GG.out.size]; exact HCL
      case hk =>
        intro g' cap' w3 ho3 hg3 _
        have HR3 := Lib.hid ho3
        have G4 := Lib.hid ((G3.out.alloc _).grown hg3 (fun k hk => by have := HR.out.blk k hk; omega))
        have HL4 := Lib.hid (show ∀ i, i < n + 1 → (nthR (rows ++ [xs2]) i).length ≤ d + 1 from fun i hi => by
          have hl := HR.out.1
          by_cases hin : i < n
          · rw [nthR_snoc (by omega)]; exact HL.out i hin
          · obtain rfl : i = n := by omega
            rw [← hl, nthR_last, HX.out.1]; exact hm2)
        have HC4 := Lib.hid ((HC3.out.ext (ext_alloc _ _)).block (hg3.block O (HC3.out.ext (ext_alloc _ _)).lt (fun e => by have := HR.out.blk O e.symm; omega)))
        clear ho3 hg3 HC3 G3 HL HR HX GG
        go_wp2_with (fail)
        go_roundw
        case rel => exact ⟨n + 1, t, _, cap', _, by omega, by go_num, rfl, HL4, HR3, HC4, G4⟩
        case measure => simp [intOf]
    · obtain rfl : j = 0 := by omega
      go_wp2_with (fail)
      refine Calls.mono (s_next S 40 wr (G.out.src HS.out) (by omega)) ?_
      rintro e v2 ⟨r, rfl, _, g1⟩
      have R1 := Lib.hid (g1.ownR HR.out hlO)
      have HC2 := Lib.hid (HC.out.drw g1 hgO)
      have G2 := Lib.hid (G.out.trans g1)
      have HL2 := HL
      clear HR HC G g1 HL
      by_cases hr0 : r = 0
      · subst hr0
        go_wp2_with (fail)
        go_loopw [7] (fun o wr => ∃ (n : Nat) (b : Option Addr) (c : Nat) (rows : List (List Int)), n ≤ 17 ∧ o = .slice b n c ∧ Hid (∀ i, i < n → (nthR rows i).length ≤ d + 1) ∧ Hid (OwnR (O + 1) wr b n c rows) ∧ Hid (SpAt wr O p (.slice a d cap)) ∧ Hid (Drw S w wr)) (fun o _ => match o with | .slice _ n _ => 17 - n | _ => 0)
        case atStart => exact ⟨n, b, c, rows, by omega, rfl, HL2, R1, HC2, G2⟩
        case round =>
          clear R1 HC2 G2 HL2
          obtain ⟨n, b, c, rows, hn, rfl, HL, HR, HC, G⟩ := hrel
          by_cases h17 : n < 17
          · have c0 := HC.out.c0
            have c1 := HC.out.c1
            go_wp2_with (fail)
            obtain ⟨w9, hmk, ho9, g9⟩ := make_ints wr d (by omega)
            rw [hmk]
            have HX := Lib.hid ho9
            have GG := Lib.hid g9
            have HC3 := Lib.hid (HC.out.ext g9)
            have G3 := Lib.hid (G.out.ext g9)
            have HCL := HC.out.lt
            obtain ⟨Z, hZ⟩ : ∃ Z, Z = wr.heap.size := ⟨_, rfl⟩
            have HZZ := Lib.hid hZ
            rw [← hZ] at ho9 ⊢
            have c0 := HC3.out.c0
            have c1 := HC3.out.c1
            clear ho9 g9 hmk c0 c1 hZ
            go_wp2_with (at_builtin; refine wpList_pushR rfl (.tmp 30) (.tmp 35) rfl rfl rfl (w0 := wr) HR.out (GG.out.trans (ext_alloc _ _)) (b := some ⟨Z, 0, none⟩) (m := d) (c := d) (xs := List.replicate d 0) (by rw [HZZ.out]; exact HX.out.ext (ext_alloc _ _)) ?hc ?hn ?hB ?hk)
            case hc => simp
            case hn => omega
            case hB => exact HCL
            case hk =>
              intro g' cap' w3 ho3 hg3 _
              have HR3 := Lib.hid ho3
              have G4 := Lib.hid ((G3.out.alloc _).grown hg3 (fun k hk => by have := HR.out.blk k hk; omega))
              have HL4 := Lib.hid (show ∀ i, i < n + 1 → (nthR (rows ++ [List.replicate d 0]) i).length ≤ d + 1 from fun i hi => by
                have hl := HR.out.1
                by_cases hin : i < n
                · rw [nthR_snoc (by omega)]; exact HL.out i hin
                · obtain rfl : i = n := by omega
                  rw [← hl, nthR_last]; simp)
              have HC4 := Lib.hid ((HC3.out.ext (ext_alloc _ _)).block (hg3.block O (HC3.out.ext (ext_alloc _ _)).lt (fun e => by have := HR.out.blk O e.symm; omega)))
              clear ho3 hg3 HC3 G3 HL HR HX GG
              go_wp2_with (fail)
              go_roundw
              case rel => exact ⟨n + 1, _, cap', _, by omega, rfl, HL4, HR3, HC4, G4⟩
              case measure => simp; omega
          · go_wp2_with (fail)
            go_ret
            exact ⟨b, n, c, rows, rfl, hn, HL.out, HR.out.mono (by omega), G.out⟩
      · have hrb : (r == 0) = false := by simp [hr0]
        go_wp2_with (fail)
        go_ret
        exact ⟨b, n, c, rows, rfl, by omega, HL2.out, R1.out.mono (by omega), G2.out⟩
end Go.Proofs.Ytnbhlabcecdbgaa

/-
  The draw of a space and a list of vectors.
  No condition.
-/
namespace Go.Proofs.Ytnbhlabcecdbgaa
set_option maxRecDepth 100000
open Go.RowKit

/-- A row of the list is written. -/
theorem OwnR.other {B : Nat} {w : World} {a : Option Addr} {n cap : Nat} {rows : List (List Int)} (h : OwnR B w a n cap rows) {q : Addr} (hq : q.block < B) (u : Value) : OwnR B (w.setCell q u) a n cap rows :=
  h.keepB fun k hk _ => Below.heap_setCell _ _ _ _ (by omega)

set_option maxHeartbeats 8000000 in
set_option maxRecDepth 100000 in
theorem s_l05Few (ca : Option Addr) (n cap : Nat) (most : Nat) (w : World) (hn : n ≤ 4096) (hmost : most ≤ 16) (hb : RdY w ca n) :
    Calls Try.prog 26 #[.slice ca n cap, .int .i64 most] w fun e w' => ∃ p a d c qs b m cb rows, e = .returned (.tuple #[.agg #[.int .i64 p, .slice a d c], .slice b m cb]) ∧ 0 ≤ p ∧ p ≤ 17 ∧ d ≤ 7 ∧ m ≤ 17 ∧ (∀ i, i < m → (nthR rows i).length ≤ 8) ∧ OwnC w.heap.size w' a d c qs ∧ OwnR w.heap.size w' b m cb rows ∧ Ext w w' := by
  obtain ⟨W, hW⟩ : ∃ W, W = w.alloc (.cells #[.int .i64 0, .slice none 0 0] 26) := ⟨_, rfl⟩
  have gW : Ext w W := by rw [hW]; exact ext_alloc _ _
  have HZ := Lib.hid (show W.heap.size = w.heap.size + 1 by rw [hW]; simp)
  have HR := Lib.hid (show SpAt W w.heap.size 0 (.slice none 0 0) by rw [hW]; exact ⟨by simp, by simp, by simp, by simp⟩)
  have HW := Lib.hid hW
  have GW := Lib.hid gW
  have HB := Lib.hid (hb.ext gW)
  clear gW hW hb
  go_enter Try.func26, Try.ntmps26
  go_wp2_with (fail)
  rw [← HW.out]
  refine Calls.mono (s_from ca n cap W hn HB.out) ?_
  rintro e w1 ⟨g, rfl, hg, hS, g1⟩
  obtain ⟨S, hSe⟩ : ∃ S : SrcP, S = ⟨g, ca, n, cap⟩ := ⟨_, rfl⟩
  obtain rfl : g = S.g := by rw [hSe]
  rw [← hSe] at hS
  have HS := Lib.hid hS
  have HR1 := Lib.hid (HR.out.ext g1)
  have G1 := Lib.hid (GW.out.trans g1)
  have hgR : w.heap.size ≠ S.g := by have := HZ.out; omega
  have hgw : w.heap.size + 1 ≤ S.g := by have := HZ.out; omega
  have hlt := hS.lt
  clear hg hS g1 hSe HR
  go_wp2_with (fail)
  refine Calls.mono (s_spoil3 S w1 HS.out) ?_
  rintro e w3 ⟨p, a, d, c, qs, rfl, hp1, hp2, hd7, ho, g3⟩
  obtain ⟨W2, hW2⟩ : ∃ W2, W2 = w3.alloc (.cells #[.int .i64 p, .slice a d c] 26) := ⟨_, rfl⟩
  obtain ⟨O, hO⟩ : ∃ O, O = w3.heap.size := ⟨_, rfl⟩
  have gW2 : Ext w3 W2 := by rw [hW2]; exact ext_alloc _ _
  have HC := Lib.hid (show SpAt W2 O p (.slice a d c) by rw [hW2, hO]; exact ⟨by simp, by simp, by simp, by simp⟩)
  have HRR := Lib.hid ((HR1.out.drw g3 hgR).ext gW2)
  have HQ := Lib.hid ((ho.mono (show S.g + 1 ≤ _ from hlt)).ext gW2)
  have G := Lib.hid (g3.ext gW2)
  have hgO : O ≠ S.g := by rw [hO]; have := g3.size; omega
  have hRO : w.heap.size ≠ O := by rw [hO]; have := g3.size; have := HR1.out.lt; omega
  have hw1O : w1.heap.size ≤ O := by rw [hO]; exact g3.size
  have hSO : S.g < O + 1 := by omega
  have HQO := Lib.hid (show ∀ g, a = some ⟨g, 0, none⟩ → g < O from fun g hg => by rw [hO]; exact (ho.base_of g hg).2)
  go_wp2_with (fail)
  rw [← hW2, ← hO]
  clear hO gW2 ho g3 hW2 HR1
  have o0 := HC.out.c0
  have o1 := HC.out.c1
  go_wp2_with (fail)
  clear o0 o1
  refine Calls.mono (s_drawList S p a d c most W2 (G.out.src HS.out) (by omega) (by omega) hmost) ?_
  rintro e w11 ⟨b, m, cb, rows, rfl, hm, hl, hob, gg⟩
  have HL := Lib.hid (show ∀ i, i < m → (nthR rows i).length ≤ 8 from fun i hi => by have := hl i hi; omega)
  have HX := Lib.hid (hob.mono (show O + 1 ≤ _ from HC.out.lt))
  clear hl hob
  replace HRR := Lib.hid (HRR.out.drw gg hgR)
  replace HC := Lib.hid (HC.out.drw gg hgO)
  replace G := Lib.hid (G.out.trans gg)
  replace HQ := Lib.hid (gg.own HQ.out (Nat.lt_succ_self _))
  clear gg
  replace HX := Lib.hid HX.out
  have o0 := HC.out.c0
  have o1 := HC.out.c1
  go_wp2_with (fail)
  clear o0 o1
  refine Calls.mono (s_is p a d c qs w11 (by omega) HQ.out.rd) ?_
  rintro e w12 ⟨rfl, gg⟩
  replace gg := Drw.of_ext (S := S) gg
  replace HRR := Lib.hid (HRR.out.drw gg hgR)
  replace HC := Lib.hid (HC.out.drw gg hgO)
  replace G := Lib.hid (G.out.trans gg)
  replace HQ := Lib.hid (gg.own HQ.out (Nat.lt_succ_self _))
  replace HX := Lib.hid (gg.ownR HX.out hSO)
  clear gg
  cases hsp : spaceB p qs
  · skip
    have r0 := HRR.out.c0
    have r1 := HRR.out.c1
    have f0 := HRR.out.f0
    have f1 := HRR.out.f1
    have o0 := HC.out.c0
    have o1 := HC.out.c1
    go_wp2_with (fail)
    first
      | refine bodyPost_ret (v := .tuple #[.agg #[.int .i64 p, .slice a d c], .slice b m cb]) (by simp [results, Try.results26, go_sem, r0, r1]) rfl ⟨p, a, d, c, qs, b, m, cb, rows, rfl, by omega, by omega, by omega, by omega, HL.out, ?_, ?_, ?_⟩
      | refine bodyPost_ret (v := .tuple #[.agg #[.int .i64 p, .slice a d c], .slice b m cb]) (by simp [results, Try.results26, go_sem, r0, r1]) rfl ⟨p, a, d, c, qs, b, m, cb, rfl, by omega, by omega, by omega, by omega, rows, HL.out, ?_, ?_, ?_⟩
    · exact ((HQ.out.other (by simp; omega) _).other (by simp; omega) _).mono (by omega)
    · exact ((HX.out.other (by simp; omega) _).other (by simp; omega) _).mono (by omega)
    · exact ((G.out.toExt G1.out (by omega)).setCell (by simp) _).setCell (by simp) _
  obtain ⟨hpr, hd1q, hd6q, hqb⟩ := space_of hsp
  have hpb := prime_bd hpr
  have hqd := HQ.out.1
  clear hsp hpr hqb
  have o0 := HC.out.c0
  have o1 := HC.out.c1
  go_wp2_with (fail)
  clear o0 o1
  refine Calls.mono (s_isList p a d c b m cb rows w12 (by omega) (by omega) (by omega) (fun i hi => Nat.le_trans (HL.out i hi) (by omega)) HX.out.rd) ?_
  rintro e w13 ⟨rfl, gg⟩
  replace gg := Drw.of_ext (S := S) gg
  replace HRR := Lib.hid (HRR.out.drw gg hgR)
  replace HC := Lib.hid (HC.out.drw gg hgO)
  replace G := Lib.hid (G.out.trans gg)
  replace HQ := Lib.hid (gg.own HQ.out (Nat.lt_succ_self _))
  replace HX := Lib.hid (gg.ownR HX.out hSO)
  clear gg
  cases hal : (rows.all (vecB p d) && decide (rows.length ≤ 16))
  · skip
    have r0 := HRR.out.c0
    have r1 := HRR.out.c1
    have f0 := HRR.out.f0
    have f1 := HRR.out.f1
    have o0 := HC.out.c0
    have o1 := HC.out.c1
    go_wp2_with (fail)
    first
      | refine bodyPost_ret (v := .tuple #[.agg #[.int .i64 p, .slice a d c], .slice b m cb]) (by simp [results, Try.results26, go_sem, r0, r1]) rfl ⟨p, a, d, c, qs, b, m, cb, rows, rfl, by omega, by omega, by omega, by omega, HL.out, ?_, ?_, ?_⟩
      | refine bodyPost_ret (v := .tuple #[.agg #[.int .i64 p, .slice a d c], .slice b m cb]) (by simp [results, Try.results26, go_sem, r0, r1]) rfl ⟨p, a, d, c, qs, b, m, cb, rfl, by omega, by omega, by omega, by omega, rows, HL.out, ?_, ?_, ?_⟩
    · exact ((HQ.out.other (by simp; omega) _).other (by simp; omega) _).mono (by omega)
    · exact ((HX.out.other (by simp; omega) _).other (by simp; omega) _).mono (by omega)
    · exact ((G.out.toExt G1.out (by omega)).setCell (by simp) _).setCell (by simp) _
  by_cases h1 : 1 < m
  rotate_left
  · skip
    have h1i : ¬ (1 : Int) < ((m : Nat) : Int) := by omega
    have r0 := HRR.out.c0
    have r1 := HRR.out.c1
    have f0 := HRR.out.f0
    have f1 := HRR.out.f1
    have o0 := HC.out.c0
    have o1 := HC.out.c1
    go_wp2_with (fail)
    first
      | refine bodyPost_ret (v := .tuple #[.agg #[.int .i64 p, .slice a d c], .slice b m cb]) (by simp [results, Try.results26, go_sem, r0, r1]) rfl ⟨p, a, d, c, qs, b, m, cb, rows, rfl, by omega, by omega, by omega, by omega, HL.out, ?_, ?_, ?_⟩
      | refine bodyPost_ret (v := .tuple #[.agg #[.int .i64 p, .slice a d c], .slice b m cb]) (by simp [results, Try.results26, go_sem, r0, r1]) rfl ⟨p, a, d, c, qs, b, m, cb, rfl, by omega, by omega, by omega, by omega, rows, HL.out, ?_, ?_, ?_⟩
    · exact ((HQ.out.other (by simp; omega) _).other (by simp; omega) _).mono (by omega)
    · exact ((HX.out.other (by simp; omega) _).other (by simp; omega) _).mono (by omega)
    · exact ((G.out.toExt G1.out (by omega)).setCell (by simp) _).setCell (by simp) _
  have h1i : (1 : Int) < ((m : Nat) : Int) := by omega
  have o0 := HC.out.c0
  have o1 := HC.out.c1
  go_wp2_with (fail)
  clear o0 o1
  refine Calls.mono (s_next S 3 w13 (G.out.src HS.out) (by decide)) ?_
  rintro e w14 ⟨rn, rfl, _, gg⟩
  replace HRR := Lib.hid (HRR.out.drw gg hgR)
  replace HC := Lib.hid (HC.out.drw gg hgO)
  replace G := Lib.hid (G.out.trans gg)
  replace HQ := Lib.hid (gg.own HQ.out (Nat.lt_succ_self _))
  replace HX := Lib.hid (gg.ownR HX.out hSO)
  clear gg
  by_cases hrn : rn = 0
  rotate_left
  · skip
    have hrb : (rn == 0) = false := by simp [hrn]
    have r0 := HRR.out.c0
    have r1 := HRR.out.c1
    have f0 := HRR.out.f0
    have f1 := HRR.out.f1
    have o0 := HC.out.c0
    have o1 := HC.out.c1
    go_wp2_with (fail)
    first
      | refine bodyPost_ret (v := .tuple #[.agg #[.int .i64 p, .slice a d c], .slice b m cb]) (by simp [results, Try.results26, go_sem, r0, r1]) rfl ⟨p, a, d, c, qs, b, m, cb, rows, rfl, by omega, by omega, by omega, by omega, HL.out, ?_, ?_, ?_⟩
      | refine bodyPost_ret (v := .tuple #[.agg #[.int .i64 p, .slice a d c], .slice b m cb]) (by simp [results, Try.results26, go_sem, r0, r1]) rfl ⟨p, a, d, c, qs, b, m, cb, rfl, by omega, by omega, by omega, by omega, rows, HL.out, ?_, ?_, ?_⟩
    · exact ((HQ.out.other (by simp; omega) _).other (by simp; omega) _).mono (by omega)
    · exact ((HX.out.other (by simp; omega) _).other (by simp; omega) _).mono (by omega)
    · exact ((G.out.toExt G1.out (by omega)).setCell (by simp) _).setCell (by simp) _
  subst hrn
  have hx1 := HX.out.1
  obtain ⟨ha1, _⟩ : rows.all (vecB p d) = true ∧ rows.length ≤ 16 := by simpa using hal
  have HV := Lib.hid (rows_good ha1)
  clear hal ha1
  obtain ⟨gb, _, rfl, hgb1, hgb2, _, _⟩ := HX.out.row (by omega)
  obtain ⟨t, ht⟩ : ∃ t, m = t + 2 := ⟨m - 2, by omega⟩
  obtain ⟨t1, ht1⟩ : ∃ t1, t1 = t + 1 := ⟨_, rfl⟩
  have hw1 : IntKind.i64.wrap ((m : Int) - 1) = (t1 : Int) := by rw [IntWalk.i64_in _ (by omega)]; omega
  have hw2 : IntKind.i64.wrap ((m : Int) - 2) = (t : Int) := by rw [IntWalk.i64_in _ (by omega)]; omega
  have hv1 : wrap64 ((m : Int) - 1) = (t1 : Int) := by unfold wrap64; omega
  have hv2 : wrap64 ((m : Int) - 2) = (t : Int) := by unfold wrap64; omega
  have hm0 : (0 : Int) < (m : Int) := by omega
  have hmt : (t : Int) < (m : Int) := by omega
  have hmt1 : (t1 : Int) < (m : Int) := by omega
  have hNm0 : 0 < m := by omega
  have hNmt : t < m := by omega
  have hNmt1 : t1 < m := by omega
  have HT := Lib.hid (show t1 < m ∧ t < m by omega)
  clear ht ht1
  obtain ⟨a0, c0, hc0, ho0⟩ := HX.out.at (i := 0) (by omega)
  obtain ⟨a2, c2, hc2, ho2⟩ := HX.out.at (i := t) HT.out.2
  have HG0 := HV.out 0 (by omega)
  have HG2 := HV.out t (by omega)
  rw [HG0.1] at hc0 ho0
  rw [HG2.1] at hc2 ho2
  have H0 := Lib.hid ho0
  have H2 := Lib.hid ho2
  have K0 := Lib.hid hc0
  have K2 := Lib.hid hc2
  have HGG0 := Lib.hid HG0
  have HGG2 := Lib.hid HG2
  have hgbS : gb ≠ S.g := by omega
  clear hc0 hc2 ho0 ho2 HG0 HG2 hgb2
  have o0 := HC.out.c0
  have o1 := HC.out.c1
  go_wp2_with (fail)
  clear o0 o1
  have gg := Drw.of_ext (S := S) (ext_drew w14)
  replace HRR := Lib.hid (HRR.out.drw gg hgR)
  replace HC := Lib.hid (HC.out.drw gg hgO)
  replace G := Lib.hid (G.out.trans gg)
  replace HQ := Lib.hid (gg.own HQ.out (Nat.lt_succ_self _))
  replace HX := Lib.hid (gg.ownR HX.out hSO)
  clear gg
  replace H0 := Lib.hid (H0.out.ext (ext_drew _))
  replace H2 := Lib.hid (H2.out.ext (ext_drew _))
  replace K0 := Lib.hid ((ext_drew w14).cell K0.out)
  replace K2 := Lib.hid ((ext_drew w14).cell K2.out)
  have HCL9 := HC.out.lt
  have HS9 := Lib.hid (G.out.src HS.out)
  have hlt9 := HS9.out.lt
  refine Chg.wp_region_lex_tail (E := Drw.rel S) 20 [(18, .lt S p), (19, .own S w14.drew.heap.size 8 hlt9)] (by kernel_rfl) (by kernel_rfl) ?_
  simp only [List.take, List.drop]
  (refine Chg.LexW.pure (v := ?_) rfl rfl (fun w1 he => ?_) ?_; rotate_left; ( have he' : Drw S _ _ := he; have x0 := he'.cell (p := ⟨O, 0, none⟩) hgO HC.out.c0; have x1 := he'.cell (p := ⟨O, 1, none⟩) hgO HC.out.c1; have x2 := he'.cell (p := ⟨gb, 0, none⟩) hgbS K0.out; have x3 := he'.cell (p := ⟨gb, t, none⟩) hgbS K2.out; go_simp; rfl); simp only [Act.put, List.setIfInBounds_toArray, List.set_cons_zero, List.set_cons_succ])
  (refine Chg.LexW.pure (v := ?_) rfl rfl (fun w1 he => ?_) ?_; rotate_left; ( have he' : Drw S _ _ := he; have x0 := he'.cell (p := ⟨O, 0, none⟩) hgO HC.out.c0; have x1 := he'.cell (p := ⟨O, 1, none⟩) hgO HC.out.c1; have x2 := he'.cell (p := ⟨gb, 0, none⟩) hgbS K0.out; have x3 := he'.cell (p := ⟨gb, t, none⟩) hgbS K2.out; go_simp; rfl); simp only [Act.put, List.setIfInBounds_toArray, List.set_cons_zero, List.set_cons_succ])
  (refine Chg.LexW.pure (v := ?_) rfl rfl (fun w1 he => ?_) ?_; rotate_left; ( have he' : Drw S _ _ := he; have x0 := he'.cell (p := ⟨O, 0, none⟩) hgO HC.out.c0; have x1 := he'.cell (p := ⟨O, 1, none⟩) hgO HC.out.c1; have x2 := he'.cell (p := ⟨gb, 0, none⟩) hgbS K0.out; have x3 := he'.cell (p := ⟨gb, t, none⟩) hgbS K2.out; go_simp; rfl); simp only [Act.put, List.setIfInBounds_toArray, List.set_cons_zero, List.set_cons_succ])
  (refine Chg.LexW.pure (v := ?_) rfl rfl (fun w1 he => ?_) ?_; rotate_left; ( have he' : Drw S _ _ := he; have x0 := he'.cell (p := ⟨O, 0, none⟩) hgO HC.out.c0; have x1 := he'.cell (p := ⟨O, 1, none⟩) hgO HC.out.c1; have x2 := he'.cell (p := ⟨gb, 0, none⟩) hgbS K0.out; have x3 := he'.cell (p := ⟨gb, t, none⟩) hgbS K2.out; go_simp; rfl); simp only [Act.put, List.setIfInBounds_toArray, List.set_cons_zero, List.set_cons_succ])
  (refine Chg.LexW.pure (v := ?_) rfl rfl (fun w1 he => ?_) ?_; rotate_left; ( have he' : Drw S _ _ := he; have x0 := he'.cell (p := ⟨O, 0, none⟩) hgO HC.out.c0; have x1 := he'.cell (p := ⟨O, 1, none⟩) hgO HC.out.c1; have x2 := he'.cell (p := ⟨gb, 0, none⟩) hgbS K0.out; have x3 := he'.cell (p := ⟨gb, t, none⟩) hgbS K2.out; go_simp; rfl); simp only [Act.put, List.setIfInBounds_toArray, List.set_cons_zero, List.set_cons_succ])
  (refine Chg.LexW.pure (v := ?_) rfl rfl (fun w1 he => ?_) ?_; rotate_left; ( have he' : Drw S _ _ := he; have x0 := he'.cell (p := ⟨O, 0, none⟩) hgO HC.out.c0; have x1 := he'.cell (p := ⟨O, 1, none⟩) hgO HC.out.c1; have x2 := he'.cell (p := ⟨gb, 0, none⟩) hgbS K0.out; have x3 := he'.cell (p := ⟨gb, t, none⟩) hgbS K2.out; go_simp; rfl); simp only [Act.put, List.setIfInBounds_toArray, List.set_cons_zero, List.set_cons_succ])
  (refine Chg.LexW.pure (v := ?_) rfl rfl (fun w1 he => ?_) ?_; rotate_left; ( have he' : Drw S _ _ := he; have x0 := he'.cell (p := ⟨O, 0, none⟩) hgO HC.out.c0; have x1 := he'.cell (p := ⟨O, 1, none⟩) hgO HC.out.c1; have x2 := he'.cell (p := ⟨gb, 0, none⟩) hgbS K0.out; have x3 := he'.cell (p := ⟨gb, t, none⟩) hgbS K2.out; go_simp; rfl); simp only [Act.put, List.setIfInBounds_toArray, List.set_cons_zero, List.set_cons_succ])
  (refine Chg.LexW.pure (v := ?_) rfl rfl (fun w1 he => ?_) ?_; rotate_left; ( have he' : Drw S _ _ := he; have x0 := he'.cell (p := ⟨O, 0, none⟩) hgO HC.out.c0; have x1 := he'.cell (p := ⟨O, 1, none⟩) hgO HC.out.c1; have x2 := he'.cell (p := ⟨gb, 0, none⟩) hgbS K0.out; have x3 := he'.cell (p := ⟨gb, t, none⟩) hgbS K2.out; go_simp; rfl); simp only [Act.put, List.setIfInBounds_toArray, List.set_cons_zero, List.set_cons_succ])
  (refine Chg.LexW.pure (v := ?_) rfl rfl (fun w1 he => ?_) ?_; rotate_left; ( have he' : Drw S _ _ := he; have x0 := he'.cell (p := ⟨O, 0, none⟩) hgO HC.out.c0; have x1 := he'.cell (p := ⟨O, 1, none⟩) hgO HC.out.c1; have x2 := he'.cell (p := ⟨gb, 0, none⟩) hgbS K0.out; have x3 := he'.cell (p := ⟨gb, t, none⟩) hgbS K2.out; go_simp; rfl); simp only [Act.put, List.setIfInBounds_toArray, List.set_cons_zero, List.set_cons_succ])
  (refine Chg.LexW.pure (v := ?_) rfl rfl (fun w1 he => ?_) ?_; rotate_left; ( have he' : Drw S _ _ := he; have x0 := he'.cell (p := ⟨O, 0, none⟩) hgO HC.out.c0; have x1 := he'.cell (p := ⟨O, 1, none⟩) hgO HC.out.c1; have x2 := he'.cell (p := ⟨gb, 0, none⟩) hgbS K0.out; have x3 := he'.cell (p := ⟨gb, t, none⟩) hgbS K2.out; go_simp; rfl); simp only [Act.put, List.setIfInBounds_toArray, List.set_cons_zero, List.set_cons_succ])
  (refine Chg.LexW.pure (v := ?_) rfl rfl (fun w1 he => ?_) ?_; rotate_left; ( have he' : Drw S _ _ := he; have x0 := he'.cell (p := ⟨O, 0, none⟩) hgO HC.out.c0; have x1 := he'.cell (p := ⟨O, 1, none⟩) hgO HC.out.c1; have x2 := he'.cell (p := ⟨gb, 0, none⟩) hgbS K0.out; have x3 := he'.cell (p := ⟨gb, t, none⟩) hgbS K2.out; go_simp; rfl); simp only [Act.put, List.setIfInBounds_toArray, List.set_cons_zero, List.set_cons_succ])
  (refine Chg.LexW.pure (v := ?_) rfl rfl (fun w1 he => ?_) ?_; rotate_left; ( have he' : Drw S _ _ := he; have x0 := he'.cell (p := ⟨O, 0, none⟩) hgO HC.out.c0; have x1 := he'.cell (p := ⟨O, 1, none⟩) hgO HC.out.c1; have x2 := he'.cell (p := ⟨gb, 0, none⟩) hgbS K0.out; have x3 := he'.cell (p := ⟨gb, t, none⟩) hgbS K2.out; go_simp; rfl); simp only [Act.put, List.setIfInBounds_toArray, List.set_cons_zero, List.set_cons_succ])
  (refine Chg.LexW.pure (v := ?_) rfl rfl (fun w1 he => ?_) ?_; rotate_left; ( have he' : Drw S _ _ := he; have x0 := he'.cell (p := ⟨O, 0, none⟩) hgO HC.out.c0; have x1 := he'.cell (p := ⟨O, 1, none⟩) hgO HC.out.c1; have x2 := he'.cell (p := ⟨gb, 0, none⟩) hgbS K0.out; have x3 := he'.cell (p := ⟨gb, t, none⟩) hgbS K2.out; go_simp; rfl); simp only [Act.put, List.setIfInBounds_toArray, List.set_cons_zero, List.set_cons_succ])
  (refine Chg.LexW.pure (v := ?_) rfl rfl (fun w1 he => ?_) ?_; rotate_left; ( have he' : Drw S _ _ := he; have x0 := he'.cell (p := ⟨O, 0, none⟩) hgO HC.out.c0; have x1 := he'.cell (p := ⟨O, 1, none⟩) hgO HC.out.c1; have x2 := he'.cell (p := ⟨gb, 0, none⟩) hgbS K0.out; have x3 := he'.cell (p := ⟨gb, t, none⟩) hgbS K2.out; go_simp; rfl); simp only [Act.put, List.setIfInBounds_toArray, List.set_cons_zero, List.set_cons_succ])
  (refine Chg.LexW.pure (v := ?_) rfl rfl (fun w1 he => ?_) ?_; rotate_left; ( have he' : Drw S _ _ := he; have x0 := he'.cell (p := ⟨O, 0, none⟩) hgO HC.out.c0; have x1 := he'.cell (p := ⟨O, 1, none⟩) hgO HC.out.c1; have x2 := he'.cell (p := ⟨gb, 0, none⟩) hgbS K0.out; have x3 := he'.cell (p := ⟨gb, t, none⟩) hgbS K2.out; go_simp; rfl); simp only [Act.put, List.setIfInBounds_toArray, List.set_cons_zero, List.set_cons_succ])
  (refine Chg.LexW.pure (v := ?_) rfl rfl (fun w1 he => ?_) ?_; rotate_left; ( have he' : Drw S _ _ := he; have x0 := he'.cell (p := ⟨O, 0, none⟩) hgO HC.out.c0; have x1 := he'.cell (p := ⟨O, 1, none⟩) hgO HC.out.c1; have x2 := he'.cell (p := ⟨gb, 0, none⟩) hgbS K0.out; have x3 := he'.cell (p := ⟨gb, t, none⟩) hgbS K2.out; go_simp; rfl); simp only [Act.put, List.setIfInBounds_toArray, List.set_cons_zero, List.set_cons_succ])
  (refine Chg.LexW.pure (v := ?_) rfl rfl (fun w1 he => ?_) ?_; rotate_left; ( have he' : Drw S _ _ := he; have x0 := he'.cell (p := ⟨O, 0, none⟩) hgO HC.out.c0; have x1 := he'.cell (p := ⟨O, 1, none⟩) hgO HC.out.c1; have x2 := he'.cell (p := ⟨gb, 0, none⟩) hgbS K0.out; have x3 := he'.cell (p := ⟨gb, t, none⟩) hgbS K2.out; go_simp; rfl); simp only [Act.put, List.setIfInBounds_toArray, List.set_cons_zero, List.set_cons_succ])
  (refine Chg.LexW.pure (v := ?_) rfl rfl (fun w1 he => ?_) ?_; rotate_left; ( have he' : Drw S _ _ := he; have x0 := he'.cell (p := ⟨O, 0, none⟩) hgO HC.out.c0; have x1 := he'.cell (p := ⟨O, 1, none⟩) hgO HC.out.c1; have x2 := he'.cell (p := ⟨gb, 0, none⟩) hgbS K0.out; have x3 := he'.cell (p := ⟨gb, t, none⟩) hgbS K2.out; go_simp; rfl); simp only [Act.put, List.setIfInBounds_toArray, List.set_cons_zero, List.set_cons_succ])
  (refine Chg.LexW.callR (f := ?_) (args := ?_) rfl rfl (fun w1 => ?_) (fun w1 he hdep => ?_) (fun v hv => ?_); rotate_left 2; (go_simp; refine ⟨?_, ?_⟩ <;> rfl); ( have he' : Drw S _ _ := he; (refine Calls.mono (s_next S p w1 (he'.src HS9.out) (by omega)) ?_; rintro e w9 ⟨r9, rfl, h9, g9⟩; exact ⟨_, rfl, g9, r9, rfl, h9.2 (by omega)⟩)); simp only [Act.put, List.setIfInBounds_toArray, List.set_cons_zero, List.set_cons_succ])
  obtain ⟨_, r9, rfl, hr9⟩ := hv
  (refine Chg.LexW.callR (f := ?_) (args := ?_) rfl rfl (fun w1 => ?_) (fun w1 he hdep => ?_) (fun v hv => ?_); rotate_left 2; (go_simp; refine ⟨?_, ?_⟩ <;> rfl); ( have he' : Drw S _ _ := he; (refine Calls.mono (s_plus p a0 a2 d c0 c2 (nthR rows 0) (nthR rows t) r9 w1 (by omega) (by omega) (by omega) (by omega) (he'.own H0.out hSO).rd (he'.own H2.out hSO).rd HGG0.out HGG2.out) ?_; rintro e w9 ⟨g9, rc9, rfl, ho9, x9⟩; exact ⟨_, rfl, Drw.of_ext x9, some ⟨g9, 0, none⟩, _, _, _, rfl, by omega, ho9.mono he'.size⟩)); simp only [Act.put, List.setIfInBounds_toArray, List.set_cons_zero, List.set_cons_succ])
  obtain ⟨_, an, mn, cn, xn, rfl, _⟩ := hv
  refine Chg.LexW.nil (fun w15 he hkn => ?_)
  have gg : Drw S w14.drew w15 := he
  obtain ⟨an', mn', cn', xn', q1, hmn, hon⟩ : (Chg.SPred.own S w14.drew.heap.size 8 hlt9).holds (.slice an mn cn) w15 := hkn (19, _) (by simp)
  cases q1
  have HXC := Lib.hid (gg.ownCut HX.out hSO)
  have hsz := gg.size
  have HON := Lib.hid (show OwnC (cutW w15 w14.drew.heap.size).heap.size w15 an mn cn xn' by rw [cutW_size hsz]; exact hon)
  have HPUT := Lib.hid (HXC.out.put (cutW_ext hsz) (by rw [cutW_size hsz]; exact HCL9) HON.out (j := t1) HT.out.1)
  replace HRR := Lib.hid (HRR.out.drw gg hgR)
  replace HC := Lib.hid (HC.out.drw gg hgO)
  replace G := Lib.hid (G.out.trans gg)
  replace HQ := Lib.hid (gg.own HQ.out (Nat.lt_succ_self _))
  replace HX := Lib.hid (gg.ownR HX.out hSO)
  obtain ⟨ak, ck, hck, _⟩ := HX.out.at (i := t1) HT.out.1
  have hfk := HX.out.frozen t1
  have hOb : O ≠ gb := by omega
  have hRb : w.heap.size ≠ gb := by omega
  have hbO : gb ≠ O := by omega
  have hbR : gb ≠ w.heap.size := by omega
  have HLP := Lib.hid (show ∀ i, i < m → (nthR (rows.set t1 xn') i).length ≤ 8 from fun i hi => by
    rw [nthR_set (by omega)]
    split
    · rw [HON.out.1]; omega
    · exact HL.out i hi)
  have r0 := HRR.out.c0
  have r1 := HRR.out.c1
  have f0 := HRR.out.f0
  have f1 := HRR.out.f1
  clear he gg hkn hon HL HXC HON
  have o0 := HC.out.c0
  have o1 := HC.out.c1
  go_wp2_with (fail)
  first
    | refine bodyPost_ret (v := .tuple #[.agg #[.int .i64 p, .slice a d c], .slice (some ⟨gb, 0, none⟩) m cb]) (by simp [results, Try.results26, go_sem, r0, r1]) rfl ⟨p, a, d, c, qs, some ⟨gb, 0, none⟩, m, cb, rows.set t1 xn', rfl, by omega, by omega, by omega, by omega, HLP.out, ?_, ?_, ?_⟩
    | refine bodyPost_ret (v := .tuple #[.agg #[.int .i64 p, .slice a d c], .slice (some ⟨gb, 0, none⟩) m cb]) (by simp [results, Try.results26, go_sem, r0, r1]) rfl ⟨p, a, d, c, qs, some ⟨gb, 0, none⟩, m, cb, rfl, by omega, by omega, by omega, by omega, rows.set t1 xn', HLP.out, ?_, ?_, ?_⟩
  · exact (((HQ.out.keep fun g hg => Below.heap_setCell _ _ _ _ (show g ≠ gb by have := HQO.out g hg; omega)).other (by simp; omega) _).other (by simp; omega) _).mono (by omega)
  · exact ((HPUT.out.other (by simp; omega) _).other (by simp; omega) _).mono (by omega)
  · exact (((G.out.setCell (p := ⟨gb, t1, none⟩) (by simp; omega) _).toExt G1.out (by omega)).setCell (by simp) _).setCell (by simp) _

set_option maxHeartbeats 4000000 in
theorem s_drawWedgeOfVectors (ca : Option Addr) (n cap : Nat) (w : World) (hn : n ≤ 4096) (hb : RdY w ca n) :
    Calls Try.prog 12 #[.slice ca n cap] w fun e w' => ∃ p a d c qs b m cb rows, e = .returned (.tuple #[.agg #[.int .i64 p, .slice a d c], .slice b m cb]) ∧ 0 ≤ p ∧ p ≤ 17 ∧ d ≤ 7 ∧ m ≤ 17 ∧ (∀ i, i < m → (nthR rows i).length ≤ 8) ∧ OwnC w.heap.size w' a d c qs ∧ OwnR w.heap.size w' b m cb rows ∧ Ext w w' := by
  obtain ⟨W, hW⟩ : ∃ W, W = w.alloc (.cells #[.int .i64 0, .slice none 0 0] 26) := ⟨_, rfl⟩
  have gW : Ext w W := by rw [hW]; exact ext_alloc _ _
  have HZ := Lib.hid (show W.heap.size = w.heap.size + 1 by rw [hW]; simp)
  have HR := Lib.hid (show SpAt W w.heap.size 0 (.slice none 0 0) by rw [hW]; exact ⟨by simp, by simp, by simp, by simp⟩)
  have HW := Lib.hid hW
  have GW := Lib.hid gW
  have HB := Lib.hid (hb.ext gW)
  clear gW hW hb
  go_enter Try.func12, Try.ntmps12
  go_wp2_with (fail)
  rw [← HW.out]
  refine Calls.mono (s_l05Few ca n cap 5 W hn (by decide) HB.out) ?_
  rintro e w1 ⟨p, a, d, c, qs, b, m, cb, rows, rfl, hp0, hp1, hd, hm, hl, ho, ho1, g1⟩
  have hR1 := HR.out.ext g1
  have r0 := hR1.c0
  have r1 := hR1.c1
  have f0 := hR1.f0
  have f1 := hR1.f1
  have lR := hR1.lt
  have hz := HZ.out
  have HQ := Lib.hid ho
  have HO1 := Lib.hid ho1
  have HL := Lib.hid hl
  have G1 := Lib.hid (GW.out.trans g1)
  have HF := ((hR1.set0 p).set1 (.slice a d c)).ext (ext_alloc _ (.cells #[.int .i64 p, .slice a d c] 26))
  have r0' := HF.c0
  have r1' := HF.c1
  clear ho ho1 g1 hR1 HF hl
  go_wp2_with (fail)
  refine bodyPost_ret (v := .tuple #[.agg #[.int .i64 p, .slice a d c], .slice b m cb]) (by simp [results, Try.results12, go_sem, r0', r1']) rfl ⟨p, a, d, c, qs, b, m, cb, rows, rfl, hp0, hp1, hd, hm, HL.out, ?_, ?_, ?_⟩
  · exact (((HQ.out.other (by simp; omega) _).other (by simp; omega) _).ext (ext_alloc _ _)).mono (by omega)
  · exact (((HO1.out.other (by simp; omega) _).other (by simp; omega) _).ext (ext_alloc _ _)).mono (by omega)
  · exact ((G1.out.setCell (by simp) _).setCell (by simp) _).alloc _
end Go.Proofs.Ytnbhlabcecdbgaa
