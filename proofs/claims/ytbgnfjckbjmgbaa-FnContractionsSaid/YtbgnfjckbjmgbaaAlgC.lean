/-
  Reverses of products, and products with the pseudoscalar, in plain numbers.
  No condition. No program in sight.
-/
import Derived.Test.YtbgnfjckbjmgbaaAlgB
import Derived.Test.YtbgnfjckbjmgbaaDual
namespace Go.Proofs.Ytbgnfjckbjmgbaa
set_option maxRecDepth 100000
open Go.RowKit

/-! ### Signs and squares apart -/
def sgS (a b : Nat) : Nat → Int
  | 0 => 1
  | k + 1 => sgS a b k * (if b.testBit k then sgZ a k else 1)
def sqS (qs : List Int) (a b : Nat) : Nat → Int
  | 0 => 1
  | k + 1 => sqS qs a b k * (if (a.testBit k && b.testBit k) = true then nth qs k else 1)
theorem facZ_parts (qs : List Int) (a b : Nat) : ∀ k, facZ qs a b k = sgS a b k * sqS qs a b k
  | 0 => rfl
  | k + 1 => by
    rw [facZ, facZ_parts qs a b k, sgS, sqS, stZ]
    cases a.testBit k <;> cases b.testBit k <;> simp <;> ac_rfl
theorem sqS_comm (qs : List Int) (a b : Nat) : ∀ k, sqS qs a b k = sqS qs b a k
  | 0 => rfl
  | k + 1 => by rw [sqS, sqS, sqS_comm qs a b k, Bool.and_comm]
theorem sgS_rest {a b d : Nat} (hb : b < 2 ^ d) : ∀ k, sgS a b (d + k) = sgS a b d
  | 0 => rfl
  | k + 1 => by
    rw [← Nat.add_assoc, sgS, sgS_rest hb k]
    have : b.testBit (d + k) = false := Nat.testBit_lt_two_pow (Nat.lt_of_lt_of_le hb (Nat.pow_le_pow_right (by omega) (by omega)))
    simp [this]
def rvS (a : Nat) : Int := if revB (popc a) = true then -1 else 1
theorem rvS_sq (a : Nat) : rvS a * rvS a = 1 := by unfold rvS; split <;> rfl
theorem rev_sign (a b : Nat) (ha : a < 64) (hb : b < 64) : sgS b a 6 * (rvS a * rvS b) = rvS (a ^^^ b) * sgS a b 6 := by
  have : ∀ a : Nat, a < 64 → ∀ b : Nat, b < 64 → sgS b a 6 * (rvS a * rvS b) = rvS (a ^^^ b) * sgS a b 6 := by decide +kernel
  exact this a ha b hb
theorem facZ_rev {qs : List Int} {a b : Nat} (hd : qs.length ≤ 6) (ha : a < 2 ^ qs.length) (hb : b < 2 ^ qs.length) : facZ qs b a qs.length * (rvS a * rvS b) = rvS (a ^^^ b) * facZ qs a b qs.length := by
  have hN := pow_le64 hd
  have h1 := sgS_rest (a := b) ha (6 - qs.length)
  have h2 := sgS_rest (a := a) hb (6 - qs.length)
  rw [Nat.add_sub_cancel' hd] at h1 h2
  rw [facZ_parts, facZ_parts, ← h1, ← h2, sqS_comm qs b a, show sgS b a 6 * sqS qs a b qs.length * (rvS a * rvS b) = sgS b a 6 * (rvS a * rvS b) * sqS qs a b qs.length by ac_rfl, rev_sign a b (by omega) (by omega), Int.mul_assoc]
theorem sign_emod {p : Int} {x : List Int} {n i : Nat} (h : i < n) : nth (signL p revB x n) i % p = (rvS i * nth x i) % p := by
  rw [signL_nth h]
  unfold signN rvS
  split
  · rw [Int.emod_emod]; congr 1; omega
  · rw [Int.one_mul]
/-- The reverse of a product is the product of the reverses in the other order. -/
theorem rev_prod {p : Int} {qs x y : List Int} {tk tk' : Nat → Nat → Bool} (hp : 1 ≤ p) (hd : qs.length ≤ 6) (ht : ∀ a b, tk' b a = tk a b) :
    signL p revB (prodL p qs tk x y) (2 ^ qs.length) = prodL p qs tk' (signL p revB y (2 ^ qs.length)) (signL p revB x (2 ^ qs.length)) := by
  have g1 : Good p (2 ^ qs.length) (signL p revB (prodL p qs tk x y) (2 ^ qs.length)) := sign_good hp (prod_good hp)
  have g2 : Good p (2 ^ qs.length) (prodL p qs tk' (signL p revB y (2 ^ qs.length)) (signL p revB x (2 ^ qs.length))) := prod_good hp
  refine ext_nth (by rw [g1.1, g2.1]) fun k hk => ?_
  rw [g1.1] at hk
  have b1 := g1.2 k hk
  have b2 := g2.2 k hk
  rw [← Int.emod_eq_of_lt b1.1 b1.2, ← Int.emod_eq_of_lt b2.1 b2.2, sign_emod hk, prodT_nth hp hk, prodT_nth hp hk, Int.emod_emod, Int.mul_emod, Int.emod_emod, ← Int.mul_emod, ← sumN_mul, ← sumN_xor hd hk]
  refine sumN_emod fun i hi => ?_
  have hki := Nat.xor_lt_two_pow hk hi
  have x1 : k ^^^ i ^^^ k = i := by rw [Nat.xor_comm k i, Nat.xor_assoc, Nat.xor_self, Nat.xor_zero]
  rw [x1]
  have x2 : i ^^^ k = k ^^^ i := Nat.xor_comm _ _
  have hf := facZ_rev (qs := qs) hd hki hi
  rw [show k ^^^ i ^^^ i = k by rw [Nat.xor_assoc, Nat.xor_self, Nat.xor_zero]] at hf
  rw [x2, show tkI tk' i (k ^^^ i) = tkI tk (k ^^^ i) i by unfold tkI; rw [ht]]
  have e : (tkI tk (k ^^^ i) i * (nth (signL p revB y (2 ^ qs.length)) i * nth (signL p revB x (2 ^ qs.length)) (k ^^^ i) * facZ qs i (k ^^^ i) qs.length)) % p =
      (tkI tk (k ^^^ i) i * ((rvS i * nth y i) * (rvS (k ^^^ i) * nth x (k ^^^ i)) * facZ qs i (k ^^^ i) qs.length)) % p :=
    mul_emod_congr rfl (mul_emod_congr (mul_emod_congr (sign_emod hi) (sign_emod hki)) rfl)
  rw [e]
  congr 1
  rw [show tkI tk (k ^^^ i) i * ((rvS i * nth y i) * (rvS (k ^^^ i) * nth x (k ^^^ i)) * facZ qs i (k ^^^ i) qs.length) = tkI tk (k ^^^ i) i * nth x (k ^^^ i) * nth y i * (facZ qs i (k ^^^ i) qs.length * (rvS (k ^^^ i) * rvS i)) by ac_rfl, hf]
  ac_rfl

/-! ### The pseudoscalar -/
theorem topL_len (d : Nat) (k : Int) : (topL d k).length = 2 ^ d := by simp [topL]
theorem topL_nth {d i : Nat} {k : Int} (hi : i < 2 ^ d) : nth (topL d k) i = if i = 2 ^ d - 1 then k else 0 := by
  have := pow_pos' d
  unfold topL
  rw [nth_set (by simp; omega), nth_replicate hi]
  by_cases h : 2 ^ d - 1 = i
  · rw [if_pos h, if_pos h.symm]
  · rw [if_neg h, if_neg (Ne.symm h)]
theorem and_full {d i : Nat} (hi : i < 2 ^ d) : i &&& (2 ^ d - 1) = i := by
  rw [Nat.and_two_pow_sub_one_eq_mod, Nat.mod_eq_of_lt hi]
/-- The left contraction into a multiple of the pseudoscalar is the geometric product. -/
theorem left_top {p k : Int} {qs x : List Int} (hp : 1 ≤ p) : prodL p qs tkL x (topL qs.length k) = prodL p qs tkA x (topL qs.length k) := by
  refine ext_nth (by rw [(prod_good hp).1, (prod_good hp).1]) fun i hi => ?_
  rw [(prod_good hp).1] at hi
  rw [prodT_nth hp hi, prodT_nth hp hi]
  congr 1
  refine sumN_congr fun j hj => ?_
  have hji := Nat.xor_lt_two_pow hj hi
  rw [topL_nth hji]
  by_cases h : j ^^^ i = 2 ^ qs.length - 1
  · rw [h]
    have : tkI tkL j (2 ^ qs.length - 1) = tkI tkA j (2 ^ qs.length - 1) := by
      unfold tkI tkL tkA
      rw [and_full hj]; simp
    rw [this]
  · rw [if_neg h]; simp
theorem top_top {p j k : Int} {qs : List Int} (hp : 3 ≤ p) (hd : qs.length ≤ 6) (h : (j * k * sqFull p qs) % p = 1) : prodL p qs tkA (topL qs.length j) (topL qs.length k) = bladeL (2 ^ qs.length) 0 := by
  have hN := pow_pos' qs.length
  refine ext_nth (by rw [(prod_good (by omega)).1, bladeL_len]) fun i hi => ?_
  rw [(prod_good (by omega)).1] at hi
  rw [bladeL_nth (by omega) hi, prodA_nth (by omega) hi, sumN_single (k := 2 ^ qs.length - 1) (by omega) (fun m hm hne => by rw [topL_nth hm, if_neg hne]; simp)]
  rw [topL_nth (by omega), if_pos rfl, topL_nth (Nat.xor_lt_two_pow (by omega) hi)]
  by_cases h0 : 0 = i
  · subst h0
    rw [Nat.xor_zero, if_pos rfl, if_pos rfl, ← h, sqFull_eq hp hd]
    exact mul_emod_congr rfl (fac_emod.symm)
  · rw [if_neg h0, if_neg (fun e => h0 (by
      have := xor_eq_iff.1 e
      rw [Nat.xor_self] at this; exact this.symm))]
    simp
/-- The undual of the dual. -/
theorem undual_dual {p : Int} {qs x : List Int} (hp : primeB p = true) (hq : isB p qs = true) (hd : qs.length ≤ 6) (hr : regB qs = true) (hx : Good p (2 ^ qs.length) x) :
    prodL p qs tkL (dualL p qs x) (fullL qs.length) = x := by
  have hpb := prime_bd hp
  have hb := sqFull_bd (p := p) (qs := qs) (by omega)
  have hne := sqFull_ne hp hq hd hr
  have hi := (inv_spec hp (show 0 < sqFull p qs by omega) hb.2).2.1
  unfold dualL
  rw [← topL_one, left_top (by omega), left_top (by omega), prod_assoc (by omega) hd, top_top (by omega) hd (by rw [Int.mul_one, Int.mul_comm]; exact hi), times_one (by omega) hx]
theorem dual_undual {p : Int} {qs x : List Int} (hp : primeB p = true) (hq : isB p qs = true) (hd : qs.length ≤ 6) (hr : regB qs = true) (hx : Good p (2 ^ qs.length) x) :
    dualL p qs (prodL p qs tkL x (fullL qs.length)) = x := by
  have hpb := prime_bd hp
  have hb := sqFull_bd (p := p) (qs := qs) (by omega)
  have hne := sqFull_ne hp hq hd hr
  have hi := (inv_spec hp (show 0 < sqFull p qs by omega) hb.2).2.1
  unfold dualL
  rw [← topL_one, left_top (by omega), left_top (by omega), prod_assoc (by omega) hd, top_top (by omega) hd (by rw [Int.one_mul, Int.mul_comm]; exact hi), times_one (by omega) hx]

end Go.Proofs.Ytbgnfjckbjmgbaa
