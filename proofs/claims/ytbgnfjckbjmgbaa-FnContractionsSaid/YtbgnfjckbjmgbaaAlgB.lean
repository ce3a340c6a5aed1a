/-
  The wedge product, contractions, reverses and duals in plain numbers.
  No condition. No program in sight.
-/
import Derived.Test.YtbgnfjckbjmgbaaAlg
import Derived.Test.YtbgnfjckbjmgbaaPlus
namespace Go.Proofs.Ytbgnfjckbjmgbaa
set_option maxRecDepth 100000
open Go.RowKit

/-! ### Products of parts are associative where their conditions agree -/
/-- The coefficient of a product of parts. -/
def tkI (tk : Nat → Nat → Bool) (a b : Nat) : Int := if tk a b = true then 1 else 0
theorem prodT_nth {p : Int} {qs x y : List Int} {tk : Nat → Nat → Bool} (hp : 1 ≤ p) {k : Nat} (hk : k < 2 ^ qs.length) :
    nth (prodL p qs tk x y) k = (sumN (2 ^ qs.length) fun i => tkI tk i (i ^^^ k) * (nth x i * nth y (i ^^^ k) * facZ qs i (i ^^^ k) qs.length)) % p := by
  rw [prod_nth1 hp hk]
  refine sumN_emod fun i hi => ?_
  unfold tkI
  split
  · rw [Int.one_mul]; exact mul_emod_congr rfl fac_emod
  · rw [Int.zero_mul]
/-- (x 1 y) 2 z = x 3 (y 4 z) -/
theorem prodT_assoc {p : Int} {qs x y z : List Int} {t1 t2 t3 t4 : Nat → Nat → Bool} (hp : 1 ≤ p) (hd : qs.length ≤ 6)
    (ht : ∀ a, a < 2 ^ qs.length → ∀ b, b < 2 ^ qs.length → ∀ c, c < 2 ^ qs.length → (t1 a b && t2 (a ^^^ b) c) = (t4 b c && t3 a (b ^^^ c))) :
    prodL p qs t2 (prodL p qs t1 x y) z = prodL p qs t3 x (prodL p qs t4 y z) := by
  have hN := pow_le64 hd
  have hT : ∀ a, a < 2 ^ qs.length → ∀ b, b < 2 ^ qs.length → ∀ c, c < 2 ^ qs.length → tkI t1 a b * tkI t2 (a ^^^ b) c = tkI t4 b c * tkI t3 a (b ^^^ c) := fun a ha b hb c hc => by
    have := ht a ha b hb c hc
    unfold tkI
    cases h1 : t1 a b <;> cases h2 : t2 (a ^^^ b) c <;> cases h3 : t4 b c <;> cases h4 : t3 a (b ^^^ c) <;> simp_all
  refine ext_nth (by rw [(prod_good hp).1, (prod_good hp).1]) fun k hk => ?_
  rw [(prod_good hp).1] at hk
  rw [prodT_nth hp hk, prodT_nth hp hk]
  have e1 : ∀ m, m < 2 ^ qs.length → (tkI t2 m (m ^^^ k) * (nth (prodL p qs t1 x y) m * nth z (m ^^^ k) * facZ qs m (m ^^^ k) qs.length)) % p =
      (sumN (2 ^ qs.length) fun a => tkI t1 a (a ^^^ m) * (nth x a * nth y (a ^^^ m) * facZ qs a (a ^^^ m) qs.length) * (tkI t2 m (m ^^^ k) * (nth z (m ^^^ k) * facZ qs m (m ^^^ k) qs.length))) % p := fun m hm => by
    rw [prodT_nth hp hm, sumN_mulr, Int.mul_assoc (_ % p), Int.mul_left_comm]
    exact mul_emod_congr (Int.emod_emod _ _) rfl
  have e2 : ∀ a, a < 2 ^ qs.length → (tkI t3 a (a ^^^ k) * (nth x a * nth (prodL p qs t4 y z) (a ^^^ k) * facZ qs a (a ^^^ k) qs.length)) % p =
      (sumN (2 ^ qs.length) fun m => tkI t1 a (a ^^^ m) * (nth x a * nth y (a ^^^ m) * facZ qs a (a ^^^ m) qs.length) * (tkI t2 m (m ^^^ k) * (nth z (m ^^^ k) * facZ qs m (m ^^^ k) qs.length))) % p := fun a ha => by
    rw [prodT_nth hp (Nat.xor_lt_two_pow ha hk), ← sumN_xor hd ha]
    have : (tkI t3 a (a ^^^ k) * (nth x a * ((sumN (2 ^ qs.length) fun m => tkI t4 (a ^^^ m) (a ^^^ m ^^^ (a ^^^ k)) * (nth y (a ^^^ m) * nth z (a ^^^ m ^^^ (a ^^^ k)) * facZ qs (a ^^^ m) (a ^^^ m ^^^ (a ^^^ k)) qs.length)) % p) * facZ qs a (a ^^^ k) qs.length)) % p =
        (tkI t3 a (a ^^^ k) * nth x a * (sumN (2 ^ qs.length) fun m => tkI t4 (a ^^^ m) (a ^^^ m ^^^ (a ^^^ k)) * (nth y (a ^^^ m) * nth z (a ^^^ m ^^^ (a ^^^ k)) * facZ qs (a ^^^ m) (a ^^^ m ^^^ (a ^^^ k)) qs.length)) * facZ qs a (a ^^^ k) qs.length) % p := by
      rw [← Int.mul_assoc, ← Int.mul_assoc]
      exact mul_emod_congr (mul_emod_congr rfl (Int.emod_emod _ _)) rfl
    rw [this, ← sumN_mul, ← sumN_mulr]
    congr 1
    refine sumN_congr fun m hm => ?_
    rw [xor_cancel]
    have ham := Nat.xor_lt_two_pow ha hm
    have hmk := Nat.xor_lt_two_pow hm hk
    have hc := facZ_cocycle (qs := qs) (a := a) (b := a ^^^ m) (c := m ^^^ k) (by omega) (Nat.lt_of_lt_of_le ham hN) qs.length hd
    have hT' := hT a ha (a ^^^ m) ham (m ^^^ k) hmk
    have x1 : a ^^^ (a ^^^ m) = m := by rw [← Nat.xor_assoc, Nat.xor_self, Nat.zero_xor]
    have x2 : a ^^^ m ^^^ (m ^^^ k) = a ^^^ k := by rw [Nat.xor_assoc, ← Nat.xor_assoc m m k, Nat.xor_self, Nat.zero_xor]
    rw [x1, x2] at hc hT'
    rw [show tkI t1 a (a ^^^ m) * (nth x a * nth y (a ^^^ m) * facZ qs a (a ^^^ m) qs.length) * (tkI t2 m (m ^^^ k) * (nth z (m ^^^ k) * facZ qs m (m ^^^ k) qs.length)) = nth x a * nth y (a ^^^ m) * nth z (m ^^^ k) * ((facZ qs a (a ^^^ m) qs.length * facZ qs m (m ^^^ k) qs.length) * (tkI t1 a (a ^^^ m) * tkI t2 m (m ^^^ k))) by ac_rfl, hc, hT']
    ac_rfl
  rw [sumN_emod e1, sumN_emod e2, sumN_swap]

theorem bit_all {a b : Nat} (ha : a < 64) (hb : b < 64) (h : ∀ i, i < 6 → a.testBit i = b.testBit i) : a = b := by
  apply Nat.eq_of_testBit_eq
  intro i
  by_cases hi : i < 6
  · exact h i hi
  · rw [Nat.testBit_lt_two_pow (Nat.lt_of_lt_of_le ha (by exact Nat.pow_le_pow_right (by omega) (show 6 ≤ i by omega) : 2 ^ 6 ≤ 2 ^ i)), Nat.testBit_lt_two_pow (Nat.lt_of_lt_of_le hb (by exact Nat.pow_le_pow_right (by omega) (show 6 ≤ i by omega) : 2 ^ 6 ≤ 2 ^ i))]
theorem tkW_iff {a b : Nat} : tkW a b = true ↔ ∀ i, (a.testBit i && b.testBit i) = false := by
  unfold tkW
  rw [beq_iff_eq]
  constructor
  · intro h i
    rw [← Nat.testBit_and, h, Nat.zero_testBit]
  · intro h
    apply Nat.eq_of_testBit_eq
    intro i
    rw [Nat.testBit_and, h i, Nat.zero_testBit]
theorem tkL_iff {a b : Nat} : tkL a b = true ↔ ∀ i, a.testBit i = true → b.testBit i = true := by
  unfold tkL
  rw [beq_iff_eq]
  constructor
  · intro h i hi
    have : (a &&& b).testBit i = true := by rw [h]; exact hi
    rw [Nat.testBit_and] at this
    simp_all
  · intro h
    apply Nat.eq_of_testBit_eq
    intro i
    rw [Nat.testBit_and]
    cases ha : a.testBit i
    · rfl
    · rw [h i ha]; rfl
theorem wedge_tk (a b c : Nat) : (tkW a b && tkW (a ^^^ b) c) = (tkW b c && tkW a (b ^^^ c)) := by
  rw [Bool.eq_iff_iff]
  simp only [Bool.and_eq_true, tkW_iff, Nat.testBit_xor]
  constructor
  · rintro ⟨h1, h2⟩
    refine ⟨fun i => ?_, fun i => ?_⟩ <;> (have h3 := h1 i; have h4 := h2 i; revert h3 h4; cases a.testBit i <;> cases b.testBit i <;> cases c.testBit i <;> simp)
  · rintro ⟨h1, h2⟩
    refine ⟨fun i => ?_, fun i => ?_⟩ <;> (have h3 := h1 i; have h4 := h2 i; revert h3 h4; cases a.testBit i <;> cases b.testBit i <;> cases c.testBit i <;> simp)
/-- The wedge product is associative. -/
theorem wedge_assoc {p : Int} {qs x y z : List Int} (hp : 1 ≤ p) (hd : qs.length ≤ 6) : prodL p qs tkW (prodL p qs tkW x y) z = prodL p qs tkW x (prodL p qs tkW y z) :=
  prodT_assoc hp hd fun a _ b _ c _ => wedge_tk a b c
theorem left_tk (a b c : Nat) : (tkW a b && tkL (a ^^^ b) c) = (tkL b c && tkL a (b ^^^ c)) := by
  rw [Bool.eq_iff_iff]
  simp only [Bool.and_eq_true, tkW_iff, tkL_iff, Nat.testBit_xor]
  constructor
  · rintro ⟨h1, h2⟩
    refine ⟨fun i => ?_, fun i => ?_⟩ <;> (have h3 := h1 i; have h4 := h2 i; revert h3 h4; cases a.testBit i <;> cases b.testBit i <;> cases c.testBit i <;> simp)
  · rintro ⟨h1, h2⟩
    refine ⟨fun i => ?_, fun i => ?_⟩ <;> (have h3 := h1 i; have h4 := h2 i; revert h3 h4; cases a.testBit i <;> cases b.testBit i <;> cases c.testBit i <;> simp)
/-- The left contraction of a wedge product. -/
theorem left_wedge {p : Int} {qs x y z : List Int} (hp : 1 ≤ p) (hd : qs.length ≤ 6) : prodL p qs tkL (prodL p qs tkW x y) z = prodL p qs tkL x (prodL p qs tkL y z) :=
  prodT_assoc hp hd fun a _ b _ c _ => left_tk a b c

/-! ### Sums and multiples -/
theorem prod_plus_right {p k : Int} {qs x y z : List Int} {tk : Nat → Nat → Bool} (hp : 1 ≤ p) : prodL p qs tk x (plusL p y z k (2 ^ qs.length)) = plusL p (prodL p qs tk x y) (prodL p qs tk x z) k (2 ^ qs.length) := by
  refine ext_nth (by rw [(prod_good hp).1, plusL_len]) fun i hi => ?_
  rw [(prod_good hp).1] at hi
  rw [plusL_nth hi, prodT_nth hp hi, plusN, prodT_nth hp hi, prodT_nth hp hi, Int.emod_add_emod, Int.add_comm (sumN _ _), ← Int.emod_add_emod, Int.mul_emod, Int.emod_emod, ← Int.mul_emod, Int.emod_add_emod, ← sumN_mul, ← sumN_add]
  refine sumN_emod fun a ha => ?_
  rw [plusL_nth (Nat.xor_lt_two_pow ha hi), plusN]
  have : ∀ u v f s : Int, (s * (u * ((v) % p) * f)) % p = (s * (u * v * f)) % p := fun u v f s => mul_emod_congr rfl (mul_emod_congr (mul_emod_congr rfl (Int.emod_emod _ _)) rfl)
  rw [this]
  congr 1
  rw [Int.mul_add, Int.add_mul, Int.mul_add, Int.add_comm]
  congr 1
  ac_rfl
theorem prod_plus_left {p k : Int} {qs x y z : List Int} {tk : Nat → Nat → Bool} (hp : 1 ≤ p) : prodL p qs tk (plusL p x y k (2 ^ qs.length)) z = plusL p (prodL p qs tk x z) (prodL p qs tk y z) k (2 ^ qs.length) := by
  refine ext_nth (by rw [(prod_good hp).1, plusL_len]) fun i hi => ?_
  rw [(prod_good hp).1] at hi
  rw [plusL_nth hi, prodT_nth hp hi, plusN, prodT_nth hp hi, prodT_nth hp hi, Int.emod_add_emod, Int.add_comm (sumN _ _), ← Int.emod_add_emod, Int.mul_emod, Int.emod_emod, ← Int.mul_emod, Int.emod_add_emod, ← sumN_mul, ← sumN_add]
  refine sumN_emod fun a ha => ?_
  rw [plusL_nth ha, plusN]
  have : ∀ u v f s : Int, (s * (v % p * u * f)) % p = (s * (v * u * f)) % p := fun u v f s => mul_emod_congr rfl (mul_emod_congr (mul_emod_congr (Int.emod_emod _ _) rfl) rfl)
  rw [this]
  congr 1
  rw [Int.add_mul, Int.add_mul, Int.mul_add, Int.add_comm]
  congr 1
  ac_rfl

end Go.Proofs.Ytbgnfjckbjmgbaa
