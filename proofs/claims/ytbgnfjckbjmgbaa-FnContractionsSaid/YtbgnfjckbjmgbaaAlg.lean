/-
  The geometric product in plain numbers: a formula for its coefficients, associativity, sums, multiples.
  No condition. No program in sight.
-/
import Derived.Test.YtbgnfjckbjmgbaaTimes
namespace Go.Proofs.Ytbgnfjckbjmgbaa
set_option maxRecDepth 100000
open Go.RowKit

/-! ### Sums -/
def sumN : Nat → (Nat → Int) → Int
  | 0, _ => 0
  | n + 1, g => sumN n g + g n
theorem sumN_congr {n : Nat} {f g : Nat → Int} (h : ∀ i, i < n → f i = g i) : sumN n f = sumN n g := by
  induction n with
  | zero => rfl
  | succ n ih => simp only [sumN]; rw [ih (fun i hi => h i (by omega)), h n (by omega)]
theorem sumN_zero {n : Nat} {f : Nat → Int} (h : ∀ i, i < n → f i = 0) : sumN n f = 0 := by
  induction n with
  | zero => rfl
  | succ n ih => simp only [sumN]; rw [ih (fun i hi => h i (by omega)), h n (by omega)]; rfl
theorem sumN_add (n : Nat) (f g : Nat → Int) : sumN n (fun i => f i + g i) = sumN n f + sumN n g := by
  induction n with
  | zero => rfl
  | succ n ih => simp only [sumN]; rw [ih]; omega
theorem sumN_mul (n : Nat) (c : Int) (f : Nat → Int) : sumN n (fun i => c * f i) = c * sumN n f := by
  induction n with
  | zero => simp [sumN]
  | succ n ih => simp only [sumN]; rw [ih, Int.mul_add]
theorem sumN_mulr (n : Nat) (c : Int) (f : Nat → Int) : sumN n (fun i => f i * c) = sumN n f * c := by
  induction n with
  | zero => simp [sumN]
  | succ n ih => simp only [sumN]; rw [ih, Int.add_mul]
theorem sumN_swap (n m : Nat) (f : Nat → Nat → Int) : sumN n (fun i => sumN m (fun j => f i j)) = sumN m (fun j => sumN n (fun i => f i j)) := by
  induction n with
  | zero => simp only [sumN]; exact (sumN_zero (fun _ _ => rfl)).symm
  | succ n ih => simp only [sumN]; rw [ih, ← sumN_add]
theorem sumN_single {n : Nat} {f : Nat → Int} {k : Nat} (hk : k < n) (h : ∀ i, i < n → i ≠ k → f i = 0) : sumN n f = f k := by
  induction n with
  | zero => omega
  | succ n ih =>
    simp only [sumN]
    by_cases hkn : k = n
    · subst hkn
      rw [sumN_zero (fun i hi => h i (by omega) (by omega))]; omega
    · rw [ih (by omega) (fun i hi hne => h i (by omega) hne), h n (by omega) (by omega)]; omega
theorem sumN_emod {p : Int} {n : Nat} {f g : Nat → Int} (h : ∀ i, i < n → f i % p = g i % p) : sumN n f % p = sumN n g % p := by
  induction n with
  | zero => rfl
  | succ n ih =>
    simp only [sumN]
    rw [Int.add_emod, ih (fun i hi => h i (by omega)), h n (by omega), ← Int.add_emod]
theorem mul_emod_congr {p a b c d : Int} (h : a % p = b % p) (h' : c % p = d % p) : (a * c) % p = (b * d) % p := by
  rw [Int.mul_emod, h, h', ← Int.mul_emod]

def sumL (l : List Nat) (g : Nat → Int) : Int := l.foldr (fun i s => g i + s) 0
theorem sumL_cons (a : Nat) (l : List Nat) (g : Nat → Int) : sumL (a :: l) g = g a + sumL l g := rfl
theorem sumL_snoc (l : List Nat) (i : Nat) (g : Nat → Int) : sumL (l ++ [i]) g = sumL l g + g i := by
  induction l with
  | nil => simp [sumL]
  | cons a l ih =>
    rw [List.cons_append, sumL_cons, ih, sumL_cons]; omega
theorem sumN_range (n : Nat) (g : Nat → Int) : sumN n g = sumL (List.range n) g := by
  induction n with
  | zero => rfl
  | succ n ih => rw [List.range_succ, sumL_snoc, ← ih]; rfl
theorem sumL_perm {l l' : List Nat} (h : l.Perm l') (g : Nat → Int) : sumL l g = sumL l' g := by
  induction h with
  | nil => rfl
  | cons x _ ih => rw [sumL_cons, sumL_cons, ih]
  | swap x y l => rw [sumL_cons, sumL_cons, sumL_cons, sumL_cons]; omega
  | trans _ _ ih1 ih2 => rw [ih1, ih2]
theorem sumL_map (l : List Nat) (f : Nat → Nat) (g : Nat → Int) : sumL (l.map f) g = sumL l (fun i => g (f i)) := by
  induction l with
  | nil => rfl
  | cons a l ih => rw [List.map_cons, sumL_cons, sumL_cons, ih]
theorem xor_perm : ∀ d : Nat, d < 7 → ∀ a : Nat, a < 2 ^ d → ((List.range (2 ^ d)).map (fun m => a ^^^ m)).isPerm (List.range (2 ^ d)) = true := by decide +kernel
theorem sumN_xor {d a : Nat} (hd : d ≤ 6) (ha : a < 2 ^ d) (g : Nat → Int) : sumN (2 ^ d) (fun m => g (a ^^^ m)) = sumN (2 ^ d) g := by
  have h := List.isPerm_iff.1 (xor_perm d (by omega) a ha)
  rw [sumN_range, sumN_range]
  exact (sumL_map _ _ _).symm.trans (sumL_perm h g)

/-! ### The coefficients of a product -/
theorem inP_nth {p : Int} {f : Nat → Nat → Int} {tk : Nat → Nat → Bool} {x y : List Int} {d a : Nat} {out : List Int} (hp : 1 ≤ p) (ha : a < 2 ^ d) (ho : Good p (2 ^ d) out) {k : Nat} (hk : k < 2 ^ d) :
    ∀ b, b ≤ 2 ^ d → nth (inP p f tk x y a b out) k = (nth out k + sumN b (fun j => if (tk a j && (a ^^^ j == k)) = true then nth x a * nth y j * f a j else 0)) % p
  | 0, _ => by
    have := ho.2 k hk
    simp only [inP, sumN, Int.add_zero]
    rw [Int.emod_eq_of_lt this.1 this.2]
  | b + 1, hb => by
    have ih := inP_nth (f := f) (tk := tk) (x := x) (y := y) hp ha ho hk b (by omega)
    have hg := inP_good (f := f) (tk := tk) (x := x) (y := y) (a := a) hp ho b
    have hc : a ^^^ b < 2 ^ d := Nat.xor_lt_two_pow ha (by omega)
    simp only [inP, sumN]
    cases ht : tk a b
    · rw [stepP_not ht, ih]; simp
    · rw [stepP_yes ht, nth_set (by rw [hg.1]; exact hc)]
      by_cases hab : a ^^^ b = k
      · rw [if_pos hab, hab, ih]
        simp only [BEq.rfl, Bool.and_self, if_true]
        rw [Int.emod_add_emod, Int.add_assoc]
      · rw [if_neg hab, ih]
        simp [hab]
theorem outP_nth {p : Int} {f : Nat → Nat → Int} {tk : Nat → Nat → Bool} {x y : List Int} {d : Nat} (hp : 1 ≤ p) {k : Nat} (hk : k < 2 ^ d) :
    ∀ a, a ≤ 2 ^ d → nth (outP p f tk x y (2 ^ d) a) k = (sumN a fun i => sumN (2 ^ d) fun j => if (tk i j && (i ^^^ j == k)) = true then nth x i * nth y j * f i j else 0) % p
  | 0, _ => by simp [outP, sumN, nth_replicate hk]
  | a + 1, ha => by
    have ih := outP_nth (f := f) (tk := tk) (x := x) (y := y) hp hk a (by omega)
    simp only [outP, sumN]
    rw [inP_nth hp (by omega) (outP_good hp a) hk _ (Nat.le_refl _), ih, Int.emod_add_emod]
theorem prod_nth {p : Int} {qs : List Int} {tk : Nat → Nat → Bool} {x y : List Int} (hp : 1 ≤ p) {k : Nat} (hk : k < 2 ^ qs.length) :
    nth (prodL p qs tk x y) k = (sumN (2 ^ qs.length) fun i => sumN (2 ^ qs.length) fun j => if (tk i j && (i ^^^ j == k)) = true then nth x i * nth y j * fac p qs i j else 0) % p :=
  outP_nth hp hk _ (Nat.le_refl _)
theorem xor_eq_iff {a b k : Nat} : a ^^^ b = k ↔ b = a ^^^ k := by
  constructor
  · rintro rfl; rw [← Nat.xor_assoc, Nat.xor_self, Nat.zero_xor]
  · rintro rfl; rw [← Nat.xor_assoc, Nat.xor_self, Nat.zero_xor]
/-- One sum: the pairs of a blade i and the blade that leads to k. -/
theorem prod_nth1 {p : Int} {qs : List Int} {tk : Nat → Nat → Bool} {x y : List Int} (hp : 1 ≤ p) {k : Nat} (hk : k < 2 ^ qs.length) :
    nth (prodL p qs tk x y) k = (sumN (2 ^ qs.length) fun i => if tk i (i ^^^ k) = true then nth x i * nth y (i ^^^ k) * fac p qs i (i ^^^ k) else 0) % p := by
  rw [prod_nth hp hk]
  congr 1
  refine sumN_congr fun i hi => ?_
  rw [sumN_single (k := i ^^^ k) (Nat.xor_lt_two_pow hi hk) (fun j _ hne => by
    have : ¬ i ^^^ j = k := fun h => hne (xor_eq_iff.1 h)
    simp [this])]
  have : i ^^^ (i ^^^ k) = k := by rw [← Nat.xor_assoc, Nat.xor_self, Nat.zero_xor]
  simp [this]

/-! ### The factor over the integers -/
def sgZ (a k : Nat) : Int := if popc (a >>> (k + 1)) % 2 = 1 then -1 else 1
def stZ (qs : List Int) (a b k : Nat) : Int := if b.testBit k then (if a.testBit k then sgZ a k * nth qs k else sgZ a k) else 1
def facZ (qs : List Int) (a b : Nat) : Nat → Int
  | 0 => 1
  | k + 1 => facZ qs a b k * stZ qs a b k
theorem sgn_emod {p o o' : Int} {s : Nat} (h : o % p = o' % p) : sgn p s o % p = ((if s % 2 = 1 then -1 else 1) * o') % p := by
  unfold sgn
  split
  · rw [Int.emod_emod, show -o = -1 * o by omega]
    exact mul_emod_congr rfl h
  · rw [Int.one_mul]; exact h
theorem fac_emod_k {p : Int} {qs : List Int} {a b : Nat} (k : Nat) : sgn p (facS p qs a b k).1 (facS p qs a b k).2 % p = facZ qs a b k % p := by
  induction k with
  | zero => simp [facS, facZ, sgn]
  | succ k ih =>
    have h1 := sgn_emod (p := p) (s := (facS p qs a b k).1) (o := (facS p qs a b k).2) rfl
    rw [h1] at ih
    cases hb : b.testBit k
    · rw [facS_no hb]
      simp only [facZ, stZ, hb]
      rw [h1, ih]; simp
    · have hsg : ∀ s t : Nat, (if (s + t) % 2 = 1 then (-1 : Int) else 1) = (if s % 2 = 1 then -1 else 1) * (if t % 2 = 1 then -1 else 1) := by
        intro s t
        have : s % 2 = 0 ∨ s % 2 = 1 := by omega
        have : t % 2 = 0 ∨ t % 2 = 1 := by omega
        rcases ‹s % 2 = 0 ∨ s % 2 = 1› with h | h <;> rcases ‹t % 2 = 0 ∨ t % 2 = 1› with h' | h'
        · have : (s + t) % 2 = 0 := by omega
          simp [h, h', this]
        · have : (s + t) % 2 = 1 := by omega
          simp [h, h', this]
        · have : (s + t) % 2 = 1 := by omega
          simp [h, h', this]
        · have : (s + t) % 2 = 0 := by omega
          simp [h, h', this]
      cases ha : a.testBit k
      · rw [facS_one hb ha]
        simp only [facZ, stZ, hb, ha, if_true, sgZ]
        rw [sgn_emod rfl, hsg, Int.mul_right_comm]
        exact mul_emod_congr ih rfl
      · rw [facS_two hb ha]
        simp only [facZ, stZ, hb, ha, if_true, sgZ]
        rw [sgn_emod (o' := (facS p qs a b k).2 * nth qs k) (by rw [Int.emod_emod]), hsg, show ∀ u v x y : Int, (u * v) * (x * y) = (u * x) * (v * y) from fun u v x y => by ac_rfl]
        exact mul_emod_congr ih rfl
theorem fac_emod {p : Int} {qs : List Int} {a b : Nat} : fac p qs a b % p = facZ qs a b qs.length % p := fac_emod_k _

theorem sgZ_xor (a b k : Nat) (ha : a < 64) (hb : b < 64) (hk : k < 6) : sgZ (a ^^^ b) k = sgZ a k * sgZ b k := by
  have : ∀ k : Nat, k < 6 → ∀ a : Nat, a < 64 → ∀ b : Nat, b < 64 → sgZ (a ^^^ b) k = sgZ a k * sgZ b k := by decide +kernel
  exact this k hk a ha b hb
theorem sgZ_sq (a k : Nat) : sgZ a k * sgZ a k = 1 := by unfold sgZ; split <;> rfl
theorem stZ_cocycle {qs : List Int} {a b c k : Nat} (ha : a < 64) (hb : b < 64) (hk : k < 6) : stZ qs a b k * stZ qs (a ^^^ b) c k = stZ qs b c k * stZ qs a (b ^^^ c) k := by
  have hs := sgZ_xor a b k ha hb hk
  have h2 := sgZ_sq a k
  unfold stZ
  rw [hs]
  simp only [Nat.testBit_xor]
  cases a.testBit k <;> cases b.testBit k <;> cases c.testBit k <;> simp
  · exact Int.mul_comm _ _
  · rw [show sgZ a k * (sgZ a k * sgZ b k * nth qs k) = (sgZ a k * sgZ a k) * (sgZ b k * nth qs k) by ac_rfl, h2, Int.one_mul]
  · ac_rfl
  · rw [show sgZ a k * nth qs k * (sgZ a k * sgZ b k) = (sgZ a k * sgZ a k) * (sgZ b k * nth qs k) by ac_rfl, h2, Int.one_mul]
theorem facZ_cocycle {qs : List Int} {a b c : Nat} (ha : a < 64) (hb : b < 64) : ∀ k, k ≤ 6 → facZ qs a b k * facZ qs (a ^^^ b) c k = facZ qs b c k * facZ qs a (b ^^^ c) k
  | 0, _ => rfl
  | k + 1, hk => by
    have ih := facZ_cocycle (qs := qs) (c := c) ha hb k (by omega)
    have hs := stZ_cocycle (qs := qs) (c := c) ha hb (show k < 6 by omega)
    simp only [facZ]
    rw [show facZ qs a b k * stZ qs a b k * (facZ qs (a ^^^ b) c k * stZ qs (a ^^^ b) c k) = (facZ qs a b k * facZ qs (a ^^^ b) c k) * (stZ qs a b k * stZ qs (a ^^^ b) c k) by ac_rfl, ih, hs]
    ac_rfl

/-! ### The geometric product -/
/-- The coefficient with the factor over the integers. -/
theorem prodA_nth {p : Int} {qs x y : List Int} (hp : 1 ≤ p) {k : Nat} (hk : k < 2 ^ qs.length) :
    nth (prodL p qs tkA x y) k = (sumN (2 ^ qs.length) fun i => nth x i * nth y (i ^^^ k) * facZ qs i (i ^^^ k) qs.length) % p := by
  rw [prod_nth1 hp hk]
  refine sumN_emod fun i hi => ?_
  simp only [tkA, if_true]
  exact mul_emod_congr rfl fac_emod
theorem xor_cancel (a m k : Nat) : a ^^^ m ^^^ (a ^^^ k) = m ^^^ k := by
  rw [Nat.xor_comm a m, Nat.xor_assoc, ← Nat.xor_assoc a a k, Nat.xor_self, Nat.zero_xor]
theorem prod_assoc {p : Int} {qs x y z : List Int} (hp : 1 ≤ p) (hd : qs.length ≤ 6) : prodL p qs tkA (prodL p qs tkA x y) z = prodL p qs tkA x (prodL p qs tkA y z) := by
  have hN := pow_le64 hd
  refine ext_nth (by rw [(prod_good hp).1, (prod_good hp).1]) fun k hk => ?_
  rw [(prod_good hp).1] at hk
  rw [prodA_nth hp hk, prodA_nth hp hk]
  have e1 : ∀ m, m < 2 ^ qs.length → (nth (prodL p qs tkA x y) m * nth z (m ^^^ k) * facZ qs m (m ^^^ k) qs.length) % p =
      (sumN (2 ^ qs.length) fun a => nth x a * nth y (a ^^^ m) * facZ qs a (a ^^^ m) qs.length * (nth z (m ^^^ k) * facZ qs m (m ^^^ k) qs.length)) % p := fun m hm => by
    rw [prodA_nth hp hm, sumN_mulr, Int.mul_assoc]
    exact mul_emod_congr (Int.emod_emod _ _) rfl
  have e2 : ∀ a, a < 2 ^ qs.length → (nth x a * nth (prodL p qs tkA y z) (a ^^^ k) * facZ qs a (a ^^^ k) qs.length) % p =
      (sumN (2 ^ qs.length) fun m => nth x a * nth y (a ^^^ m) * facZ qs a (a ^^^ m) qs.length * (nth z (m ^^^ k) * facZ qs m (m ^^^ k) qs.length)) % p := fun a ha => by
    rw [prodA_nth hp (Nat.xor_lt_two_pow ha hk), ← sumN_xor hd ha]
    have : (nth x a * ((sumN (2 ^ qs.length) fun m => nth y (a ^^^ m) * nth z (a ^^^ m ^^^ (a ^^^ k)) * facZ qs (a ^^^ m) (a ^^^ m ^^^ (a ^^^ k)) qs.length) % p) * facZ qs a (a ^^^ k) qs.length) % p =
        (nth x a * (sumN (2 ^ qs.length) fun m => nth y (a ^^^ m) * nth z (a ^^^ m ^^^ (a ^^^ k)) * facZ qs (a ^^^ m) (a ^^^ m ^^^ (a ^^^ k)) qs.length) * facZ qs a (a ^^^ k) qs.length) % p :=
      mul_emod_congr (mul_emod_congr rfl (Int.emod_emod _ _)) rfl
    rw [this, ← sumN_mul, ← sumN_mulr]
    congr 1
    refine sumN_congr fun m hm => ?_
    rw [xor_cancel]
    have hc := facZ_cocycle (qs := qs) (a := a) (b := a ^^^ m) (c := m ^^^ k) (by omega) (Nat.lt_of_lt_of_le (Nat.xor_lt_two_pow ha hm) hN) qs.length hd
    rw [show a ^^^ (a ^^^ m) = m by rw [← Nat.xor_assoc, Nat.xor_self, Nat.zero_xor], show a ^^^ m ^^^ (m ^^^ k) = a ^^^ k by rw [Nat.xor_assoc, ← Nat.xor_assoc m m k, Nat.xor_self, Nat.zero_xor]] at hc
    rw [show nth x a * nth y (a ^^^ m) * facZ qs a (a ^^^ m) qs.length * (nth z (m ^^^ k) * facZ qs m (m ^^^ k) qs.length) = nth x a * nth y (a ^^^ m) * nth z (m ^^^ k) * (facZ qs a (a ^^^ m) qs.length * facZ qs m (m ^^^ k) qs.length) by ac_rfl, hc]
    ac_rfl
  rw [sumN_emod e1, sumN_emod e2, sumN_swap]

theorem fac_right {p : Int} {qs : List Int} {a : Nat} : fac p qs a 0 = 1 := by
  have : ∀ k, facS p qs a 0 k = (0, 1) := fun k => by
    induction k with
    | zero => rfl
    | succ k ih => rw [facS_no (by simp), ih]
  simp [fac, this, sgn]
theorem times_one {p : Int} {qs x : List Int} (hp : 1 ≤ p) (hx : Good p (2 ^ qs.length) x) : prodL p qs tkA x (bladeL (2 ^ qs.length) 0) = x := by
  have hN : 0 < 2 ^ qs.length := Nat.pos_of_ne_zero (by simp)
  refine ext_nth (by rw [(prod_good hp).1, hx.1]) fun k hk => ?_
  rw [(prod_good hp).1] at hk
  rw [prod_nth1 hp hk, sumN_single hk (fun i hi hne => by
    have : ¬ 0 = i ^^^ k := fun h => hne (by have := xor_eq_iff.1 h.symm; simpa using this.symm)
    simp [tkA, bladeL_nth hN (Nat.xor_lt_two_pow hi hk), this])]
  rw [Nat.xor_self, fac_right, bladeL_nth hN hN]
  simp only [tkA, if_true, Int.mul_one]
  have := hx.2 k hk
  exact Int.emod_eq_of_lt this.1 this.2

/-! ### Powers -/
def powL (p : Int) (qs x : List Int) : Nat → List Int
  | 0 => bladeL (2 ^ qs.length) 0
  | k + 1 => prodL p qs tkA (powL p qs x k) x
theorem pow_good {p : Int} {qs x : List Int} (hp : 3 ≤ p) : ∀ k, Good p (2 ^ qs.length) (powL p qs x k)
  | 0 => blade_good hp
  | k + 1 => prod_good (by omega)
theorem pow_one {p : Int} {qs x : List Int} (hp : 3 ≤ p) (hx : Good p (2 ^ qs.length) x) : powL p qs x 1 = x := one_times hp hx
theorem pow_add {p : Int} {qs x : List Int} (hp : 3 ≤ p) (hd : qs.length ≤ 6) (m : Nat) : ∀ n, prodL p qs tkA (powL p qs x m) (powL p qs x n) = powL p qs x (m + n)
  | 0 => times_one (by omega) (pow_good hp m)
  | n + 1 => by
    show prodL p qs tkA (powL p qs x m) (prodL p qs tkA (powL p qs x n) x) = prodL p qs tkA (powL p qs x (m + n)) x
    rw [← prod_assoc (by omega) hd, pow_add hp hd m n]
end Go.Proofs.Ytbgnfjckbjmgbaa
