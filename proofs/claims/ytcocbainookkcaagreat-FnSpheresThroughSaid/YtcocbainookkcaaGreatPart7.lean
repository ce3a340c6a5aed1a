/-
  Contracts and plain laws, part 7: ReflP, Wdg, ShiftP, DblP, Top18B, Top18C, Top18D.
  No condition.
-/
import Derived.Test.YtcocbainookkcaaGreatPart6
import Derived.Test.YtcocbainookkcaaGreatPart2
import Derived.Test.YtcocbainookkcaaGreatPart5
import Derived.Test.YtcocbainookkcaaGreatPart3
import Derived.Test.YtcocbainookkcaaGreatPart4
import Derived.Test.YtcocbainookkcaaGreatPart1
/-
  Reflections keep the products of the columns, in plain numbers.
  No condition. No program in sight.
-/
namespace Go.Proofs.YtcocbainookkcaaGreat
set_option maxRecDepth 100000
open Go.RowKit

/-- The product of two vectors, not reduced. -/
def quadS (n : Nat) (qs v w : List Int) : Int := sumN n fun t => nth v t * nth qs t * nth w t
theorem dot_sumN (x y : List Int) : ∀ n, dotS x y n = sumN n fun i => nth x i * nth y i
  | 0 => rfl
  | n + 1 => by simp only [dotS, sumN]; rw [dot_sumN x y n]
theorem pair_quad {p : Int} {qs v w : List Int} {n : Nat} : pairL p qs v w n = quadS n qs v w % p := by
  unfold pairL dotL quadS
  rw [dot_sumN]
  exact sumN_emod fun i hi => by rw [wtL_nth hi, wtN, Int.mul_emod, Int.emod_emod, ← Int.mul_emod]
theorem quad_comm (n : Nat) (qs v w : List Int) : quadS n qs v w = quadS n qs w v := by
  unfold quadS; exact sumN_congr fun i _ => by grind
theorem mul3_emod {p a a' b c c' : Int} (h : a % p = a' % p) (h2 : c % p = c' % p) : a * b * c % p = a' * b * c' % p := by
  rw [Int.mul_emod, Int.mul_emod a, h, h2, ← Int.mul_emod a', ← Int.mul_emod]
theorem quad_expand (n : Nat) (qs u x y : List Int) (A B : Int) : sumN n (fun t => (nth x t - A * nth u t) * nth qs t * (nth y t - B * nth u t)) = quadS n qs x y - B * quadS n qs x u - A * quadS n qs u y + A * B * quadS n qs u u := by
  have h : ∀ t, (nth x t - A * nth u t) * nth qs t * (nth y t - B * nth u t) = (nth x t * nth qs t * nth y t + (-B) * (nth x t * nth qs t * nth u t)) + ((-A) * (nth u t * nth qs t * nth y t) + (A * B) * (nth u t * nth qs t * nth u t)) := fun t => by grind
  rw [sumN_congr fun t _ => h t, sumN_add, sumN_add, sumN_add, sumN_mul, sumN_mul, sumN_mul]
  unfold quadS
  grind
theorem refl_keep {p c : Int} {n : Nat} {qs u x y x' y' : List Int} (hc : c * quadS n qs u u % p = 2 % p) (hx : ∀ t, t < n → nth x' t % p = (nth x t - c * quadS n qs u x * nth u t) % p) (hy : ∀ t, t < n → nth y' t % p = (nth y t - c * quadS n qs u y * nth u t) % p) : quadS n qs x' y' % p = quadS n qs x y % p := by
  have h1 : quadS n qs x' y' % p = sumN n (fun t => (nth x t - c * quadS n qs u x * nth u t) * nth qs t * (nth y t - c * quadS n qs u y * nth u t)) % p := by
    unfold quadS
    exact sumN_emod fun t ht => mul3_emod (hx t ht) (hy t ht)
  obtain ⟨z, hz⟩ : ∃ z, c * quadS n qs u u - 2 = p * z := Int.dvd_of_emod_eq_zero (by rw [Int.sub_emod, hc, Int.sub_self, Int.zero_emod])
  rw [h1, quad_expand, quad_comm n qs x u, show quadS n qs x y - c * quadS n qs u y * quadS n qs u x - c * quadS n qs u x * quadS n qs u y + c * quadS n qs u x * (c * quadS n qs u y) * quadS n qs u u = quadS n qs x y + p * (z * (c * quadS n qs u x * quadS n qs u y)) by
    have : c * quadS n qs u u = 2 + p * z := by omega
    grind, Int.add_mul_emod_self_left]

/-- The factor of a reflection, the reflected vector, the matrix of a reflection. -/
def reflK (p : Int) (qs u v : List Int) (d : Nat) : Int := -2 * pairL p qs u v d * invN p (pairL p qs u u d)
def reflL (p : Int) (qs u v : List Int) (d : Nat) : List Int := plusL p v u (reflK p qs u v d) d
def reflC (p : Int) (qs u : List Int) (d k : Nat) : List (List Int) := (List.range k).map fun i => reflL p qs u (bladeL d i) d
theorem reflC_succ (p : Int) (qs u : List Int) (d k : Nat) : reflC p qs u d (k + 1) = reflC p qs u d k ++ [reflL p qs u (bladeL d k) d] := by simp [reflC, List.range_succ]
theorem reflC_len (p : Int) (qs u : List Int) (d k : Nat) : (reflC p qs u d k).length = k := by simp [reflC]
theorem reflC_nth {p : Int} {qs u : List Int} {d k i : Nat} (h : i < k) : nthR (reflC p qs u d k) i = reflL p qs u (bladeL d i) d := by
  unfold reflC; rw [nthR_map (by simpa using h)]; simp
theorem reflC_good {p : Int} {qs u : List Int} {d k : Nat} (hp : 1 ≤ p) : RowsG p d (reflC p qs u d k) := fun i hi => by
  rw [reflC_len] at hi
  rw [reflC_nth hi]; exact plus_good hp
def reflM (p : Int) (qs u : List Int) (d : Nat) : List (List Int) := turnL (reflC p qs u d d) d d
theorem reflM_len (p : Int) (qs u : List Int) (d : Nat) : (reflM p qs u d).length = d := turnL_len ..
theorem reflM_good {p : Int} {qs u : List Int} {d : Nat} (hp : 1 ≤ p) : RowsG p d (reflM p qs u d) := turn_good (fun j hj => reflC_good hp j hj) (reflC_len ..).symm

/-- The products of the columns are those of the basis. -/
def isoM (p : Int) (qs : List Int) (m : List (List Int)) (d : Nat) : Prop := ∀ i, i < d → ∀ k, k < d → pairL p qs (colL m i d) (colL m k d) d = wantN qs i k
theorem isoM_of {p : Int} {qs : List Int} {rows : List (List Int)} {d : Nat} (h : isoB p qs rows d = true) : isoM p qs rows d := fun i hi k hk => by
  have := (isoB_of h).2.2.2.2 i hi k hk
  unfold isoAt at this
  rwa [turnL_nth hi, turnL_nth hk] at this
theorem quad_blade {n : Nat} {qs u : List Int} {j : Nat} (hj : j < n) : quadS n qs u (bladeL n j) = nth u j * nth qs j := by
  unfold quadS
  rw [sumN_single hj fun i hi hne => by rw [bladeL_nth hj hi, if_neg (by omega), Int.mul_zero], bladeL_nth hj hj, if_pos rfl, Int.mul_one]
theorem reflM_at {p : Int} {qs u : List Int} {d t j : Nat} (ht : t < d) (hj : j < d) : nth (nthR (reflM p qs u d) t) j % p = ((if j = t then 1 else 0) - 2 * invN p (pairL p qs u u d) * (nth u j * nth qs j) * nth u t) % p := by
  unfold reflM
  rw [turnL_nth ht, colL_nth hj, reflC_nth hj]
  unfold reflL
  rw [plusL_nth ht, plusN, Int.emod_emod, bladeL_nth hj ht, reflK, pair_quad (v := u) (w := bladeL d j), quad_blade hj]
  rw [show (-2 * (nth u j * nth qs j % p) * invN p (pairL p qs u u d) * nth u t) = (nth u j * nth qs j % p) * (-2 * invN p (pairL p qs u u d) * nth u t) by grind]
  rw [Int.add_emod, Int.mul_emod, Int.emod_emod, ← Int.mul_emod, ← Int.add_emod]
  congr 1
  grind
theorem mul_col {p : Int} {qs u : List Int} {m : List (List Int)} {d i t : Nat} (hi : i < d) (ht : t < d) : nth (colL (mulL p (reflM p qs u d) m d d d) i d) t % p = (nth (colL m i d) t - 2 * invN p (pairL p qs u u d) * quadS d qs u (colL m i d) * nth u t) % p := by
  rw [colL_nth ht, mulL_nth ht, appL_nth hi, turnL_nth hi]
  unfold dotL
  rw [Int.emod_emod, dot_sumN]
  have h : sumN d (fun j => nth (colL m i d) j * nth (nthR (reflM p qs u d) t) j) % p = sumN d (fun j => nth (colL m i d) j * (if j = t then 1 else 0) + (-(2 * invN p (pairL p qs u u d) * nth u t)) * (nth u j * nth qs j * nth (colL m i d) j)) % p :=
    sumN_emod fun j hj => by
      rw [Int.mul_emod, reflM_at ht hj, ← Int.mul_emod]
      congr 1
      grind
  rw [h, sumN_add, sumN_mul, sumN_single ht fun j hj hne => by rw [if_neg (by omega), Int.mul_zero], if_pos rfl]
  unfold quadS
  congr 1
  grind
theorem refl_iso {p : Int} {qs u : List Int} {m : List (List Int)} {d : Nat} (hp : primeB p = true) (hu : pairL p qs u u d ≠ 0) (h : isoM p qs m d) : isoM p qs (mulL p (reflM p qs u d) m d d d) d := fun i hi k hk => by
  have hpb := prime_bd hp
  have hb := pairL_bd (p := p) (qs := qs) (v := u) (w := u) (n := d) (by omega)
  have hc : 2 * invN p (pairL p qs u u d) * quadS d qs u u % p = 2 % p := by
    have h1 := (inv_spec hp (a := pairL p qs u u d) (by omega) hb.2).2.1
    rw [pair_quad, Int.mul_emod, Int.emod_emod, ← Int.mul_emod] at h1
    rw [← pair_quad] at h1
    rw [show 2 * invN p (pairL p qs u u d) * quadS d qs u u = 2 * (quadS d qs u u * invN p (pairL p qs u u d)) by grind, Int.mul_emod, h1, Int.mul_one, Int.emod_emod]
  rw [← h i hi k hk, pair_quad, pair_quad]
  exact refl_keep hc (fun t ht => mul_col hi ht) (fun t ht => mul_col hk ht)
/-- Where the difference has no norm, the sum has one. -/
theorem more_ne {p : Int} {qs w : List Int} {d i : Nat} (hp : primeB p = true) (hi : i < d) (hq : nth qs i % p ≠ 0) (hw : pairL p qs w w d = nth qs i) (hz : pairL p qs (plusL p w (bladeL d i) (-1) d) (plusL p w (bladeL d i) (-1) d) d = 0) : pairL p qs (plusL p w (bladeL d i) 1 d) (plusL p w (bladeL d i) 1 d) d ≠ 0 := by
  intro h1
  have hpb := prime_bd hp
  have ex : ∀ k : Int, pairL p qs (plusL p w (bladeL d i) k d) (plusL p w (bladeL d i) k d) d = (quadS d qs w w - (-k) * quadS d qs w (bladeL d i) - (-k) * quadS d qs (bladeL d i) w + (-k) * (-k) * quadS d qs (bladeL d i) (bladeL d i)) % p := fun k => by
    rw [pair_quad, ← quad_expand]
    unfold quadS
    exact sumN_emod fun t ht => by
      have e : nth (plusL p w (bladeL d i) k d) t % p = (nth w t - -k * nth (bladeL d i) t) % p := by
        rw [plusL_nth ht, plusN, Int.emod_emod]; congr 1; grind
      exact mul3_emod e e
  rw [ex] at h1 hz
  rw [pair_quad] at hw
  have hbb : quadS d qs (bladeL d i) (bladeL d i) = nth qs i := by rw [quad_blade hi, bladeL_nth hi hi, if_pos rfl, Int.one_mul]
  rw [hbb] at h1 hz
  obtain ⟨a, ha⟩ := Int.dvd_of_emod_eq_zero h1
  obtain ⟨b, hb⟩ := Int.dvd_of_emod_eq_zero hz
  have hs : 2 * (quadS d qs w w + nth qs i) = p * (a + b) := by grind
  have h4 : 4 * nth qs i % p = 0 := by
    have e := Int.emod_add_mul_ediv (quadS d qs w w) p
    rw [hw] at e
    have : 4 * nth qs i = p * (a + b - 2 * (quadS d qs w w / p)) := by grind
    rw [this]; exact Int.mul_emod_right ..
  have h5 := (mul_zero_of hp (x := 4 % p) (y := nth qs i % p) (Int.emod_nonneg _ (by omega)) (Int.emod_lt_of_pos _ (by omega)) (Int.emod_nonneg _ (by omega)) (Int.emod_lt_of_pos _ (by omega))).1 (by rw [← Int.mul_emod]; exact h4)
  rcases h5 with h5 | h5
  · have h6 := Int.le_of_dvd (by omega) (Int.dvd_of_emod_eq_zero h5)
    have h7 : p = 3 ∨ p = 4 := by omega
    rcases h7 with rfl | rfl
    · omega
    · revert hp; decide
  · exact hq h5
end Go.Proofs.YtcocbainookkcaaGreat

/-
  Wedge products of vectors, plain: they change their sign when two vectors are exchanged, are 0 exactly if the vectors are dependent, and are the determinant for as many vectors as squares.
  No condition. No program in sight.
-/
namespace Go.Proofs.YtcocbainookkcaaGreat
set_option maxRecDepth 100000
open Go.RowKit

/-- The wedge product of the first k of some vectors. -/
def wdS (p : Int) (qs : List Int) (rows : List (List Int)) (k : Nat) : List Int := prodS p qs tkW rows k
/-- A multivector that is 0. -/
def nilL (qs : List Int) : List Int := List.replicate (2 ^ qs.length) 0
theorem nil_nth {qs : List Int} {i : Nat} (h : i < 2 ^ qs.length) : nth (nilL qs) i = 0 := nth_replicate h
theorem nil_len (qs : List Int) : (nilL qs).length = 2 ^ qs.length := by simp [nilL]
theorem wd_good {p : Int} {qs : List Int} {rows : List (List Int)} (hp : 3 ≤ p) (k : Nat) : Good p (2 ^ qs.length) (wdS p qs rows k) := prodS_good hp k
theorem prod_nil_right {p : Int} {qs x : List Int} {tk : Nat → Nat → Bool} (hp : 1 ≤ p) : prodL p qs tk x (nilL qs) = nilL qs := by
  refine ext_nth (by rw [(prod_good hp).1, nil_len]) fun k hk => ?_
  rw [(prod_good hp).1] at hk
  rw [prodT_nth hp hk, sumN_zero (fun i hi => by rw [nil_nth (Nat.xor_lt_two_pow hi hk)]; simp), nil_nth hk]
  rfl
theorem prod_nil_left {p : Int} {qs x : List Int} {tk : Nat → Nat → Bool} (hp : 1 ≤ p) : prodL p qs tk (nilL qs) x = nilL qs := by
  refine ext_nth (by rw [(prod_good hp).1, nil_len]) fun k hk => ?_
  rw [(prod_good hp).1] at hk
  rw [prodT_nth hp hk, sumN_zero (fun i hi => by rw [nil_nth hi]; simp), nil_nth hk]
  rfl
theorem plus_nil {p k : Int} {qs x : List Int} (hx : Good p (2 ^ qs.length) x) : plusL p x (nilL qs) k (2 ^ qs.length) = x := by
  refine ext_nth (by rw [plusL_len, hx.1]) fun i hi => ?_
  rw [plusL_len] at hi
  rw [plusL_nth hi, plusN, nil_nth hi, Int.mul_zero, Int.add_zero, Int.emod_eq_of_lt (hx.2 i hi).1 (hx.2 i hi).2]
theorem nil_plus {p : Int} {qs x : List Int} (hx : Good p (2 ^ qs.length) x) : plusL p (nilL qs) x 1 (2 ^ qs.length) = x := by
  refine ext_nth (by rw [plusL_len, hx.1]) fun i hi => ?_
  rw [plusL_len] at hi
  rw [plusL_nth hi, plusN, nil_nth hi, Int.one_mul, Int.zero_add, Int.emod_eq_of_lt (hx.2 i hi).1 (hx.2 i hi).2]
/-- v ∧ w + w ∧ v -/
theorem wedge_anti {p : Int} {qs v w : List Int} (hp : 1 ≤ p) (hd : qs.length ≤ 6) (hv : v.length = qs.length) (hw : w.length = qs.length) :
    plusL p (prodL p qs tkW (vecL (2 ^ qs.length) v) (vecL (2 ^ qs.length) w)) (prodL p qs tkW (vecL (2 ^ qs.length) w) (vecL (2 ^ qs.length) v)) 1 (2 ^ qs.length) = nilL qs := by
  refine ext_nth (by rw [plusL_len, nil_len]) fun k hk => ?_
  rw [plusL_len] at hk
  rw [plusL_nth hk, plusN, prodT_nth hp hk, prodT_nth hp hk, Int.one_mul, Int.emod_add_emod, Int.add_emod_emod, nil_nth hk]
  rw [← sumN_xor hd hk (fun i => tkI tkW i (i ^^^ k) * (nth (vecL (2 ^ qs.length) w) i * nth (vecL (2 ^ qs.length) v) (i ^^^ k) * facZ qs i (i ^^^ k) qs.length)), ← sumN_add]
  have : ∀ i, i < 2 ^ qs.length → tkI tkW i (i ^^^ k) * (nth (vecL (2 ^ qs.length) v) i * nth (vecL (2 ^ qs.length) w) (i ^^^ k) * facZ qs i (i ^^^ k) qs.length) + tkI tkW (k ^^^ i) (k ^^^ i ^^^ k) * (nth (vecL (2 ^ qs.length) w) (k ^^^ i) * nth (vecL (2 ^ qs.length) v) (k ^^^ i ^^^ k) * facZ qs (k ^^^ i) (k ^^^ i ^^^ k) qs.length) = 0 := fun i hi => by
    have x1 : k ^^^ i ^^^ k = i := by rw [Nat.xor_comm k i, Nat.xor_assoc, Nat.xor_self, Nat.xor_zero]
    rw [x1, Nat.xor_comm k i]
    have hik := Nat.xor_lt_two_pow hi hk
    have htk : tkI tkW (i ^^^ k) i = tkI tkW i (i ^^^ k) := by unfold tkI tkW; rw [Nat.and_comm]
    rw [htk, ← Int.mul_add]
    by_cases hb : ∃ s, s < qs.length ∧ i = 2 ^ s
    · obtain ⟨s, hs, rfl⟩ := hb
      by_cases hc : ∃ t, t < qs.length ∧ 2 ^ s ^^^ k = 2 ^ t
      · obtain ⟨t, ht, hst⟩ := hc
        rw [hst]
        by_cases hne : s = t
        · subst hne
          have : tkI tkW (2 ^ s) (2 ^ s) = 0 := by
            unfold tkI tkW
            rw [Nat.and_self, if_neg]
            have := pow_pos' s
            simp only [beq_iff_eq]
            omega
          rw [this, Int.zero_mul]
        · rw [(facZ_bits hd hs ht).1 hne]
          rw [Int.mul_comm (nth (vecL (2 ^ qs.length) w) _), Int.mul_neg, Int.add_left_neg, Int.mul_zero]
      · rw [vec_no hw hik (fun t ht h => hc ⟨t, ht, h⟩)]; simp
    · rw [vec_no hv hi (fun s hs h => hb ⟨s, hs, h⟩)]; simp
  rw [sumN_zero this]; rfl
theorem dbl_zero {p x : Int} (hp : primeB p = true) (h0 : 0 ≤ x) (h1 : x < p) (h : (x + x) % p = 0) : x = 0 := by
  simp only [primeB, Bool.or_eq_true, beq_iff_eq] at hp
  rcases hp with (((rfl | rfl) | rfl) | rfl) | rfl <;> omega
theorem wedge_self {p : Int} {qs v : List Int} (hp : primeB p = true) (hd : qs.length ≤ 6) (hv : v.length = qs.length) :
    prodL p qs tkW (vecL (2 ^ qs.length) v) (vecL (2 ^ qs.length) v) = nilL qs := by
  have hpb := prime_bd hp
  have h := wedge_anti (p := p) (by omega) hd hv hv
  have hg : Good p (2 ^ qs.length) (prodL p qs tkW (vecL (2 ^ qs.length) v) (vecL (2 ^ qs.length) v)) := prod_good (by omega)
  refine ext_nth (by rw [hg.1, nil_len]) fun k hk => ?_
  rw [hg.1] at hk
  have h2 := congrArg (fun l => nth l k) h
  rw [plusL_nth hk, plusN, Int.one_mul, nil_nth hk] at h2
  rw [nil_nth hk]
  exact dbl_zero hp (hg.2 k hk).1 (hg.2 k hk).2 h2
theorem wd_succ {p : Int} {qs : List Int} {rows : List (List Int)} {k : Nat} : wdS p qs rows (k + 1) = prodL p qs tkW (wdS p qs rows k) (vecL (2 ^ qs.length) (nthR rows k)) := rfl
theorem wd_congr {p : Int} {qs : List Int} {rows rows' : List (List Int)} : ∀ k, (∀ i, i < k → nthR rows i = nthR rows' i) → wdS p qs rows k = wdS p qs rows' k
  | 0, _ => rfl
  | k + 1, h => by rw [wd_succ, wd_succ, wd_congr k (fun i hi => h i (by omega)), h k (by omega)]
theorem wd_up {p : Int} {qs : List Int} {rows : List (List Int)} {m : Nat} (hp : 1 ≤ p) (h : wdS p qs rows m = nilL qs) : ∀ j, wdS p qs rows (m + j) = nilL qs
  | 0 => h
  | j + 1 => by rw [← Nat.add_assoc, wd_succ, wd_up hp h j, prod_nil_left hp]
/-- The product with a further vector, and that with it ahead of the last one. -/
theorem wd_turn {p : Int} {qs x u v : List Int} (hp : 1 ≤ p) (hd : qs.length ≤ 6) (hu : u.length = qs.length) (hv : v.length = qs.length) :
    plusL p (prodL p qs tkW (prodL p qs tkW x (vecL (2 ^ qs.length) u)) (vecL (2 ^ qs.length) v)) (prodL p qs tkW (prodL p qs tkW x (vecL (2 ^ qs.length) v)) (vecL (2 ^ qs.length) u)) 1 (2 ^ qs.length) = nilL qs := by
  rw [wedge_assoc hp hd, wedge_assoc hp hd, ← prod_plus_right hp, wedge_anti hp hd hu hv, prod_nil_right hp]
theorem wd_rep2 {p : Int} {qs : List Int} {rows : List (List Int)} {i j k : Nat} (hp : primeB p = true) (hd : qs.length ≤ 6) (hr : ∀ t, t < k → (nthR rows t).length = qs.length) (hij : i < j) (hjk : j < k) (he : nthR rows i = nthR rows j) : wdS p qs rows k = nilL qs := by
  have hpb := prime_bd hp
  have key : ∀ m, i + 1 + m < k → prodL p qs tkW (wdS p qs rows (i + 1 + m)) (vecL (2 ^ qs.length) (nthR rows i)) = nilL qs := fun m => by
    induction m with
    | zero =>
      intro hm
      rw [Nat.add_zero, wd_succ, wedge_assoc (by omega) hd, wedge_self hp hd (hr i (by omega)), prod_nil_right (by omega)]
    | succ m ih =>
      intro hm
      have ih' := ih (by omega)
      have h := wd_turn (p := p) (x := wdS p qs rows (i + 1 + m)) (by omega) hd (hr (i + 1 + m) (by omega)) (hr i (by omega))
      rw [ih', prod_nil_left (by omega), plus_nil (prod_good (by omega))] at h
      rw [show i + 1 + (m + 1) = i + 1 + m + 1 by omega, wd_succ]
      exact h
  have h1 := key (j - (i + 1)) (by omega)
  rw [show i + 1 + (j - (i + 1)) = j by omega, he, ← wd_succ] at h1
  have := wd_up (by omega) h1 (k - (j + 1))
  rwa [show j + 1 + (k - (j + 1)) = k by omega] at this
theorem vec_plus {p k : Int} {d : Nat} {x y : List Int} (hx : x.length = d) (hy : y.length = d) : vecL (2 ^ d) (plusL p x y k d) = plusL p (vecL (2 ^ d) x) (vecL (2 ^ d) y) k (2 ^ d) := by
  have hl : ∀ z : List Int, (vecL (2 ^ d) z).length = 2 ^ d := fun z => by
    unfold vecL
    generalize z.length = n
    induction n with
    | zero => simp [vecS]
    | succ n ih => simp [vecS, ih]
  have hpl := plusL_len p x y k d
  refine ext_nth (by rw [hl, plusL_len]) fun m hm => ?_
  rw [hl] at hm
  rw [plusL_nth hm, plusN]
  by_cases hb : ∃ s, s < d ∧ m = 2 ^ s
  · obtain ⟨s, hs, rfl⟩ := hb
    rw [vec_bit hpl hs, vec_bit hx hs, vec_bit hy hs, plusL_nth hs, plusN]
  · have hno : ∀ s, s < d → m ≠ 2 ^ s := fun s hs h => hb ⟨s, hs, h⟩
    rw [vec_no hpl hm hno, vec_no hx hm hno, vec_no hy hm hno]
    simp
/-- A sum in one place. -/
theorem wd_lin {p c : Int} {qs x y : List Int} {rows : List (List Int)} {i : Nat} (hp : 1 ≤ p) (hx : x.length = qs.length) (hy : y.length = qs.length) (hi : i < rows.length) :
    ∀ k, wdS p qs (rows.set i (plusL p x y c qs.length)) (i + 1 + k) = plusL p (wdS p qs (rows.set i x) (i + 1 + k)) (wdS p qs (rows.set i y) (i + 1 + k)) c (2 ^ qs.length)
  | 0 => by
    have hc : ∀ z, wdS p qs (rows.set i z) i = wdS p qs rows i := fun z => wd_congr i (fun j hj => by rw [nthR_set hi, if_neg (by omega)])
    rw [Nat.add_zero, wd_succ, wd_succ, wd_succ, hc, hc, hc, nthR_set hi, nthR_set hi, nthR_set hi, if_pos rfl, if_pos rfl, if_pos rfl, vec_plus hx hy, prod_plus_right hp]
  | k + 1 => by
    have ih := wd_lin (p := p) (c := c) (qs := qs) hp hx hy hi k
    rw [show i + 1 + (k + 1) = i + 1 + k + 1 by omega, wd_succ, wd_succ, wd_succ, ih, nthR_set hi, nthR_set hi, nthR_set hi, if_neg (by omega), if_neg (by omega), if_neg (by omega), prod_plus_left hp]
/-- All rows have as many numbers as there are squares. -/
def RowsL (d : Nat) (rows : List (List Int)) : Prop := ∀ i, i < rows.length → (nthR rows i).length = d
theorem RowsL.set {d : Nat} {rows : List (List Int)} (h : RowsL d rows) {j : Nat} {v : List Int} (hv : v.length = d) : RowsL d (rows.set j v) := by
  intro i hi
  rw [List.length_set] at hi
  by_cases hj : j < rows.length
  · rw [nthR_set hj]
    split
    · exact hv
    · exact h i hi
  · rw [List.set_eq_of_length_le (by omega)]; exact h i hi
theorem RowsG.len {p : Int} {m : Nat} {rows : List (List Int)} (h : RowsG p m rows) : RowsL m rows := fun i hi => (h i hi).1
theorem wd_lin' {p c : Int} {qs x y : List Int} {rows : List (List Int)} {i : Nat} (hp : 1 ≤ p) (hx : x.length = qs.length) (hy : y.length = qs.length) (hi : i < rows.length) :
    wdS p qs (rows.set i (plusL p x y c qs.length)) rows.length = plusL p (wdS p qs (rows.set i x) rows.length) (wdS p qs (rows.set i y) rows.length) c (2 ^ qs.length) := by
  have h := wd_lin (p := p) (c := c) (qs := qs) hp hx hy hi (rows.length - (i + 1))
  rwa [show i + 1 + (rows.length - (i + 1)) = rows.length by omega] at h
theorem wd_two {p : Int} {qs : List Int} {rows : List (List Int)} {i j : Nat} (hp : primeB p = true) (hd : qs.length ≤ 6) (hr : RowsL qs.length rows) (hij : i ≠ j) (hi : i < rows.length) (hj : j < rows.length) (he : nthR rows i = nthR rows j) : wdS p qs rows rows.length = nilL qs := by
  rcases Nat.lt_or_gt_of_ne hij with h | h
  · exact wd_rep2 hp hd hr h hj he
  · exact wd_rep2 hp hd hr h hi he.symm
/-- A multiple of another vector is added to one. -/
theorem wd_add {p c : Int} {qs : List Int} {rows : List (List Int)} {i j : Nat} (hp : primeB p = true) (hd : qs.length ≤ 6) (hr : RowsL qs.length rows) (hij : i ≠ j) (hi : i < rows.length) (hj : j < rows.length) :
    wdS p qs (rows.set i (plusL p (nthR rows i) (nthR rows j) c qs.length)) rows.length = wdS p qs rows rows.length := by
  have hpb := prime_bd hp
  rw [wd_lin' (by omega) (hr i hi) (hr j hj) hi, set_self]
  have h := wd_two (rows := rows.set i (nthR rows j)) (i := i) (j := j) hp hd (hr.set (hr j hj)) hij (by simpa using hi) (by simpa using hj) (by rw [nthR_set hi, nthR_set hi, if_pos rfl, if_neg hij])
  rw [List.length_set] at h
  rw [h, plus_nil (wd_good (by omega) _)]
theorem wd_scale {p c : Int} {qs : List Int} {rows : List (List Int)} {i : Nat} (hp : 3 ≤ p) (hr : RowsL qs.length rows) (hi : i < rows.length) :
    wdS p qs (rows.set i (scaleL p (nthR rows i) c qs.length)) rows.length = scaleL p (wdS p qs rows rows.length) c (2 ^ qs.length) := by
  have hz : ∀ (n : Nat) (x : List Int), plusL p (List.replicate n 0) x c n = scaleL p x c n := fun n x => by
    refine ext_nth (by rw [plusL_len, scaleL_len]) fun t ht => ?_
    rw [plusL_len] at ht
    rw [plusL_nth ht, scaleL_nth ht, plusN, scaleN, nth_replicate ht, Int.zero_add, Int.mul_comm]
  have hw : wdS p qs (rows.set i (List.replicate qs.length 0)) rows.length = nilL qs := by
    have hv : vecL (2 ^ qs.length) (List.replicate qs.length 0) = nilL qs := by
      have hg : Good p (2 ^ qs.length) (vecL (2 ^ qs.length) (List.replicate qs.length 0)) := vec_good (by omega) (good_zero (by omega))
      refine ext_nth (by rw [hg.1, nil_len]) fun m hm => ?_
      rw [hg.1] at hm
      rw [nil_nth hm]
      by_cases hb : ∃ s, s < qs.length ∧ m = 2 ^ s
      · obtain ⟨s, hs, rfl⟩ := hb
        rw [vec_bit (by simp) hs, nth_replicate hs]
      · exact vec_no (by simp) hm (fun s hs h => hb ⟨s, hs, h⟩)
    have h1 : wdS p qs (rows.set i (List.replicate qs.length 0)) (i + 1) = nilL qs := by
      rw [wd_succ, nthR_set hi, if_pos rfl, hv, prod_nil_right (by omega)]
    have := wd_up (by omega) h1 (rows.length - (i + 1))
    rwa [show i + 1 + (rows.length - (i + 1)) = rows.length by omega] at this
  rw [← hz, wd_lin' (by omega) (by simp) (hr i hi) hi, set_self, hw]
  exact hz _ _
/-- Two vectors are exchanged. -/
theorem wd_swap {p : Int} {qs : List Int} {rows : List (List Int)} {i j : Nat} (hp : primeB p = true) (hd : qs.length ≤ 6) (hr : RowsL qs.length rows) (hij : i ≠ j) (hi : i < rows.length) (hj : j < rows.length) :
    plusL p (wdS p qs (swapL rows i j) rows.length) (wdS p qs rows rows.length) 1 (2 ^ qs.length) = nilL qs := by
  have hpb := prime_bd hp
  obtain ⟨a, ha⟩ : ∃ a, a = nthR rows i := ⟨_, rfl⟩
  obtain ⟨b, hb⟩ : ∃ b, b = nthR rows j := ⟨_, rfl⟩
  have hal : a.length = qs.length := by rw [ha]; exact hr i hi
  have hbl : b.length = qs.length := by rw [hb]; exact hr j hj
  have hsl := plusL_len p a b 1 qs.length
  have hl : ∀ x y : List Int, x.length = qs.length → y.length = qs.length → RowsL qs.length ((rows.set i x).set j y) := fun x y hx hy => (hr.set hx).set hy
  have same : ∀ x : List Int, x.length = qs.length → wdS p qs ((rows.set i x).set j x) rows.length = nilL qs := fun x hx => by
    have h := wd_two (rows := (rows.set i x).set j x) (i := i) (j := j) hp hd (hl x x hx hx) hij (by rw [List.length_set, List.length_set]; exact hi) (by rw [List.length_set, List.length_set]; exact hj) (by
      have e1 : nthR ((rows.set i x).set j x) j = x := by rw [nthR_set (by simpa using hj), if_pos rfl]
      have e2 : nthR ((rows.set i x).set j x) i = x := by rw [nthR_set (by simpa using hj), if_neg (Ne.symm hij), nthR_set hi, if_pos rfl]
      rw [e1, e2])
    simpa using h
  have linj : ∀ x y z : List Int, y.length = qs.length → z.length = qs.length → wdS p qs ((rows.set i x).set j (plusL p y z 1 qs.length)) rows.length = plusL p (wdS p qs ((rows.set i x).set j y) rows.length) (wdS p qs ((rows.set i x).set j z) rows.length) 1 (2 ^ qs.length) := fun x y z hy hz => by
    have h := wd_lin' (p := p) (c := 1) (qs := qs) (rows := rows.set i x) (i := j) (by omega) hy hz (by simpa using hj)
    simpa using h
  have lini : ∀ x y z : List Int, y.length = qs.length → z.length = qs.length → wdS p qs ((rows.set i (plusL p y z 1 qs.length)).set j x) rows.length = plusL p (wdS p qs ((rows.set i y).set j x) rows.length) (wdS p qs ((rows.set i z).set j x) rows.length) 1 (2 ^ qs.length) := fun x y z hy hz => by
    have h := wd_lin' (p := p) (c := 1) (qs := qs) (rows := rows.set j x) (i := i) (by omega) hy hz (by simpa using hi)
    rw [List.set_comm _ _ hij, List.set_comm _ _ hij, List.set_comm _ _ hij]
    simpa using h
  have h1 := same (plusL p a b 1 qs.length) hsl
  rw [linj _ _ _ hal hbl, lini _ _ _ hal hbl, lini _ _ _ hal hbl, same a hal, same b hbl, nil_plus (wd_good (by omega) _), plus_nil (wd_good (by omega) _)] at h1
  have e1 : (rows.set i b).set j a = swapL rows i j := by rw [swapL, ha, hb]
  have e2 : (rows.set i a).set j b = rows := by rw [ha, set_self, hb, set_self]
  rw [e1, e2] at h1
  exact h1

/-! ### A coefficient of a product of vectors in a row -/
def maskC (c : Nat → Nat) : Nat → Nat
  | 0 => 0
  | k + 1 => maskC c k ^^^ 2 ^ c k
def diagC (c : Nat → Nat) (rows : List (List Int)) : Nat → Int
  | 0 => 1
  | k + 1 => diagC c rows k * nth (nthR rows k) (c k)
theorem maskC_lt {c : Nat → Nat} {m : Nat} : ∀ k, (∀ i, i < k → c i < m) → maskC c k < 2 ^ m
  | 0, _ => pow_pos' m
  | k + 1, h => Nat.xor_lt_two_pow (maskC_lt k fun i hi => h i (by omega)) (Nat.pow_lt_pow_right (by omega) (h k (by omega)))
theorem maskC_bit {c : Nat → Nat} {s : Nat} : ∀ k, (maskC c k).testBit s = true → ∃ i, i < k ∧ c i = s
  | 0, h => by simp [maskC] at h
  | k + 1, h => by
    rw [maskC, Nat.testBit_xor, Nat.testBit_two_pow] at h
    by_cases hs : c k = s
    · exact ⟨k, by omega, hs⟩
    · simp only [hs, decide_false, Bool.bne_false] at h
      obtain ⟨i, hi, he⟩ := maskC_bit k h
      exact ⟨i, by omega, he⟩
theorem facZ_hi {qs : List Int} {a s : Nat} (h : a < 2 ^ s) : ∀ n, facZ qs a (2 ^ s) n = 1
  | 0 => rfl
  | n + 1 => by
    rw [facZ, facZ_hi h n, stZ, Nat.testBit_two_pow]
    by_cases hn : s = n
    · subst hn
      have h1 : a.testBit s = false := Nat.testBit_lt_two_pow h
      have h2 : a >>> (s + 1) = 0 := by
        rw [Nat.shiftRight_eq_div_pow]
        exact Nat.div_eq_of_lt (Nat.lt_trans h (Nat.pow_lt_pow_right (by omega) (by omega)))
      rw [h1, sgZ, h2]
      simp [popc, popF]
    · simp [hn]
theorem wd_coef {p : Int} {qs : List Int} {rows : List (List Int)} {c : Nat → Nat} (hp : 3 ≤ p) (hd : qs.length ≤ 6) : ∀ k, k ≤ rows.length → RowsL qs.length rows → (∀ i, i < k → c i < qs.length) → (∀ i j, i < j → j < k → c i < c j) →
    (∀ i, i < k → ∀ j, j < i → nth (nthR rows i) (c j) = 0) → nth (wdS p qs rows k) (maskC c k) = diagC c rows k % p
  | 0, _, _, _, _, _ => by
    have h0 := pow_pos' qs.length
    show nth (bladeL (2 ^ qs.length) 0) 0 = 1 % p
    rw [bladeL_nth h0 h0, if_pos rfl, Int.emod_eq_of_lt (by omega) (by omega)]
  | k + 1, hk, hr, hc, hm, hz => by
    have ih := wd_coef (p := p) (qs := qs) hp hd k (by omega) hr (fun i hi => hc i (by omega)) (fun i j hij hj => hm i j hij (by omega)) (fun i hi j hj => hz i (by omega) j hj)
    have hlt : maskC c k < 2 ^ c k := maskC_lt k fun i hi => hm i k hi (by omega)
    have hM : maskC c (k + 1) < 2 ^ qs.length := maskC_lt (k + 1) hc
    have hck := hc k (by omega)
    have hpk : 2 ^ c k < 2 ^ qs.length := Nat.pow_lt_pow_right (by omega) hck
    have hrl := hr k (by omega)
    rw [wd_succ, prodT_nth (by omega) hM, ← sumN_xor hd hM]
    rw [sumN_single hpk (fun m hm' hne => ?_)]
    · have e1 : maskC c (k + 1) ^^^ 2 ^ c k = maskC c k := by rw [maskC, Nat.xor_assoc, Nat.xor_self, Nat.xor_zero]
      have e2 : maskC c k ^^^ maskC c (k + 1) = 2 ^ c k := by rw [maskC, ← Nat.xor_assoc, Nat.xor_self, Nat.zero_xor]
      have e3 : tkI tkW (maskC c k) (2 ^ c k) = 1 := by
        unfold tkI
        rw [if_pos]
        rw [tkW_iff]
        intro i
        rw [Nat.testBit_two_pow]
        by_cases hi : c k = i
        · subst hi; rw [Nat.testBit_lt_two_pow hlt]; rfl
        · simp [hi]
      rw [e1, e2, e3, facZ_hi hlt, vec_bit hrl hck, ih, Int.one_mul, Int.mul_one, diagC]
      exact mul_emod_congr (Int.emod_emod _ _) rfl
    · have e2 : maskC c (k + 1) ^^^ m ^^^ maskC c (k + 1) = m := by rw [Nat.xor_comm (maskC c (k + 1)) m, Nat.xor_assoc, Nat.xor_self, Nat.xor_zero]
      rw [e2]
      by_cases hb : ∃ s, s < qs.length ∧ m = 2 ^ s
      · obtain ⟨s, hs, rfl⟩ := hb
        by_cases hbit : (maskC c (k + 1)).testBit s = true
        · obtain ⟨i, hi, he⟩ := maskC_bit (k + 1) hbit
          have hik : i < k := by
            rcases Nat.lt_or_eq_of_le (Nat.le_of_lt_succ hi) with h | h
            · exact h
            · subst h; exact absurd (by rw [he]) hne
          rw [vec_bit hrl hs, ← he, hz k (by omega) i hik]
          simp
        · have : tkI tkW (maskC c (k + 1) ^^^ 2 ^ s) (2 ^ s) = 0 := by
            unfold tkI
            rw [if_neg]
            intro h
            have := (tkW_iff.1 h) s
            rw [Nat.testBit_xor, Nat.testBit_two_pow] at this
            simp [hbit] at this
          rw [this, Int.zero_mul]
      · rw [vec_no hrl hm' (fun s hs h => hb ⟨s, hs, h⟩)]; simp

/-! ### Dependent vectors -/
theorem scale_nil {p u : Int} {qs x : List Int} (hp : primeB p = true) (hx : Good p (2 ^ qs.length) x) (hu0 : 0 < u) (hu : u < p) : scaleL p x u (2 ^ qs.length) = nilL qs ↔ x = nilL qs := by
  constructor
  · intro h
    refine ext_nth (by rw [hx.1, nil_len]) fun k hk => ?_
    rw [hx.1] at hk
    have h2 := congrArg (fun l => nth l k) h
    rw [scaleL_nth hk, scaleN, nil_nth hk] at h2
    rw [nil_nth hk]
    rcases (mul_zero_of hp (hx.2 k hk).1 (hx.2 k hk).2 (by omega) hu).1 h2 with h | h
    · exact h
    · omega
  · rintro rfl
    refine ext_nth (by rw [scaleL_len, nil_len]) fun k hk => ?_
    rw [scaleL_len] at hk
    rw [scaleL_nth hk, scaleN, nil_nth hk, Int.zero_mul]; rfl
theorem plus_nil_iff {p : Int} {qs x y : List Int} (hx : Good p (2 ^ qs.length) x) (hy : Good p (2 ^ qs.length) y) (h : plusL p x y 1 (2 ^ qs.length) = nilL qs) : x = nilL qs ↔ y = nilL qs := by
  constructor
  · rintro rfl; rwa [nil_plus hy] at h
  · rintro rfl; rwa [plus_nil hx] at h
theorem swap_self {rows : List (List Int)} {i : Nat} : swapL rows i i = rows := by rw [swapL, set_self, set_self]
theorem wd_swap_nil {p : Int} {qs : List Int} {rows : List (List Int)} {i j : Nat} (hp : primeB p = true) (hd : qs.length ≤ 6) (hr : RowsL qs.length rows) (hi : i < rows.length) (hj : j < rows.length) :
    wdS p qs (swapL rows i j) rows.length = nilL qs ↔ wdS p qs rows rows.length = nilL qs := by
  have hpb := prime_bd hp
  by_cases hij : i = j
  · subst hij; rw [swap_self]
  · exact plus_nil_iff (wd_good (by omega) _) (wd_good (by omega) _) (wd_swap hp hd hr hij hi hj)
theorem wd_clr {p : Int} {qs : List Int} {rows : List (List Int)} {k d : Nat} (hp : primeB p = true) (hd : qs.length ≤ 6) (hr : RowsG p qs.length rows) (hdl : d < rows.length) : ∀ r, r ≤ rows.length → wdS p qs (clrS p k qs.length d rows r) rows.length = wdS p qs rows rows.length
  | 0, _ => rfl
  | r + 1, h => by
    have hpb := prime_bd hp
    have ih := wd_clr (k := k) hp hd hr hdl r (by omega)
    by_cases hrd : r = d
    · rw [clrS_self hrd]; exact ih
    · have hl := clrS_len (p := p) (k := k) (m := qs.length) (d := d) (rows := rows) r
      have := wd_add (c := -(nth (nthR (clrS p k qs.length d rows r) r) k)) hp hd (clrS_good (k := k) (d := d) (by omega) hr r).len hrd (by omega) (by omega)
      rw [hl] at this
      rw [clrS_ne hrd, this]; exact ih
theorem wd_gauss {p : Int} {qs : List Int} {rows : List (List Int)} (hp : primeB p = true) (hd : qs.length ≤ 6) (hr : RowsG p qs.length rows) : ∀ k, k ≤ qs.length → (wdS p qs (gaussS p qs.length rows k).1 rows.length = nilL qs ↔ wdS p qs rows rows.length = nilL qs)
  | 0, _ => Iff.rfl
  | k + 1, hk => by
    have hpb := prime_bd hp
    refine Iff.trans ?_ (wd_gauss hp hd hr k (by omega))
    obtain ⟨hgg, c, hred⟩ := gaussS_red hp hr k (by omega)
    have hgl := gaussS_len (p := p) (m := qs.length) (rows := rows) k
    rw [gaussS]
    obtain ⟨s, hs⟩ : ∃ s, s = gaussS p qs.length rows k := ⟨_, rfl⟩
    rw [← hs] at hgg hred hgl ⊢
    obtain ⟨h1, h2, h3, h4⟩ := pivG_spec s.1 k s.2 hred.dle
    by_cases hno : pivG s.1 k s.2 = s.1.length
    · rw [stepG_no hno]
    · have hil : pivG s.1 k s.2 < s.1.length := by omega
      have hne : nth (nthR s.1 (pivG s.1 k s.2)) k ≠ 0 := by
        rcases h4 with h4 | h4
        · exact absurd h4 hno
        · exact h4
      rw [stepG_yes rfl hil]
      simp only
      have hds : s.2 < s.1.length := by omega
      have hug : RowsG p qs.length (upG p qs.length s.1 s.2 k (pivG s.1 k s.2)) := upG_good (by omega) hgg hds hil
      have hul : (upG p qs.length s.1 s.2 k (pivG s.1 k s.2)).length = s.1.length := upG_len
      have hcl := wd_clr (k := k) (d := s.2) hp hd hug (by omega) s.1.length (by omega)
      rw [hul, hgl] at hcl
      rw [hgl, hcl]
      have hb := (hgg _ hil).2 k (by omega)
      have hiv := inv_spec hp (by omega) hb.2
      have hib := invN_bd (p := p) (a := nth (nthR s.1 (pivG s.1 k s.2)) k) (by omega)
      unfold upG
      have hsl := swapL_len (rows := s.1) (i := s.2) (j := pivG s.1 k s.2)
      have hsg : RowsG p qs.length (swapL s.1 s.2 (pivG s.1 k s.2)) := swapL_good hgg hds hil
      have hsd : nthR (swapL s.1 s.2 (pivG s.1 k s.2)) s.2 = nthR s.1 (pivG s.1 k s.2) := by
        rw [swapL_nth hds hil]
        by_cases he : s.2 = pivG s.1 k s.2
        · rw [if_pos he, ← he]
        · rw [if_neg he, if_pos rfl]
      rw [← hsd]
      have hsc := wd_scale (p := p) (qs := qs) (c := invN p (nth (nthR (swapL s.1 s.2 (pivG s.1 k s.2)) s.2) k)) (rows := swapL s.1 s.2 (pivG s.1 k s.2)) (i := s.2) (by omega) hsg.len (by omega)
      rw [hsl, hgl] at hsc
      rw [hsc]
      rw [hsd]
      refine (scale_nil hp (wd_good (by omega) _) (by omega) hib.2).trans ?_
      have := wd_swap_nil (i := s.2) (j := pivG s.1 k s.2) hp hd hgg.len hds hil
      rwa [hgl] at this
/-- The product of vectors is 0 exactly if they are dependent. -/
theorem wd_rank {p : Int} {qs : List Int} {rows : List (List Int)} (hp : primeB p = true) (hd : qs.length ≤ 6) (hr : RowsG p qs.length rows) : wdS p qs rows rows.length = nilL qs ↔ rankL p qs.length rows < rows.length := by
  have hpb := prime_bd hp
  rw [← wd_gauss hp hd hr qs.length (Nat.le_refl _)]
  obtain ⟨hgg, c, hred⟩ := gaussS_red hp hr qs.length (Nat.le_refl _)
  have hgl := gaussS_len (p := p) (m := qs.length) (rows := rows) qs.length
  unfold rankL
  obtain ⟨s, hs⟩ : ∃ s, s = gaussS p qs.length rows qs.length := ⟨_, rfl⟩
  rw [← hs] at hgg hred hgl ⊢
  constructor
  · intro hz
    refine Decidable.byContradiction fun hlt => ?_
    have hdle := hred.dle
    have he : s.2 = rows.length := by omega
    have hdg : ∀ k, k ≤ s.2 → diagC c s.1 k = 1 := fun k => by
      induction k with
      | zero => intro _; rfl
      | succ k ih => intro hk; rw [diagC, ih (by omega), hred.one k (by omega) k (by omega), if_pos rfl]; rfl
    have h := wd_coef (p := p) (qs := qs) (rows := s.1) (c := c) (by omega) hd rows.length (by omega) hgg.len (fun i hi => hred.clt i (by omega)) (fun i j hij hj => hred.mono i j hij (by omega)) (fun i hi j hj => by rw [hred.one j (by omega) i (by omega), if_neg (by omega)])
    rw [hz, hdg _ (by omega), nil_nth (maskC_lt _ fun i hi => hred.clt i (by omega)), Int.emod_eq_of_lt (by omega) (by omega)] at h
    cases h
  · intro hlt
    have hzero : vecL (2 ^ qs.length) (nthR s.1 s.2) = nilL qs := by
      have hg : Good p (2 ^ qs.length) (vecL (2 ^ qs.length) (nthR s.1 s.2)) := vec_good (by omega) (hgg s.2 (by omega))
      refine ext_nth (by rw [hg.1, nil_len]) fun m hm => ?_
      rw [hg.1] at hm
      rw [nil_nth hm]
      have hl := hgg.len s.2 (by omega)
      by_cases hb : ∃ t, t < qs.length ∧ m = 2 ^ t
      · obtain ⟨t, ht, rfl⟩ := hb
        rw [vec_bit hl ht, hred.rest s.2 (Nat.le_refl _) (by omega) t ht]
      · exact vec_no hl hm (fun t ht h => hb ⟨t, ht, h⟩)
    have h1 : wdS p qs s.1 (s.2 + 1) = nilL qs := by rw [wd_succ, hzero, prod_nil_right (by omega)]
    have := wd_up (by omega) h1 (rows.length - (s.2 + 1))
    rwa [show s.2 + 1 + (rows.length - (s.2 + 1)) = rows.length by omega] at this
end Go.Proofs.YtcocbainookkcaaGreat

/-
  Shifts of point vectors by versors, in plain numbers.
  No condition. No program in sight.
-/
namespace Go.Proofs.YtcocbainookkcaaGreat
set_option maxRecDepth 100000
open Go.RowKit

theorem half_spec {p : Int} (hp : primeB p = true) : ∃ s, 2 * invN p 2 = 1 + p * s := by
  have hb := prime_bd hp
  have inv : 2 * invN p 2 % p = 1 := (inv_spec hp (by omega) (by omega)).2.1
  obtain ⟨s, hs⟩ : ∃ s, 2 * invN p 2 - 1 = p * s := Int.dvd_of_emod_eq_zero (by rw [Int.sub_emod, inv, Int.emod_eq_of_lt (show (0 : Int) ≤ 1 by omega) (by omega), Int.sub_self, Int.zero_emod])
  exact ⟨s, by omega⟩
theorem emod_add {p a b : Int} (h : ∃ s, a = b + p * s) : a % p = b % p := by
  obtain ⟨s, rfl⟩ := h; rw [Int.add_mul_emod_self_left]
theorem emod_ex (p a : Int) : ∃ s, a % p = a + p * s := ⟨-(a / p), by have := Int.emod_add_mul_ediv a p; rw [Int.mul_neg]; omega⟩

/-- A vector at the foot of the extension. -/
def upL (x : List Int) : List Int := x ++ [0, 0]
theorem upL_len (x : List Int) : (upL x).length = x.length + 2 := by simp [upL]
theorem inf_nth {d i : Nat} : nth (infL d) i = if i < d then 0 else if i = d then 1 else if i = d + 1 then 1 else 0 := by
  unfold infL
  rw [app2_nth (n := d) (by simp)]
  by_cases h : i < d
  · rw [if_pos h, if_pos h, nth_replicate h]
  · rw [if_neg h, if_neg h]
theorem ext_sq {p : Int} {qs : List Int} {i : Nat} : nth (extL p qs) i = if i < qs.length then nth qs i else if i = qs.length then 1 else if i = qs.length + 1 then p - 1 else 0 := by
  unfold extL; exact app2_nth rfl
theorem up_nth {x : List Int} {i : Nat} : nth (upL x) i = if i < x.length then nth x i else 0 := by
  unfold upL; rw [app2_nth rfl]
  split
  · rfl
  · split
    · rfl
    · split <;> rfl
/-- A product of vectors of the extension. -/
theorem pairZ_ext {p : Int} {qs x y : List Int} : pairZ (extL p qs) x y = sumN qs.length (fun i => nth x i * nth y i * nth qs i) + nth x qs.length * nth y qs.length + nth x (qs.length + 1) * nth y (qs.length + 1) * (p - 1) := by
  unfold pairZ
  rw [extL_len]
  show sumN qs.length _ + nth x qs.length * nth y qs.length * nth (extL p qs) qs.length + nth x (qs.length + 1) * nth y (qs.length + 1) * nth (extL p qs) (qs.length + 1) = _
  rw [ext_sq (i := qs.length), ext_sq (i := qs.length + 1), if_neg (by omega), if_pos rfl, if_neg (by omega), if_neg (by omega), if_pos rfl, Int.mul_one]
  congr 2
  exact sumN_congr fun i hi => by rw [ext_sq, if_pos hi]
theorem quad_pairZ (qs x y : List Int) : pairZ qs x y = quadS qs.length qs x y := by
  unfold pairZ quadS
  exact sumN_congr fun i _ => by rw [Int.mul_right_comm]
/-- The factor of infinity in a point vector. -/
def ptQ (p : Int) (qs v : List Int) : Int := pairL p qs v v qs.length * invN p 2 % p
theorem point_nth {p : Int} {qs v : List Int} {i : Nat} (hv : v.length = qs.length) (hi : i < qs.length + 2) : ∃ s, nth (pointL p qs v) i = (if i < qs.length then nth v i else if i = qs.length then ptQ p qs v - invN p 2 else ptQ p qs v + invN p 2) + p * s := by
  unfold pointL
  rw [plusL_nth hi, plusN, app2_nth hv, inf_nth]
  obtain ⟨s, hs⟩ := emod_ex p (-1 * invN p 2)
  obtain ⟨t, ht⟩ := emod_ex p (1 * invN p 2)
  have e0 : pairL p qs v v qs.length * invN p 2 % p = ptQ p qs v := rfl
  rw [hs, ht, e0]
  by_cases h1 : i < qs.length
  · simp only [if_pos h1, Int.mul_zero, Int.add_zero]
    exact emod_ex p _
  · simp only [if_neg h1]
    by_cases h2 : i = qs.length
    · simp only [if_pos h2, Int.mul_one]
      obtain ⟨u, hu⟩ := emod_ex p (-1 * invN p 2 + p * s + ptQ p qs v)
      exact ⟨s + u, by rw [hu, Int.mul_add]; omega⟩
    · have h3 : i = qs.length + 1 := by omega
      simp only [if_neg h2, if_pos h3, Int.mul_one]
      obtain ⟨u, hu⟩ := emod_ex p (1 * invN p 2 + p * t + ptQ p qs v)
      exact ⟨t + u, by rw [hu, Int.mul_add]; omega⟩
theorem point_len (p : Int) (qs v : List Int) : (pointL p qs v).length = qs.length + 2 := by unfold pointL; exact plusL_len ..
/-- What point vectors and infinity have as products. -/
theorem inf_inf (p : Int) (qs : List Int) : pairZ (extL p qs) (infL qs.length) (infL qs.length) = p := by
  rw [pairZ_ext, sumN_zero fun i hi => by rw [inf_nth, if_pos hi]; simp, inf_nth, inf_nth, if_neg (by omega), if_pos rfl, if_neg (by omega), if_neg (by omega), if_pos rfl]
  omega
theorem up_inf {p : Int} {qs x : List Int} (hx : x.length = qs.length) : pairZ (extL p qs) (upL x) (infL qs.length) = 0 := by
  rw [pairZ_ext, sumN_zero fun i hi => by rw [inf_nth, if_pos hi]; simp, up_nth, up_nth, hx, if_neg (by omega), if_neg (by omega)]
  simp
theorem up_up {p : Int} {qs x : List Int} (hx : x.length = qs.length) : pairZ (extL p qs) (upL x) (upL x) = quadS qs.length qs x x := by
  rw [pairZ_ext, up_nth, up_nth, hx, if_neg (by omega), if_neg (by omega)]
  simp only [Int.mul_zero, Int.zero_mul, Int.add_zero]
  unfold quadS
  exact sumN_congr fun i hi => by rw [up_nth, hx, if_pos hi, Int.mul_right_comm]
theorem up_point {p : Int} {qs x v : List Int} (hx : x.length = qs.length) (hv : v.length = qs.length) : ∃ s, pairZ (extL p qs) (upL x) (pointL p qs v) = quadS qs.length qs x v + p * s := by
  rw [pairZ_ext, up_nth, up_nth, hx, if_neg (by omega), if_neg (by omega)]
  simp only [Int.zero_mul, Int.add_zero]
  have : ∀ n, n ≤ qs.length → ∃ s, sumN n (fun i => nth (upL x) i * nth (pointL p qs v) i * nth qs i) = quadS n qs x v + p * s := fun n => by
    induction n with
    | zero => intro _; exact ⟨0, by simp [sumN, quadS]⟩
    | succ n ih =>
      intro hn
      obtain ⟨s, hs⟩ := ih (by omega)
      obtain ⟨t, ht⟩ := point_nth (p := p) (qs := qs) (v := v) (i := n) hv (by omega)
      rw [if_pos (by omega)] at ht
      refine ⟨s + nth x n * t * nth qs n, ?_⟩
      unfold quadS at hs ⊢
      simp only [sumN]
      rw [hs, ht, up_nth, hx, if_pos (by omega)]
      grind
  exact this qs.length (Nat.le_refl _)
theorem inf_point {p : Int} {qs v : List Int} (hp : primeB p = true) (hv : v.length = qs.length) : ∃ s, pairZ (extL p qs) (infL qs.length) (pointL p qs v) = -1 + p * s := by
  rw [pairZ_ext, sumN_zero fun i hi => by rw [inf_nth, if_pos hi]; simp, inf_nth, inf_nth, if_neg (by omega), if_pos rfl, if_neg (by omega), if_neg (by omega), if_pos rfl]
  obtain ⟨s, hs⟩ := point_nth (p := p) (qs := qs) (v := v) (i := qs.length) hv (by omega)
  obtain ⟨t, ht⟩ := point_nth (p := p) (qs := qs) (v := v) (i := qs.length + 1) hv (by omega)
  obtain ⟨u, hu⟩ := half_spec hp
  rw [if_neg (by omega), if_pos rfl] at hs
  rw [if_neg (by omega), if_neg (by omega)] at ht
  rw [hs, ht]
  exact ⟨s + (ptQ p qs v + invN p 2 + p * t) - t - u, by grind⟩
/-- The point vector of a shifted vector. -/
theorem point_shift {p : Int} {qs v x : List Int} (hp : primeB p = true) (hv : v.length = qs.length) (hx : x.length = qs.length) : pointL p qs (plusL p v x 1 qs.length) = linL p (qs.length + 2) [(1, pointL p qs v), (1, upL x), (quadS qs.length qs x v + invN p 2 * quadS qs.length qs x x, infL qs.length)] := by
  have hb := prime_bd hp
  have hg := pointL_good (p := p) (qs := qs) (v := plusL p v x 1 qs.length) (d := qs.length) (by omega) rfl
  have hl : (plusL p v x 1 qs.length).length = qs.length := plusL_len ..
  refine ext_nth (by rw [point_len, linL_len]) fun i hi => ?_
  rw [point_len] at hi
  rw [linL_nth hi]
  simp only [linS]
  obtain ⟨s, hs⟩ := point_nth (p := p) hl hi
  obtain ⟨t, ht⟩ := point_nth (p := p) hv hi
  rw [← Int.emod_eq_of_lt (hg.2 i hi).1 (hg.2 i hi).2, hs, ht, up_nth, inf_nth, hx]
  obtain ⟨u, hu⟩ := half_spec hp
  -- the factors of infinity
  have hq : ∃ z, ptQ p qs (plusL p v x 1 qs.length) = ptQ p qs v + quadS qs.length qs x v + invN p 2 * quadS qs.length qs x x + p * z := by
    have h1 : ∃ z, quadS qs.length qs (plusL p v x 1 qs.length) (plusL p v x 1 qs.length) = quadS qs.length qs v v + 2 * quadS qs.length qs x v + quadS qs.length qs x x + p * z := by
      have : ∀ n, n ≤ qs.length → ∃ z, quadS n qs (plusL p v x 1 qs.length) (plusL p v x 1 qs.length) = quadS n qs v v + 2 * quadS n qs x v + quadS n qs x x + p * z := fun n => by
        induction n with
        | zero => intro _; exact ⟨0, by simp [quadS, sumN]⟩
        | succ n ih =>
          intro hn
          obtain ⟨z, hz⟩ := ih (by omega)
          unfold quadS at hz ⊢
          simp only [sumN]
          rw [hz, plusL_nth (by omega), plusN]
          obtain ⟨y, hy⟩ := emod_ex p (nth v n + 1 * nth x n)
          rw [hy]
          exact ⟨z + (2 * (nth v n + nth x n) * y + p * y * y) * nth qs n, by grind⟩
      exact this qs.length (Nat.le_refl _)
    obtain ⟨z, hz⟩ := h1
    unfold ptQ
    rw [pair_quad, pair_quad, hz]
    obtain ⟨a, ha⟩ := emod_ex p (quadS qs.length qs v v + 2 * quadS qs.length qs x v + quadS qs.length qs x x + p * z)
    obtain ⟨b, hb⟩ := emod_ex p (quadS qs.length qs v v)
    rw [ha, hb]
    obtain ⟨c, hc⟩ := emod_ex p ((quadS qs.length qs v v + 2 * quadS qs.length qs x v + quadS qs.length qs x x + p * z + p * a) * invN p 2)
    obtain ⟨e, he⟩ := emod_ex p ((quadS qs.length qs v v + p * b) * invN p 2)
    rw [hc, he]
    exact ⟨c - e + (z + a - b) * invN p 2 + u * quadS qs.length qs x v, by grind⟩
  obtain ⟨z, hz⟩ := hq
  by_cases h1 : i < qs.length
  · simp only [if_pos h1]
    rw [plusL_nth h1, plusN]
    obtain ⟨y, hy⟩ := emod_ex p (nth v i + 1 * nth x i)
    rw [hy]
    exact emod_add ⟨y + s - t, by grind⟩
  · simp only [if_neg h1]
    by_cases h2 : i = qs.length
    · simp only [if_pos h2]
      rw [hz]
      exact emod_add ⟨z + s - t, by grind⟩
    · simp only [if_neg h2]
      rw [if_pos (show i = qs.length + 1 by omega), hz]
      exact emod_add ⟨z + s - t, by grind⟩
theorem vecL_len' (N : Nat) (v : List Int) : (vecL N v).length = N := by
  have : ∀ k, (vecS N v k).length = N := fun k => by
    induction k with
    | zero => simp [vecS]
    | succ k ih => simp [vecS, ih]
  exact this _
theorem vec_lin {p : Int} {d : Nat} : ∀ L : List (Int × List Int), (∀ q ∈ L, q.2.length = d) → vecL (2 ^ d) (linL p d L) = linL p (2 ^ d) (L.map fun q => (q.1, vecL (2 ^ d) q.2))
  | [], _ => by
    have e : ∀ n, linL p n [] = List.replicate n 0 := fun n => by
      refine ext_nth (by simp [linL]) fun i hi => ?_
      rw [linL_len] at hi
      rw [linL_nth hi, nth_replicate hi]; simp [linS]
    rw [List.map_nil, e, e]
    refine ext_nth (by simp [vecL_len']) fun i hi => ?_
    rw [vecL_len'] at hi
    rw [nth_replicate hi]
    by_cases h : ∃ j, j < d ∧ i = 2 ^ j
    · obtain ⟨j, hj, rfl⟩ := h
      rw [vec_bit (by simp) hj, nth_replicate hj]
    · exact vec_no (by simp) hi fun j hj e => h ⟨j, hj, e⟩
  | (k, x) :: L, h => by
    rw [lin_cons, vec_plus (linL_len ..) (h (k, x) (List.mem_cons_self ..)), vec_lin L fun q hq => h q (List.mem_cons_of_mem _ hq), List.map_cons, lin_cons]
/-- The reverse of a sum. -/
theorem sign_plus {p k : Int} {x y : List Int} {n : Nat} (hp : 1 ≤ p) : signL p revB (plusL p x y k n) n = plusL p (signL p revB x n) (signL p revB y n) k n := by
  refine ext_nth (by rw [signL_len, plusL_len]) fun i hi => ?_
  rw [signL_len] at hi
  have g : Good p n (signL p revB (plusL p x y k n) n) := sign_good hp (plus_good hp)
  rw [← Int.emod_eq_of_lt (g.2 i hi).1 (g.2 i hi).2, sign_emod hi, plusL_nth hi, plusN, plusL_nth hi, plusN, Int.add_emod (nth (signL p revB x n) i), Int.mul_emod k, sign_emod hi, sign_emod hi, ← Int.mul_emod k, ← Int.add_emod, Int.mul_emod, Int.emod_emod, ← Int.mul_emod]
  congr 1
  grind
theorem popc_bit (i : Nat) (hi : i < 6) : popc (2 ^ i) = 1 := by
  have : ∀ i : Nat, i < 6 → popc (2 ^ i) = 1 := by decide +kernel
  exact this i hi
theorem sign_vec {p : Int} {d : Nat} {x : List Int} (_hp : 1 ≤ p) (hd : d ≤ 6) (hx : x.length = d) : signL p revB (vecL (2 ^ d) x) (2 ^ d) = vecL (2 ^ d) x := by
  refine ext_nth (by rw [signL_len, vecL_len']) fun i hi => ?_
  rw [signL_len] at hi
  rw [signL_nth hi]
  unfold signN
  by_cases h : ∃ j, j < d ∧ i = 2 ^ j
  · obtain ⟨j, hj, rfl⟩ := h
    rw [popc_bit j (by omega), if_neg (by decide)]
  · rw [vec_no hx hi fun j hj e => h ⟨j, hj, e⟩]; simp
theorem sign_one {p : Int} {n : Nat} : signL p revB (bladeL n 0) n = bladeL n 0 := by
  refine ext_nth (by rw [signL_len, bladeL_len]) fun i hi => ?_
  rw [signL_len] at hi
  rw [signL_nth hi]
  unfold signN
  by_cases h0 : i = 0
  · subst h0; rw [if_neg (by decide)]
  · have h00 : nth (bladeL n 0) i = 0 := by rw [bladeL_nth (by omega) hi, if_neg (Ne.symm h0)]
    rw [h00]; simp

/-- The products of a shift versor and others, with letters. -/
theorem one_good {p : Int} (hp : 3 ≤ p) (n : Nat) : Good p (2 ^ n) (bladeL (2 ^ n) 0) := by
  have := pow_pos' n
  exact ⟨bladeL_len .., fun i hi => by rw [bladeL_nth this hi]; split <;> omega⟩
/-- T X T' for T = 1 - h A E, with what A, X and E have as products. -/
theorem shift_alg {p : Int} {Q A X E : List Int} {h s n : Int} (hp : 3 ≤ p) (hd : Q.length ≤ 6) (hA : Good p (2 ^ Q.length) A) (hX : Good p (2 ^ Q.length) X) (hE : Good p (2 ^ Q.length) E)
    (hh : ∃ u, 2 * h = 1 + p * u)
    (hEE : prodL p Q tkA E E = linL p (2 ^ Q.length) [])
    (hEA : prodL p Q tkA E A = linL p (2 ^ Q.length) [(-1, prodL p Q tkA A E)])
    (hEX : prodL p Q tkA E X = linL p (2 ^ Q.length) [(-2, bladeL (2 ^ Q.length) 0), (-1, prodL p Q tkA X E)])
    (hXA : prodL p Q tkA X A = linL p (2 ^ Q.length) [(2 * s, bladeL (2 ^ Q.length) 0), (-1, prodL p Q tkA A X)])
    (hAA : prodL p Q tkA A A = linL p (2 ^ Q.length) [(n, bladeL (2 ^ Q.length) 0)]) :
    prodL p Q tkA (prodL p Q tkA (linL p (2 ^ Q.length) [(1, bladeL (2 ^ Q.length) 0), (-h, prodL p Q tkA A E)]) X) (linL p (2 ^ Q.length) [(1, bladeL (2 ^ Q.length) 0), (h, prodL p Q tkA A E)]) = linL p (2 ^ Q.length) [(1, X), (1, A), (s + h * n, E)] := by
  have hp1 : 1 ≤ p := by omega
  have gT : ∀ {x y}, Good p (2 ^ Q.length) (prodL p Q tkA x y) := prod_good hp1
  have one1 : ∀ {x}, Good p (2 ^ Q.length) x → prodL p Q tkA (bladeL (2 ^ Q.length) 0) x = x := fun hx => one_times hp hx
  have one2 : ∀ {x}, Good p (2 ^ Q.length) x → prodL p Q tkA x (bladeL (2 ^ Q.length) 0) = x := fun hx => times_one hp1 hx
  -- A E X
  have W1 : prodL p Q tkA (prodL p Q tkA A E) X = linL p (2 ^ Q.length) [(-2, A), (-1, prodL p Q tkA A (prodL p Q tkA X E))] := by
    rw [prod_assoc hp1 hd, hEX, prod_lin_right hp1]
    simp only [List.map_cons, List.map_nil]
    rw [one2 hA]
  have W2 : prodL p Q tkA X (prodL p Q tkA A E) = linL p (2 ^ Q.length) [(2 * s, E), (-1, prodL p Q tkA A (prodL p Q tkA X E))] := by
    rw [← prod_assoc hp1 hd, hXA, prod_lin_left hp1]
    simp only [List.map_cons, List.map_nil]
    rw [one1 hE, prod_assoc hp1 hd]
  have W3 : prodL p Q tkA A (prodL p Q tkA A E) = linL p (2 ^ Q.length) [(n, E)] := by
    rw [← prod_assoc hp1 hd, hAA, prod_lin_left hp1]
    simp only [List.map_cons, List.map_nil]
    rw [one1 hE]
  have W4 : prodL p Q tkA E (prodL p Q tkA A E) = linL p (2 ^ Q.length) [] := by
    rw [← prod_assoc hp1 hd, hEA, prod_lin_left hp1]
    simp only [List.map_cons, List.map_nil]
    rw [prod_assoc hp1 hd, hEE, lin_nil_right hp1]
    exact lin_congr fun i hi => by simp only [linS]; rw [linL_nth hi]; simp [linS]
  have W5 : prodL p Q tkA (prodL p Q tkA A (prodL p Q tkA X E)) (prodL p Q tkA A E) = linL p (2 ^ Q.length) [] := by
    rw [prod_assoc hp1 hd, prod_assoc hp1 hd, W4, lin_nil_right hp1, lin_nil_right hp1]
  -- T X
  have T1 : prodL p Q tkA (linL p (2 ^ Q.length) [(1, bladeL (2 ^ Q.length) 0), (-h, prodL p Q tkA A E)]) X = linL p (2 ^ Q.length) [(1, X), (2 * h, A), (h, prodL p Q tkA A (prodL p Q tkA X E))] := by
    rw [prod_lin_left hp1]
    simp only [List.map_cons, List.map_nil]
    rw [one1 hX, W1]
    refine lin_congr fun i hi => ?_
    simp only [linS]
    rw [linL_nth hi]
    simp only [linS]
    obtain ⟨z, hz⟩ := emod_ex p (-2 * nth A i + (-1 * nth (prodL p Q tkA A (prodL p Q tkA X E)) i + 0))
    rw [hz]
    exact emod_add ⟨-h * z, by grind⟩
  rw [T1, prod_lin_right hp1]
  simp only [List.map_cons, List.map_nil]
  rw [times_one hp1 (lin_good hp1), prod_lin_left hp1]
  simp only [List.map_cons, List.map_nil]
  rw [W2, W3, W5]
  refine lin_congr fun i hi => ?_
  simp only [linS]
  rw [linL_nth hi, linL_nth hi]
  simp only [linS]
  rw [linL_nth hi, linL_nth hi, linL_nth hi]
  simp only [linS]
  obtain ⟨u, hu⟩ := hh
  generalize nth (prodL p Q tkA A (prodL p Q tkA X E)) i = y
  generalize nth A i = a
  generalize nth X i = x
  generalize nth E i = e
  obtain ⟨z1, h1⟩ := emod_ex p (1 * x + (2 * h * a + (h * y + 0)))
  obtain ⟨z2, h2⟩ := emod_ex p (2 * s * e + (-1 * y + 0))
  obtain ⟨z3, h3⟩ := emod_ex p (n * e + 0)
  have h0 : (0 : Int) % p = 0 := Int.zero_emod _
  rw [h1, h2, h3, h0]
  obtain ⟨z4, h4⟩ := emod_ex p (1 * (2 * s * e + (-1 * y + 0) + p * z2) + (2 * h * (n * e + 0 + p * z3) + (h * 0 + 0)))
  rw [h4]
  exact emod_add ⟨z1 + u * a + h * z2 + u * s * e + h * u * n * e + 2 * h * h * z3 + h * z4, by grind⟩
/-- T U for T = 1 - h A E, U = 1 - h B E. -/
theorem shift_two {p : Int} {Q A B E : List Int} {h : Int} (hp : 3 ≤ p) (hd : Q.length ≤ 6)
    (hEE : prodL p Q tkA E E = linL p (2 ^ Q.length) [])
    (hEB : prodL p Q tkA E B = linL p (2 ^ Q.length) [(-1, prodL p Q tkA B E)]) :
    prodL p Q tkA (linL p (2 ^ Q.length) [(1, bladeL (2 ^ Q.length) 0), (-h, prodL p Q tkA A E)]) (linL p (2 ^ Q.length) [(1, bladeL (2 ^ Q.length) 0), (-h, prodL p Q tkA B E)]) = linL p (2 ^ Q.length) [(1, bladeL (2 ^ Q.length) 0), (-h, prodL p Q tkA A E), (-h, prodL p Q tkA B E)] := by
  have hp1 : 1 ≤ p := by omega
  have W4 : prodL p Q tkA E (prodL p Q tkA B E) = linL p (2 ^ Q.length) [] := by
    rw [← prod_assoc hp1 hd, hEB, prod_lin_left hp1]
    simp only [List.map_cons, List.map_nil]
    rw [prod_assoc hp1 hd, hEE, lin_nil_right hp1]
    exact lin_congr fun i hi => by simp only [linS]; rw [linL_nth hi]; simp [linS]
  rw [prod_lin_right hp1]
  simp only [List.map_cons, List.map_nil]
  rw [times_one hp1 (lin_good hp1), prod_lin_left hp1]
  simp only [List.map_cons, List.map_nil]
  rw [one_times hp (prod_good hp1), prod_assoc hp1 hd, W4, lin_nil_right hp1]
  refine lin_congr fun i hi => ?_
  simp only [linS]
  rw [linL_nth hi, linL_nth hi]
  simp only [linS]
  rw [linL_nth hi]
  simp only [linS]
  generalize nth (prodL p Q tkA A E) i = a
  generalize nth (prodL p Q tkA B E) i = b
  generalize nth (bladeL (2 ^ Q.length) 0) i = o
  obtain ⟨z1, h1⟩ := emod_ex p (1 * o + (-h * a + 0))
  have h0 : (0 : Int) % p = 0 := Int.zero_emod _
  rw [h1, h0]
  obtain ⟨z4, h4⟩ := emod_ex p (1 * b + (-h * 0 + 0))
  rw [h4]
  exact emod_add ⟨z1 - h * z4, by grind⟩

theorem up_good {p : Int} {d : Nat} {x : List Int} (hp : 3 ≤ p) (h : Good p d x) : Good p (d + 2) (upL x) := good_ext0 hp h
theorem up_plus {p : Int} {d : Nat} {x y : List Int} (hx : x.length = d) (hy : y.length = d) : upL (plusL p x y 1 d) = linL p (d + 2) [(1, upL x), (1, upL y)] := by
  refine ext_nth (by rw [upL_len, plusL_len, linL_len]) fun i hi => ?_
  rw [upL_len, plusL_len] at hi
  rw [linL_nth hi, up_nth, plusL_len]
  simp only [linS]
  rw [up_nth, up_nth, hx, hy]
  by_cases h : i < d
  · rw [if_pos h, if_pos h, if_pos h, plusL_nth h, plusN, Int.one_mul, Int.one_mul, Int.add_zero]
  · rw [if_neg h, if_neg h, if_neg h]; rfl
/-- A shift versor as a sum. -/
theorem sh_lin {p : Int} {qs x Q : List Int} (hp : 3 ≤ p) (hQ : Q = extL p qs) : shL p qs x = linL p (2 ^ Q.length) [(1, bladeL (2 ^ Q.length) 0), (-(invN p 2), prodL p Q tkA (vecL (2 ^ Q.length) (upL x)) (vecL (2 ^ Q.length) (infL qs.length)))] := by
  have hl : qs.length + 2 = Q.length := by rw [hQ, extL_len]
  unfold shL shPr
  rw [hl, ← hQ]
  have e1 := (lin_one (p := p) (one_good hp Q.length)).symm
  have e2 := (lin_one (p := p) (prod_good (p := p) (qs := Q) (tk := tkA) (x := vecL (2 ^ Q.length) (upL x)) (y := vecL (2 ^ Q.length) (infL qs.length)) (by omega))).symm
  show plusL p (bladeL (2 ^ Q.length) 0) (prodL p Q tkA (vecL (2 ^ Q.length) (upL x)) (vecL (2 ^ Q.length) (infL qs.length))) _ _ = _
  conv => lhs; rw [e1, e2]
  rw [plus_lin]
  simp only [List.map_cons, List.map_nil, List.cons_append, List.nil_append, Int.mul_one]
theorem lin_emod1 {p k : Int} {N : Nat} {x : List Int} {L : List (Int × List Int)} (t : Int) : linL p N ((k + p * t, x) :: L) = linL p N ((k, x) :: L) := by
  refine lin_congr fun i _ => ?_
  simp only [linS]
  exact emod_add ⟨t * nth x i, by grind⟩
theorem lin_zero {p : Int} {N : Nat} {x : List Int} {L : List (Int × List Int)} : linL p N ((0, x) :: L) = linL p N L := by
  refine lin_congr fun i _ => ?_
  simp only [linS, Int.zero_mul, Int.zero_add]
section
variable {p : Int} {qs Q : List Int} (hpr : primeB p = true) (hd4 : qs.length ≤ 4) (hQ : Q = extL p qs)
include hpr hd4 hQ
theorem ee_zero : prodL p Q tkA (vecL (2 ^ Q.length) (infL qs.length)) (vecL (2 ^ Q.length) (infL qs.length)) = linL p (2 ^ Q.length) [] := by
  have hb := prime_bd hpr
  have hl : Q.length = qs.length + 2 := by rw [hQ, extL_len]
  rw [vec_sq (by omega) hpr (by omega) (by rw [infL_len, hl]), hQ, inf_inf]
  have := lin_emod1 (p := p) (k := 0) (N := 2 ^ (extL p qs).length) (x := bladeL (2 ^ (extL p qs).length) 0) (L := []) 1
  rw [Int.zero_add, Int.mul_one] at this
  rw [this, lin_zero]
theorem ea_swap {x : List Int} (hx : x.length = qs.length) : prodL p Q tkA (vecL (2 ^ Q.length) (infL qs.length)) (vecL (2 ^ Q.length) (upL x)) = linL p (2 ^ Q.length) [(-1, prodL p Q tkA (vecL (2 ^ Q.length) (upL x)) (vecL (2 ^ Q.length) (infL qs.length)))] := by
  have hb := prime_bd hpr
  have hl : Q.length = qs.length + 2 := by rw [hQ, extL_len]
  rw [vec_swap (p := p) (v := upL x) (w := infL qs.length) (by omega) (by omega) (by rw [upL_len, hl, hx]) (by rw [infL_len, hl]), show pairZ Q (upL x) (infL qs.length) = 0 by rw [hQ]; exact up_inf hx, Int.mul_zero, lin_zero]
/-- A shift versor, a point vector and the versor's reverse. -/
theorem shift_point {v x : List Int} (hv : Good p qs.length v) (hx : Good p qs.length x) :
    prodL p Q tkA (prodL p Q tkA (shL p qs x) (vecL (2 ^ Q.length) (pointL p qs v))) (signL p revB (shL p qs x) (2 ^ Q.length)) = vecL (2 ^ Q.length) (pointL p qs (plusL p v x 1 qs.length)) := by
  have hb := prime_bd hpr
  have hl : Q.length = qs.length + 2 := by rw [hQ, extL_len]
  have hQ6 : Q.length ≤ 6 := by omega
  have lu : (upL x).length = Q.length := by rw [upL_len, hl, hx.1]
  have li : (infL qs.length).length = Q.length := by rw [infL_len, hl]
  have lp : (pointL p qs v).length = Q.length := by rw [point_len, hl]
  have gA : Good p (2 ^ Q.length) (vecL (2 ^ Q.length) (upL x)) := vec_good (by omega) (up_good (by omega) hx)
  have gE : Good p (2 ^ Q.length) (vecL (2 ^ Q.length) (infL qs.length)) := vec_good (by omega) (infL_good (by omega) qs.length)
  have gX : Good p (2 ^ Q.length) (vecL (2 ^ Q.length) (pointL p qs v)) := vec_good (by omega) (pointL_good (d := qs.length) (by omega) rfl)
  have hEE := ee_zero hpr hd4 hQ
  have hEA := ea_swap hpr hd4 hQ hx.1
  obtain ⟨s1, hs1⟩ := inf_point (qs := qs) (v := v) hpr hv.1
  obtain ⟨s2, hs2⟩ := up_point (p := p) hx.1 hv.1
  have hEX : prodL p Q tkA (vecL (2 ^ Q.length) (infL qs.length)) (vecL (2 ^ Q.length) (pointL p qs v)) = linL p (2 ^ Q.length) [(-2, bladeL (2 ^ Q.length) 0), (-1, prodL p Q tkA (vecL (2 ^ Q.length) (pointL p qs v)) (vecL (2 ^ Q.length) (infL qs.length)))] := by
    rw [vec_swap (p := p) (v := pointL p qs v) (w := infL qs.length) (by omega) hQ6 lp li]
    rw [show pairZ Q (pointL p qs v) (infL qs.length) = pairZ Q (infL qs.length) (pointL p qs v) by rw [quad_pairZ, quad_pairZ, quad_comm], show pairZ Q (infL qs.length) (pointL p qs v) = -1 + p * s1 by rw [hQ]; exact hs1, show 2 * (-1 + p * s1) = -2 + p * (2 * s1) by grind, lin_emod1]
  have hXA : prodL p Q tkA (vecL (2 ^ Q.length) (pointL p qs v)) (vecL (2 ^ Q.length) (upL x)) = linL p (2 ^ Q.length) [(2 * quadS qs.length qs x v, bladeL (2 ^ Q.length) 0), (-1, prodL p Q tkA (vecL (2 ^ Q.length) (upL x)) (vecL (2 ^ Q.length) (pointL p qs v)))] := by
    rw [vec_swap (p := p) (v := upL x) (w := pointL p qs v) (by omega) hQ6 lu lp]
    rw [show pairZ Q (upL x) (pointL p qs v) = quadS qs.length qs x v + p * s2 by rw [hQ]; exact hs2, show 2 * (quadS qs.length qs x v + p * s2) = 2 * quadS qs.length qs x v + p * (2 * s2) by grind, lin_emod1]
  have hAA : prodL p Q tkA (vecL (2 ^ Q.length) (upL x)) (vecL (2 ^ Q.length) (upL x)) = linL p (2 ^ Q.length) [(quadS qs.length qs x x, bladeL (2 ^ Q.length) 0)] := by
    rw [vec_sq (by omega) hpr hQ6 lu, show pairZ Q (upL x) (upL x) = quadS qs.length qs x x by rw [hQ]; exact up_up hx.1]
  have hT := sh_lin (p := p) (qs := qs) (x := x) (Q := Q) (by omega) hQ
  have hR : signL p revB (shL p qs x) (2 ^ Q.length) = linL p (2 ^ Q.length) [(1, bladeL (2 ^ Q.length) 0), (invN p 2, prodL p Q tkA (vecL (2 ^ Q.length) (upL x)) (vecL (2 ^ Q.length) (infL qs.length)))] := by
    unfold shL shPr
    rw [← hl, ← hQ, sign_plus (by omega), sign_one, rev_prod (tk := tkA) (tk' := tkA) (by omega) hQ6 (fun _ _ => rfl), sign_vec (by omega) hQ6 li, show signL p revB (vecL (2 ^ Q.length) (x ++ [0, 0])) (2 ^ Q.length) = vecL (2 ^ Q.length) (upL x) from sign_vec (by omega) hQ6 lu, hEA]
    have e1 := (lin_one (p := p) (one_good (p := p) (by omega) Q.length)).symm
    conv => lhs; rw [e1]
    rw [plus_lin]
    refine lin_congr fun i _ => ?_
    simp only [List.map_cons, List.map_nil, List.cons_append, List.nil_append, linS]
    congr 1
    grind
  rw [hR, hT, shift_alg (by omega) hQ6 gA gX gE (half_spec hpr) hEE hEA hEX hXA hAA, point_shift hpr hv.1 hx.1, ← hl, vec_lin]
  · rfl
  · intro q hq
    simp only [List.mem_cons, List.not_mem_nil, or_false] at hq
    rcases hq with rfl | rfl | rfl
    · exact lp
    · exact lu
    · exact li
/-- Shift versors are multiplied as vectors are added. -/
theorem shift_sum {x y : List Int} (hx : Good p qs.length x) (hy : Good p qs.length y) : prodL p Q tkA (shL p qs x) (shL p qs y) = shL p qs (plusL p x y 1 qs.length) := by
  have hb := prime_bd hpr
  have hl : Q.length = qs.length + 2 := by rw [hQ, extL_len]
  have hQ6 : Q.length ≤ 6 := by omega
  have lux : (upL x).length = Q.length := by rw [upL_len, hl, hx.1]
  have luy : (upL y).length = Q.length := by rw [upL_len, hl, hy.1]
  rw [sh_lin (by omega) hQ, sh_lin (by omega) hQ, sh_lin (by omega) hQ, shift_two (by omega) hQ6 (ee_zero hpr hd4 hQ) (ea_swap hpr hd4 hQ hy.1), up_plus hx.1 hy.1, ← hl, vec_lin, prod_lin_left (by omega)]
  · simp only [List.map_cons, List.map_nil]
    refine lin_congr fun i hi => ?_
    simp only [linS]
    rw [linL_nth hi]
    simp only [linS]
    generalize nth (prodL p Q tkA (vecL (2 ^ Q.length) (upL x)) (vecL (2 ^ Q.length) (infL qs.length))) i = a
    generalize nth (prodL p Q tkA (vecL (2 ^ Q.length) (upL y)) (vecL (2 ^ Q.length) (infL qs.length))) i = b
    obtain ⟨z, hz⟩ := emod_ex p (1 * a + (1 * b + 0))
    rw [hz]
    exact emod_add ⟨invN p 2 * z, by grind⟩
  · intro q hq
    simp only [List.mem_cons, List.not_mem_nil, or_false] at hq
    rcases hq with rfl | rfl
    · exact lux
    · exact luy
end
end Go.Proofs.YtcocbainookkcaaGreat

/-
  Products of doublings, in plain numbers.
  No condition. No program in sight.
-/
namespace Go.Proofs.YtcocbainookkcaaGreat
set_option maxRecDepth 100000
open Go.RowKit

/-- The conjugate: all places but the first one have the opposite number. -/
def conjL (p : Int) (x : List Int) : List Int := (List.range x.length).map fun i => if i = 0 then nth x 0 else scaleN p x (-1) i
theorem conjL_len (p : Int) (x : List Int) : (conjL p x).length = x.length := by simp [conjL]
theorem conjL_nth {p : Int} {x : List Int} {i : Nat} (h : i < x.length) : nth (conjL p x) i = if i = 0 then nth x 0 else scaleN p x (-1) i := by
  unfold conjL; rw [nth_map (by simpa using h)]; simp
theorem scaleL_len' (p : Int) (x : List Int) (k : Int) (n : Nat) : (scaleL p x k n).length = n := by simp [scaleL]
theorem scaleL_nth' {p : Int} {x : List Int} {k : Int} {n i : Nat} (h : i < n) : nth (scaleL p x k n) i = scaleN p x k i := by
  unfold scaleL; rw [nth_map (by simpa using h)]; simp
theorem conj_set {p : Int} {x : List Int} {n : Nat} (h : x.length = n) : (scaleL p x (-1) n).set 0 (nth x 0) = conjL p x := by
  refine ext_nth (by rw [List.length_set, scaleL_len', conjL_len, h]) fun i hi => ?_
  rw [List.length_set, scaleL_len'] at hi
  rw [nth_set (by rw [scaleL_len']; omega), conjL_nth (by omega)]
  by_cases h0 : i = 0
  · rw [if_pos h0.symm, if_pos h0]
  · rw [if_neg (Ne.symm h0), if_neg h0, scaleL_nth' hi]
theorem conj_set' {p : Int} {x : List Int} {n : Nat} (h : x.length = n) : (scaleL p x (p - 1) n).set 0 (nth x 0) = conjL p x := by
  rw [← conj_set h]
  congr 1
  refine ext_nth (by rw [scaleL_len', scaleL_len']) fun i hi => ?_
  rw [scaleL_len'] at hi
  rw [scaleL_nth' hi, scaleL_nth' hi]
  unfold scaleN
  rw [show nth x i * (p - 1) = nth x i * -1 + p * nth x i by grind, Int.add_mul_emod_self_left]
theorem conj_good {p : Int} {n : Nat} {x : List Int} (hp : 1 ≤ p) (h : Good p n x) : Good p n (conjL p x) := by
  refine ⟨by rw [conjL_len, h.1], fun i hi => ?_⟩
  rw [conjL_nth (by rw [h.1]; exact hi)]
  split
  · exact h.2 0 (by omega)
  · exact ⟨Int.emod_nonneg _ (by omega), Int.emod_lt_of_pos _ (by omega)⟩

/-- The product of two elements for n steps. -/
def dblL (p : Int) (st : List Int) : Nat → List Int → List Int → List Int
  | 0, x, y => [nth x 0 * nth y 0 % p]
  | n + 1, x, y =>
    plusL p (dblL p st n (x.take (2 ^ n)) (y.take (2 ^ n))) (dblL p st n (conjL p (y.drop (2 ^ n))) (x.drop (2 ^ n))) (nth st n) (2 ^ n) ++
    plusL p (dblL p st n (y.drop (2 ^ n)) (x.take (2 ^ n))) (dblL p st n (x.drop (2 ^ n)) (conjL p (y.take (2 ^ n)))) 1 (2 ^ n)
theorem tk_nth {x : List Int} {n i : Nat} (h : i < n) : nth (x.take n) i = nth x i := by
  unfold nth
  rw [List.getD_eq_getElem?_getD, List.getD_eq_getElem?_getD, List.getElem?_take, if_pos h]
theorem dp_nth {x : List Int} {n i : Nat} : nth (x.drop n) i = nth x (n + i) := by
  unfold nth
  rw [List.getD_eq_getElem?_getD, List.getD_eq_getElem?_getD, List.getElem?_drop]
theorem tk_good {p : Int} {n : Nat} {x : List Int} (h : Good p (n + n) x) : Good p n (x.take n) :=
  ⟨by rw [List.length_take, h.1]; omega, fun i hi => by rw [tk_nth hi]; exact h.2 i (by omega)⟩
theorem dp_good {p : Int} {n : Nat} {x : List Int} (h : Good p (n + n) x) : Good p n (x.drop n) :=
  ⟨by rw [List.length_drop, h.1]; omega, fun i hi => by rw [dp_nth]; exact h.2 (n + i) (by omega)⟩
theorem plus_goodN {p : Int} {x y : List Int} {k : Int} {n : Nat} (hp : 1 ≤ p) : Good p n (plusL p x y k n) :=
  ⟨plusL_len .., fun i hi => by rw [plusL_nth hi]; exact ⟨Int.emod_nonneg _ (by omega), Int.emod_lt_of_pos _ (by omega)⟩⟩
theorem cat_good {p : Int} {n : Nat} {x y : List Int} (hx : Good p n x) (hy : Good p n y) : Good p (n + n) (x ++ y) := by
  refine ⟨by rw [List.length_append, hx.1, hy.1], fun i hi => ?_⟩
  unfold nth
  rw [List.getD_eq_getElem?_getD]
  by_cases hlt : i < n
  · rw [List.getElem?_append_left (by rw [hx.1]; exact hlt), ← List.getD_eq_getElem?_getD]; exact hx.2 i hlt
  · rw [List.getElem?_append_right (by rw [hx.1]; omega), hx.1, ← List.getD_eq_getElem?_getD]; exact hy.2 (i - n) (by omega)
theorem two_pow_add (n : Nat) : 2 ^ (n + 1) = 2 ^ n + 2 ^ n := by rw [Nat.pow_succ]; omega
theorem dbl_good {p : Int} {st : List Int} (hp : 1 ≤ p) : ∀ (n : Nat) (x y : List Int), Good p (2 ^ n) (dblL p st n x y)
  | 0, x, y => ⟨rfl, fun i hi => by
      have : i = 0 := by simpa using hi
      subst this
      exact ⟨Int.emod_nonneg _ (by omega), Int.emod_lt_of_pos _ (by omega)⟩⟩
  | n + 1, x, y => by
    rw [two_pow_add]
    exact cat_good (plus_goodN hp) (plus_goodN hp)
theorem dbl_take {p : Int} {st : List Int} {n m : Nat} (h : n ≤ m) : ∀ x y : List Int, dblL p (st.take m) n x y = dblL p st n x y := by
  induction n with
  | zero => intro x y; rfl
  | succ n ih =>
    intro x y
    unfold dblL
    rw [ih (by omega), ih (by omega), ih (by omega), ih (by omega), tk_nth (by omega)]

theorem OwnC.capLe {B : Nat} {w : World} {a : Option Addr} {n cap : Nat} {xs : List Int} (h : OwnC B w a n cap xs) (hn : 0 < n) : n ≤ cap := by
  obtain ⟨_, _, _, _, _, _, h1, _⟩ := h.row hn
  exact h1
/-- Parts of lists that are read. -/
theorem rdC_take {w : World} {a : Option Addr} {n m : Nat} {x : List Int} (h : RdC w a m x) (hn : n ≤ m) : RdC w a n (x.take n) :=
  ⟨by rw [List.length_take, h.1]; omega, fun i hi => by
    obtain ⟨b, o, ha, hc⟩ := h.2 i (by omega)
    exact ⟨b, o, ha, by rw [tk_nth hi]; exact hc⟩⟩
theorem rdC_from {w : World} {b o n m : Nat} {x : List Int} (h : RdC w (some ⟨b, o, none⟩) (n + m) x) : RdC w (some ⟨b, o + n, none⟩) m (x.drop n) :=
  ⟨by rw [List.length_drop, h.1]; omega, fun i hi => by
    obtain ⟨b', o', ha, hc⟩ := h.2 (n + i) (by omega)
    simp only [Option.some.injEq, Addr.mk.injEq] at ha
    obtain ⟨rfl, rfl, _⟩ := ha
    exact ⟨b, o + n, rfl, by rw [dp_nth, Nat.add_assoc]; exact hc⟩⟩
end Go.Proofs.YtcocbainookkcaaGreat

/-
  Conformal functions: spheres, distances, places.
  No condition.
-/
namespace Go.Proofs.YtcocbainookkcaaGreat
set_option maxRecDepth 100000
open Go.RowKit

/-- A space with its squares in a row of the call's own. -/
def SPred.spx (B : Nat) (p : Int) (n : Nat) (xs : List Int) : SPred :=
  ⟨fun v w => ∃ g rc, v = .agg #[.int .i64 p, .slice (some ⟨g, 0, none⟩) n rc] ∧ OwnC B w (some ⟨g, 0, none⟩) n rc xs, fun _ _ _ ⟨g, rc, h1, h2⟩ he => ⟨g, rc, h1, h2.ext he⟩⟩
/-- A number list and true. -/
def SPred.tupB (B n : Nat) (xs : List Int) : SPred :=
  ⟨fun v w => ∃ g rc, v = .tuple #[.slice (some ⟨g, 0, none⟩) n rc, .bool true] ∧ OwnC B w (some ⟨g, 0, none⟩) n rc xs, fun _ _ _ ⟨g, rc, h1, h2⟩ he => ⟨g, rc, h1, h2.ext he⟩⟩
def ballL (p : Int) (qs c : List Int) (r : Int) : List Int := plusL p (pointL p qs c) (infL qs.length) (-(r * invN p 2 % p)) (qs.length + 2)
def wgtI (p : Int) (qs x : List Int) : Int := pairL p (extL p qs) x (infL qs.length) (qs.length + 2)
def wgtN (p : Int) (qs x : List Int) : Int := -(wgtI p qs x) % p
def finL (p : Int) (qs x : List Int) : List Int := scaleL p x (invN p (wgtN p qs x)) (qs.length + 2)
def plcL (p : Int) (qs x : List Int) : List Int := (finL p qs x).take qs.length
def pexZ (p : Int) (qs x v : List Int) : Int := pairL p (extL p qs) x (pointL p qs v) (qs.length + 2)
def distN (p : Int) (qs v w : List Int) : Int := -2 * pexZ p qs (pointL p qs v) w % p
theorem wgtI_bd {p : Int} {qs x : List Int} (hp : 1 ≤ p) : 0 ≤ wgtI p qs x ∧ wgtI p qs x < p := pairL_bd hp
theorem wgtN_bd {p : Int} {qs x : List Int} (hp : 1 ≤ p) : 0 ≤ wgtN p qs x ∧ wgtN p qs x < p := ⟨Int.emod_nonneg _ (by omega), Int.emod_lt_of_pos _ (by omega)⟩
theorem plus_modk {p k k' : Int} {x y : List Int} {n : Nat} (h : k % p = k' % p) : plusL p x y k n = plusL p x y k' n := by
  refine ext_nth (by rw [plusL_len, plusL_len]) fun i hi => ?_
  rw [plusL_len] at hi
  rw [plusL_nth hi, plusL_nth hi]
  unfold plusN
  rw [Int.add_emod, Int.mul_emod, h, ← Int.mul_emod, ← Int.add_emod]

set_option maxHeartbeats 4000000 in
set_option maxRecDepth 100000 in
theorem c_isOn (p : Int) (a : Option Addr) (d cap : Nat) (qs : List Int) (ax : Option Addr) (cx : Nat) (x : List Int) (av : Option Addr) (cv : Nat) (v : List Int) (w : World) (hs : spaceB p qs = true) (h4 : qs.length ≤ 4) (hq : RdC w a d qs) (hx : RdC w ax (d + 2) x) (hgx : Good p (d + 2) x) (hv : RdC w av d v) (hgv : Good p d v) :
    Calls Tryz.prog 40 #[.agg #[.int .i64 p, .slice a d cap], .slice ax (d + 2) cx, .slice av d cv] w fun e w' => e = .returned (.bool (pexZ p qs x v == 0)) ∧ Ext w w' := by
  obtain ⟨hpr, hd1, _, hqb⟩ := space_of hs
  have hpb := prime_bd hpr
  have HPR := Lib.hid hpr
  have HQB := Lib.hid hqb
  have hql := hq.1
  rw [hql] at hd1 h4
  have HQL := Lib.hid hql
  have HEB := Lib.hid (extL_isB (p := p) (by omega) hqb)
  have HGI := Lib.hid (good_inf (p := p) (d := d) (by omega))
  have HGP := fun (u : List Int) => Lib.hid (pointL_good (p := p) (qs := qs) (v := u) (d := d) (by omega) hql)
  clear hpr hqb hql
  have HPX : Hid (pexZ p qs x v = pairL p (extL p qs) x (pointL p qs v) (d + 2)) := Lib.hid (by unfold pexZ; rw [HQL.out])
  obtain ⟨W, hW⟩ : ∃ W, W = w.alloc (.cells #[.int .i64 p, .slice a d cap] 26) := ⟨_, rfl⟩
  have E : Hid (Ext w W) := Lib.hid (by rw [hW]; exact ext_alloc _ _)
  have C0 : Hid (W.cell? ⟨w.heap.size, 0, none⟩ = some (.int .i64 p)) := Lib.hid (by rw [hW]; simp)
  have C1 : Hid (W.cell? ⟨w.heap.size, 1, none⟩ = some (.slice a d cap)) := Lib.hid (by rw [hW]; simp)
  have HZ : Hid (W.heap.size = w.heap.size + 1) := Lib.hid (by rw [hW]; simp)
  have HW := Lib.hid hW
  clear hW
  have HQ := Lib.hid (hq.ext E.out)
  have HX := Lib.hid (hx.ext E.out)
  have HV := Lib.hid (hv.ext E.out)
  clear hq hx hv
  go_enter Tryz.func40, Tryz.ntmps40
  have x00 := C0.out
  have x01 := C1.out
  go_wp2_with (fail)
  clear x00 x01
  rw [← HW.out]
  clear HW
  replace E := Lib.hid (E.out.trans (ext_drew W))
  replace HQ := Lib.hid (HQ.out.ext (ext_drew W))
  replace HX := Lib.hid (HX.out.ext (ext_drew W))
  replace HV := Lib.hid (HV.out.ext (ext_drew W))
  replace C0 := Lib.hid ((ext_drew W).cell (p := ⟨w.heap.size, 0, none⟩) C0.out)
  replace C1 := Lib.hid ((ext_drew W).cell (p := ⟨w.heap.size, 1, none⟩) C1.out)
  refine wp_region_lex [(1, .spx w.heap.size p (d + 2) (extL p qs)), (5, .ownS w.heap.size (d + 2) (pointL p qs v)), (6, .val (.int .i64 (pexZ p qs x v)))] (by kernel_rfl) (by kernel_rfl) ?_
  (refine LexW.pure (v := ?_) rfl rfl (fun w1 he => ?_) ?_; rotate_left; ( have x00 := (he.cell (p := ⟨w.heap.size, 0, none⟩) C0.out); have x01 := (he.cell (p := ⟨w.heap.size, 1, none⟩) C1.out); go_simp; rfl); simp only [Act.put, List.setIfInBounds_toArray, List.set_cons_zero, List.set_cons_succ])
  (refine LexW.callR (f := ?_) (args := ?_) rfl rfl (fun w1 => ?_) (fun w1 he hdep => ?_) (fun v hv => ?_); rotate_left 2; (go_simp; refine ⟨?_, ?_⟩ <;> rfl); ( refine (c_extended p a d cap qs w1 (by omega) (by omega) (by omega) (by omega) (HQ.out.ext he)).mono ?_; rintro e w2 ⟨g, rc, rfl, ho, g2⟩; exact ⟨_, rfl, g2, g, rc, rfl, ho.mono (Nat.le_trans E.out.size he.size)⟩); simp only [Act.put, List.setIfInBounds_toArray, List.set_cons_zero, List.set_cons_succ])
  obtain ⟨_, g8, c8, rfl, _⟩ := hv
  (refine LexW.pure (v := ?_) rfl rfl (fun w1 he => ?_) ?_; rotate_left; ( have x00 := (he.cell (p := ⟨w.heap.size, 0, none⟩) C0.out); have x01 := (he.cell (p := ⟨w.heap.size, 1, none⟩) C1.out); go_simp; rfl); simp only [Act.put, List.setIfInBounds_toArray, List.set_cons_zero, List.set_cons_succ])
  (refine LexW.pure (v := ?_) rfl rfl (fun w1 he => ?_) ?_; rotate_left; ( have x00 := (he.cell (p := ⟨w.heap.size, 0, none⟩) C0.out); have x01 := (he.cell (p := ⟨w.heap.size, 1, none⟩) C1.out); go_simp; rfl); simp only [Act.put, List.setIfInBounds_toArray, List.set_cons_zero, List.set_cons_succ])
  (refine LexW.pure (v := ?_) rfl rfl (fun w1 he => ?_) ?_; rotate_left; ( have x00 := (he.cell (p := ⟨w.heap.size, 0, none⟩) C0.out); have x01 := (he.cell (p := ⟨w.heap.size, 1, none⟩) C1.out); go_simp; rfl); simp only [Act.put, List.setIfInBounds_toArray, List.set_cons_zero, List.set_cons_succ])
  (refine LexW.callR (f := ?_) (args := ?_) rfl rfl (fun w1 => ?_) (fun w1 he hdep => ?_) (fun v hv => ?_); rotate_left 2; (go_simp; refine ⟨?_, ?_⟩ <;> rfl); ( refine (c_point p a d cap qs av cv v w1 (by omega) h4 HPR.out (HQ.out.ext he) HQB.out (HV.out.ext he) hgv).mono ?_; rintro e w2 ⟨g, rc, rfl, ho, g2⟩; exact ⟨_, rfl, g2, g, rc, rfl, ho.mono (Nat.le_trans E.out.size he.size)⟩); simp only [Act.put, List.setIfInBounds_toArray, List.set_cons_zero, List.set_cons_succ])
  obtain ⟨_, g12, c12, rfl, _⟩ := hv
  (refine LexW.call (f := ?_) (args := ?_) rfl rfl (fun w1 => ?_) (fun w1 he hdep => ?_) ?_; rotate_left 2; (go_simp; refine ⟨?_, ?_⟩ <;> rfl); ( obtain ⟨_, _, q8, r8⟩ : (SPred.spx w.heap.size p (d + 2) (extL p qs)).holds (.agg #[.int .i64 p, .slice (some ⟨g8, 0, none⟩) (d + 2) c8]) w1 := hdep (1, 8) (by decide +kernel); cases q8; obtain ⟨_, _, q12, r12⟩ : (SPred.ownS w.heap.size (d + 2) (pointL p qs v)).holds (.slice (some ⟨g12, 0, none⟩) (d + 2) c12) w1 := hdep (5, 12) (by decide +kernel); cases q12; have H := c_pair p (some ⟨g8, 0, none⟩) (d + 2) c8 (extL p qs) ax cx x (some ⟨g12, 0, none⟩) c12 (pointL p qs v) w1 (by omega) (by omega) (by omega) r8.rd HEB.out (HX.out.ext he) hgx r12.rd (HGP v).out; rw [← HPX.out] at H; exact H); simp only [Act.put, List.setIfInBounds_toArray, List.set_cons_zero, List.set_cons_succ])
  (refine LexW.pure (v := ?_) rfl rfl (fun w1 he => ?_) ?_; rotate_left; ( have x00 := (he.cell (p := ⟨w.heap.size, 0, none⟩) C0.out); have x01 := (he.cell (p := ⟨w.heap.size, 1, none⟩) C1.out); go_simp; rfl); simp only [Act.put, List.setIfInBounds_toArray, List.set_cons_zero, List.set_cons_succ])
  (refine LexW.pure (v := ?_) rfl rfl (fun w1 he => ?_) ?_; rotate_left; ( have x00 := (he.cell (p := ⟨w.heap.size, 0, none⟩) C0.out); have x01 := (he.cell (p := ⟨w.heap.size, 1, none⟩) C1.out); go_simp; rfl); simp only [Act.put, List.setIfInBounds_toArray, List.set_cons_zero, List.set_cons_succ])
  refine LexW.nil (fun w3 he hkn => ?_)
  have HE := Lib.hid he
  clear he hkn 
  rename World => v1
  replace E := Lib.hid (E.out.trans HE.out)
  replace HQ := Lib.hid (HQ.out.ext HE.out)
  replace HX := Lib.hid (HX.out.ext HE.out)
  replace HV := Lib.hid (HV.out.ext HE.out)
  replace C0 := Lib.hid (HE.out.cell (p := ⟨w.heap.size, 0, none⟩) C0.out)
  replace C1 := Lib.hid (HE.out.cell (p := ⟨w.heap.size, 1, none⟩) C1.out)
  clear HE
  go_wp2_with (fail)
  go_ret
  exact ⟨rfl, E.out⟩



end Go.Proofs.YtcocbainookkcaaGreat

/-
  Conformal functions: checks with a vector of the extension, the listed functions.
  No condition.
-/
namespace Go.Proofs.YtcocbainookkcaaGreat
set_option maxRecDepth 100000
open Go.RowKit

def code18M (p : Int) (qs x : List Int) (vs : List (List Int)) : Int := if spaceB p qs = true then (if qs.length ≤ 4 then (if (vs.all (vecB p qs.length) && vecB p (qs.length + 2) x) = true then 0 else 2) else 3) else 1
theorem code18M_zero {p : Int} {qs x : List Int} {vs : List (List Int)} (h : code18M p qs x vs = 0) : spaceB p qs = true ∧ qs.length ≤ 4 ∧ vs.all (vecB p qs.length) = true ∧ vecB p (qs.length + 2) x = true := by
  unfold code18M at h
  split at h
  · rename_i h1
    split at h
    · rename_i h2
      split at h
      · rename_i h3
        simp only [Bool.and_eq_true] at h3
        exact ⟨h1, h2, h3.1, h3.2⟩
      · cases h
    · cases h
  · cases h
theorem code18M_0 {p : Int} {qs x : List Int} {vs : List (List Int)} (hs : spaceB p qs = true) (h4 : qs.length ≤ 4) (hv : vs.all (vecB p qs.length) = true) (hx : Good p (qs.length + 2) x) : code18M p qs x vs = 0 := by
  unfold code18M; rw [if_pos hs, if_pos h4, hv, good_vecB hx]; rfl
theorem all_one {p : Int} {d : Nat} {v : List Int} (h : Good p d v) : [v].all (vecB p d) = true := by simp [good_vecB h]

set_option maxHeartbeats 2000000 in
theorem c_checkPlacesX (p : Int) (a : Option Addr) (d cap : Nat) (qs : List Int) (al : Option Addr) (n cl : Nat) (vs : List (List Int)) (ao : Option Addr) (co : Nat) (x : List Int) (w : World) (hxl : x.length ≤ 4194304) (hd : d ≤ 4194304) (hl : n ≤ 4194304) (hr : ∀ i, i < n → (nthR vs i).length ≤ 4194304)
    (hq : RdC w a d qs) (hx : RdR w al n vs) (hy : RdR w ao 1 [x]) :
    Calls Tryz.prog 36 #[.agg #[.int .i64 p, .slice a d cap], .slice al n cl, .slice ao 1 co] w fun e w' => e = .returned (.int .i64 (code18M p qs x vs)) ∧ Ext w w' := by
  have Hr := Lib.hid hr
  have HQ := Lib.hid hq
  have HX := Lib.hid hx
  have HY := Lib.hid hy
  have hdl := hq.1
  clear hr hq hx hy
  cases hs : spaceB p qs
  · have HS := Lib.hid hs
    have HC := Lib.hid (show code18M p qs x vs = 1 by simp [code18M, hs])
    clear hs
    go_enter Tryz.func36, Tryz.ntmps36
    go_wp2_with (go_at_call 41; refine (c_isSpace _ _ _ _ _ _ hd (HQ.out.ext (ext_alloc _ _))).mono ?_; rintro e w1 ⟨rfl, g1⟩; rw [HS.out]; have hcc := Ext.cells g1)
    go_ret
    exact ⟨ret_int HC.out.symm, (ext_alloc _ _).trans g1⟩
  · obtain ⟨hpr, hd1, hd6, hqb⟩ := space_of hs
    have hpb := prime_bd hpr
    rw [hdl] at hd1
    have HS := Lib.hid hs
    have hcb : ((0 : Int) != 0) = false := by simp
    have hcb2 : ((2 : Int) != 0) = true := by simp
    by_cases h4 : d ≤ 4
    · have h4q : qs.length ≤ 4 := by omega
      cases ha : vs.all (vecB p qs.length)
      · have HV := Lib.hid (show codeV p qs vs = 2 by unfold codeV; rw [hs, ha]; rfl)
        have HC := Lib.hid (show code18M p qs x vs = 2 by unfold code18M; rw [if_pos hs, if_pos h4q, ha]; rfl)
        clear hs ha hpr hqb hd6 hdl h4q
        go_enter Tryz.func36, Tryz.ntmps36
        go_wp2_with (first | (go_at_call 41; refine (c_isSpace _ _ _ _ _ _ hd (HQ.out.ext (ext_alloc _ _))).mono ?_; rintro e w1 ⟨rfl, g1⟩; rw [HS.out]; have hcc := Ext.cells g1; try simp only [World.size_alloc] at hcc) | (go_at_call 53; refine (c_dim _ _ _ _ _).mono ?_; rintro e w2 ⟨rfl, g2⟩; have hcc2 := Ext.cells (g1.trans g2); try simp only [World.size_alloc] at hcc2) | (go_at_call 69; refine (c_checkVectors p a d cap qs al n cl vs _ hd hl Hr.out (HQ.out.ext ((ext_alloc _ _).trans (g1.trans g2))) (HX.out.ext ((ext_alloc _ _).trans (g1.trans g2)))).mono ?_; rintro e w3 ⟨rfl, g3⟩; rw [HV.out]; have hcc3 := Ext.cells ((g1.trans g2).trans g3); try simp only [World.size_alloc] at hcc3))
        go_ret
        exact ⟨ret_int HC.out.symm, (ext_alloc _ _).trans ((g1.trans g2).trans g3)⟩
      · cases ho : vecB p (qs.length + 2) x
        · have HV := Lib.hid (show codeV p qs vs = 0 by unfold codeV; rw [hs, ha]; rfl)
          have HV2 := Lib.hid (show codeV p (extL p qs) [x] = 2 by unfold codeV; rw [extL_space hs h4q, extL_len]; simp [ho])
          have HC := Lib.hid (show code18M p qs x vs = 2 by unfold code18M; rw [if_pos hs, if_pos h4q, ha, ho]; rfl)
          clear ho hs ha hpr hqb hd6 hdl h4q
          go_enter Tryz.func36, Tryz.ntmps36
          go_wp2_with (first | (go_at_call 41; refine (c_isSpace _ _ _ _ _ _ hd (HQ.out.ext (ext_alloc _ _))).mono ?_; rintro e w1 ⟨rfl, g1⟩; rw [HS.out]; have hcc := Ext.cells g1; try simp only [World.size_alloc] at hcc) | (go_at_call 53; refine (c_dim _ _ _ _ _).mono ?_; rintro e w2 ⟨rfl, g2⟩; have hcc2 := Ext.cells (g1.trans g2); try simp only [World.size_alloc] at hcc2) | (go_at_call 25; refine (c_extended p a d cap qs _ (by omega) (by omega) (by omega) (by omega) (HQ.out.ext ((ext_alloc _ _).trans ((g1.trans g2).trans g3)))).mono ?_; rintro e w4 ⟨ge, re, rfl, he4, g4⟩; have HE4 := Lib.hid he4; clear he4) | (go_at_call 69; refine (c_checkVectors p (some ⟨ge, 0, none⟩) (d + 2) re (extL p qs) ao 1 co [x] _ (by omega) (by omega) (len_one hxl) HE4.out.rd (HY.out.ext ((ext_alloc _ _).trans (((g1.trans g2).trans g3).trans g4)))).mono ?_; rintro e w5 ⟨rfl, g5⟩; rw [HV2.out]) | (go_at_call 69; refine (c_checkVectors p a d cap qs al n cl vs _ hd hl Hr.out (HQ.out.ext ((ext_alloc _ _).trans (g1.trans g2))) (HX.out.ext ((ext_alloc _ _).trans (g1.trans g2)))).mono ?_; rintro e w3 ⟨rfl, g3⟩; rw [HV.out]; have hcc3 := Ext.cells ((g1.trans g2).trans g3); try simp only [World.size_alloc] at hcc3))
          go_ret
          exact ⟨ret_int HC.out.symm, ((ext_alloc _ _).trans ((g1.trans g2).trans g3)).trans (g4.trans g5)⟩
        · have HV := Lib.hid (show codeV p qs vs = 0 by unfold codeV; rw [hs, ha]; rfl)
          have HV2 := Lib.hid (show codeV p (extL p qs) [x] = 0 by unfold codeV; rw [extL_space hs h4q, extL_len]; simp [ho])
          have HC := Lib.hid (show code18M p qs x vs = 0 by unfold code18M; rw [if_pos hs, if_pos h4q, ha, ho]; rfl)
          clear ho hs ha hpr hqb hd6 hdl h4q
          go_enter Tryz.func36, Tryz.ntmps36
          go_wp2_with (first | (go_at_call 41; refine (c_isSpace _ _ _ _ _ _ hd (HQ.out.ext (ext_alloc _ _))).mono ?_; rintro e w1 ⟨rfl, g1⟩; rw [HS.out]; have hcc := Ext.cells g1; try simp only [World.size_alloc] at hcc) | (go_at_call 53; refine (c_dim _ _ _ _ _).mono ?_; rintro e w2 ⟨rfl, g2⟩; have hcc2 := Ext.cells (g1.trans g2); try simp only [World.size_alloc] at hcc2) | (go_at_call 25; refine (c_extended p a d cap qs _ (by omega) (by omega) (by omega) (by omega) (HQ.out.ext ((ext_alloc _ _).trans ((g1.trans g2).trans g3)))).mono ?_; rintro e w4 ⟨ge, re, rfl, he4, g4⟩; have HE4 := Lib.hid he4; clear he4) | (go_at_call 69; refine (c_checkVectors p (some ⟨ge, 0, none⟩) (d + 2) re (extL p qs) ao 1 co [x] _ (by omega) (by omega) (len_one hxl) HE4.out.rd (HY.out.ext ((ext_alloc _ _).trans (((g1.trans g2).trans g3).trans g4)))).mono ?_; rintro e w5 ⟨rfl, g5⟩; rw [HV2.out]) | (go_at_call 69; refine (c_checkVectors p a d cap qs al n cl vs _ hd hl Hr.out (HQ.out.ext ((ext_alloc _ _).trans (g1.trans g2))) (HX.out.ext ((ext_alloc _ _).trans (g1.trans g2)))).mono ?_; rintro e w3 ⟨rfl, g3⟩; rw [HV.out]; have hcc3 := Ext.cells ((g1.trans g2).trans g3); try simp only [World.size_alloc] at hcc3))
          go_ret
          exact ⟨ret_int HC.out.symm, ((ext_alloc _ _).trans ((g1.trans g2).trans g3)).trans (g4.trans g5)⟩
    · have HC := Lib.hid (show code18M p qs x vs = 3 by unfold code18M; rw [if_pos hs, if_neg (by omega)])
      clear hs hpr hqb hd6 hdl
      go_enter Tryz.func36, Tryz.ntmps36
      go_wp2_with (first | (go_at_call 41; refine (c_isSpace _ _ _ _ _ _ hd (HQ.out.ext (ext_alloc _ _))).mono ?_; rintro e w1 ⟨rfl, g1⟩; rw [HS.out]; have hcc := Ext.cells g1; try simp only [World.size_alloc] at hcc) | (go_at_call 53; refine (c_dim _ _ _ _ _).mono ?_; rintro e w2 ⟨rfl, g2⟩; have hcc2 := Ext.cells (g1.trans g2); try simp only [World.size_alloc] at hcc2))
      go_ret
      exact ⟨ret_int HC.out.symm, (ext_alloc _ _).trans (g1.trans g2)⟩

set_option maxHeartbeats 4000000 in
set_option maxRecDepth 100000 in
theorem c_IsOnSphere_ok (p : Int) (a : Option Addr) (d cap : Nat) (qs : List Int) (ax : Option Addr) (cx : Nat) (x : List Int) (av : Option Addr) (cv : Nat) (v : List Int) (w : World) (hs : spaceB p qs = true) (h4 : qs.length ≤ 4) (hq : RdC w a d qs) (hx : RdC w ax (d + 2) x) (hgx : Good p (d + 2) x) (hv : RdC w av d v) (hgv : Good p d v) :
    Calls Tryz.prog 15 #[.agg #[.int .i64 p, .slice a d cap], .slice ax (d + 2) cx, .slice av d cv] w fun e w' => e = .returned (.tuple #[.bool (pexZ p qs x v == 0), .int .i64 0]) ∧ Ext w w' := by
  have HC := Lib.hid (code18M_0 (vs := [v]) hs h4 (all_one (by rw [hq.1]; exact hgv)) (x := x) (by rw [hq.1]; exact hgx))
  have HSP := Lib.hid hs
  obtain ⟨hpr, hd1, _, hqb⟩ := space_of hs
  have hpb := prime_bd hpr
  have HPR := Lib.hid hpr
  have HQB := Lib.hid hqb
  have hql := hq.1
  rw [hql] at hd1 h4
  have HQL := Lib.hid hql
  have HEB := Lib.hid (extL_isB (p := p) (by omega) hqb)
  have HGI := Lib.hid (good_inf (p := p) (d := d) (by omega))
  have HGP := fun (u : List Int) => Lib.hid (pointL_good (p := p) (qs := qs) (v := u) (d := d) (by omega) hql)
  clear hpr hqb hql
  have hcb : ((0 : Int) != 0) = false := by simp
  obtain ⟨W, hW⟩ : ∃ W, W = w.alloc (.cells #[.int .i64 p, .slice a d cap] 26) := ⟨_, rfl⟩
  have E : Hid (Ext w W) := Lib.hid (by rw [hW]; exact ext_alloc _ _)
  have C0 : Hid (W.cell? ⟨w.heap.size, 0, none⟩ = some (.int .i64 p)) := Lib.hid (by rw [hW]; simp)
  have C1 : Hid (W.cell? ⟨w.heap.size, 1, none⟩ = some (.slice a d cap)) := Lib.hid (by rw [hW]; simp)
  have HZ : Hid (W.heap.size = w.heap.size + 1) := Lib.hid (by rw [hW]; simp)
  have HW := Lib.hid hW
  clear hW
  have HQ := Lib.hid (hq.ext E.out)
  have HX := Lib.hid (hx.ext E.out)
  have HV := Lib.hid (hv.ext E.out)
  clear hq hx hv
  go_enter Tryz.func15, Tryz.ntmps15
  have x00 := C0.out
  have x01 := C1.out
  go_wp2_with (fail)
  clear x00 x01
  rw [← HW.out]
  clear HW
  refine Calls.mono (c_checkPlacesX p a d cap qs _ 1 _ [v] _ 1 x _ (by rw [HX.out.1]; omega) (by omega) (by omega) (len_one (by rw [HV.out.1]; omega)) (HQ.out.ext ((ext_alloc _ _).alloc _)) (rdR_one (a := av) (n := d) (cap := cv) (by rw [← HZ.out]; simp) (HV.out.ext ((ext_alloc _ _).alloc _))) (rdR_one (a := ax) (n := (d + 2)) (cap := cx) (by rw [← HZ.out]; simp) (HX.out.ext ((ext_alloc _ _).alloc _)))) ?_
  rintro e v1 ⟨rfl, gg⟩
  replace gg := ((ext_alloc _ _).alloc _).trans gg
  rw [HC.out]
  replace E := Lib.hid (E.out.trans gg)
  replace HQ := Lib.hid (HQ.out.ext gg)
  replace HX := Lib.hid (HX.out.ext gg)
  replace HV := Lib.hid (HV.out.ext gg)
  replace C0 := Lib.hid (gg.cell (p := ⟨w.heap.size, 0, none⟩) C0.out)
  replace C1 := Lib.hid (gg.cell (p := ⟨w.heap.size, 1, none⟩) C1.out)
  clear gg
  have x00 := C0.out
  have x01 := C1.out
  go_wp2_with (fail)
  clear x00 x01
  refine Calls.mono (c_isOn p a d cap qs ax cx x av cv v v1 HSP.out (by rw [HQL.out]; exact h4) HQ.out HX.out hgx HV.out hgv) ?_
  rintro e v2 ⟨rfl, gg⟩
  replace E := Lib.hid (E.out.trans gg)
  replace HQ := Lib.hid (HQ.out.ext gg)
  replace HX := Lib.hid (HX.out.ext gg)
  replace HV := Lib.hid (HV.out.ext gg)
  replace C0 := Lib.hid (gg.cell (p := ⟨w.heap.size, 0, none⟩) C0.out)
  replace C1 := Lib.hid (gg.cell (p := ⟨w.heap.size, 1, none⟩) C1.out)
  clear gg
  go_wp2_with (fail)
  go_ret2
  exact ⟨rfl, E.out⟩

theorem rdC_takeO {B : Nat} {w : World} {g n c d : Nat} {xs : List Int} (h : OwnC B w (some ⟨g, 0, none⟩) n c xs) (hd : d ≤ n) : RdC w (some ⟨g, 0, none⟩) d (xs.take d) := rdC_take h.rd hd




def codeSv (p : Int) (qs v : List Int) (r : Int) : Int := if code18 p qs [v] = 0 then (if inB r 0 (p - 1) = true then 0 else 2) else code18 p qs [v]
theorem codeSv_zero {p : Int} {qs v : List Int} {r : Int} (h : codeSv p qs v r = 0) : code18 p qs [v] = 0 ∧ 0 ≤ r ∧ r < p := by
  unfold codeSv at h
  split at h
  · rename_i h1
    split at h
    · rename_i h2
      simp only [inB, decide_eq_true_eq] at h2
      exact ⟨h1, by omega, by omega⟩
    · cases h
  · rename_i h1; exact absurd h h1
theorem ball_scale {p r : Int} {qs c : List Int} {n : Nat} : plusL p (pointL p qs c) (scaleL p (infL qs.length) (invN p 2 * r) n) (-1) n = plusL p (pointL p qs c) (infL qs.length) (-(r * invN p 2 % p)) n := by
  rw [plus_scaleS]
  refine plus_modk ?_
  obtain ⟨s, hs⟩ := emod_ex p (r * invN p 2)
  rw [hs]
  exact emod_add ⟨s, by rw [Int.mul_comm r]; grind⟩
theorem ball_good {p r : Int} {qs c : List Int} {d : Nat} (hp : 1 ≤ p) (hd : qs.length = d) : Good p (d + 2) (ballL p qs c r) := by subst hd; exact plus_good hp






end Go.Proofs.YtcocbainookkcaaGreat

/-
  Conformal functions: SphereOf; the codes of DistanceOf.
  No condition.
-/
namespace Go.Proofs.YtcocbainookkcaaGreat
set_option maxRecDepth 100000
open Go.RowKit



/-- The number of a sphere. -/
def sphN (p : Int) (qs x : List Int) : Int := -2 * (nth (finL p qs x) qs.length - nth (pointL p qs (plcL p qs x)) qs.length) % p
theorem plc_good {p : Int} {qs x : List Int} {d : Nat} (hp : 1 ≤ p) (hd : qs.length = d) : Good p d (plcL p qs x) := by
  subst hd
  refine ⟨by unfold plcL finL; rw [List.length_take, scaleL_len]; omega, fun i hi => ?_⟩
  unfold plcL
  rw [tk_nth hi]
  exact (scale_good (p := p) (n := qs.length + 2) hp).2 i (by omega)




end Go.Proofs.YtcocbainookkcaaGreat
