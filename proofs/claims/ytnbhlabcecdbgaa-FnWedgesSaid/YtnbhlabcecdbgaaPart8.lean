/-
  Contracts and plain laws, part 8: Wdg, WdgD, Read, ReadB.
  No condition.
-/
import Derived.Test.YtnbhlabcecdbgaaPart5
import Derived.Test.YtnbhlabcecdbgaaPart6
import Derived.Test.YtnbhlabcecdbgaaPart3
import Derived.Test.YtnbhlabcecdbgaaPart0
import Derived.ProofKit
import Derived.OpenShut
import Derived.ShutString
import Derived.ChangeOld
import Derived.Below
import Derived.Lib.SmallJoins
/-
  Wedge products of vectors, plain: they change their sign when two vectors are exchanged, are 0 exactly if the vectors are dependent, and are the determinant for as many vectors as squares.
  No condition. No program in sight.
-/
namespace Go.Proofs.Ytnbhlabcecdbgaa
set_option maxRecDepth 100000
open Go.RowKit

/-- The wedge product of the first k of some vectors. -/
def wdS (p : Int) (qs : List Int) (rows : List (List Int)) (k : Nat) : List Int := prodS p qs tkW rows k
/-- A multivector that is 0. -/
def nilL (qs : List Int) : List Int := List.replicate (2 ^ qs.length) 0
theorem nil_nth {qs : List Int} {i : Nat} (h : i < 2 ^ qs.length) : nth (nilL qs) i = 0 := nth_replicate h
theorem nil_len (qs : List Int) : (nilL qs).length = 2 ^ qs.length := by simp [nilL]
theorem wd_good {p : Int} {qs : List Int} {rows : List (List Int)} (hp : 3 ≤ p) (k : Nat) : Good p (2 ^ qs.length) (wdS p qs rows k) := prodS_good hp k
theorem prod_nil_right {p : Int} {qs x : List Int} {tk : Nat → Nat → Bool} (hp : 1 ≤ p) : prodL p qs tk x (nilL qs) = nilL qs := by
  refine ext_nth (by rw [(prod_good hp).1, nil_len]) fun k hk => ?_
  rw [(prod_good hp).1] at hk
  rw [prodT_nth hp hk, sumN_zero (fun i hi => by rw [nil_nth (Nat.xor_lt_two_pow hi hk)]; simp), nil_nth hk]
  rfl
theorem prod_nil_left {p : Int} {qs x : List Int} {tk : Nat → Nat → Bool} (hp : 1 ≤ p) : prodL p qs tk (nilL qs) x = nilL qs := by
  refine ext_nth (by rw [(prod_good hp).1, nil_len]) fun k hk => ?_
  rw [(prod_good hp).1] at hk
  rw [prodT_nth hp hk, sumN_zero (fun i hi => by rw [nil_nth hi]; simp), nil_nth hk]
  rfl
theorem plus_nil {p k : Int} {qs x : List Int} (hx : Good p (2 ^ qs.length) x) : plusL p x (nilL qs) k (2 ^ qs.length) = x := by
  refine ext_nth (by rw [plusL_len, hx.1]) fun i hi => ?_
  rw [plusL_len] at hi
  rw [plusL_nth hi, plusN, nil_nth hi, Int.mul_zero, Int.add_zero, Int.emod_eq_of_lt (hx.2 i hi).1 (hx.2 i hi).2]
theorem nil_plus {p : Int} {qs x : List Int} (hx : Good p (2 ^ qs.length) x) : plusL p (nilL qs) x 1 (2 ^ qs.length) = x := by
  refine ext_nth (by rw [plusL_len, hx.1]) fun i hi => ?_
  rw [plusL_len] at hi
  rw [plusL_nth hi, plusN, nil_nth hi, Int.one_mul, Int.zero_add, Int.emod_eq_of_lt (hx.2 i hi).1 (hx.2 i hi).2]
/-- v ∧ w + w ∧ v -/
theorem wedge_anti {p : Int} {qs v w : List Int} (hp : 1 ≤ p) (hd : qs.length ≤ 6) (hv : v.length = qs.length) (hw : w.length = qs.length) :
    plusL p (prodL p qs tkW (vecL (2 ^ qs.length) v) (vecL (2 ^ qs.length) w)) (prodL p qs tkW (vecL (2 ^ qs.length) w) (vecL (2 ^ qs.length) v)) 1 (2 ^ qs.length) = nilL qs := by
  refine ext_nth (by rw [plusL_len, nil_len]) fun k hk => ?_
  rw [plusL_len] at hk
  rw [plusL_nth hk, plusN, prodT_nth hp hk, prodT_nth hp hk, Int.one_mul, Int.emod_add_emod, Int.add_emod_emod, nil_nth hk]
  rw [← sumN_xor hd hk (fun i => tkI tkW i (i ^^^ k) * (nth (vecL (2 ^ qs.length) w) i * nth (vecL (2 ^ qs.length) v) (i ^^^ k) * facZ qs i (i ^^^ k) qs.length)), ← sumN_add]
  have : ∀ i, i < 2 ^ qs.length → tkI tkW i (i ^^^ k) * (nth (vecL (2 ^ qs.length) v) i * nth (vecL (2 ^ qs.length) w) (i ^^^ k) * facZ qs i (i ^^^ k) qs.length) + tkI tkW (k ^^^ i) (k ^^^ i ^^^ k) * (nth (vecL (2 ^ qs.length) w) (k ^^^ i) * nth (vecL (2 ^ qs.length) v) (k ^^^ i ^^^ k) * facZ qs (k ^^^ i) (k ^^^ i ^^^ k) qs.length) = 0 := fun i hi => by
    have x1 : k ^^^ i ^^^ k = i := by rw [Nat.xor_comm k i, Nat.xor_assoc, Nat.xor_self, Nat.xor_zero]
    rw [x1, Nat.xor_comm k i]
    have hik := Nat.xor_lt_two_pow hi hk
    have htk : tkI tkW (i ^^^ k) i = tkI tkW i (i ^^^ k) := by unfold tkI tkW; rw [Nat.and_comm]
    rw [htk, ← Int.mul_add]
    by_cases hb : ∃ s, s < qs.length ∧ i = 2 ^ s
    · obtain ⟨s, hs, rfl⟩ := hb
      by_cases hc : ∃ t, t < qs.length ∧ 2 ^ s ^^^ k = 2 ^ t
      · obtain ⟨t, ht, hst⟩ := hc
        rw [hst]
        by_cases hne : s = t
        · subst hne
          have : tkI tkW (2 ^ s) (2 ^ s) = 0 := by
            unfold tkI tkW
            rw [Nat.and_self, if_neg]
            have := pow_pos' s
            simp only [beq_iff_eq]
            omega
          rw [this, Int.zero_mul]
        · rw [(facZ_bits hd hs ht).1 hne]
          rw [Int.mul_comm (nth (vecL (2 ^ qs.length) w) _), Int.mul_neg, Int.add_left_neg, Int.mul_zero]
      · rw [vec_no hw hik (fun t ht h => hc ⟨t, ht, h⟩)]; simp
    · rw [vec_no hv hi (fun s hs h => hb ⟨s, hs, h⟩)]; simp
  rw [sumN_zero this]; rfl
theorem dbl_zero {p x : Int} (hp : primeB p = true) (h0 : 0 ≤ x) (h1 : x < p) (h : (x + x) % p = 0) : x = 0 := by
  simp only [primeB, Bool.or_eq_true, beq_iff_eq] at hp
  rcases hp with (((rfl | rfl) | rfl) | rfl) | rfl <;> omega
theorem wedge_self {p : Int} {qs v : List Int} (hp : primeB p = true) (hd : qs.length ≤ 6) (hv : v.length = qs.length) :
    prodL p qs tkW (vecL (2 ^ qs.length) v) (vecL (2 ^ qs.length) v) = nilL qs := by
  have hpb := prime_bd hp
  have h := wedge_anti (p := p) (by omega) hd hv hv
  have hg : Good p (2 ^ qs.length) (prodL p qs tkW (vecL (2 ^ qs.length) v) (vecL (2 ^ qs.length) v)) := prod_good (by omega)
  refine ext_nth (by rw [hg.1, nil_len]) fun k hk => ?_
  rw [hg.1] at hk
  have h2 := congrArg (fun l => nth l k) h
  rw [plusL_nth hk, plusN, Int.one_mul, nil_nth hk] at h2
  rw [nil_nth hk]
  exact dbl_zero hp (hg.2 k hk).1 (hg.2 k hk).2 h2
theorem wd_succ {p : Int} {qs : List Int} {rows : List (List Int)} {k : Nat} : wdS p qs rows (k + 1) = prodL p qs tkW (wdS p qs rows k) (vecL (2 ^ qs.length) (nthR rows k)) := rfl
theorem wd_congr {p : Int} {qs : List Int} {rows rows' : List (List Int)} : ∀ k, (∀ i, i < k → nthR rows i = nthR rows' i) → wdS p qs rows k = wdS p qs rows' k
  | 0, _ => rfl
  | k + 1, h => by rw [wd_succ, wd_succ, wd_congr k (fun i hi => h i (by omega)), h k (by omega)]
theorem wd_up {p : Int} {qs : List Int} {rows : List (List Int)} {m : Nat} (hp : 1 ≤ p) (h : wdS p qs rows m = nilL qs) : ∀ j, wdS p qs rows (m + j) = nilL qs
  | 0 => h
  | j + 1 => by rw [← Nat.add_assoc, wd_succ, wd_up hp h j, prod_nil_left hp]
/-- The product with a further vector, and that with it ahead of the last one. -/
theorem wd_turn {p : Int} {qs x u v : List Int} (hp : 1 ≤ p) (hd : qs.length ≤ 6) (hu : u.length = qs.length) (hv : v.length = qs.length) :
    plusL p (prodL p qs tkW (prodL p qs tkW x (vecL (2 ^ qs.length) u)) (vecL (2 ^ qs.length) v)) (prodL p qs tkW (prodL p qs tkW x (vecL (2 ^ qs.length) v)) (vecL (2 ^ qs.length) u)) 1 (2 ^ qs.length) = nilL qs := by
  rw [wedge_assoc hp hd, wedge_assoc hp hd, ← prod_plus_right hp, wedge_anti hp hd hu hv, prod_nil_right hp]
theorem wd_rep2 {p : Int} {qs : List Int} {rows : List (List Int)} {i j k : Nat} (hp : primeB p = true) (hd : qs.length ≤ 6) (hr : ∀ t, t < k → (nthR rows t).length = qs.length) (hij : i < j) (hjk : j < k) (he : nthR rows i = nthR rows j) : wdS p qs rows k = nilL qs := by
  have hpb := prime_bd hp
  have key : ∀ m, i + 1 + m < k → prodL p qs tkW (wdS p qs rows (i + 1 + m)) (vecL (2 ^ qs.length) (nthR rows i)) = nilL qs := fun m => by
    induction m with
    | zero =>
      intro hm
      rw [Nat.add_zero, wd_succ, wedge_assoc (by omega) hd, wedge_self hp hd (hr i (by omega)), prod_nil_right (by omega)]
    | succ m ih =>
      intro hm
      have ih' := ih (by omega)
      have h := wd_turn (p := p) (x := wdS p qs rows (i + 1 + m)) (by omega) hd (hr (i + 1 + m) (by omega)) (hr i (by omega))
      rw [ih', prod_nil_left (by omega), plus_nil (prod_good (by omega))] at h
      rw [show i + 1 + (m + 1) = i + 1 + m + 1 by omega, wd_succ]
      exact h
  have h1 := key (j - (i + 1)) (by omega)
  rw [show i + 1 + (j - (i + 1)) = j by omega, he, ← wd_succ] at h1
  have := wd_up (by omega) h1 (k - (j + 1))
  rwa [show j + 1 + (k - (j + 1)) = k by omega] at this
theorem vec_plus {p k : Int} {d : Nat} {x y : List Int} (hx : x.length = d) (hy : y.length = d) : vecL (2 ^ d) (plusL p x y k d) = plusL p (vecL (2 ^ d) x) (vecL (2 ^ d) y) k (2 ^ d) := by
  have hl : ∀ z : List Int, (vecL (2 ^ d) z).length = 2 ^ d := fun z => by
    unfold vecL
    generalize z.length = n
    induction n with
    | zero => simp [vecS]
    | succ n ih => simp [vecS, ih]
  have hpl := plusL_len p x y k d
  refine ext_nth (by rw [hl, plusL_len]) fun m hm => ?_
  rw [hl] at hm
  rw [plusL_nth hm, plusN]
  by_cases hb : ∃ s, s < d ∧ m = 2 ^ s
  · obtain ⟨s, hs, rfl⟩ := hb
    rw [vec_bit hpl hs, vec_bit hx hs, vec_bit hy hs, plusL_nth hs, plusN]
  · have hno : ∀ s, s < d → m ≠ 2 ^ s := fun s hs h => hb ⟨s, hs, h⟩
    rw [vec_no hpl hm hno, vec_no hx hm hno, vec_no hy hm hno]
    simp
/-- A sum in one place. -/
theorem wd_lin {p c : Int} {qs x y : List Int} {rows : List (List Int)} {i : Nat} (hp : 1 ≤ p) (hx : x.length = qs.length) (hy : y.length = qs.length) (hi : i < rows.length) :
    ∀ k, wdS p qs (rows.set i (plusL p x y c qs.length)) (i + 1 + k) = plusL p (wdS p qs (rows.set i x) (i + 1 + k)) (wdS p qs (rows.set i y) (i + 1 + k)) c (2 ^ qs.length)
  | 0 => by
    have hc : ∀ z, wdS p qs (rows.set i z) i = wdS p qs rows i := fun z => wd_congr i (fun j hj => by rw [nthR_set hi, if_neg (by omega)])
    rw [Nat.add_zero, wd_succ, wd_succ, wd_succ, hc, hc, hc, nthR_set hi, nthR_set hi, nthR_set hi, if_pos rfl, if_pos rfl, if_pos rfl, vec_plus hx hy, prod_plus_right hp]
  | k + 1 => by
    have ih := wd_lin (p := p) (c := c) (qs := qs) hp hx hy hi k
    rw [show i + 1 + (k + 1) = i + 1 + k + 1 by omega, wd_succ, wd_succ, wd_succ, ih, nthR_set hi, nthR_set hi, nthR_set hi, if_neg (by omega), if_neg (by omega), if_neg (by omega), prod_plus_left hp]
/-- All rows have as many numbers as there are squares. -/
def RowsL (d : Nat) (rows : List (List Int)) : Prop := ∀ i, i < rows.length → (nthR rows i).length = d
theorem RowsL.set {d : Nat} {rows : List (List Int)} (h : RowsL d rows) {j : Nat} {v : List Int} (hv : v.length = d) : RowsL d (rows.set j v) := by
  intro i hi
  rw [List.length_set] at hi
  by_cases hj : j < rows.length
  · rw [nthR_set hj]
    split
    · exact hv
    · exact h i hi
  · rw [List.set_eq_of_length_le (by omega)]; exact h i hi
theorem RowsG.len {p : Int} {m : Nat} {rows : List (List Int)} (h : RowsG p m rows) : RowsL m rows := fun i hi => (h i hi).1
theorem wd_lin' {p c : Int} {qs x y : List Int} {rows : List (List Int)} {i : Nat} (hp : 1 ≤ p) (hx : x.length = qs.length) (hy : y.length = qs.length) (hi : i < rows.length) :
    wdS p qs (rows.set i (plusL p x y c qs.length)) rows.length = plusL p (wdS p qs (rows.set i x) rows.length) (wdS p qs (rows.set i y) rows.length) c (2 ^ qs.length) := by
  have h := wd_lin (p := p) (c := c) (qs := qs) hp hx hy hi (rows.length - (i + 1))
  rwa [show i + 1 + (rows.length - (i + 1)) = rows.length by omega] at h
theorem wd_two {p : Int} {qs : List Int} {rows : List (List Int)} {i j : Nat} (hp : primeB p = true) (hd : qs.length ≤ 6) (hr : RowsL qs.length rows) (hij : i ≠ j) (hi : i < rows.length) (hj : j < rows.length) (he : nthR rows i = nthR rows j) : wdS p qs rows rows.length = nilL qs := by
  rcases Nat.lt_or_gt_of_ne hij with h | h
  · exact wd_rep2 hp hd hr h hj he
  · exact wd_rep2 hp hd hr h hi he.symm
/-- A multiple of another vector is added to one. -/
theorem wd_add {p c : Int} {qs : List Int} {rows : List (List Int)} {i j : Nat} (hp : primeB p = true) (hd : qs.length ≤ 6) (hr : RowsL qs.length rows) (hij : i ≠ j) (hi : i < rows.length) (hj : j < rows.length) :
    wdS p qs (rows.set i (plusL p (nthR rows i) (nthR rows j) c qs.length)) rows.length = wdS p qs rows rows.length := by
  have hpb := prime_bd hp
  rw [wd_lin' (by omega) (hr i hi) (hr j hj) hi, set_self]
  have h := wd_two (rows := rows.set i (nthR rows j)) (i := i) (j := j) hp hd (hr.set (hr j hj)) hij (by simpa using hi) (by simpa using hj) (by rw [nthR_set hi, nthR_set hi, if_pos rfl, if_neg hij])
  rw [List.length_set] at h
  rw [h, plus_nil (wd_good (by omega) _)]
theorem wd_scale {p c : Int} {qs : List Int} {rows : List (List Int)} {i : Nat} (hp : 3 ≤ p) (hr : RowsL qs.length rows) (hi : i < rows.length) :
    wdS p qs (rows.set i (scaleL p (nthR rows i) c qs.length)) rows.length = scaleL p (wdS p qs rows rows.length) c (2 ^ qs.length) := by
  have hz : ∀ (n : Nat) (x : List Int), plusL p (List.replicate n 0) x c n = scaleL p x c n := fun n x => by
    refine ext_nth (by rw [plusL_len, scaleL_len]) fun t ht => ?_
    rw [plusL_len] at ht
    rw [plusL_nth ht, scaleL_nth ht, plusN, scaleN, nth_replicate ht, Int.zero_add, Int.mul_comm]
  have hw : wdS p qs (rows.set i (List.replicate qs.length 0)) rows.length = nilL qs := by
    have hv : vecL (2 ^ qs.length) (List.replicate qs.length 0) = nilL qs := by
      have hg : Good p (2 ^ qs.length) (vecL (2 ^ qs.length) (List.replicate qs.length 0)) := vec_good (by omega) (good_zero (by omega))
      refine ext_nth (by rw [hg.1, nil_len]) fun m hm => ?_
      rw [hg.1] at hm
      rw [nil_nth hm]
      by_cases hb : ∃ s, s < qs.length ∧ m = 2 ^ s
      · obtain ⟨s, hs, rfl⟩ := hb
        rw [vec_bit (by simp) hs, nth_replicate hs]
      · exact vec_no (by simp) hm (fun s hs h => hb ⟨s, hs, h⟩)
    have h1 : wdS p qs (rows.set i (List.replicate qs.length 0)) (i + 1) = nilL qs := by
      rw [wd_succ, nthR_set hi, if_pos rfl, hv, prod_nil_right (by omega)]
    have := wd_up (by omega) h1 (rows.length - (i + 1))
    rwa [show i + 1 + (rows.length - (i + 1)) = rows.length by omega] at this
  rw [← hz, wd_lin' (by omega) (by simp) (hr i hi) hi, set_self, hw]
  exact hz _ _
/-- Two vectors are exchanged. -/
theorem wd_swap {p : Int} {qs : List Int} {rows : List (List Int)} {i j : Nat} (hp : primeB p = true) (hd : qs.length ≤ 6) (hr : RowsL qs.length rows) (hij : i ≠ j) (hi : i < rows.length) (hj : j < rows.length) :
    plusL p (wdS p qs (swapL rows i j) rows.length) (wdS p qs rows rows.length) 1 (2 ^ qs.length) = nilL qs := by
  have hpb := prime_bd hp
  obtain ⟨a, ha⟩ : ∃ a, a = nthR rows i := ⟨_, rfl⟩
  obtain ⟨b, hb⟩ : ∃ b, b = nthR rows j := ⟨_, rfl⟩
  have hal : a.length = qs.length := by rw [ha]; exact hr i hi
  have hbl : b.length = qs.length := by rw [hb]; exact hr j hj
  have hsl := plusL_len p a b 1 qs.length
  have hl : ∀ x y : List Int, x.length = qs.length → y.length = qs.length → RowsL qs.length ((rows.set i x).set j y) := fun x y hx hy => (hr.set hx).set hy
  have same : ∀ x : List Int, x.length = qs.length → wdS p qs ((rows.set i x).set j x) rows.length = nilL qs := fun x hx => by
    have h := wd_two (rows := (rows.set i x).set j x) (i := i) (j := j) hp hd (hl x x hx hx) hij (by rw [List.length_set, List.length_set]; exact hi) (by rw [List.length_set, List.length_set]; exact hj) (by
      have e1 : nthR ((rows.set i x).set j x) j = x := by rw [nthR_set (by simpa using hj), if_pos rfl]
      have e2 : nthR ((rows.set i x).set j x) i = x := by rw [nthR_set (by simpa using hj), if_neg (Ne.symm hij), nthR_set hi, if_pos rfl]
      rw [e1, e2])
    simpa using h
  have linj : ∀ x y z : List Int, y.length = qs.length → z.length = qs.length → wdS p qs ((rows.set i x).set j (plusL p y z 1 qs.length)) rows.length = plusL p (wdS p qs ((rows.set i x).set j y) rows.length) (wdS p qs ((rows.set i x).set j z) rows.length) 1 (2 ^ qs.length) := fun x y z hy hz => by
    have h := wd_lin' (p := p) (c := 1) (qs := qs) (rows := rows.set i x) (i := j) (by omega) hy hz (by simpa using hj)
    simpa using h
  have lini : ∀ x y z : List Int, y.length = qs.length → z.length = qs.length → wdS p qs ((rows.set i (plusL p y z 1 qs.length)).set j x) rows.length = plusL p (wdS p qs ((rows.set i y).set j x) rows.length) (wdS p qs ((rows.set i z).set j x) rows.length) 1 (2 ^ qs.length) := fun x y z hy hz => by
    have h := wd_lin' (p := p) (c := 1) (qs := qs) (rows := rows.set j x) (i := i) (by omega) hy hz (by simpa using hi)
    rw [List.set_comm _ _ hij, List.set_comm _ _ hij, List.set_comm _ _ hij]
    simpa using h
  have h1 := same (plusL p a b 1 qs.length) hsl
  rw [linj _ _ _ hal hbl, lini _ _ _ hal hbl, lini _ _ _ hal hbl, same a hal, same b hbl, nil_plus (wd_good (by omega) _), plus_nil (wd_good (by omega) _)] at h1
  have e1 : (rows.set i b).set j a = swapL rows i j := by rw [swapL, ha, hb]
  have e2 : (rows.set i a).set j b = rows := by rw [ha, set_self, hb, set_self]
  rw [e1, e2] at h1
  exact h1

/-! ### A coefficient of a product of vectors in a row -/
def maskC (c : Nat → Nat) : Nat → Nat
  | 0 => 0
  | k + 1 => maskC c k ^^^ 2 ^ c k
def diagC (c : Nat → Nat) (rows : List (List Int)) : Nat → Int
  | 0 => 1
  | k + 1 => diagC c rows k * nth (nthR rows k) (c k)
theorem maskC_lt {c : Nat → Nat} {m : Nat} : ∀ k, (∀ i, i < k → c i < m) → maskC c k < 2 ^ m
  | 0, _ => pow_pos' m
  | k + 1, h => Nat.xor_lt_two_pow (maskC_lt k fun i hi => h i (by omega)) (Nat.pow_lt_pow_right (by omega) (h k (by omega)))
theorem maskC_bit {c : Nat → Nat} {s : Nat} : ∀ k, (maskC c k).testBit s = true → ∃ i, i < k ∧ c i = s
  | 0, h => by simp [maskC] at h
  | k + 1, h => by
    rw [maskC, Nat.testBit_xor, Nat.testBit_two_pow] at h
    by_cases hs : c k = s
    · exact ⟨k, by omega, hs⟩
    · simp only [hs, decide_false, Bool.bne_false] at h
      obtain ⟨i, hi, he⟩ := maskC_bit k h
      exact ⟨i, by omega, he⟩
theorem facZ_hi {qs : List Int} {a s : Nat} (h : a < 2 ^ s) : ∀ n, facZ qs a (2 ^ s) n = 1
  | 0 => rfl
  | n + 1 => by
    rw [facZ, facZ_hi h n, stZ, Nat.testBit_two_pow]
    by_cases hn : s = n
    · subst hn
      have h1 : a.testBit s = false := Nat.testBit_lt_two_pow h
      have h2 : a >>> (s + 1) = 0 := by
        rw [Nat.shiftRight_eq_div_pow]
        exact Nat.div_eq_of_lt (Nat.lt_trans h (Nat.pow_lt_pow_right (by omega) (by omega)))
      rw [h1, sgZ, h2]
      simp [popc, popF]
    · simp [hn]
theorem wd_coef {p : Int} {qs : List Int} {rows : List (List Int)} {c : Nat → Nat} (hp : 3 ≤ p) (hd : qs.length ≤ 6) : ∀ k, k ≤ rows.length → RowsL qs.length rows → (∀ i, i < k → c i < qs.length) → (∀ i j, i < j → j < k → c i < c j) →
    (∀ i, i < k → ∀ j, j < i → nth (nthR rows i) (c j) = 0) → nth (wdS p qs rows k) (maskC c k) = diagC c rows k % p
  | 0, _, _, _, _, _ => by
    have h0 := pow_pos' qs.length
    show nth (bladeL (2 ^ qs.length) 0) 0 = 1 % p
    rw [bladeL_nth h0 h0, if_pos rfl, Int.emod_eq_of_lt (by omega) (by omega)]
  | k + 1, hk, hr, hc, hm, hz => by
    have ih := wd_coef (p := p) (qs := qs) hp hd k (by omega) hr (fun i hi => hc i (by omega)) (fun i j hij hj => hm i j hij (by omega)) (fun i hi j hj => hz i (by omega) j hj)
    have hlt : maskC c k < 2 ^ c k := maskC_lt k fun i hi => hm i k hi (by omega)
    have hM : maskC c (k + 1) < 2 ^ qs.length := maskC_lt (k + 1) hc
    have hck := hc k (by omega)
    have hpk : 2 ^ c k < 2 ^ qs.length := Nat.pow_lt_pow_right (by omega) hck
    have hrl := hr k (by omega)
    rw [wd_succ, prodT_nth (by omega) hM, ← sumN_xor hd hM]
    rw [sumN_single hpk (fun m hm' hne => ?_)]
    · have e1 : maskC c (k + 1) ^^^ 2 ^ c k = maskC c k := by rw [maskC, Nat.xor_assoc, Nat.xor_self, Nat.xor_zero]
      have e2 : maskC c k ^^^ maskC c (k + 1) = 2 ^ c k := by rw [maskC, ← Nat.xor_assoc, Nat.xor_self, Nat.zero_xor]
      have e3 : tkI tkW (maskC c k) (2 ^ c k) = 1 := by
        unfold tkI
        rw [if_pos]
        rw [tkW_iff]
        intro i
        rw [Nat.testBit_two_pow]
        by_cases hi : c k = i
        · subst hi; rw [Nat.testBit_lt_two_pow hlt]; rfl
        · simp [hi]
      rw [e1, e2, e3, facZ_hi hlt, vec_bit hrl hck, ih, Int.one_mul, Int.mul_one, diagC]
      exact mul_emod_congr (Int.emod_emod _ _) rfl
    · have e2 : maskC c (k + 1) ^^^ m ^^^ maskC c (k + 1) = m := by rw [Nat.xor_comm (maskC c (k + 1)) m, Nat.xor_assoc, Nat.xor_self, Nat.xor_zero]
      rw [e2]
      by_cases hb : ∃ s, s < qs.length ∧ m = 2 ^ s
      · obtain ⟨s, hs, rfl⟩ := hb
        by_cases hbit : (maskC c (k + 1)).testBit s = true
        · obtain ⟨i, hi, he⟩ := maskC_bit (k + 1) hbit
          have hik : i < k := by
            rcases Nat.lt_or_eq_of_le (Nat.le_of_lt_succ hi) with h | h
            · exact h
            · subst h; exact absurd (by rw [he]) hne
          rw [vec_bit hrl hs, ← he, hz k (by omega) i hik]
          simp
        · have : tkI tkW (maskC c (k + 1) ^^^ 2 ^ s) (2 ^ s) = 0 := by
            unfold tkI
            rw [if_neg]
            intro h
            have := (tkW_iff.1 h) s
            rw [Nat.testBit_xor, Nat.testBit_two_pow] at this
            simp [hbit] at this
          rw [this, Int.zero_mul]
      · rw [vec_no hrl hm' (fun s hs h => hb ⟨s, hs, h⟩)]; simp

/-! ### Dependent vectors -/
theorem scale_nil {p u : Int} {qs x : List Int} (hp : primeB p = true) (hx : Good p (2 ^ qs.length) x) (hu0 : 0 < u) (hu : u < p) : scaleL p x u (2 ^ qs.length) = nilL qs ↔ x = nilL qs := by
  constructor
  · intro h
    refine ext_nth (by rw [hx.1, nil_len]) fun k hk => ?_
    rw [hx.1] at hk
    have h2 := congrArg (fun l => nth l k) h
    rw [scaleL_nth hk, scaleN, nil_nth hk] at h2
    rw [nil_nth hk]
    rcases (mul_zero_of hp (hx.2 k hk).1 (hx.2 k hk).2 (by omega) hu).1 h2 with h | h
    · exact h
    · omega
  · rintro rfl
    refine ext_nth (by rw [scaleL_len, nil_len]) fun k hk => ?_
    rw [scaleL_len] at hk
    rw [scaleL_nth hk, scaleN, nil_nth hk, Int.zero_mul]; rfl
theorem plus_nil_iff {p : Int} {qs x y : List Int} (hx : Good p (2 ^ qs.length) x) (hy : Good p (2 ^ qs.length) y) (h : plusL p x y 1 (2 ^ qs.length) = nilL qs) : x = nilL qs ↔ y = nilL qs := by
  constructor
  · rintro rfl; rwa [nil_plus hy] at h
  · rintro rfl; rwa [plus_nil hx] at h
theorem swap_self {rows : List (List Int)} {i : Nat} : swapL rows i i = rows := by rw [swapL, set_self, set_self]
theorem wd_swap_nil {p : Int} {qs : List Int} {rows : List (List Int)} {i j : Nat} (hp : primeB p = true) (hd : qs.length ≤ 6) (hr : RowsL qs.length rows) (hi : i < rows.length) (hj : j < rows.length) :
    wdS p qs (swapL rows i j) rows.length = nilL qs ↔ wdS p qs rows rows.length = nilL qs := by
  have hpb := prime_bd hp
  by_cases hij : i = j
  · subst hij; rw [swap_self]
  · exact plus_nil_iff (wd_good (by omega) _) (wd_good (by omega) _) (wd_swap hp hd hr hij hi hj)
theorem wd_clr {p : Int} {qs : List Int} {rows : List (List Int)} {k d : Nat} (hp : primeB p = true) (hd : qs.length ≤ 6) (hr : RowsG p qs.length rows) (hdl : d < rows.length) : ∀ r, r ≤ rows.length → wdS p qs (clrS p k qs.length d rows r) rows.length = wdS p qs rows rows.length
  | 0, _ => rfl
  | r + 1, h => by
    have hpb := prime_bd hp
    have ih := wd_clr (k := k) hp hd hr hdl r (by omega)
    by_cases hrd : r = d
    · rw [clrS_self hrd]; exact ih
    · have hl := clrS_len (p := p) (k := k) (m := qs.length) (d := d) (rows := rows) r
      have := wd_add (c := -(nth (nthR (clrS p k qs.length d rows r) r) k)) hp hd (clrS_good (k := k) (d := d) (by omega) hr r).len hrd (by omega) (by omega)
      rw [hl] at this
      rw [clrS_ne hrd, this]; exact ih
theorem wd_gauss {p : Int} {qs : List Int} {rows : List (List Int)} (hp : primeB p = true) (hd : qs.length ≤ 6) (hr : RowsG p qs.length rows) : ∀ k, k ≤ qs.length → (wdS p qs (gaussS p qs.length rows k).1 rows.length = nilL qs ↔ wdS p qs rows rows.length = nilL qs)
  | 0, _ => Iff.rfl
  | k + 1, hk => by
    have hpb := prime_bd hp
    refine Iff.trans ?_ (wd_gauss hp hd hr k (by omega))
    obtain ⟨hgg, c, hred⟩ := gaussS_red hp hr k (by omega)
    have hgl := gaussS_len (p := p) (m := qs.length) (rows := rows) k
    rw [gaussS]
    obtain ⟨s, hs⟩ : ∃ s, s = gaussS p qs.length rows k := ⟨_, rfl⟩
    rw [← hs] at hgg hred hgl ⊢
    obtain ⟨h1, h2, h3, h4⟩ := pivG_spec s.1 k s.2 hred.dle
    by_cases hno : pivG s.1 k s.2 = s.1.length
    · rw [stepG_no hno]
    · have hil : pivG s.1 k s.2 < s.1.length := by omega
      have hne : nth (nthR s.1 (pivG s.1 k s.2)) k ≠ 0 := by
        rcases h4 with h4 | h4
        · exact absurd h4 hno
        · exact h4
      rw [stepG_yes rfl hil]
      simp only
      have hds : s.2 < s.1.length := by omega
      have hug : RowsG p qs.length (upG p qs.length s.1 s.2 k (pivG s.1 k s.2)) := upG_good (by omega) hgg hds hil
      have hul : (upG p qs.length s.1 s.2 k (pivG s.1 k s.2)).length = s.1.length := upG_len
      have hcl := wd_clr (k := k) (d := s.2) hp hd hug (by omega) s.1.length (by omega)
      rw [hul, hgl] at hcl
      rw [hgl, hcl]
      have hb := (hgg _ hil).2 k (by omega)
      have hiv := inv_spec hp (by omega) hb.2
      have hib := invN_bd (p := p) (a := nth (nthR s.1 (pivG s.1 k s.2)) k) (by omega)
      unfold upG
      have hsl := swapL_len (rows := s.1) (i := s.2) (j := pivG s.1 k s.2)
      have hsg : RowsG p qs.length (swapL s.1 s.2 (pivG s.1 k s.2)) := swapL_good hgg hds hil
      have hsd : nthR (swapL s.1 s.2 (pivG s.1 k s.2)) s.2 = nthR s.1 (pivG s.1 k s.2) := by
        rw [swapL_nth hds hil]
        by_cases he : s.2 = pivG s.1 k s.2
        · rw [if_pos he, ← he]
        · rw [if_neg he, if_pos rfl]
      rw [← hsd]
      have hsc := wd_scale (p := p) (qs := qs) (c := invN p (nth (nthR (swapL s.1 s.2 (pivG s.1 k s.2)) s.2) k)) (rows := swapL s.1 s.2 (pivG s.1 k s.2)) (i := s.2) (by omega) hsg.len (by omega)
      rw [hsl, hgl] at hsc
      rw [hsc]
      rw [hsd]
      refine (scale_nil hp (wd_good (by omega) _) (by omega) hib.2).trans ?_
      have := wd_swap_nil (i := s.2) (j := pivG s.1 k s.2) hp hd hgg.len hds hil
      rwa [hgl] at this
/-- The product of vectors is 0 exactly if they are dependent. -/
theorem wd_rank {p : Int} {qs : List Int} {rows : List (List Int)} (hp : primeB p = true) (hd : qs.length ≤ 6) (hr : RowsG p qs.length rows) : wdS p qs rows rows.length = nilL qs ↔ rankL p qs.length rows < rows.length := by
  have hpb := prime_bd hp
  rw [← wd_gauss hp hd hr qs.length (Nat.le_refl _)]
  obtain ⟨hgg, c, hred⟩ := gaussS_red hp hr qs.length (Nat.le_refl _)
  have hgl := gaussS_len (p := p) (m := qs.length) (rows := rows) qs.length
  unfold rankL
  obtain ⟨s, hs⟩ : ∃ s, s = gaussS p qs.length rows qs.length := ⟨_, rfl⟩
  rw [← hs] at hgg hred hgl ⊢
  constructor
  · intro hz
    refine Decidable.byContradiction fun hlt => ?_
    have hdle := hred.dle
    have he : s.2 = rows.length := by omega
    have hdg : ∀ k, k ≤ s.2 → diagC c s.1 k = 1 := fun k => by
      induction k with
      | zero => intro _; rfl
      | succ k ih => intro hk; rw [diagC, ih (by omega), hred.one k (by omega) k (by omega), if_pos rfl]; rfl
    have h := wd_coef (p := p) (qs := qs) (rows := s.1) (c := c) (by omega) hd rows.length (by omega) hgg.len (fun i hi => hred.clt i (by omega)) (fun i j hij hj => hred.mono i j hij (by omega)) (fun i hi j hj => by rw [hred.one j (by omega) i (by omega), if_neg (by omega)])
    rw [hz, hdg _ (by omega), nil_nth (maskC_lt _ fun i hi => hred.clt i (by omega)), Int.emod_eq_of_lt (by omega) (by omega)] at h
    cases h
  · intro hlt
    have hzero : vecL (2 ^ qs.length) (nthR s.1 s.2) = nilL qs := by
      have hg : Good p (2 ^ qs.length) (vecL (2 ^ qs.length) (nthR s.1 s.2)) := vec_good (by omega) (hgg s.2 (by omega))
      refine ext_nth (by rw [hg.1, nil_len]) fun m hm => ?_
      rw [hg.1] at hm
      rw [nil_nth hm]
      have hl := hgg.len s.2 (by omega)
      by_cases hb : ∃ t, t < qs.length ∧ m = 2 ^ t
      · obtain ⟨t, ht, rfl⟩ := hb
        rw [vec_bit hl ht, hred.rest s.2 (Nat.le_refl _) (by omega) t ht]
      · exact vec_no hl hm (fun t ht h => hb ⟨t, ht, h⟩)
    have h1 : wdS p qs s.1 (s.2 + 1) = nilL qs := by rw [wd_succ, hzero, prod_nil_right (by omega)]
    have := wd_up (by omega) h1 (rows.length - (s.2 + 1))
    rwa [show s.2 + 1 + (rows.length - (s.2 + 1)) = rows.length by omega] at this
end Go.Proofs.Ytnbhlabcecdbgaa

/-
  The wedge product of as many vectors as squares is the pseudoscalar times their determinant, plain.
  No condition. No program in sight.
-/
namespace Go.Proofs.Ytnbhlabcecdbgaa
set_option maxRecDepth 100000
open Go.RowKit

theorem elimS_row {p : Int} {m k : Nat} {rows : List (List Int)} (hg : RowsL m rows) : ∀ r, r ≤ rows.length → RowsL m (elimS p m k rows r) := fun r hr i hi => by
  rw [elimS_len] at hi
  rw [elimS_nth r hr]
  split
  · unfold elimN
    split
    · exact plusL_len _ _ _ _ _
    · exact hg i hi
  · exact hg i hi
theorem wd_elim {p : Int} {qs : List Int} {rows : List (List Int)} {k : Nat} (hp : primeB p = true) (hd : qs.length ≤ 6) (hg : RowsL qs.length rows) (hk : k < rows.length) : ∀ r, r ≤ rows.length → wdS p qs (elimS p qs.length k rows r) rows.length = wdS p qs rows rows.length
  | 0, _ => rfl
  | r + 1, h => by
    have ih := wd_elim hp hd hg hk r (by omega)
    rw [elimS]
    by_cases hkr : k < r
    · rw [if_pos hkr]
      have hl := elimS_len (p := p) (m := qs.length) (k := k) (rows := rows) r
      have e1 : nthR (elimS p qs.length k rows r) r = nthR rows r := by rw [elimS_nth r (by omega), if_neg (by omega)]
      have e2 : nthR (elimS p qs.length k rows r) k = nthR rows k := by rw [elimS_nth r (by omega), if_pos hkr]; unfold elimN; rw [if_neg (by omega)]
      have e3 : elimN p qs.length k rows r = plusL p (nthR (elimS p qs.length k rows r) r) (nthR (elimS p qs.length k rows r) k) (-(nth (nthR rows r) k) * invN p (nth (nthR rows k) k)) qs.length := by
        rw [e1, e2]; unfold elimN; rw [if_pos hkr]
      have := wd_add (p := p) (qs := qs) (c := -(nth (nthR rows r) k) * invN p (nth (nthR rows k) k)) (i := r) (j := k) hp hd (elimS_row (p := p) (k := k) hg r (by omega)) (by omega) (by omega) (by omega)
      rw [hl, ← e3] at this
      rw [this]; exact ih
    · rw [if_neg hkr]; exact ih
theorem diag_congr {c : Nat → Nat} {r s : List (List Int)} : ∀ k, (∀ i, i < k → nthR r i = nthR s i) → diagC c r k = diagC c s k
  | 0, _ => rfl
  | k + 1, h => by rw [diagC, diagC, diag_congr k (fun i hi => h i (by omega)), h k (by omega)]
theorem mask_full : ∀ n, n ≤ 6 → maskC (fun i => i) n = 2 ^ n - 1 := by
  intro n hn
  have : ∀ n : Nat, n < 7 → maskC (fun i => i) n = 2 ^ n - 1 := by decide +kernel
  exact this n (by omega)
theorem elim_zero {p x a : Int} (hp : primeB p = true) (h0 : 0 < a) (h1 : a < p) : (x + -x * invN p a * a) % p = 0 := by
  obtain ⟨_, h, _⟩ := inv_spec hp h0 h1
  obtain ⟨q, hq⟩ : ∃ q, a * invN p a = p * q + 1 := ⟨a * invN p a / p, by have := Int.mul_ediv_add_emod (a * invN p a) p; omega⟩
  rw [Int.mul_assoc, Int.mul_comm (invN p a) a, hq, Int.mul_add, Int.mul_one, Int.add_comm, Int.add_assoc, Int.add_left_neg, Int.add_zero, Int.mul_left_comm]
  exact Int.mul_emod_right _ _
theorem wd_detS {p : Int} {qs : List Int} {rows : List (List Int)} (hp : primeB p = true) (hd : qs.length ≤ 6) (hg : RowsG p qs.length rows) (hm : rows.length ≤ qs.length) : ∀ k, k ≤ rows.length → ∀ r o, detS p qs.length rows k = some (r, o) →
    ∃ s : Int, (∀ t, t < 2 ^ qs.length → nth (wdS p qs rows rows.length) t % p = (s * nth (wdS p qs r rows.length) t) % p) ∧ o % p = (s * diagC (fun i => i) r k) % p ∧ (∀ j, j < k → ∀ i, j < i → i < rows.length → nth (nthR r i) j = 0)
  | 0, _, r, o, h => by
    simp only [detS, Option.some.injEq, Prod.mk.injEq] at h
    obtain ⟨rfl, rfl⟩ := h
    exact ⟨1, fun t _ => by rw [Int.one_mul], rfl, fun j hj => absurd hj (Nat.not_lt_zero _)⟩
  | k + 1, hk, r, o, h => by
    have hpb := prime_bd hp
    cases hds : detS p qs.length rows k with
    | none => rw [detS, hds] at h; cases h
    | some ro =>
      obtain ⟨r1, o1⟩ := ro
      obtain ⟨s, hs1, hs2, hs3⟩ := wd_detS hp hd hg hm k (by omega) r1 o1 hds
      obtain ⟨g1, g2⟩ := detS_good (by omega) hg k (by omega) r1 o1 hds
      obtain ⟨h1, h2, h3, h4⟩ := pivG_spec r1 k k (by omega)
      rw [detS, hds] at h
      simp only at h
      by_cases hno : pivG r1 k k = r1.length
      · rw [if_pos hno] at h; cases h
      · rw [if_neg hno] at h
        obtain ⟨i0, hi0⟩ : ∃ i0, i0 = pivG r1 k k := ⟨_, rfl⟩
        rw [← hi0] at h h1 h2 h3 h4 hno
        simp only [Option.some.injEq, Prod.mk.injEq] at h
        obtain ⟨rfl, rfl⟩ := h
        have hil : i0 < r1.length := by omega
        have hne : nth (nthR r1 i0) k ≠ 0 := by
          rcases h4 with h4 | h4
          · exact absurd h4 hno
          · exact h4
        have hkl : k < r1.length := by omega
        have hsl := swapL_len (rows := r1) (i := k) (j := i0)
        have hsg : RowsG p qs.length (swapL r1 k i0) := swapL_good g1 hkl hil
        have swn : ∀ j, nthR (swapL r1 k i0) j = if j = i0 then nthR r1 k else if j = k then nthR r1 i0 else nthR r1 j := fun j => swapL_nth hkl hil
        have swk : nthR (swapL r1 k i0) k = nthR r1 i0 := by
          rw [swn]
          by_cases he : k = i0
          · rw [if_pos he, ← he]
          · rw [if_neg he, if_pos rfl]
        have hel : wdS p qs (elimL p qs.length k (swapL r1 k i0)) rows.length = wdS p qs (swapL r1 k i0) rows.length := by
          have := wd_elim (k := k) hp hd hsg.len (by omega) (swapL r1 k i0).length (Nat.le_refl _)
          rw [hsl, g2] at this
          unfold elimL
          rw [hsl, g2]; exact this
        have eln : ∀ j, j < rows.length → nthR (elimL p qs.length k (swapL r1 k i0)) j = elimN p qs.length k (swapL r1 k i0) j := fun j hj => elimL_nth (by omega)
        have dg : diagC (fun i => i) (elimL p qs.length k (swapL r1 k i0)) (k + 1) = diagC (fun i => i) r1 k * nth (nthR r1 i0) k := by
          rw [diagC]
          congr 1
          · refine diag_congr k fun i hi => ?_
            rw [eln i (by omega)]
            unfold elimN
            rw [if_neg (by omega), swn, if_neg (by omega), if_neg (by omega)]
          · rw [eln k (by omega)]
            unfold elimN
            rw [if_neg (by omega), swk]
        have hz : ∀ j, j < k + 1 → ∀ i, j < i → i < rows.length → nth (nthR (elimL p qs.length k (swapL r1 k i0)) i) j = 0 := fun j hj i hji hi => by
          rw [eln i hi]
          unfold elimN
          by_cases hjk : j = k
          · subst hjk
            rw [if_pos hji, plusL_nth (by omega), plusN, swk]
            have hb := (g1 i0 hil).2 j (by omega)
            exact elim_zero hp (by omega) hb.2
          · have z1 : ∀ t, j < t → t < rows.length → nth (nthR (swapL r1 k i0) t) j = 0 := fun t ht htl => by
              rw [swn]
              split
              · exact hs3 j (by omega) k (by omega) (by omega)
              · split
                · exact hs3 j (by omega) i0 (by omega) (by omega)
                · exact hs3 j (by omega) t ht htl
            split
            · rw [plusL_nth (by omega), plusN, z1 i hji hi, z1 k (by omega) (by omega)]
              simp
            · exact z1 i hji hi
        by_cases hik : i0 = k
        · refine ⟨s, fun t ht => ?_, ?_, hz⟩
          · have : swapL r1 k i0 = r1 := by rw [hik, swap_self]
            rw [hel, this]; exact hs1 t ht
          · rw [dg, if_pos hik, Int.emod_emod, ← Int.mul_assoc]
            exact mul_emod_congr hs2 rfl
        · refine ⟨-s, fun t ht => ?_, ?_, hz⟩
          · rw [hel, hs1 t ht]
            have hsw := wd_swap (p := p) (qs := qs) (rows := r1) (i := k) (j := i0) hp hd g1.len (Ne.symm hik) hkl hil
            rw [g2] at hsw
            have h9 := congrArg (fun l => nth l t) hsw
            rw [plusL_nth ht, plusN, Int.one_mul, nil_nth ht] at h9
            have h8 : (s * nth (wdS p qs (swapL r1 k i0) rows.length) t + s * nth (wdS p qs r1 rows.length) t) % p = 0 := by
              rw [← Int.mul_add, Int.mul_emod, h9, Int.mul_zero]; rfl
            rw [Int.neg_mul]
            have e : s * nth (wdS p qs r1 rows.length) t = (s * nth (wdS p qs (swapL r1 k i0) rows.length) t + s * nth (wdS p qs r1 rows.length) t) + -(s * nth (wdS p qs (swapL r1 k i0) rows.length) t) := by omega
            rw [e, Int.add_emod, h8, Int.zero_add, Int.emod_emod]
          · rw [dg, if_neg hik, Int.emod_emod, ← Int.mul_assoc, Int.neg_mul s]
            refine mul_emod_congr ?_ rfl
            rw [Int.emod_emod, Int.neg_emod_eq_sub_emod, Int.neg_emod_eq_sub_emod, Int.sub_emod, hs2, ← Int.sub_emod]
/-- The last coefficient of the wedge product of as many vectors as squares. -/
theorem wd_det {p : Int} {qs : List Int} {rows : List (List Int)} (hp : primeB p = true) (hd : qs.length ≤ 6) (hg : RowsG p qs.length rows) (hm : rows.length = qs.length) : nth (wdS p qs rows rows.length) (2 ^ qs.length - 1) = detL p qs.length rows := by
  have hpb := prime_bd hp
  have hN := pow_pos' qs.length
  have hw := (wd_good (p := p) (qs := qs) (rows := rows) (by omega) rows.length).2 (2 ^ qs.length - 1) (by omega)
  cases hds : detS p qs.length rows rows.length with
  | none =>
    have h0 : detL p qs.length rows = 0 := by unfold detL; rw [hds]
    have hr : rankL p qs.length rows < rows.length := by
      have := rank_le hp hg
      have h2 := det_rank hp hg hm
      rw [h0] at h2
      rcases Nat.lt_or_eq_of_le this with h | h
      · exact h
      · exact absurd rfl (h2.2 (by omega))
    rw [(wd_rank hp hd hg).2 hr, nil_nth (by omega), h0]
  | some ro =>
    obtain ⟨r, o⟩ := ro
    have ho : detL p qs.length rows = o := by unfold detL; rw [hds]
    obtain ⟨s, h1, h2, h3⟩ := wd_detS hp hd hg (by omega) rows.length (Nat.le_refl _) r o hds
    obtain ⟨g1, g2⟩ := detS_good (by omega) hg rows.length (Nat.le_refl _) r o hds
    have hb := (det_bd hp hg (by omega))
    rw [ho] at hb
    have hc := wd_coef (p := p) (qs := qs) (rows := r) (c := fun i => i) (by omega) hd rows.length (by omega) g1.len (fun i hi => by omega) (fun i j hij _ => hij) (fun i hi j hj => h3 j (by omega) i hj (by omega))
    rw [mask_full _ (by omega), hm] at hc
    rw [hm] at h1 h2
    have h4 := h1 (2 ^ qs.length - 1) (by omega)
    rw [hc, Int.mul_emod, Int.emod_emod, ← Int.mul_emod, ← h2] at h4
    rw [hm] at hw ⊢
    rw [ho]
    rw [Int.emod_eq_of_lt hw.1 hw.2, Int.emod_eq_of_lt hb.1 hb.2] at h4
    exact h4
end Go.Proofs.Ytnbhlabcecdbgaa

/-
  What is known of the arguments of a law in memory, read off the form's own words.
  No condition.
-/
namespace Go.Proofs.Ytnbhlabcecdbgaa
set_option maxRecDepth 100000
open Go.ChangeShapes Go.WideShapes Go.ChangeAt Go.RowKit Go.Joins

theorem own : ownKnob Try.prog.godebug = none := by kernel_rfl
theorem laidOut : laidOutB Try.prog = true := by kernel_rfl
theorem Try.cellsI : Try.prog.cellsOf 2 = 1 := by kernel_rfl
theorem Try.cellsR : Try.prog.cellsOf 24 = 1 := by kernel_rfl

theorem add_cell {w : World} {x : Addr} {i : Nat} {v v0 : Value} (h0 : w.cell? (x.add 0) = some v0) (h : w.cell? (x.add i) = some v) : ∃ b off, some x = some (⟨b, off, none⟩ : Addr) ∧ w.cell? ⟨b, off + i, none⟩ = some v := by
  obtain ⟨b, off, spot⟩ := x
  cases spot with
  | none =>
    refine ⟨b, off, rfl, ?_⟩
    unfold Addr.add at h
    split at h
    · rename_i hi; subst hi; exact h
    · exact h
  | some s =>
    simp only [World.cell?, Addr.add, if_true] at h0
    split at h0
    · simp at h0
    · cases h0

theorem read_cells {H : Type} {enc : TypeId × Value → H} {W : World} {fuel : Nat} {v : Value} {x : DataW H × List MemPlace}
    (hf : DataW.trod enc Try.prog W 0 (fun _ => true) true fuel 24 [v] = some x) : ∃ a n cap xs, v = .slice a n cap ∧ RdC W a n xs ∧ n ≤ maxLen := by
  rcases open_ints Try.underlying24 Try.underlying2 Try.cellsI hf with ⟨hcs, _⟩ | ⟨y, l, c, zs, hcs, _, hl, hm, hz, _, hcell, hwz⟩
  · simp only [List.cons.injEq, and_true] at hcs
    exact ⟨none, 0, 0, [], hcs, ⟨rfl, fun i hi => by omega⟩, by omega⟩
  · simp only [List.cons.injEq, and_true] at hcs
    have hz' : zs.length = c := by simpa using hz
    refine ⟨some y, l, c, zs.take l, hcs, ⟨by simp; omega, fun i hi => ?_⟩, by omega⟩
    obtain ⟨b, off, h1, h2⟩ := add_cell (hcell 0 (by omega)) (hcell i (by omega))
    refine ⟨b, off, h1, ?_⟩
    rw [h2]
    simp [nth, List.getElem?_take_of_lt hi]

theorem read_ints {H : Type} {enc : TypeId × Value → H} {W : World} {base : Nat} {v : Value} {d : DataW H} {p : List MemPlace}
    (hv : Value.okWide Try.prog W .any base 24 v) (h : DataW.Trod enc Try.prog W 0 (fun _ => true) true 24 v d p) : ∃ a n cap xs, v = .slice a n cap ∧ RdC W a n xs ∧ n ≤ maxLen := by
  obtain ⟨a0, len0, cap0, rfl⟩ := okWide_slice Try.underlying24 hv
  obtain ⟨fuel, hf⟩ := h
  exact read_cells (by simpa [Value.cells] using hf)


end Go.Proofs.Ytnbhlabcecdbgaa

/-
  What is known of the bytes that a law is handed.
  No condition.
-/
namespace Go.Proofs.Ytnbhlabcecdbgaa
set_option maxRecDepth 100000
open Go.ChangeShapes Go.WideShapes Go.ChangeAt Go.RowKit Go.Joins

theorem Try.cellsB : Try.prog.cellsOf 5 = 1 := by kernel_rfl

theorem read_bytes {H : Type} {enc : TypeId × Value → H} {W : World} {base : Nat} {v : Value} {d : DataW H} {p : List MemPlace}
    (hv : Value.okWide Try.prog W .any base 22 v) (h : DataW.Trod enc Try.prog W 0 (fun _ => true) true 22 v d p) : ∃ a n cap, v = .slice a n cap ∧ RdY W a n := by
  obtain ⟨a0, len0, cap0, rfl⟩ := okWide_slice Try.underlying22 hv
  obtain ⟨fuel, hf⟩ := h
  have hf' : DataW.trod enc Try.prog W 0 (fun _ => true) true fuel 22 [.slice a0 len0 cap0] = some (d, p) := by simpa [Value.cells] using hf
  rcases open_ints Try.underlying22 Try.underlying5 Try.cellsB hf' with ⟨hcs, _⟩ | ⟨y, l, c, zs, hcs, _, hl, hm, hz, _, hcell, hwz⟩
  · simp only [List.cons.injEq, and_true] at hcs
    exact ⟨none, 0, 0, hcs, fun i hi => by omega⟩
  · simp only [List.cons.injEq, and_true] at hcs
    have hz' : zs.length = c := by simpa using hz
    refine ⟨some y, l, c, hcs, fun i hi => ?_⟩
    obtain ⟨b, off, h1, h2⟩ := add_cell (hcell 0 (by omega)) (hcell i (by omega))
    have hi' : i < zs.length := by omega
    have hw := hwz (zs.getD i 0) (by rw [List.getD_eq_getElem?_getD, List.getElem?_eq_getElem hi']; exact List.getElem_mem hi')
    refine ⟨b, off, zs.getD i 0, h1, h2, ?_⟩
    replace hw : (decide (IntKind.u8.min ≤ zs.getD i 0) && decide (zs.getD i 0 ≤ IntKind.u8.max)) = true := hw
    have h8 : IntKind.u8.min = 0 ∧ IntKind.u8.max = 255 := by decide
    rw [h8.1, h8.2] at hw
    simp only [Bool.and_eq_true, decide_eq_true_eq] at hw
    omega
end Go.Proofs.Ytnbhlabcecdbgaa
