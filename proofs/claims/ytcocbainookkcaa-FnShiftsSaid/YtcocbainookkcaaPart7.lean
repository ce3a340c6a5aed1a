/-
  Contracts and plain laws, part 7: Wdg, ShiftP, Top18, DrawV, DrawP, Draw18, Draw18B, Law9, Read, ReadB.
  No condition.
-/
import Derived.Test.YtcocbainookkcaaPart2
import Derived.Test.YtcocbainookkcaaPart5
import Derived.Test.YtcocbainookkcaaPart3
import Derived.Test.YtcocbainookkcaaPart4
import Derived.Test.YtcocbainookkcaaPart6
import Derived.Test.YtcocbainookkcaaPart0
import Derived.ProofKit
import Derived.OpenShut
import Derived.ShutString
import Derived.ChangeOld
import Derived.Below
import Derived.Lib.SmallJoins
/-
  Wedge products of vectors, plain: they change their sign when two vectors are exchanged, are 0 exactly if the vectors are dependent, and are the determinant for as many vectors as squares.
  No condition. No program in sight.
-/
namespace Go.Proofs.Ytcocbainookkcaa
set_option maxRecDepth 100000
open Go.RowKit

/-- The wedge product of the first k of some vectors. -/
def wdS (p : Int) (qs : List Int) (rows : List (List Int)) (k : Nat) : List Int := prodS p qs tkW rows k
/-- A multivector that is 0. -/
def nilL (qs : List Int) : List Int := List.replicate (2 ^ qs.length) 0
theorem nil_nth {qs : List Int} {i : Nat} (h : i < 2 ^ qs.length) : nth (nilL qs) i = 0 := nth_replicate h
theorem nil_len (qs : List Int) : (nilL qs).length = 2 ^ qs.length := by simp [nilL]
theorem wd_good {p : Int} {qs : List Int} {rows : List (List Int)} (hp : 3 ≤ p) (k : Nat) : Good p (2 ^ qs.length) (wdS p qs rows k) := prodS_good hp k
theorem prod_nil_right {p : Int} {qs x : List Int} {tk : Nat → Nat → Bool} (hp : 1 ≤ p) : prodL p qs tk x (nilL qs) = nilL qs := by
  refine ext_nth (by rw [(prod_good hp).1, nil_len]) fun k hk => ?_
  rw [(prod_good hp).1] at hk
  rw [prodT_nth hp hk, sumN_zero (fun i hi => by rw [nil_nth (Nat.xor_lt_two_pow hi hk)]; simp), nil_nth hk]
  rfl
theorem prod_nil_left {p : Int} {qs x : List Int} {tk : Nat → Nat → Bool} (hp : 1 ≤ p) : prodL p qs tk (nilL qs) x = nilL qs := by
  refine ext_nth (by rw [(prod_good hp).1, nil_len]) fun k hk => ?_
  rw [(prod_good hp).1] at hk
  rw [prodT_nth hp hk, sumN_zero (fun i hi => by rw [nil_nth hi]; simp), nil_nth hk]
  rfl
theorem plus_nil {p k : Int} {qs x : List Int} (hx : Good p (2 ^ qs.length) x) : plusL p x (nilL qs) k (2 ^ qs.length) = x := by
  refine ext_nth (by rw [plusL_len, hx.1]) fun i hi => ?_
  rw [plusL_len] at hi
  rw [plusL_nth hi, plusN, nil_nth hi, Int.mul_zero, Int.add_zero, Int.emod_eq_of_lt (hx.2 i hi).1 (hx.2 i hi).2]
theorem nil_plus {p : Int} {qs x : List Int} (hx : Good p (2 ^ qs.length) x) : plusL p (nilL qs) x 1 (2 ^ qs.length) = x := by
  refine ext_nth (by rw [plusL_len, hx.1]) fun i hi => ?_
  rw [plusL_len] at hi
  rw [plusL_nth hi, plusN, nil_nth hi, Int.one_mul, Int.zero_add, Int.emod_eq_of_lt (hx.2 i hi).1 (hx.2 i hi).2]
/-- v ∧ w + w ∧ v -/
theorem wedge_anti {p : Int} {qs v w : List Int} (hp : 1 ≤ p) (hd : qs.length ≤ 6) (hv : v.length = qs.length) (hw : w.length = qs.length) :
    plusL p (prodL p qs tkW (vecL (2 ^ qs.length) v) (vecL (2 ^ qs.length) w)) (prodL p qs tkW (vecL (2 ^ qs.length) w) (vecL (2 ^ qs.length) v)) 1 (2 ^ qs.length) = nilL qs := by
  refine ext_nth (by rw [plusL_len, nil_len]) fun k hk => ?_
  rw [plusL_len] at hk
  rw [plusL_nth hk, plusN, prodT_nth hp hk, prodT_nth hp hk, Int.one_mul, Int.emod_add_emod, Int.add_emod_emod, nil_nth hk]
  rw [← sumN_xor hd hk (fun i => tkI tkW i (i ^^^ k) * (nth (vecL (2 ^ qs.length) w) i * nth (vecL (2 ^ qs.length) v) (i ^^^ k) * facZ qs i (i ^^^ k) qs.length)), ← sumN_add]
  have : ∀ i, i < 2 ^ qs.length → tkI tkW i (i ^^^ k) * (nth (vecL (2 ^ qs.length) v) i * nth (vecL (2 ^ qs.length) w) (i ^^^ k) * facZ qs i (i ^^^ k) qs.length) + tkI tkW (k ^^^ i) (k ^^^ i ^^^ k) * (nth (vecL (2 ^ qs.length) w) (k ^^^ i) * nth (vecL (2 ^ qs.length) v) (k ^^^ i ^^^ k) * facZ qs (k ^^^ i) (k ^^^ i ^^^ k) qs.length) = 0 := fun i hi => by
    have x1 : k ^^^ i ^^^ k = i := by rw [Nat.xor_comm k i, Nat.xor_assoc, Nat.xor_self, Nat.xor_zero]
    rw [x1, Nat.xor_comm k i]
    have hik := Nat.xor_lt_two_pow hi hk
    have htk : tkI tkW (i ^^^ k) i = tkI tkW i (i ^^^ k) := by unfold tkI tkW; rw [Nat.and_comm]
    rw [htk, ← Int.mul_add]
    by_cases hb : ∃ s, s < qs.length ∧ i = 2 ^ s
    · obtain ⟨s, hs, rfl⟩ := hb
      by_cases hc : ∃ t, t < qs.length ∧ 2 ^ s ^^^ k = 2 ^ t
      · obtain ⟨t, ht, hst⟩ := hc
        rw [hst]
        by_cases hne : s = t
        · subst hne
          have : tkI tkW (2 ^ s) (2 ^ s) = 0 := by
            unfold tkI tkW
            rw [Nat.and_self, if_neg]
            have := pow_pos' s
            simp only [beq_iff_eq]
            omega
          rw [this, Int.zero_mul]
        · rw [(facZ_bits hd hs ht).1 hne]
          rw [Int.mul_comm (nth (vecL (2 ^ qs.length) w) _), Int.mul_neg, Int.add_left_neg, Int.mul_zero]
      · rw [vec_no hw hik (fun t ht h => hc ⟨t, ht, h⟩)]; simp
    · rw [vec_no hv hi (fun s hs h => hb ⟨s, hs, h⟩)]; simp
  rw [sumN_zero this]; rfl
theorem dbl_zero {p x : Int} (hp : primeB p = true) (h0 : 0 ≤ x) (h1 : x < p) (h : (x + x) % p = 0) : x = 0 := by
  simp only [primeB, Bool.or_eq_true, beq_iff_eq] at hp
  rcases hp with (((rfl | rfl) | rfl) | rfl) | rfl <;> omega
theorem wedge_self {p : Int} {qs v : List Int} (hp : primeB p = true) (hd : qs.length ≤ 6) (hv : v.length = qs.length) :
    prodL p qs tkW (vecL (2 ^ qs.length) v) (vecL (2 ^ qs.length) v) = nilL qs := by
  have hpb := prime_bd hp
  have h := wedge_anti (p := p) (by omega) hd hv hv
  have hg : Good p (2 ^ qs.length) (prodL p qs tkW (vecL (2 ^ qs.length) v) (vecL (2 ^ qs.length) v)) := prod_good (by omega)
  refine ext_nth (by rw [hg.1, nil_len]) fun k hk => ?_
  rw [hg.1] at hk
  have h2 := congrArg (fun l => nth l k) h
  rw [plusL_nth hk, plusN, Int.one_mul, nil_nth hk] at h2
  rw [nil_nth hk]
  exact dbl_zero hp (hg.2 k hk).1 (hg.2 k hk).2 h2
theorem wd_succ {p : Int} {qs : List Int} {rows : List (List Int)} {k : Nat} : wdS p qs rows (k + 1) = prodL p qs tkW (wdS p qs rows k) (vecL (2 ^ qs.length) (nthR rows k)) := rfl
theorem wd_congr {p : Int} {qs : List Int} {rows rows' : List (List Int)} : ∀ k, (∀ i, i < k → nthR rows i = nthR rows' i) → wdS p qs rows k = wdS p qs rows' k
  | 0, _ => rfl
  | k + 1, h => by rw [wd_succ, wd_succ, wd_congr k (fun i hi => h i (by omega)), h k (by omega)]
theorem wd_up {p : Int} {qs : List Int} {rows : List (List Int)} {m : Nat} (hp : 1 ≤ p) (h : wdS p qs rows m = nilL qs) : ∀ j, wdS p qs rows (m + j) = nilL qs
  | 0 => h
  | j + 1 => by rw [← Nat.add_assoc, wd_succ, wd_up hp h j, prod_nil_left hp]
/-- The product with a further vector, and that with it ahead of the last one. -/
theorem wd_turn {p : Int} {qs x u v : List Int} (hp : 1 ≤ p) (hd : qs.length ≤ 6) (hu : u.length = qs.length) (hv : v.length = qs.length) :
    plusL p (prodL p qs tkW (prodL p qs tkW x (vecL (2 ^ qs.length) u)) (vecL (2 ^ qs.length) v)) (prodL p qs tkW (prodL p qs tkW x (vecL (2 ^ qs.length) v)) (vecL (2 ^ qs.length) u)) 1 (2 ^ qs.length) = nilL qs := by
  rw [wedge_assoc hp hd, wedge_assoc hp hd, ← prod_plus_right hp, wedge_anti hp hd hu hv, prod_nil_right hp]
theorem wd_rep2 {p : Int} {qs : List Int} {rows : List (List Int)} {i j k : Nat} (hp : primeB p = true) (hd : qs.length ≤ 6) (hr : ∀ t, t < k → (nthR rows t).length = qs.length) (hij : i < j) (hjk : j < k) (he : nthR rows i = nthR rows j) : wdS p qs rows k = nilL qs := by
  have hpb := prime_bd hp
  have key : ∀ m, i + 1 + m < k → prodL p qs tkW (wdS p qs rows (i + 1 + m)) (vecL (2 ^ qs.length) (nthR rows i)) = nilL qs := fun m => by
    induction m with
    | zero =>
      intro hm
      rw [Nat.add_zero, wd_succ, wedge_assoc (by omega) hd, wedge_self hp hd (hr i (by omega)), prod_nil_right (by omega)]
    | succ m ih =>
      intro hm
      have ih' := ih (by omega)
      have h := wd_turn (p := p) (x := wdS p qs rows (i + 1 + m)) (by omega) hd (hr (i + 1 + m) (by omega)) (hr i (by omega))
      rw [ih', prod_nil_left (by omega), plus_nil (prod_good (by omega))] at h
      rw [show i + 1 + (m + 1) = i + 1 + m + 1 by omega, wd_succ]
      exact h
  have h1 := key (j - (i + 1)) (by omega)
  rw [show i + 1 + (j - (i + 1)) = j by omega, he, ← wd_succ] at h1
  have := wd_up (by omega) h1 (k - (j + 1))
  rwa [show j + 1 + (k - (j + 1)) = k by omega] at this
theorem vec_plus {p k : Int} {d : Nat} {x y : List Int} (hx : x.length = d) (hy : y.length = d) : vecL (2 ^ d) (plusL p x y k d) = plusL p (vecL (2 ^ d) x) (vecL (2 ^ d) y) k (2 ^ d) := by
  have hl : ∀ z : List Int, (vecL (2 ^ d) z).length = 2 ^ d := fun z => by
    unfold vecL
    generalize z.length = n
    induction n with
    | zero => simp [vecS]
    | succ n ih => simp [vecS, ih]
  have hpl := plusL_len p x y k d
  refine ext_nth (by rw [hl, plusL_len]) fun m hm => ?_
  rw [hl] at hm
  rw [plusL_nth hm, plusN]
  by_cases hb : ∃ s, s < d ∧ m = 2 ^ s
  · obtain ⟨s, hs, rfl⟩ := hb
    rw [vec_bit hpl hs, vec_bit hx hs, vec_bit hy hs, plusL_nth hs, plusN]
  · have hno : ∀ s, s < d → m ≠ 2 ^ s := fun s hs h => hb ⟨s, hs, h⟩
    rw [vec_no hpl hm hno, vec_no hx hm hno, vec_no hy hm hno]
    simp
/-- A sum in one place. -/
theorem wd_lin {p c : Int} {qs x y : List Int} {rows : List (List Int)} {i : Nat} (hp : 1 ≤ p) (hx : x.length = qs.length) (hy : y.length = qs.length) (hi : i < rows.length) :
    ∀ k, wdS p qs (rows.set i (plusL p x y c qs.length)) (i + 1 + k) = plusL p (wdS p qs (rows.set i x) (i + 1 + k)) (wdS p qs (rows.set i y) (i + 1 + k)) c (2 ^ qs.length)
  | 0 => by
    have hc : ∀ z, wdS p qs (rows.set i z) i = wdS p qs rows i := fun z => wd_congr i (fun j hj => by rw [nthR_set hi, if_neg (by omega)])
    rw [Nat.add_zero, wd_succ, wd_succ, wd_succ, hc, hc, hc, nthR_set hi, nthR_set hi, nthR_set hi, if_pos rfl, if_pos rfl, if_pos rfl, vec_plus hx hy, prod_plus_right hp]
  | k + 1 => by
    have ih := wd_lin (p := p) (c := c) (qs := qs) hp hx hy hi k
    rw [show i + 1 + (k + 1) = i + 1 + k + 1 by omega, wd_succ, wd_succ, wd_succ, ih, nthR_set hi, nthR_set hi, nthR_set hi, if_neg (by omega), if_neg (by omega), if_neg (by omega), prod_plus_left hp]
/-- All rows have as many numbers as there are squares. -/
def RowsL (d : Nat) (rows : List (List Int)) : Prop := ∀ i, i < rows.length → (nthR rows i).length = d
theorem RowsL.set {d : Nat} {rows : List (List Int)} (h : RowsL d rows) {j : Nat} {v : List Int} (hv : v.length = d) : RowsL d (rows.set j v) := by
  intro i hi
  rw [List.length_set] at hi
  by_cases hj : j < rows.length
  · rw [nthR_set hj]
    split
    · exact hv
    · exact h i hi
  · rw [List.set_eq_of_length_le (by omega)]; exact h i hi
theorem RowsG.len {p : Int} {m : Nat} {rows : List (List Int)} (h : RowsG p m rows) : RowsL m rows := fun i hi => (h i hi).1
theorem wd_lin' {p c : Int} {qs x y : List Int} {rows : List (List Int)} {i : Nat} (hp : 1 ≤ p) (hx : x.length = qs.length) (hy : y.length = qs.length) (hi : i < rows.length) :
    wdS p qs (rows.set i (plusL p x y c qs.length)) rows.length = plusL p (wdS p qs (rows.set i x) rows.length) (wdS p qs (rows.set i y) rows.length) c (2 ^ qs.length) := by
  have h := wd_lin (p := p) (c := c) (qs := qs) hp hx hy hi (rows.length - (i + 1))
  rwa [show i + 1 + (rows.length - (i + 1)) = rows.length by omega] at h
theorem wd_two {p : Int} {qs : List Int} {rows : List (List Int)} {i j : Nat} (hp : primeB p = true) (hd : qs.length ≤ 6) (hr : RowsL qs.length rows) (hij : i ≠ j) (hi : i < rows.length) (hj : j < rows.length) (he : nthR rows i = nthR rows j) : wdS p qs rows rows.length = nilL qs := by
  rcases Nat.lt_or_gt_of_ne hij with h | h
  · exact wd_rep2 hp hd hr h hj he
  · exact wd_rep2 hp hd hr h hi he.symm
/-- A multiple of another vector is added to one. -/
theorem wd_add {p c : Int} {qs : List Int} {rows : List (List Int)} {i j : Nat} (hp : primeB p = true) (hd : qs.length ≤ 6) (hr : RowsL qs.length rows) (hij : i ≠ j) (hi : i < rows.length) (hj : j < rows.length) :
    wdS p qs (rows.set i (plusL p (nthR rows i) (nthR rows j) c qs.length)) rows.length = wdS p qs rows rows.length := by
  have hpb := prime_bd hp
  rw [wd_lin' (by omega) (hr i hi) (hr j hj) hi, set_self]
  have h := wd_two (rows := rows.set i (nthR rows j)) (i := i) (j := j) hp hd (hr.set (hr j hj)) hij (by simpa using hi) (by simpa using hj) (by rw [nthR_set hi, nthR_set hi, if_pos rfl, if_neg hij])
  rw [List.length_set] at h
  rw [h, plus_nil (wd_good (by omega) _)]
theorem wd_scale {p c : Int} {qs : List Int} {rows : List (List Int)} {i : Nat} (hp : 3 ≤ p) (hr : RowsL qs.length rows) (hi : i < rows.length) :
    wdS p qs (rows.set i (scaleL p (nthR rows i) c qs.length)) rows.length = scaleL p (wdS p qs rows rows.length) c (2 ^ qs.length) := by
  have hz : ∀ (n : Nat) (x : List Int), plusL p (List.replicate n 0) x c n = scaleL p x c n := fun n x => by
    refine ext_nth (by rw [plusL_len, scaleL_len]) fun t ht => ?_
    rw [plusL_len] at ht
    rw [plusL_nth ht, scaleL_nth ht, plusN, scaleN, nth_replicate ht, Int.zero_add, Int.mul_comm]
  have hw : wdS p qs (rows.set i (List.replicate qs.length 0)) rows.length = nilL qs := by
    have hv : vecL (2 ^ qs.length) (List.replicate qs.length 0) = nilL qs := by
      have hg : Good p (2 ^ qs.length) (vecL (2 ^ qs.length) (List.replicate qs.length 0)) := vec_good (by omega) (good_zero (by omega))
      refine ext_nth (by rw [hg.1, nil_len]) fun m hm => ?_
      rw [hg.1] at hm
      rw [nil_nth hm]
      by_cases hb : ∃ s, s < qs.length ∧ m = 2 ^ s
      · obtain ⟨s, hs, rfl⟩ := hb
        rw [vec_bit (by simp) hs, nth_replicate hs]
      · exact vec_no (by simp) hm (fun s hs h => hb ⟨s, hs, h⟩)
    have h1 : wdS p qs (rows.set i (List.replicate qs.length 0)) (i + 1) = nilL qs := by
      rw [wd_succ, nthR_set hi, if_pos rfl, hv, prod_nil_right (by omega)]
    have := wd_up (by omega) h1 (rows.length - (i + 1))
    rwa [show i + 1 + (rows.length - (i + 1)) = rows.length by omega] at this
  rw [← hz, wd_lin' (by omega) (by simp) (hr i hi) hi, set_self, hw]
  exact hz _ _
/-- Two vectors are exchanged. -/
theorem wd_swap {p : Int} {qs : List Int} {rows : List (List Int)} {i j : Nat} (hp : primeB p = true) (hd : qs.length ≤ 6) (hr : RowsL qs.length rows) (hij : i ≠ j) (hi : i < rows.length) (hj : j < rows.length) :
    plusL p (wdS p qs (swapL rows i j) rows.length) (wdS p qs rows rows.length) 1 (2 ^ qs.length) = nilL qs := by
  have hpb := prime_bd hp
  obtain ⟨a, ha⟩ : ∃ a, a = nthR rows i := ⟨_, rfl⟩
  obtain ⟨b, hb⟩ : ∃ b, b = nthR rows j := ⟨_, rfl⟩
  have hal : a.length = qs.length := by rw [ha]; exact hr i hi
  have hbl : b.length = qs.length := by rw [hb]; exact hr j hj
  have hsl := plusL_len p a b 1 qs.length
  have hl : ∀ x y : List Int, x.length = qs.length → y.length = qs.length → RowsL qs.length ((rows.set i x).set j y) := fun x y hx hy => (hr.set hx).set hy
  have same : ∀ x : List Int, x.length = qs.length → wdS p qs ((rows.set i x).set j x) rows.length = nilL qs := fun x hx => by
    have h := wd_two (rows := (rows.set i x).set j x) (i := i) (j := j) hp hd (hl x x hx hx) hij (by rw [List.length_set, List.length_set]; exact hi) (by rw [List.length_set, List.length_set]; exact hj) (by
      have e1 : nthR ((rows.set i x).set j x) j = x := by rw [nthR_set (by simpa using hj), if_pos rfl]
      have e2 : nthR ((rows.set i x).set j x) i = x := by rw [nthR_set (by simpa using hj), if_neg (Ne.symm hij), nthR_set hi, if_pos rfl]
      rw [e1, e2])
    simpa using h
  have linj : ∀ x y z : List Int, y.length = qs.length → z.length = qs.length → wdS p qs ((rows.set i x).set j (plusL p y z 1 qs.length)) rows.length = plusL p (wdS p qs ((rows.set i x).set j y) rows.length) (wdS p qs ((rows.set i x).set j z) rows.length) 1 (2 ^ qs.length) := fun x y z hy hz => by
    have h := wd_lin' (p := p) (c := 1) (qs := qs) (rows := rows.set i x) (i := j) (by omega) hy hz (by simpa using hj)
    simpa using h
  have lini : ∀ x y z : List Int, y.length = qs.length → z.length = qs.length → wdS p qs ((rows.set i (plusL p y z 1 qs.length)).set j x) rows.length = plusL p (wdS p qs ((rows.set i y).set j x) rows.length) (wdS p qs ((rows.set i z).set j x) rows.length) 1 (2 ^ qs.length) := fun x y z hy hz => by
    have h := wd_lin' (p := p) (c := 1) (qs := qs) (rows := rows.set j x) (i := i) (by omega) hy hz (by simpa using hi)
    rw [List.set_comm _ _ hij, List.set_comm _ _ hij, List.set_comm _ _ hij]
    simpa using h
  have h1 := same (plusL p a b 1 qs.length) hsl
  rw [linj _ _ _ hal hbl, lini _ _ _ hal hbl, lini _ _ _ hal hbl, same a hal, same b hbl, nil_plus (wd_good (by omega) _), plus_nil (wd_good (by omega) _)] at h1
  have e1 : (rows.set i b).set j a = swapL rows i j := by rw [swapL, ha, hb]
  have e2 : (rows.set i a).set j b = rows := by rw [ha, set_self, hb, set_self]
  rw [e1, e2] at h1
  exact h1

/-! ### A coefficient of a product of vectors in a row -/
def maskC (c : Nat → Nat) : Nat → Nat
  | 0 => 0
  | k + 1 => maskC c k ^^^ 2 ^ c k
def diagC (c : Nat → Nat) (rows : List (List Int)) : Nat → Int
  | 0 => 1
  | k + 1 => diagC c rows k * nth (nthR rows k) (c k)
theorem maskC_lt {c : Nat → Nat} {m : Nat} : ∀ k, (∀ i, i < k → c i < m) → maskC c k < 2 ^ m
  | 0, _ => pow_pos' m
  | k + 1, h => Nat.xor_lt_two_pow (maskC_lt k fun i hi => h i (by omega)) (Nat.pow_lt_pow_right (by omega) (h k (by omega)))
theorem maskC_bit {c : Nat → Nat} {s : Nat} : ∀ k, (maskC c k).testBit s = true → ∃ i, i < k ∧ c i = s
  | 0, h => by simp [maskC] at h
  | k + 1, h => by
    rw [maskC, Nat.testBit_xor, Nat.testBit_two_pow] at h
    by_cases hs : c k = s
    · exact ⟨k, by omega, hs⟩
    · simp only [hs, decide_false, Bool.bne_false] at h
      obtain ⟨i, hi, he⟩ := maskC_bit k h
      exact ⟨i, by omega, he⟩
theorem facZ_hi {qs : List Int} {a s : Nat} (h : a < 2 ^ s) : ∀ n, facZ qs a (2 ^ s) n = 1
  | 0 => rfl
  | n + 1 => by
    rw [facZ, facZ_hi h n, stZ, Nat.testBit_two_pow]
    by_cases hn : s = n
    · subst hn
      have h1 : a.testBit s = false := Nat.testBit_lt_two_pow h
      have h2 : a >>> (s + 1) = 0 := by
        rw [Nat.shiftRight_eq_div_pow]
        exact Nat.div_eq_of_lt (Nat.lt_trans h (Nat.pow_lt_pow_right (by omega) (by omega)))
      rw [h1, sgZ, h2]
      simp [popc, popF]
    · simp [hn]
theorem wd_coef {p : Int} {qs : List Int} {rows : List (List Int)} {c : Nat → Nat} (hp : 3 ≤ p) (hd : qs.length ≤ 6) : ∀ k, k ≤ rows.length → RowsL qs.length rows → (∀ i, i < k → c i < qs.length) → (∀ i j, i < j → j < k → c i < c j) →
    (∀ i, i < k → ∀ j, j < i → nth (nthR rows i) (c j) = 0) → nth (wdS p qs rows k) (maskC c k) = diagC c rows k % p
  | 0, _, _, _, _, _ => by
    have h0 := pow_pos' qs.length
    show nth (bladeL (2 ^ qs.length) 0) 0 = 1 % p
    rw [bladeL_nth h0 h0, if_pos rfl, Int.emod_eq_of_lt (by omega) (by omega)]
  | k + 1, hk, hr, hc, hm, hz => by
    have ih := wd_coef (p := p) (qs := qs) hp hd k (by omega) hr (fun i hi => hc i (by omega)) (fun i j hij hj => hm i j hij (by omega)) (fun i hi j hj => hz i (by omega) j hj)
    have hlt : maskC c k < 2 ^ c k := maskC_lt k fun i hi => hm i k hi (by omega)
    have hM : maskC c (k + 1) < 2 ^ qs.length := maskC_lt (k + 1) hc
    have hck := hc k (by omega)
    have hpk : 2 ^ c k < 2 ^ qs.length := Nat.pow_lt_pow_right (by omega) hck
    have hrl := hr k (by omega)
    rw [wd_succ, prodT_nth (by omega) hM, ← sumN_xor hd hM]
    rw [sumN_single hpk (fun m hm' hne => ?_)]
    · have e1 : maskC c (k + 1) ^^^ 2 ^ c k = maskC c k := by rw [maskC, Nat.xor_assoc, Nat.xor_self, Nat.xor_zero]
      have e2 : maskC c k ^^^ maskC c (k + 1) = 2 ^ c k := by rw [maskC, ← Nat.xor_assoc, Nat.xor_self, Nat.zero_xor]
      have e3 : tkI tkW (maskC c k) (2 ^ c k) = 1 := by
        unfold tkI
        rw [if_pos]
        rw [tkW_iff]
        intro i
        rw [Nat.testBit_two_pow]
        by_cases hi : c k = i
        · subst hi; rw [Nat.testBit_lt_two_pow hlt]; rfl
        · simp [hi]
      rw [e1, e2, e3, facZ_hi hlt, vec_bit hrl hck, ih, Int.one_mul, Int.mul_one, diagC]
      exact mul_emod_congr (Int.emod_emod _ _) rfl
    · have e2 : maskC c (k + 1) ^^^ m ^^^ maskC c (k + 1) = m := by rw [Nat.xor_comm (maskC c (k + 1)) m, Nat.xor_assoc, Nat.xor_self, Nat.xor_zero]
      rw [e2]
      by_cases hb : ∃ s, s < qs.length ∧ m = 2 ^ s
      · obtain ⟨s, hs, rfl⟩ := hb
        by_cases hbit : (maskC c (k + 1)).testBit s = true
        · obtain ⟨i, hi, he⟩ := maskC_bit (k + 1) hbit
          have hik : i < k := by
            rcases Nat.lt_or_eq_of_le (Nat.le_of_lt_succ hi) with h | h
            · exact h
            · subst h; exact absurd (by rw [he]) hne
          rw [vec_bit hrl hs, ← he, hz k (by omega) i hik]
          simp
        · have : tkI tkW (maskC c (k + 1) ^^^ 2 ^ s) (2 ^ s) = 0 := by
            unfold tkI
            rw [if_neg]
            intro h
            have := (tkW_iff.1 h) s
            rw [Nat.testBit_xor, Nat.testBit_two_pow] at this
            simp [hbit] at this
          rw [this, Int.zero_mul]
      · rw [vec_no hrl hm' (fun s hs h => hb ⟨s, hs, h⟩)]; simp

/-! ### Dependent vectors -/
theorem scale_nil {p u : Int} {qs x : List Int} (hp : primeB p = true) (hx : Good p (2 ^ qs.length) x) (hu0 : 0 < u) (hu : u < p) : scaleL p x u (2 ^ qs.length) = nilL qs ↔ x = nilL qs := by
  constructor
  · intro h
    refine ext_nth (by rw [hx.1, nil_len]) fun k hk => ?_
    rw [hx.1] at hk
    have h2 := congrArg (fun l => nth l k) h
    rw [scaleL_nth hk, scaleN, nil_nth hk] at h2
    rw [nil_nth hk]
    rcases (mul_zero_of hp (hx.2 k hk).1 (hx.2 k hk).2 (by omega) hu).1 h2 with h | h
    · exact h
    · omega
  · rintro rfl
    refine ext_nth (by rw [scaleL_len, nil_len]) fun k hk => ?_
    rw [scaleL_len] at hk
    rw [scaleL_nth hk, scaleN, nil_nth hk, Int.zero_mul]; rfl
theorem plus_nil_iff {p : Int} {qs x y : List Int} (hx : Good p (2 ^ qs.length) x) (hy : Good p (2 ^ qs.length) y) (h : plusL p x y 1 (2 ^ qs.length) = nilL qs) : x = nilL qs ↔ y = nilL qs := by
  constructor
  · rintro rfl; rwa [nil_plus hy] at h
  · rintro rfl; rwa [plus_nil hx] at h
theorem swap_self {rows : List (List Int)} {i : Nat} : swapL rows i i = rows := by rw [swapL, set_self, set_self]
theorem wd_swap_nil {p : Int} {qs : List Int} {rows : List (List Int)} {i j : Nat} (hp : primeB p = true) (hd : qs.length ≤ 6) (hr : RowsL qs.length rows) (hi : i < rows.length) (hj : j < rows.length) :
    wdS p qs (swapL rows i j) rows.length = nilL qs ↔ wdS p qs rows rows.length = nilL qs := by
  have hpb := prime_bd hp
  by_cases hij : i = j
  · subst hij; rw [swap_self]
  · exact plus_nil_iff (wd_good (by omega) _) (wd_good (by omega) _) (wd_swap hp hd hr hij hi hj)
theorem wd_clr {p : Int} {qs : List Int} {rows : List (List Int)} {k d : Nat} (hp : primeB p = true) (hd : qs.length ≤ 6) (hr : RowsG p qs.length rows) (hdl : d < rows.length) : ∀ r, r ≤ rows.length → wdS p qs (clrS p k qs.length d rows r) rows.length = wdS p qs rows rows.length
  | 0, _ => rfl
  | r + 1, h => by
    have hpb := prime_bd hp
    have ih := wd_clr (k := k) hp hd hr hdl r (by omega)
    by_cases hrd : r = d
    · rw [clrS_self hrd]; exact ih
    · have hl := clrS_len (p := p) (k := k) (m := qs.length) (d := d) (rows := rows) r
      have := wd_add (c := -(nth (nthR (clrS p k qs.length d rows r) r) k)) hp hd (clrS_good (k := k) (d := d) (by omega) hr r).len hrd (by omega) (by omega)
      rw [hl] at this
      rw [clrS_ne hrd, this]; exact ih
theorem wd_gauss {p : Int} {qs : List Int} {rows : List (List Int)} (hp : primeB p = true) (hd : qs.length ≤ 6) (hr : RowsG p qs.length rows) : ∀ k, k ≤ qs.length → (wdS p qs (gaussS p qs.length rows k).1 rows.length = nilL qs ↔ wdS p qs rows rows.length = nilL qs)
  | 0, _ => Iff.rfl
  | k + 1, hk => by
    have hpb := prime_bd hp
    refine Iff.trans ?_ (wd_gauss hp hd hr k (by omega))
    obtain ⟨hgg, c, hred⟩ := gaussS_red hp hr k (by omega)
    have hgl := gaussS_len (p := p) (m := qs.length) (rows := rows) k
    rw [gaussS]
    obtain ⟨s, hs⟩ : ∃ s, s = gaussS p qs.length rows k := ⟨_, rfl⟩
    rw [← hs] at hgg hred hgl ⊢
    obtain ⟨h1, h2, h3, h4⟩ := pivG_spec s.1 k s.2 hred.dle
    by_cases hno : pivG s.1 k s.2 = s.1.length
    · rw [stepG_no hno]
    · have hil : pivG s.1 k s.2 < s.1.length := by omega
      have hne : nth (nthR s.1 (pivG s.1 k s.2)) k ≠ 0 := by
        rcases h4 with h4 | h4
        · exact absurd h4 hno
        · exact h4
      rw [stepG_yes rfl hil]
      simp only
      have hds : s.2 < s.1.length := by omega
      have hug : RowsG p qs.length (upG p qs.length s.1 s.2 k (pivG s.1 k s.2)) := upG_good (by omega) hgg hds hil
      have hul : (upG p qs.length s.1 s.2 k (pivG s.1 k s.2)).length = s.1.length := upG_len
      have hcl := wd_clr (k := k) (d := s.2) hp hd hug (by omega) s.1.length (by omega)
      rw [hul, hgl] at hcl
      rw [hgl, hcl]
      have hb := (hgg _ hil).2 k (by omega)
      have hiv := inv_spec hp (by omega) hb.2
      have hib := invN_bd (p := p) (a := nth (nthR s.1 (pivG s.1 k s.2)) k) (by omega)
      unfold upG
      have hsl := swapL_len (rows := s.1) (i := s.2) (j := pivG s.1 k s.2)
      have hsg : RowsG p qs.length (swapL s.1 s.2 (pivG s.1 k s.2)) := swapL_good hgg hds hil
      have hsd : nthR (swapL s.1 s.2 (pivG s.1 k s.2)) s.2 = nthR s.1 (pivG s.1 k s.2) := by
        rw [swapL_nth hds hil]
        by_cases he : s.2 = pivG s.1 k s.2
        · rw [if_pos he, ← he]
        · rw [if_neg he, if_pos rfl]
      rw [← hsd]
      have hsc := wd_scale (p := p) (qs := qs) (c := invN p (nth (nthR (swapL s.1 s.2 (pivG s.1 k s.2)) s.2) k)) (rows := swapL s.1 s.2 (pivG s.1 k s.2)) (i := s.2) (by omega) hsg.len (by omega)
      rw [hsl, hgl] at hsc
      rw [hsc]
      rw [hsd]
      refine (scale_nil hp (wd_good (by omega) _) (by omega) hib.2).trans ?_
      have := wd_swap_nil (i := s.2) (j := pivG s.1 k s.2) hp hd hgg.len hds hil
      rwa [hgl] at this
/-- The product of vectors is 0 exactly if they are dependent. -/
theorem wd_rank {p : Int} {qs : List Int} {rows : List (List Int)} (hp : primeB p = true) (hd : qs.length ≤ 6) (hr : RowsG p qs.length rows) : wdS p qs rows rows.length = nilL qs ↔ rankL p qs.length rows < rows.length := by
  have hpb := prime_bd hp
  rw [← wd_gauss hp hd hr qs.length (Nat.le_refl _)]
  obtain ⟨hgg, c, hred⟩ := gaussS_red hp hr qs.length (Nat.le_refl _)
  have hgl := gaussS_len (p := p) (m := qs.length) (rows := rows) qs.length
  unfold rankL
  obtain ⟨s, hs⟩ : ∃ s, s = gaussS p qs.length rows qs.length := ⟨_, rfl⟩
  rw [← hs] at hgg hred hgl ⊢
  constructor
  · intro hz
    refine Decidable.byContradiction fun hlt => ?_
    have hdle := hred.dle
    have he : s.2 = rows.length := by omega
    have hdg : ∀ k, k ≤ s.2 → diagC c s.1 k = 1 := fun k => by
      induction k with
      | zero => intro _; rfl
      | succ k ih => intro hk; rw [diagC, ih (by omega), hred.one k (by omega) k (by omega), if_pos rfl]; rfl
    have h := wd_coef (p := p) (qs := qs) (rows := s.1) (c := c) (by omega) hd rows.length (by omega) hgg.len (fun i hi => hred.clt i (by omega)) (fun i j hij hj => hred.mono i j hij (by omega)) (fun i hi j hj => by rw [hred.one j (by omega) i (by omega), if_neg (by omega)])
    rw [hz, hdg _ (by omega), nil_nth (maskC_lt _ fun i hi => hred.clt i (by omega)), Int.emod_eq_of_lt (by omega) (by omega)] at h
    cases h
  · intro hlt
    have hzero : vecL (2 ^ qs.length) (nthR s.1 s.2) = nilL qs := by
      have hg : Good p (2 ^ qs.length) (vecL (2 ^ qs.length) (nthR s.1 s.2)) := vec_good (by omega) (hgg s.2 (by omega))
      refine ext_nth (by rw [hg.1, nil_len]) fun m hm => ?_
      rw [hg.1] at hm
      rw [nil_nth hm]
      have hl := hgg.len s.2 (by omega)
      by_cases hb : ∃ t, t < qs.length ∧ m = 2 ^ t
      · obtain ⟨t, ht, rfl⟩ := hb
        rw [vec_bit hl ht, hred.rest s.2 (Nat.le_refl _) (by omega) t ht]
      · exact vec_no hl hm (fun t ht h => hb ⟨t, ht, h⟩)
    have h1 : wdS p qs s.1 (s.2 + 1) = nilL qs := by rw [wd_succ, hzero, prod_nil_right (by omega)]
    have := wd_up (by omega) h1 (rows.length - (s.2 + 1))
    rwa [show s.2 + 1 + (rows.length - (s.2 + 1)) = rows.length by omega] at this
end Go.Proofs.Ytcocbainookkcaa

/-
  Shifts of point vectors by versors, in plain numbers.
  No condition. No program in sight.
-/
namespace Go.Proofs.Ytcocbainookkcaa
set_option maxRecDepth 100000
open Go.RowKit

theorem half_spec {p : Int} (hp : primeB p = true) : ∃ s, 2 * invN p 2 = 1 + p * s := by
  have hb := prime_bd hp
  have inv : 2 * invN p 2 % p = 1 := (inv_spec hp (by omega) (by omega)).2.1
  obtain ⟨s, hs⟩ : ∃ s, 2 * invN p 2 - 1 = p * s := Int.dvd_of_emod_eq_zero (by rw [Int.sub_emod, inv, Int.emod_eq_of_lt (show (0 : Int) ≤ 1 by omega) (by omega), Int.sub_self, Int.zero_emod])
  exact ⟨s, by omega⟩
theorem emod_add {p a b : Int} (h : ∃ s, a = b + p * s) : a % p = b % p := by
  obtain ⟨s, rfl⟩ := h; rw [Int.add_mul_emod_self_left]
theorem emod_ex (p a : Int) : ∃ s, a % p = a + p * s := ⟨-(a / p), by have := Int.emod_add_mul_ediv a p; rw [Int.mul_neg]; omega⟩

/-- A vector at the foot of the extension. -/
def upL (x : List Int) : List Int := x ++ [0, 0]
theorem upL_len (x : List Int) : (upL x).length = x.length + 2 := by simp [upL]
theorem inf_nth {d i : Nat} : nth (infL d) i = if i < d then 0 else if i = d then 1 else if i = d + 1 then 1 else 0 := by
  unfold infL
  rw [app2_nth (n := d) (by simp)]
  by_cases h : i < d
  · rw [if_pos h, if_pos h, nth_replicate h]
  · rw [if_neg h, if_neg h]
theorem ext_sq {p : Int} {qs : List Int} {i : Nat} : nth (extL p qs) i = if i < qs.length then nth qs i else if i = qs.length then 1 else if i = qs.length + 1 then p - 1 else 0 := by
  unfold extL; exact app2_nth rfl
theorem up_nth {x : List Int} {i : Nat} : nth (upL x) i = if i < x.length then nth x i else 0 := by
  unfold upL; rw [app2_nth rfl]
  split
  · rfl
  · split
    · rfl
    · split <;> rfl
/-- A product of vectors of the extension. -/
theorem pairZ_ext {p : Int} {qs x y : List Int} : pairZ (extL p qs) x y = sumN qs.length (fun i => nth x i * nth y i * nth qs i) + nth x qs.length * nth y qs.length + nth x (qs.length + 1) * nth y (qs.length + 1) * (p - 1) := by
  unfold pairZ
  rw [extL_len]
  show sumN qs.length _ + nth x qs.length * nth y qs.length * nth (extL p qs) qs.length + nth x (qs.length + 1) * nth y (qs.length + 1) * nth (extL p qs) (qs.length + 1) = _
  rw [ext_sq (i := qs.length), ext_sq (i := qs.length + 1), if_neg (by omega), if_pos rfl, if_neg (by omega), if_neg (by omega), if_pos rfl, Int.mul_one]
  congr 2
  exact sumN_congr fun i hi => by rw [ext_sq, if_pos hi]
theorem quad_pairZ (qs x y : List Int) : pairZ qs x y = quadS qs.length qs x y := by
  unfold pairZ quadS
  exact sumN_congr fun i _ => by rw [Int.mul_right_comm]
/-- The factor of infinity in a point vector. -/
def ptQ (p : Int) (qs v : List Int) : Int := pairL p qs v v qs.length * invN p 2 % p
theorem point_nth {p : Int} {qs v : List Int} {i : Nat} (hv : v.length = qs.length) (hi : i < qs.length + 2) : ∃ s, nth (pointL p qs v) i = (if i < qs.length then nth v i else if i = qs.length then ptQ p qs v - invN p 2 else ptQ p qs v + invN p 2) + p * s := by
  unfold pointL
  rw [plusL_nth hi, plusN, app2_nth hv, inf_nth]
  obtain ⟨s, hs⟩ := emod_ex p (-1 * invN p 2)
  obtain ⟨t, ht⟩ := emod_ex p (1 * invN p 2)
  have e0 : pairL p qs v v qs.length * invN p 2 % p = ptQ p qs v := rfl
  rw [hs, ht, e0]
  by_cases h1 : i < qs.length
  · simp only [if_pos h1, Int.mul_zero, Int.add_zero]
    exact emod_ex p _
  · simp only [if_neg h1]
    by_cases h2 : i = qs.length
    · simp only [if_pos h2, Int.mul_one]
      obtain ⟨u, hu⟩ := emod_ex p (-1 * invN p 2 + p * s + ptQ p qs v)
      exact ⟨s + u, by rw [hu, Int.mul_add]; omega⟩
    · have h3 : i = qs.length + 1 := by omega
      simp only [if_neg h2, if_pos h3, Int.mul_one]
      obtain ⟨u, hu⟩ := emod_ex p (1 * invN p 2 + p * t + ptQ p qs v)
      exact ⟨t + u, by rw [hu, Int.mul_add]; omega⟩
theorem point_len (p : Int) (qs v : List Int) : (pointL p qs v).length = qs.length + 2 := by unfold pointL; exact plusL_len ..
/-- What point vectors and infinity have as products. -/
theorem inf_inf (p : Int) (qs : List Int) : pairZ (extL p qs) (infL qs.length) (infL qs.length) = p := by
  rw [pairZ_ext, sumN_zero fun i hi => by rw [inf_nth, if_pos hi]; simp, inf_nth, inf_nth, if_neg (by omega), if_pos rfl, if_neg (by omega), if_neg (by omega), if_pos rfl]
  omega
theorem up_inf {p : Int} {qs x : List Int} (hx : x.length = qs.length) : pairZ (extL p qs) (upL x) (infL qs.length) = 0 := by
  rw [pairZ_ext, sumN_zero fun i hi => by rw [inf_nth, if_pos hi]; simp, up_nth, up_nth, hx, if_neg (by omega), if_neg (by omega)]
  simp
theorem up_up {p : Int} {qs x : List Int} (hx : x.length = qs.length) : pairZ (extL p qs) (upL x) (upL x) = quadS qs.length qs x x := by
  rw [pairZ_ext, up_nth, up_nth, hx, if_neg (by omega), if_neg (by omega)]
  simp only [Int.mul_zero, Int.zero_mul, Int.add_zero]
  unfold quadS
  exact sumN_congr fun i hi => by rw [up_nth, hx, if_pos hi, Int.mul_right_comm]
theorem up_point {p : Int} {qs x v : List Int} (hx : x.length = qs.length) (hv : v.length = qs.length) : ∃ s, pairZ (extL p qs) (upL x) (pointL p qs v) = quadS qs.length qs x v + p * s := by
  rw [pairZ_ext, up_nth, up_nth, hx, if_neg (by omega), if_neg (by omega)]
  simp only [Int.zero_mul, Int.add_zero]
  have : ∀ n, n ≤ qs.length → ∃ s, sumN n (fun i => nth (upL x) i * nth (pointL p qs v) i * nth qs i) = quadS n qs x v + p * s := fun n => by
    induction n with
    | zero => intro _; exact ⟨0, by simp [sumN, quadS]⟩
    | succ n ih =>
      intro hn
      obtain ⟨s, hs⟩ := ih (by omega)
      obtain ⟨t, ht⟩ := point_nth (p := p) (qs := qs) (v := v) (i := n) hv (by omega)
      rw [if_pos (by omega)] at ht
      refine ⟨s + nth x n * t * nth qs n, ?_⟩
      unfold quadS at hs ⊢
      simp only [sumN]
      rw [hs, ht, up_nth, hx, if_pos (by omega)]
      grind
  exact this qs.length (Nat.le_refl _)
theorem inf_point {p : Int} {qs v : List Int} (hp : primeB p = true) (hv : v.length = qs.length) : ∃ s, pairZ (extL p qs) (infL qs.length) (pointL p qs v) = -1 + p * s := by
  rw [pairZ_ext, sumN_zero fun i hi => by rw [inf_nth, if_pos hi]; simp, inf_nth, inf_nth, if_neg (by omega), if_pos rfl, if_neg (by omega), if_neg (by omega), if_pos rfl]
  obtain ⟨s, hs⟩ := point_nth (p := p) (qs := qs) (v := v) (i := qs.length) hv (by omega)
  obtain ⟨t, ht⟩ := point_nth (p := p) (qs := qs) (v := v) (i := qs.length + 1) hv (by omega)
  obtain ⟨u, hu⟩ := half_spec hp
  rw [if_neg (by omega), if_pos rfl] at hs
  rw [if_neg (by omega), if_neg (by omega)] at ht
  rw [hs, ht]
  exact ⟨s + (ptQ p qs v + invN p 2 + p * t) - t - u, by grind⟩
/-- The point vector of a shifted vector. -/
theorem point_shift {p : Int} {qs v x : List Int} (hp : primeB p = true) (hv : v.length = qs.length) (hx : x.length = qs.length) : pointL p qs (plusL p v x 1 qs.length) = linL p (qs.length + 2) [(1, pointL p qs v), (1, upL x), (quadS qs.length qs x v + invN p 2 * quadS qs.length qs x x, infL qs.length)] := by
  have hb := prime_bd hp
  have hg := pointL_good (p := p) (qs := qs) (v := plusL p v x 1 qs.length) (d := qs.length) (by omega) rfl
  have hl : (plusL p v x 1 qs.length).length = qs.length := plusL_len ..
  refine ext_nth (by rw [point_len, linL_len]) fun i hi => ?_
  rw [point_len] at hi
  rw [linL_nth hi]
  simp only [linS]
  obtain ⟨s, hs⟩ := point_nth (p := p) hl hi
  obtain ⟨t, ht⟩ := point_nth (p := p) hv hi
  rw [← Int.emod_eq_of_lt (hg.2 i hi).1 (hg.2 i hi).2, hs, ht, up_nth, inf_nth, hx]
  obtain ⟨u, hu⟩ := half_spec hp
  -- the factors of infinity
  have hq : ∃ z, ptQ p qs (plusL p v x 1 qs.length) = ptQ p qs v + quadS qs.length qs x v + invN p 2 * quadS qs.length qs x x + p * z := by
    have h1 : ∃ z, quadS qs.length qs (plusL p v x 1 qs.length) (plusL p v x 1 qs.length) = quadS qs.length qs v v + 2 * quadS qs.length qs x v + quadS qs.length qs x x + p * z := by
      have : ∀ n, n ≤ qs.length → ∃ z, quadS n qs (plusL p v x 1 qs.length) (plusL p v x 1 qs.length) = quadS n qs v v + 2 * quadS n qs x v + quadS n qs x x + p * z := fun n => by
        induction n with
        | zero => intro _; exact ⟨0, by simp [quadS, sumN]⟩
        | succ n ih =>
          intro hn
          obtain ⟨z, hz⟩ := ih (by omega)
          unfold quadS at hz ⊢
          simp only [sumN]
          rw [hz, plusL_nth (by omega), plusN]
          obtain ⟨y, hy⟩ := emod_ex p (nth v n + 1 * nth x n)
          rw [hy]
          exact ⟨z + (2 * (nth v n + nth x n) * y + p * y * y) * nth qs n, by grind⟩
      exact this qs.length (Nat.le_refl _)
    obtain ⟨z, hz⟩ := h1
    unfold ptQ
    rw [pair_quad, pair_quad, hz]
    obtain ⟨a, ha⟩ := emod_ex p (quadS qs.length qs v v + 2 * quadS qs.length qs x v + quadS qs.length qs x x + p * z)
    obtain ⟨b, hb⟩ := emod_ex p (quadS qs.length qs v v)
    rw [ha, hb]
    obtain ⟨c, hc⟩ := emod_ex p ((quadS qs.length qs v v + 2 * quadS qs.length qs x v + quadS qs.length qs x x + p * z + p * a) * invN p 2)
    obtain ⟨e, he⟩ := emod_ex p ((quadS qs.length qs v v + p * b) * invN p 2)
    rw [hc, he]
    exact ⟨c - e + (z + a - b) * invN p 2 + u * quadS qs.length qs x v, by grind⟩
  obtain ⟨z, hz⟩ := hq
  by_cases h1 : i < qs.length
  · simp only [if_pos h1]
    rw [plusL_nth h1, plusN]
    obtain ⟨y, hy⟩ := emod_ex p (nth v i + 1 * nth x i)
    rw [hy]
    exact emod_add ⟨y + s - t, by grind⟩
  · simp only [if_neg h1]
    by_cases h2 : i = qs.length
    · simp only [if_pos h2]
      rw [hz]
      exact emod_add ⟨z + s - t, by grind⟩
    · simp only [if_neg h2]
      rw [if_pos (show i = qs.length + 1 by omega), hz]
      exact emod_add ⟨z + s - t, by grind⟩
theorem vecL_len' (N : Nat) (v : List Int) : (vecL N v).length = N := by
  have : ∀ k, (vecS N v k).length = N := fun k => by
    induction k with
    | zero => simp [vecS]
    | succ k ih => simp [vecS, ih]
  exact this _
theorem vec_lin {p : Int} {d : Nat} : ∀ L : List (Int × List Int), (∀ q ∈ L, q.2.length = d) → vecL (2 ^ d) (linL p d L) = linL p (2 ^ d) (L.map fun q => (q.1, vecL (2 ^ d) q.2))
  | [], _ => by
    have e : ∀ n, linL p n [] = List.replicate n 0 := fun n => by
      refine ext_nth (by simp [linL]) fun i hi => ?_
      rw [linL_len] at hi
      rw [linL_nth hi, nth_replicate hi]; simp [linS]
    rw [List.map_nil, e, e]
    refine ext_nth (by simp [vecL_len']) fun i hi => ?_
    rw [vecL_len'] at hi
    rw [nth_replicate hi]
    by_cases h : ∃ j, j < d ∧ i = 2 ^ j
    · obtain ⟨j, hj, rfl⟩ := h
      rw [vec_bit (by simp) hj, nth_replicate hj]
    · exact vec_no (by simp) hi fun j hj e => h ⟨j, hj, e⟩
  | (k, x) :: L, h => by
    rw [lin_cons, vec_plus (linL_len ..) (h (k, x) (List.mem_cons_self ..)), vec_lin L fun q hq => h q (List.mem_cons_of_mem _ hq), List.map_cons, lin_cons]
/-- The reverse of a sum. -/
theorem sign_plus {p k : Int} {x y : List Int} {n : Nat} (hp : 1 ≤ p) : signL p revB (plusL p x y k n) n = plusL p (signL p revB x n) (signL p revB y n) k n := by
  refine ext_nth (by rw [signL_len, plusL_len]) fun i hi => ?_
  rw [signL_len] at hi
  have g : Good p n (signL p revB (plusL p x y k n) n) := sign_good hp (plus_good hp)
  rw [← Int.emod_eq_of_lt (g.2 i hi).1 (g.2 i hi).2, sign_emod hi, plusL_nth hi, plusN, plusL_nth hi, plusN, Int.add_emod (nth (signL p revB x n) i), Int.mul_emod k, sign_emod hi, sign_emod hi, ← Int.mul_emod k, ← Int.add_emod, Int.mul_emod, Int.emod_emod, ← Int.mul_emod]
  congr 1
  grind
theorem popc_bit (i : Nat) (hi : i < 6) : popc (2 ^ i) = 1 := by
  have : ∀ i : Nat, i < 6 → popc (2 ^ i) = 1 := by decide +kernel
  exact this i hi
theorem sign_vec {p : Int} {d : Nat} {x : List Int} (_hp : 1 ≤ p) (hd : d ≤ 6) (hx : x.length = d) : signL p revB (vecL (2 ^ d) x) (2 ^ d) = vecL (2 ^ d) x := by
  refine ext_nth (by rw [signL_len, vecL_len']) fun i hi => ?_
  rw [signL_len] at hi
  rw [signL_nth hi]
  unfold signN
  by_cases h : ∃ j, j < d ∧ i = 2 ^ j
  · obtain ⟨j, hj, rfl⟩ := h
    rw [popc_bit j (by omega), if_neg (by decide)]
  · rw [vec_no hx hi fun j hj e => h ⟨j, hj, e⟩]; simp
theorem sign_one {p : Int} {n : Nat} : signL p revB (bladeL n 0) n = bladeL n 0 := by
  refine ext_nth (by rw [signL_len, bladeL_len]) fun i hi => ?_
  rw [signL_len] at hi
  rw [signL_nth hi]
  unfold signN
  by_cases h0 : i = 0
  · subst h0; rw [if_neg (by decide)]
  · have h00 : nth (bladeL n 0) i = 0 := by rw [bladeL_nth (by omega) hi, if_neg (Ne.symm h0)]
    rw [h00]; simp

/-- The products of a shift versor and others, with letters. -/
theorem one_good {p : Int} (hp : 3 ≤ p) (n : Nat) : Good p (2 ^ n) (bladeL (2 ^ n) 0) := by
  have := pow_pos' n
  exact ⟨bladeL_len .., fun i hi => by rw [bladeL_nth this hi]; split <;> omega⟩
/-- T X T' for T = 1 - h A E, with what A, X and E have as products. -/
theorem shift_alg {p : Int} {Q A X E : List Int} {h s n : Int} (hp : 3 ≤ p) (hd : Q.length ≤ 6) (hA : Good p (2 ^ Q.length) A) (hX : Good p (2 ^ Q.length) X) (hE : Good p (2 ^ Q.length) E)
    (hh : ∃ u, 2 * h = 1 + p * u)
    (hEE : prodL p Q tkA E E = linL p (2 ^ Q.length) [])
    (hEA : prodL p Q tkA E A = linL p (2 ^ Q.length) [(-1, prodL p Q tkA A E)])
    (hEX : prodL p Q tkA E X = linL p (2 ^ Q.length) [(-2, bladeL (2 ^ Q.length) 0), (-1, prodL p Q tkA X E)])
    (hXA : prodL p Q tkA X A = linL p (2 ^ Q.length) [(2 * s, bladeL (2 ^ Q.length) 0), (-1, prodL p Q tkA A X)])
    (hAA : prodL p Q tkA A A = linL p (2 ^ Q.length) [(n, bladeL (2 ^ Q.length) 0)]) :
    prodL p Q tkA (prodL p Q tkA (linL p (2 ^ Q.length) [(1, bladeL (2 ^ Q.length) 0), (-h, prodL p Q tkA A E)]) X) (linL p (2 ^ Q.length) [(1, bladeL (2 ^ Q.length) 0), (h, prodL p Q tkA A E)]) = linL p (2 ^ Q.length) [(1, X), (1, A), (s + h * n, E)] := by
  have hp1 : 1 ≤ p := by omega
  have gT : ∀ {x y}, Good p (2 ^ Q.length) (prodL p Q tkA x y) := prod_good hp1
  have one1 : ∀ {x}, Good p (2 ^ Q.length) x → prodL p Q tkA (bladeL (2 ^ Q.length) 0) x = x := fun hx => one_times hp hx
  have one2 : ∀ {x}, Good p (2 ^ Q.length) x → prodL p Q tkA x (bladeL (2 ^ Q.length) 0) = x := fun hx => times_one hp1 hx
  -- A E X
  have W1 : prodL p Q tkA (prodL p Q tkA A E) X = linL p (2 ^ Q.length) [(-2, A), (-1, prodL p Q tkA A (prodL p Q tkA X E))] := by
    rw [prod_assoc hp1 hd, hEX, prod_lin_right hp1]
    simp only [List.map_cons, List.map_nil]
    rw [one2 hA]
  have W2 : prodL p Q tkA X (prodL p Q tkA A E) = linL p (2 ^ Q.length) [(2 * s, E), (-1, prodL p Q tkA A (prodL p Q tkA X E))] := by
    rw [← prod_assoc hp1 hd, hXA, prod_lin_left hp1]
    simp only [List.map_cons, List.map_nil]
    rw [one1 hE, prod_assoc hp1 hd]
  have W3 : prodL p Q tkA A (prodL p Q tkA A E) = linL p (2 ^ Q.length) [(n, E)] := by
    rw [← prod_assoc hp1 hd, hAA, prod_lin_left hp1]
    simp only [List.map_cons, List.map_nil]
    rw [one1 hE]
  have W4 : prodL p Q tkA E (prodL p Q tkA A E) = linL p (2 ^ Q.length) [] := by
    rw [← prod_assoc hp1 hd, hEA, prod_lin_left hp1]
    simp only [List.map_cons, List.map_nil]
    rw [prod_assoc hp1 hd, hEE, lin_nil_right hp1]
    exact lin_congr fun i hi => by simp only [linS]; rw [linL_nth hi]; simp [linS]
  have W5 : prodL p Q tkA (prodL p Q tkA A (prodL p Q tkA X E)) (prodL p Q tkA A E) = linL p (2 ^ Q.length) [] := by
    rw [prod_assoc hp1 hd, prod_assoc hp1 hd, W4, lin_nil_right hp1, lin_nil_right hp1]
  -- T X
  have T1 : prodL p Q tkA (linL p (2 ^ Q.length) [(1, bladeL (2 ^ Q.length) 0), (-h, prodL p Q tkA A E)]) X = linL p (2 ^ Q.length) [(1, X), (2 * h, A), (h, prodL p Q tkA A (prodL p Q tkA X E))] := by
    rw [prod_lin_left hp1]
    simp only [List.map_cons, List.map_nil]
    rw [one1 hX, W1]
    refine lin_congr fun i hi => ?_
    simp only [linS]
    rw [linL_nth hi]
    simp only [linS]
    obtain ⟨z, hz⟩ := emod_ex p (-2 * nth A i + (-1 * nth (prodL p Q tkA A (prodL p Q tkA X E)) i + 0))
    rw [hz]
    exact emod_add ⟨-h * z, by grind⟩
  rw [T1, prod_lin_right hp1]
  simp only [List.map_cons, List.map_nil]
  rw [times_one hp1 (lin_good hp1), prod_lin_left hp1]
  simp only [List.map_cons, List.map_nil]
  rw [W2, W3, W5]
  refine lin_congr fun i hi => ?_
  simp only [linS]
  rw [linL_nth hi, linL_nth hi]
  simp only [linS]
  rw [linL_nth hi, linL_nth hi, linL_nth hi]
  simp only [linS]
  obtain ⟨u, hu⟩ := hh
  generalize nth (prodL p Q tkA A (prodL p Q tkA X E)) i = y
  generalize nth A i = a
  generalize nth X i = x
  generalize nth E i = e
  obtain ⟨z1, h1⟩ := emod_ex p (1 * x + (2 * h * a + (h * y + 0)))
  obtain ⟨z2, h2⟩ := emod_ex p (2 * s * e + (-1 * y + 0))
  obtain ⟨z3, h3⟩ := emod_ex p (n * e + 0)
  have h0 : (0 : Int) % p = 0 := Int.zero_emod _
  rw [h1, h2, h3, h0]
  obtain ⟨z4, h4⟩ := emod_ex p (1 * (2 * s * e + (-1 * y + 0) + p * z2) + (2 * h * (n * e + 0 + p * z3) + (h * 0 + 0)))
  rw [h4]
  exact emod_add ⟨z1 + u * a + h * z2 + u * s * e + h * u * n * e + 2 * h * h * z3 + h * z4, by grind⟩
/-- T U for T = 1 - h A E, U = 1 - h B E. -/
theorem shift_two {p : Int} {Q A B E : List Int} {h : Int} (hp : 3 ≤ p) (hd : Q.length ≤ 6)
    (hEE : prodL p Q tkA E E = linL p (2 ^ Q.length) [])
    (hEB : prodL p Q tkA E B = linL p (2 ^ Q.length) [(-1, prodL p Q tkA B E)]) :
    prodL p Q tkA (linL p (2 ^ Q.length) [(1, bladeL (2 ^ Q.length) 0), (-h, prodL p Q tkA A E)]) (linL p (2 ^ Q.length) [(1, bladeL (2 ^ Q.length) 0), (-h, prodL p Q tkA B E)]) = linL p (2 ^ Q.length) [(1, bladeL (2 ^ Q.length) 0), (-h, prodL p Q tkA A E), (-h, prodL p Q tkA B E)] := by
  have hp1 : 1 ≤ p := by omega
  have W4 : prodL p Q tkA E (prodL p Q tkA B E) = linL p (2 ^ Q.length) [] := by
    rw [← prod_assoc hp1 hd, hEB, prod_lin_left hp1]
    simp only [List.map_cons, List.map_nil]
    rw [prod_assoc hp1 hd, hEE, lin_nil_right hp1]
    exact lin_congr fun i hi => by simp only [linS]; rw [linL_nth hi]; simp [linS]
  rw [prod_lin_right hp1]
  simp only [List.map_cons, List.map_nil]
  rw [times_one hp1 (lin_good hp1), prod_lin_left hp1]
  simp only [List.map_cons, List.map_nil]
  rw [one_times hp (prod_good hp1), prod_assoc hp1 hd, W4, lin_nil_right hp1]
  refine lin_congr fun i hi => ?_
  simp only [linS]
  rw [linL_nth hi, linL_nth hi]
  simp only [linS]
  rw [linL_nth hi]
  simp only [linS]
  generalize nth (prodL p Q tkA A E) i = a
  generalize nth (prodL p Q tkA B E) i = b
  generalize nth (bladeL (2 ^ Q.length) 0) i = o
  obtain ⟨z1, h1⟩ := emod_ex p (1 * o + (-h * a + 0))
  have h0 : (0 : Int) % p = 0 := Int.zero_emod _
  rw [h1, h0]
  obtain ⟨z4, h4⟩ := emod_ex p (1 * b + (-h * 0 + 0))
  rw [h4]
  exact emod_add ⟨z1 - h * z4, by grind⟩

theorem up_good {p : Int} {d : Nat} {x : List Int} (hp : 3 ≤ p) (h : Good p d x) : Good p (d + 2) (upL x) := good_ext0 hp h
theorem up_plus {p : Int} {d : Nat} {x y : List Int} (hx : x.length = d) (hy : y.length = d) : upL (plusL p x y 1 d) = linL p (d + 2) [(1, upL x), (1, upL y)] := by
  refine ext_nth (by rw [upL_len, plusL_len, linL_len]) fun i hi => ?_
  rw [upL_len, plusL_len] at hi
  rw [linL_nth hi, up_nth, plusL_len]
  simp only [linS]
  rw [up_nth, up_nth, hx, hy]
  by_cases h : i < d
  · rw [if_pos h, if_pos h, if_pos h, plusL_nth h, plusN, Int.one_mul, Int.one_mul, Int.add_zero]
  · rw [if_neg h, if_neg h, if_neg h]; rfl
/-- A shift versor as a sum. -/
theorem sh_lin {p : Int} {qs x Q : List Int} (hp : 3 ≤ p) (hQ : Q = extL p qs) : shL p qs x = linL p (2 ^ Q.length) [(1, bladeL (2 ^ Q.length) 0), (-(invN p 2), prodL p Q tkA (vecL (2 ^ Q.length) (upL x)) (vecL (2 ^ Q.length) (infL qs.length)))] := by
  have hl : qs.length + 2 = Q.length := by rw [hQ, extL_len]
  unfold shL shPr
  rw [hl, ← hQ]
  have e1 := (lin_one (p := p) (one_good hp Q.length)).symm
  have e2 := (lin_one (p := p) (prod_good (p := p) (qs := Q) (tk := tkA) (x := vecL (2 ^ Q.length) (upL x)) (y := vecL (2 ^ Q.length) (infL qs.length)) (by omega))).symm
  show plusL p (bladeL (2 ^ Q.length) 0) (prodL p Q tkA (vecL (2 ^ Q.length) (upL x)) (vecL (2 ^ Q.length) (infL qs.length))) _ _ = _
  conv => lhs; rw [e1, e2]
  rw [plus_lin]
  simp only [List.map_cons, List.map_nil, List.cons_append, List.nil_append, Int.mul_one]
theorem lin_emod1 {p k : Int} {N : Nat} {x : List Int} {L : List (Int × List Int)} (t : Int) : linL p N ((k + p * t, x) :: L) = linL p N ((k, x) :: L) := by
  refine lin_congr fun i _ => ?_
  simp only [linS]
  exact emod_add ⟨t * nth x i, by grind⟩
theorem lin_zero {p : Int} {N : Nat} {x : List Int} {L : List (Int × List Int)} : linL p N ((0, x) :: L) = linL p N L := by
  refine lin_congr fun i _ => ?_
  simp only [linS, Int.zero_mul, Int.zero_add]
section
variable {p : Int} {qs Q : List Int} (hpr : primeB p = true) (hd4 : qs.length ≤ 4) (hQ : Q = extL p qs)
include hpr hd4 hQ
theorem ee_zero : prodL p Q tkA (vecL (2 ^ Q.length) (infL qs.length)) (vecL (2 ^ Q.length) (infL qs.length)) = linL p (2 ^ Q.length) [] := by
  have hb := prime_bd hpr
  have hl : Q.length = qs.length + 2 := by rw [hQ, extL_len]
  rw [vec_sq (by omega) hpr (by omega) (by rw [infL_len, hl]), hQ, inf_inf]
  have := lin_emod1 (p := p) (k := 0) (N := 2 ^ (extL p qs).length) (x := bladeL (2 ^ (extL p qs).length) 0) (L := []) 1
  rw [Int.zero_add, Int.mul_one] at this
  rw [this, lin_zero]
theorem ea_swap {x : List Int} (hx : x.length = qs.length) : prodL p Q tkA (vecL (2 ^ Q.length) (infL qs.length)) (vecL (2 ^ Q.length) (upL x)) = linL p (2 ^ Q.length) [(-1, prodL p Q tkA (vecL (2 ^ Q.length) (upL x)) (vecL (2 ^ Q.length) (infL qs.length)))] := by
  have hb := prime_bd hpr
  have hl : Q.length = qs.length + 2 := by rw [hQ, extL_len]
  rw [vec_swap (p := p) (v := upL x) (w := infL qs.length) (by omega) (by omega) (by rw [upL_len, hl, hx]) (by rw [infL_len, hl]), show pairZ Q (upL x) (infL qs.length) = 0 by rw [hQ]; exact up_inf hx, Int.mul_zero, lin_zero]
/-- A shift versor, a point vector and the versor's reverse. -/
theorem shift_point {v x : List Int} (hv : Good p qs.length v) (hx : Good p qs.length x) :
    prodL p Q tkA (prodL p Q tkA (shL p qs x) (vecL (2 ^ Q.length) (pointL p qs v))) (signL p revB (shL p qs x) (2 ^ Q.length)) = vecL (2 ^ Q.length) (pointL p qs (plusL p v x 1 qs.length)) := by
  have hb := prime_bd hpr
  have hl : Q.length = qs.length + 2 := by rw [hQ, extL_len]
  have hQ6 : Q.length ≤ 6 := by omega
  have lu : (upL x).length = Q.length := by rw [upL_len, hl, hx.1]
  have li : (infL qs.length).length = Q.length := by rw [infL_len, hl]
  have lp : (pointL p qs v).length = Q.length := by rw [point_len, hl]
  have gA : Good p (2 ^ Q.length) (vecL (2 ^ Q.length) (upL x)) := vec_good (by omega) (up_good (by omega) hx)
  have gE : Good p (2 ^ Q.length) (vecL (2 ^ Q.length) (infL qs.length)) := vec_good (by omega) (infL_good (by omega) qs.length)
  have gX : Good p (2 ^ Q.length) (vecL (2 ^ Q.length) (pointL p qs v)) := vec_good (by omega) (pointL_good (d := qs.length) (by omega) rfl)
  have hEE := ee_zero hpr hd4 hQ
  have hEA := ea_swap hpr hd4 hQ hx.1
  obtain ⟨s1, hs1⟩ := inf_point (qs := qs) (v := v) hpr hv.1
  obtain ⟨s2, hs2⟩ := up_point (p := p) hx.1 hv.1
  have hEX : prodL p Q tkA (vecL (2 ^ Q.length) (infL qs.length)) (vecL (2 ^ Q.length) (pointL p qs v)) = linL p (2 ^ Q.length) [(-2, bladeL (2 ^ Q.length) 0), (-1, prodL p Q tkA (vecL (2 ^ Q.length) (pointL p qs v)) (vecL (2 ^ Q.length) (infL qs.length)))] := by
    rw [vec_swap (p := p) (v := pointL p qs v) (w := infL qs.length) (by omega) hQ6 lp li]
    rw [show pairZ Q (pointL p qs v) (infL qs.length) = pairZ Q (infL qs.length) (pointL p qs v) by rw [quad_pairZ, quad_pairZ, quad_comm], show pairZ Q (infL qs.length) (pointL p qs v) = -1 + p * s1 by rw [hQ]; exact hs1, show 2 * (-1 + p * s1) = -2 + p * (2 * s1) by grind, lin_emod1]
  have hXA : prodL p Q tkA (vecL (2 ^ Q.length) (pointL p qs v)) (vecL (2 ^ Q.length) (upL x)) = linL p (2 ^ Q.length) [(2 * quadS qs.length qs x v, bladeL (2 ^ Q.length) 0), (-1, prodL p Q tkA (vecL (2 ^ Q.length) (upL x)) (vecL (2 ^ Q.length) (pointL p qs v)))] := by
    rw [vec_swap (p := p) (v := upL x) (w := pointL p qs v) (by omega) hQ6 lu lp]
    rw [show pairZ Q (upL x) (pointL p qs v) = quadS qs.length qs x v + p * s2 by rw [hQ]; exact hs2, show 2 * (quadS qs.length qs x v + p * s2) = 2 * quadS qs.length qs x v + p * (2 * s2) by grind, lin_emod1]
  have hAA : prodL p Q tkA (vecL (2 ^ Q.length) (upL x)) (vecL (2 ^ Q.length) (upL x)) = linL p (2 ^ Q.length) [(quadS qs.length qs x x, bladeL (2 ^ Q.length) 0)] := by
    rw [vec_sq (by omega) hpr hQ6 lu, show pairZ Q (upL x) (upL x) = quadS qs.length qs x x by rw [hQ]; exact up_up hx.1]
  have hT := sh_lin (p := p) (qs := qs) (x := x) (Q := Q) (by omega) hQ
  have hR : signL p revB (shL p qs x) (2 ^ Q.length) = linL p (2 ^ Q.length) [(1, bladeL (2 ^ Q.length) 0), (invN p 2, prodL p Q tkA (vecL (2 ^ Q.length) (upL x)) (vecL (2 ^ Q.length) (infL qs.length)))] := by
    unfold shL shPr
    rw [← hl, ← hQ, sign_plus (by omega), sign_one, rev_prod (tk := tkA) (tk' := tkA) (by omega) hQ6 (fun _ _ => rfl), sign_vec (by omega) hQ6 li, show signL p revB (vecL (2 ^ Q.length) (x ++ [0, 0])) (2 ^ Q.length) = vecL (2 ^ Q.length) (upL x) from sign_vec (by omega) hQ6 lu, hEA]
    have e1 := (lin_one (p := p) (one_good (p := p) (by omega) Q.length)).symm
    conv => lhs; rw [e1]
    rw [plus_lin]
    refine lin_congr fun i _ => ?_
    simp only [List.map_cons, List.map_nil, List.cons_append, List.nil_append, linS]
    congr 1
    grind
  rw [hR, hT, shift_alg (by omega) hQ6 gA gX gE (half_spec hpr) hEE hEA hEX hXA hAA, point_shift hpr hv.1 hx.1, ← hl, vec_lin]
  · rfl
  · intro q hq
    simp only [List.mem_cons, List.not_mem_nil, or_false] at hq
    rcases hq with rfl | rfl | rfl
    · exact lp
    · exact lu
    · exact li
/-- Shift versors are multiplied as vectors are added. -/
theorem shift_sum {x y : List Int} (hx : Good p qs.length x) (hy : Good p qs.length y) : prodL p Q tkA (shL p qs x) (shL p qs y) = shL p qs (plusL p x y 1 qs.length) := by
  have hb := prime_bd hpr
  have hl : Q.length = qs.length + 2 := by rw [hQ, extL_len]
  have hQ6 : Q.length ≤ 6 := by omega
  have lux : (upL x).length = Q.length := by rw [upL_len, hl, hx.1]
  have luy : (upL y).length = Q.length := by rw [upL_len, hl, hy.1]
  rw [sh_lin (by omega) hQ, sh_lin (by omega) hQ, sh_lin (by omega) hQ, shift_two (by omega) hQ6 (ee_zero hpr hd4 hQ) (ea_swap hpr hd4 hQ hy.1), up_plus hx.1 hy.1, ← hl, vec_lin, prod_lin_left (by omega)]
  · simp only [List.map_cons, List.map_nil]
    refine lin_congr fun i hi => ?_
    simp only [linS]
    rw [linL_nth hi]
    simp only [linS]
    generalize nth (prodL p Q tkA (vecL (2 ^ Q.length) (upL x)) (vecL (2 ^ Q.length) (infL qs.length))) i = a
    generalize nth (prodL p Q tkA (vecL (2 ^ Q.length) (upL y)) (vecL (2 ^ Q.length) (infL qs.length))) i = b
    obtain ⟨z, hz⟩ := emod_ex p (1 * a + (1 * b + 0))
    rw [hz]
    exact emod_add ⟨invN p 2 * z, by grind⟩
  · intro q hq
    simp only [List.mem_cons, List.not_mem_nil, or_false] at hq
    rcases hq with rfl | rfl
    · exact lux
    · exact luy
end
end Go.Proofs.Ytcocbainookkcaa

/-
  Conformal functions: extension, point vectors.
  No condition.
-/
namespace Go.Proofs.Ytcocbainookkcaa
set_option maxRecDepth 100000
open Go.RowKit

theorem code18_one0 {p : Int} {qs v : List Int} (hs : spaceB p qs = true) (h4 : qs.length ≤ 4) (hv : Good p qs.length v) : code18 p qs [v] = 0 := by
  unfold code18; rw [if_pos hs, if_pos h4]; simp [good_vecB hv]
theorem code18_two0 {p : Int} {qs v u : List Int} (hs : spaceB p qs = true) (h4 : qs.length ≤ 4) (hv : Good p qs.length v) (hu : Good p qs.length u) : code18 p qs [v, u] = 0 := by
  unfold code18; rw [if_pos hs, if_pos h4]; simp [good_vecB hv, good_vecB hu]
theorem code18_nil0 {p : Int} {qs : List Int} (hs : spaceB p qs = true) (h4 : qs.length ≤ 4) : code18 p qs [] = 0 := by
  unfold code18; rw [if_pos hs, if_pos h4]; simp

set_option maxHeartbeats 2000000 in
theorem c_ExtendSpace_ok (p : Int) (a : Option Addr) (d cap : Nat) (qs : List Int) (w : World) (hs : spaceB p qs = true) (h4 : qs.length ≤ 4) (hq : RdC w a d qs) :
    Calls Try.prog 23 #[.agg #[.int .i64 p, .slice a d cap]] w fun e w' => ∃ g rc, e = .returned (.tuple #[.agg #[.int .i64 p, .slice (some ⟨g, 0, none⟩) (d + 2) rc], .int .i64 0]) ∧ OwnC w.heap.size w' (some ⟨g, 0, none⟩) (d + 2) rc (extL p qs) ∧ Ext w w' := by
  obtain ⟨hpr, hd1, _, hqb⟩ := space_of hs
  have hpb := prime_bd hpr
  have HC := Lib.hid (code18_nil0 hs h4)
  have hql := hq.1
  rw [hql] at hd1 h4
  obtain ⟨W, hW⟩ : ∃ W, W = (w.alloc (.cells #[.int .i64 p, .slice a d cap] 26)).alloc (.cells #[.int .i64 0, .slice none 0 0] 26) := ⟨_, rfl⟩
  have E : Hid (Ext w W) := Lib.hid (by rw [hW]; exact (ext_alloc _ _).alloc _)
  have C0 : Hid (W.cell? ⟨w.heap.size, 0, none⟩ = some (.int .i64 p)) := Lib.hid (by rw [hW]; simp)
  have C1 : Hid (W.cell? ⟨w.heap.size, 1, none⟩ = some (.slice a d cap)) := Lib.hid (by rw [hW]; simp)
  have HR := Lib.hid (show SpAt W (w.heap.size + 1) 0 (.slice none 0 0) by rw [hW]; exact ⟨by simp, by simp, by simp, by simp⟩)
  have HZ : Hid (W.heap.size = w.heap.size + 2) := Lib.hid (by rw [hW]; simp)
  have HW := Lib.hid hW
  have HQ := Lib.hid (hq.ext E.out)
  have hcb : ((0 : Int) != 0) = false := by simp
  clear hW hq hs hpr hqb hql
  go_enter Try.func23, Try.ntmps23
  go_wp2_with (fail)
  rw [← HW.out]
  refine Calls.mono (c_checkPlaces p a d cap qs none 0 0 [] W (by omega) (by omega) (fun _ hi => absurd hi (Nat.not_lt_zero _)) HQ.out ⟨rfl, fun _ hi => absurd hi (Nat.not_lt_zero _)⟩) ?_
  rintro e w1 ⟨rfl, g1⟩
  rw [HC.out]
  have E1 := Lib.hid (E.out.trans g1)
  have HQ1 := Lib.hid (HQ.out.ext g1)
  have hc0 := g1.cell C0.out
  have hc1 := g1.cell C1.out
  have G1 := Lib.hid g1
  clear g1 HW
  go_wp2_with (fail)
  clear hc0 hc1
  refine Calls.mono (c_extended p a d cap qs w1 (by omega) (by omega) (by omega) (by omega) HQ1.out) ?_
  rintro e w2 ⟨g, rc, rfl, ho, g2⟩
  have hR := HR.out.ext (G1.out.trans g2)
  have r0 := hR.c0
  have r1 := hR.c1
  have f0 := hR.f0
  have f1 := hR.f1
  have HO := Lib.hid (ho.mono (show w.heap.size + 2 ≤ _ by have := G1.out.size; have := HZ.out; omega))
  have E2 := Lib.hid (E1.out.trans g2)
  clear ho g2 hR
  go_wp2_with (fail)
  refine bodyPost_ret (v := .tuple #[.agg #[.int .i64 p, .slice (some ⟨g, 0, none⟩) (d + 2) rc], .int .i64 0]) (by simp [results, Try.results23, go_sem, r0, r1]) rfl ⟨g, rc, rfl, ?_, ?_⟩
  · exact ((HO.out.other (by simp) _).other (by simp) _).mono (by omega)
  · exact (E2.out.setCell (by simp) _).setCell (by simp) _

set_option maxHeartbeats 4000000 in
set_option maxRecDepth 100000 in
theorem c_PointVector_ok (p : Int) (a : Option Addr) (d cap : Nat) (qs : List Int) (av : Option Addr) (cv : Nat) (v : List Int) (w : World) (hs : spaceB p qs = true) (h4 : qs.length ≤ 4) (hq : RdC w a d qs) (hv : RdC w av d v) (hg : Good p d v) :
    Calls Try.prog 24 #[.agg #[.int .i64 p, .slice a d cap], .slice av d cv] w fun e w' => ∃ g rc, e = .returned (.tuple #[.slice (some ⟨g, 0, none⟩) (d + 2) rc, .int .i64 0]) ∧ OwnC w.heap.size w' (some ⟨g, 0, none⟩) (d + 2) rc (pointL p qs v) ∧ Ext w w' := by
  have HC := Lib.hid (code18_one0 hs h4 (by rw [hq.1]; exact hg))
  obtain ⟨hpr, hd1, _, hqb⟩ := space_of hs
  have hpb := prime_bd hpr
  have HPR := Lib.hid hpr
  have HQB := Lib.hid hqb
  have hql := hq.1
  rw [hql] at hd1 h4
  clear hpr hqb
  have hcb : ((0 : Int) != 0) = false := by simp
  clear hql hs
  obtain ⟨W, hW⟩ : ∃ W, W = w.alloc (.cells #[.int .i64 p, .slice a d cap] 26) := ⟨_, rfl⟩
  have E : Hid (Ext w W) := Lib.hid (by rw [hW]; exact ext_alloc _ _)
  have C0 : Hid (W.cell? ⟨w.heap.size, 0, none⟩ = some (.int .i64 p)) := Lib.hid (by rw [hW]; simp)
  have C1 : Hid (W.cell? ⟨w.heap.size, 1, none⟩ = some (.slice a d cap)) := Lib.hid (by rw [hW]; simp)
  have HZ : Hid (W.heap.size = w.heap.size + 1) := Lib.hid (by rw [hW]; simp)
  have HW := Lib.hid hW
  clear hW
  have HQ := Lib.hid (hq.ext E.out)
  have HV := Lib.hid (hv.ext E.out)
  clear hq hv
  go_enter Try.func24, Try.ntmps24
  have x00 := C0.out
  have x01 := C1.out
  go_wp2_with (fail)
  clear x00 x01
  rw [← HW.out]
  clear HW
  refine Calls.mono (c_checkPlaces p a d cap qs _ 1 _ [v] _ (by omega) (by omega) (len_one (by rw [HV.out.1]; omega)) (HQ.out.ext (ext_alloc _ _)) (rdR_one (a := av) (n := d) (cap := cv) (by rw [← HZ.out]; simp) (HV.out.ext (ext_alloc _ _)))) ?_
  rintro e v1 ⟨rfl, gg⟩
  replace gg := (ext_alloc _ _).trans gg
  rw [HC.out]
  replace E := Lib.hid (E.out.trans gg)
  replace HQ := Lib.hid (HQ.out.ext gg)
  replace HV := Lib.hid (HV.out.ext gg)
  replace C0 := Lib.hid (gg.cell (p := ⟨w.heap.size, 0, none⟩) C0.out)
  replace C1 := Lib.hid (gg.cell (p := ⟨w.heap.size, 1, none⟩) C1.out)
  clear gg
  have x00 := C0.out
  have x01 := C1.out
  go_wp2_with (fail)
  clear x00 x01
  refine Calls.mono (c_point p a d cap qs av cv v v1 (by omega) h4 HPR.out HQ.out HQB.out HV.out hg) ?_
  rintro e v2 ⟨g, rc, rfl, ho, gg⟩
  have R := Lib.hid (ho.mono E.out.size)
  clear ho
  replace E := Lib.hid (E.out.trans gg)
  replace HQ := Lib.hid (HQ.out.ext gg)
  replace HV := Lib.hid (HV.out.ext gg)
  replace C0 := Lib.hid (gg.cell (p := ⟨w.heap.size, 0, none⟩) C0.out)
  replace C1 := Lib.hid (gg.cell (p := ⟨w.heap.size, 1, none⟩) C1.out)
  clear gg
  go_wp2_with (fail)
  go_ret2
  exact ⟨g, rc, rfl, R.out, E.out⟩

/-- A number list and the code 0. -/
def SPred.tupI (B n : Nat) (xs : List Int) : SPred :=
  ⟨fun v w => ∃ g rc, v = .tuple #[.slice (some ⟨g, 0, none⟩) n rc, .int .i64 0] ∧ OwnC B w (some ⟨g, 0, none⟩) n rc xs, fun _ _ _ ⟨g, rc, h1, h2⟩ he => ⟨g, rc, h1, h2.ext he⟩⟩

theorem c_ShiftVersor_okN {N : Nat} (p : Int) (a : Option Addr) (d cap : Nat) (qs : List Int) (av : Option Addr) (cv : Nat) (v : List Int) (w : World) (hN : N = 2 ^ (d + 2)) (hs : spaceB p qs = true) (h4 : qs.length ≤ 4) (hq : RdC w a d qs) (hv : RdC w av d v) (hg : Good p d v) :
    Calls Try.prog 39 #[.agg #[.int .i64 p, .slice a d cap], .slice av d cv] w fun e w' => ∃ g rc, e = .returned (.tuple #[.slice (some ⟨g, 0, none⟩) N rc, .int .i64 0]) ∧ OwnC w.heap.size w' (some ⟨g, 0, none⟩) N rc (shL p qs v) ∧ Ext w w' := by
  subst hN
  have hd : d ≤ 4 := by rw [← hq.1]; exact h4
  refine Calls.mono (c_ShiftVersor_ok p a d cap qs av d cv v w (by omega) (by omega) hq hv (code18_one0 hs h4 (by rw [hq.1]; exact hg))) ?_
  rintro e w1 ⟨ra, rc, rfl, ho, g1⟩
  obtain ⟨g, _, rfl, _⟩ := ho.row Nat.one_le_two_pow
  exact ⟨g, rc, rfl, ho, g1⟩

theorem s_ShiftVersor_okN {N : Nat} (p : Int) (a : Option Addr) (d cap : Nat) (qs : List Int) (av : Option Addr) (cv : Nat) (v : List Int) (w : World) (hN : N = 2 ^ (d + 2)) (hs : spaceB p qs = true) (h4 : qs.length ≤ 4) (hq : RdC w a d qs) (hv : RdC w av d v) (hg : Good p d v) :
    Calls Try.prog 40 #[.agg #[.int .i64 p, .slice a d cap], .slice av d cv] w fun e w' => ∃ g rc, e = .returned (.tuple #[.slice (some ⟨g, 0, none⟩) N rc, .int .i64 0]) ∧ OwnC w.heap.size w' (some ⟨g, 0, none⟩) N rc (shL p qs v) ∧ Ext w w' := by
  subst hN
  have hd : d ≤ 4 := by rw [← hq.1]; exact h4
  refine Calls.mono (s_ShiftVersor_ok p a d cap qs av d cv v w (by omega) (by omega) hq hv (code18_one0 hs h4 (by rw [hq.1]; exact hg))) ?_
  rintro e w1 ⟨ra, rc, rfl, ho, g1⟩
  obtain ⟨g, _, rfl, _⟩ := ho.row Nat.one_le_two_pow
  exact ⟨g, rc, rfl, ho, g1⟩

end Go.Proofs.Ytcocbainookkcaa

/-
  Draws of vectors.
  No condition.
-/
namespace Go.Proofs.Ytcocbainookkcaa
set_option maxRecDepth 100000
open Go.RowKit

end Go.Proofs.Ytcocbainookkcaa

/-
  Draws of a space and two lists.
  No condition.
-/
namespace Go.Proofs.Ytcocbainookkcaa
set_option maxRecDepth 100000
open Go.RowKit

/-- A row of the call's own, behind the source. -/
def Chg.SPred.own (S : SrcP) (B M : Nat) (hB : S.g < B) : Chg.SPred (Drw.rel S) :=
  ⟨fun v w => ∃ a m cap xs, v = .slice a m cap ∧ m ≤ M ∧ OwnC B w a m cap xs, fun _ _ _ ⟨a, m, cap, xs, h1, h2, h3⟩ he => ⟨a, m, cap, xs, h1, h2, Drw.own he h3 hB⟩⟩

end Go.Proofs.Ytcocbainookkcaa

/-
  Draws of spaces that can be extended, and of vectors.
  No condition.
-/
namespace Go.Proofs.Ytcocbainookkcaa
set_option maxRecDepth 100000
open Go.RowKit

set_option maxHeartbeats 4000000 in
theorem s_draw18 (S : SrcP) (w : World) (hS : Src S w) :
    Calls Try.prog 67 #[.pointer (some ⟨S.g, 0, none⟩)] w fun e w' => ∃ p a d cap qs, e = .returned (.agg #[.int .i64 p, .slice a d cap]) ∧ 0 ≤ p ∧ p ≤ 17 ∧ d ≤ 7 ∧ OwnC w.heap.size w' a d cap qs ∧ Drw S w w' := by
  have HS := Lib.hid hS
  have hlt := hS.lt
  clear hS
  obtain ⟨W, hW⟩ : ∃ W, W = w.alloc (.cells #[.int .i64 0, .slice none 0 0] 26) := ⟨_, rfl⟩
  have gW : Ext w W := by rw [hW]; exact ext_alloc _ _
  have HZ := Lib.hid (show W.heap.size = w.heap.size + 1 by rw [hW]; simp)
  have HR := Lib.hid (show SpAt W w.heap.size 0 (.slice none 0 0) by rw [hW]; exact ⟨by simp, by simp, by simp, by simp⟩)
  have HW := Lib.hid hW
  have GW := Lib.hid (Drw.of_ext (S := S) gW)
  have hgR : w.heap.size ≠ S.g := by omega
  clear gW hW
  go_enter Try.func67, Try.ntmps67
  go_wp2_with (fail)
  rw [← HW.out]
  refine Calls.mono (s_pick S (w.heap.size + 1) 6 6 [1, 2, 2, 3, 3, 4] _ ((GW.out.alloc _).src HS.out) (by decide) (by decide) (by rw [← HZ.out]; exact rdC_lit W _ [1, 2, 2, 3, 3, 4]) (by omega)) ?_
  rintro e w2 ⟨r, rfl, hr, g2⟩
  obtain ⟨m, rfl, hm1, hm2⟩ : ∃ m : Nat, r = (m : Int) ∧ 1 ≤ m ∧ m ≤ 6 := by
    refine ⟨r.toNat, ?_⟩
    simp only [List.mem_cons, List.not_mem_nil, or_false] at hr
    omega
  have HR2 := Lib.hid ((HR.out.ext (ext_alloc _ _)).drw g2 hgR)
  have G2 := Lib.hid ((GW.out.alloc _).trans g2)
  clear g2 hr HR
  go_wp2_with (fail)
  refine Calls.mono (s_any S m w2 (G2.out.src HS.out) hm1 hm2) ?_
  rintro e w3 ⟨p, a, d, cap, qs, rfl, hpr, hp1, hp2, hd1, hd2, hqb, ho, g3⟩
  obtain ⟨W2, hW2⟩ : ∃ W2, W2 = w3.alloc (.cells #[.int .i64 p, .slice a d cap] 26) := ⟨_, rfl⟩
  obtain ⟨O, hO⟩ : ∃ O, O = w3.heap.size := ⟨_, rfl⟩
  have gW2 : Ext w3 W2 := by rw [hW2]; exact ext_alloc _ _
  have HC := Lib.hid (show SpAt W2 O p (.slice a d cap) by rw [hW2, hO]; exact ⟨by simp, by simp, by simp, by simp⟩)
  have HR3 := Lib.hid ((HR2.out.drw g3 hgR).ext gW2)
  have hwd : w.heap.size + 1 ≤ w2.heap.size := by have := HR2.out.lt; omega
  have HQ := Lib.hid ((ho.mono hwd).ext gW2)
  have G3 := Lib.hid ((G2.out.trans g3).ext gW2)
  have hgO : O ≠ S.g := by rw [hO]; have := g3.size; have := G2.out.size; omega
  have hRO : w.heap.size ≠ O := by rw [hO]; have := g3.size; omega
  have hwO : w.heap.size ≤ O := by rw [hO]; have := g3.size; omega
  go_wp2_with (fail)
  rw [← hW2, ← hO]
  clear hO gW2 ho g3 hW2 HR2 G2
  refine Calls.mono (s_next S 24 W2 (G3.out.src HS.out) (by decide)) ?_
  rintro e w4 ⟨r, rfl, _, g4⟩
  replace HR3 := Lib.hid (HR3.out.drw g4 hgR)
  replace HC := Lib.hid (HC.out.drw g4 hgO)
  replace HQ := Lib.hid (g4.own HQ.out (by omega))
  replace G3 := Lib.hid (G3.out.trans g4)
  clear g4
  by_cases h0 : r = 0
  · subst h0
    go_wp2_with (fail)
    refine Calls.mono (s_spoil3 S w4 (G3.out.src HS.out)) ?_
    rintro e w5 ⟨p2, a2, d2, c2, qs2, rfl, hp20, hp21, hd22, ho2, g5⟩
    have hR5 := HR3.out.drw g5 hgR
    have r0 := hR5.c0
    have r1 := hR5.c1
    have f0 := hR5.f0
    have f1 := hR5.f1
    have hw4 : w.heap.size + 1 ≤ w4.heap.size := by have := HR3.out.lt; omega
    have HO2 := Lib.hid (ho2.mono hw4)
    have G5 := Lib.hid (G3.out.trans g5)
    clear ho2 g5 hR5
    go_wp2_with (fail)
    refine bodyPost_ret (v := .agg #[.int .i64 p2, .slice a2 d2 c2]) (by simp [results, Try.results67, go_sem, r0, r1]) rfl ⟨p2, a2, d2, c2, qs2, rfl, hp20, hp21, hd22, ?_, ?_⟩
    · exact ((HO2.out.other (by simp) _).other (by simp) _).mono (by omega)
    · exact (G5.out.setCell (by simp) _).setCell (by simp) _
  · have hb0 : (r == 0) = false := by simp [h0]
    have r0 := HR3.out.c0
    have r1 := HR3.out.c1
    have f0 := HR3.out.f0
    have f1 := HR3.out.f1
    have o0 := HC.out.c0
    have o1 := HC.out.c1
    go_wp2_with (fail)
    refine bodyPost_ret (v := .agg #[.int .i64 p, .slice a d cap]) (by simp [results, Try.results67, go_sem, r0, r1]) rfl ⟨p, a, d, cap, qs, rfl, by omega, by omega, by omega, ?_, ?_⟩
    · exact ((HQ.out.other (by simp) _).other (by simp) _).mono (by omega)
    · exact (G3.out.setCell (by simp) _).setCell (by simp) _

set_option maxHeartbeats 4000000 in
theorem s_vec18 (S : SrcP) (p : Int) (a : Option Addr) (d cap : Nat) (w : World) (hS : Src S w) (hp0 : 0 ≤ p) (hp : p ≤ 1000000) (hd : d ≤ 100) :
    Calls Try.prog 68 #[.pointer (some ⟨S.g, 0, none⟩), .agg #[.int .i64 p, .slice a d cap]] w fun e w' => ∃ a cap m xs, e = .returned (.slice a m cap) ∧ m ≤ d + 1 ∧ OwnC w.heap.size w' a m cap xs ∧ Drw S w w' := by
  have hlt := hS.lt
  obtain ⟨O, hO⟩ : ∃ O, O = w.heap.size := ⟨_, rfl⟩
  have hgO : O ≠ S.g := by omega
  obtain ⟨W, hW⟩ : ∃ W, W = w.alloc (.cells #[.int .i64 p, .slice a d cap] 26) := ⟨_, rfl⟩
  have gW : Ext w W := by rw [hW]; exact ext_alloc _ _
  have HC := Lib.hid (show SpAt W O p (.slice a d cap) by rw [hW, hO]; exact ⟨by simp, by simp, by simp, by simp⟩)
  have HS := Lib.hid hS
  have GW := Lib.hid (Drw.of_ext (S := S) gW)
  have HZ := Lib.hid (show W.heap.size = w.heap.size + 1 by rw [hW]; simp)
  have hWO : O < W.heap.size := HC.out.lt
  clear gW hS
  have HHO := Lib.hid hO
  go_enter Try.func68, Try.ntmps68
  go_wp2_with (fail)
  rw [← hW]
  rw [← HHO.out]
  clear hW hO
  obtain ⟨W0, hW0⟩ : ∃ W0, W0 = W.alloc (.cells #[] 2) := ⟨_, rfl⟩
  have HE0 := Lib.hid (show Ext W W0 by rw [hW0]; exact ext_alloc _ _)
  have hz : W.heap.size = O + 1 := by have := HZ.out; have := HHO.out; omega
  have HOE := Lib.hid (show OwnC (O + 1) W0 (some ⟨O + 1, 0, none⟩) 0 0 [] by rw [hW0, ← hz]; exact own_empty W)
  rw [← hW0]
  have HL0 := Lib.hid (show O + 1 ≤ W0.heap.size by rw [hW0]; simp; omega)
  clear hW0
  have hSB : S.g < O + 1 := by have := HHO.out; omega
  have HSW := Lib.hid (GW.out.src HS.out)
  have G0 := Lib.hid (Drw.of_ext (S := S) HE0.out)
  have HWB : Hid (w.heap.size ≤ O + 1) := Lib.hid (by have := HHO.out; omega)
  have HBW : Hid (W.heap.size ≤ O + 1) := Lib.hid (by omega)
  clear HE0 HZ hz HS
  go_loopw [5, 6] (fun v i wr => ∃ (k : Nat) (b : Option Addr) (cb : Nat) (xs : List Int), k ≤ d ∧ i = .int .i64 k ∧ v = .slice b k cb ∧ Hid (OwnC (O + 1) wr b k cb xs) ∧ Hid (Drw S W wr) ∧ Hid (O + 1 ≤ wr.heap.size)) (fun _ i _ => d - (intOf i).toNat)
  case atStart => exact ⟨0, _, 0, [], Nat.zero_le _, rfl, rfl, HOE, G0, HL0⟩
  case round =>
    rename World => wr
    obtain ⟨k, b, cb, xs, hk, rfl, rfl, HO, HD, HL⟩ := hrel
    clear G0 HOE HL0
    have c0 := (HC.out.drw HD.out hgO).c0
    have c1 := (HC.out.drw HD.out hgO).c1
    by_cases hkn : k < d
    · have hkd : (k : Int) < (d : Int) := by omega
      go_wp2_with (fail)
      all_goals
        refine Calls.mono (s_next S _ wr (HD.out.src HSW.out) (by omega)) ?_
        rintro e w1 ⟨r, rfl, _, g1⟩
        have HO1 := Lib.hid (g1.own HO.out hSB)
        have HD1 := Lib.hid (HD.out.trans g1)
        have HL1 := Lib.hid (Nat.le_trans HL.out g1.size)
        clear g1 c0 c1
        go_wp2_with (at_builtin; refine wpList_push rfl (.tmp 15) (.tmp 21) rfl rfl rfl (v := r) (HO1.out.ext (ext_alloc _ _)) ?hc ?hn ?hB ?hk)
        case hc => simp
        case hn => omega
        case hB => have := HL1.out; simp; omega
        case hk =>
          intro g' cap' w3 ho3 hg3 he3
          have HO3 := Lib.hid ho3
          have HD3 := Lib.hid ((HD1.out.alloc _).grown hg3 (fun k hk => Nat.le_trans HBW.out (HO1.out.blk k hk)))
          have HL3 := Lib.hid (show O + 1 ≤ w3.heap.size by have h8 := HO3.out.base_of g' rfl; omega)
          clear ho3 hg3 he3
          go_wp2_with (fail)
          go_roundw
          case rel => exact ⟨k + 1, _, cap', _, by omega, by go_num, rfl, HO3, HD3, HL3⟩
          case measure => simp [intOf]; omega
    · obtain rfl : k = d := by omega
      go_wp2_with (fail)
      clear c0 c1
      refine Calls.mono (s_next S 40 wr (HD.out.src HSW.out) (by decide)) ?_
      rintro e w1 ⟨r, rfl, _, g1⟩
      have HO1 := Lib.hid (g1.own HO.out hSB)
      have HD1 := Lib.hid (HD.out.trans g1)
      have HL1 := Lib.hid (Nat.le_trans HL.out g1.size)
      clear g1
      by_cases h0 : r = 0
      · subst h0
        go_wp2_with (at_builtin; refine wpList_push rfl (.tmp 26) (.tmp 27) rfl rfl rfl (v := 0) (HO1.out.ext (ext_alloc _ _)) ?hc ?hn ?hB ?hk)
        case hc => simp
        case hn => omega
        case hB => have := HL1.out; simp; omega
        case hk =>
          intro g' cap' w3 ho3 hg3 he3
          have HO3 := Lib.hid (ho3.mono HWB.out)
          have HD3 := Lib.hid ((HD1.out.alloc _).grown hg3 (fun k hk => Nat.le_trans HBW.out (HO1.out.blk k hk)))
          clear ho3 hg3 he3
          go_wp2_with (fail)
          go_ret
          exact ⟨_, _, k + 1, _, rfl, by omega, HO3.out, GW.out.trans HD3.out⟩
      · have hb0 : (r == 0) = false := by simp [h0]
        go_wp2_with (fail)
        go_ret
        exact ⟨_, _, k, _, rfl, by omega, HO1.out.mono HWB.out, GW.out.trans HD1.out⟩
end Go.Proofs.Ytcocbainookkcaa

/-
  Draws of a space that can be extended and of vectors of it.
  No condition.
-/
namespace Go.Proofs.Ytcocbainookkcaa
set_option maxRecDepth 100000
open Go.RowKit

set_option maxHeartbeats 4000000 in
set_option maxRecDepth 100000 in
theorem s_drawPointVector (ca : Option Addr) (n cap : Nat) (w : World) (hn : n ≤ 4096) (hb : RdY w ca n) :
    Calls Try.prog 94 #[.slice ca n cap] w fun e w' => ∃ p a d c qs a1 m1 c1 x1, e = .returned (.tuple #[.agg #[.int .i64 p, .slice a d c], .slice a1 m1 c1]) ∧ 0 ≤ p ∧ p ≤ 17 ∧ d ≤ 7 ∧ m1 ≤ 8 ∧ OwnC w.heap.size w' a d c qs ∧ OwnC w.heap.size w' a1 m1 c1 x1 ∧ Ext w w' := by
  obtain ⟨W, hW⟩ : ∃ W, W = w.alloc (.cells #[.int .i64 0, .slice none 0 0] 26) := ⟨_, rfl⟩
  have gW : Ext w W := by rw [hW]; exact ext_alloc _ _
  have HZ := Lib.hid (show W.heap.size = w.heap.size + 1 by rw [hW]; simp)
  have HR := Lib.hid (show SpAt W w.heap.size 0 (.slice none 0 0) by rw [hW]; exact ⟨by simp, by simp, by simp, by simp⟩)
  have HW := Lib.hid hW
  have GW := Lib.hid gW
  have HB := Lib.hid (hb.ext gW)
  clear gW hW hb
  go_enter Try.func94, Try.ntmps94
  go_wp2_with (fail)
  rw [← HW.out]
  refine Calls.mono (s_from ca n cap W hn HB.out) ?_
  rintro e w1 ⟨g, rfl, hg, hS, g1⟩
  obtain ⟨S, hSe⟩ : ∃ S : SrcP, S = ⟨g, ca, n, cap⟩ := ⟨_, rfl⟩
  obtain rfl : g = S.g := by rw [hSe]
  rw [← hSe] at hS
  have HS := Lib.hid hS
  have HR1 := Lib.hid (HR.out.ext g1)
  have G1 := Lib.hid (GW.out.trans g1)
  have hgR : w.heap.size ≠ S.g := by have := HZ.out; omega
  have hgw : w.heap.size + 1 ≤ S.g := by have := HZ.out; omega
  have hlt := hS.lt
  clear hg hS g1 hSe HR
  go_wp2_with (fail)
  refine Calls.mono (s_draw18 S w1 HS.out) ?_
  rintro e w2 ⟨p, a, d, c, qs, rfl, hp0, hp1, hd, ho, g2⟩
  obtain ⟨W2, hW2⟩ : ∃ W2, W2 = w2.alloc (.cells #[.int .i64 p, .slice a d c] 26) := ⟨_, rfl⟩
  obtain ⟨O, hO⟩ : ∃ O, O = w2.heap.size := ⟨_, rfl⟩
  have gW2 : Ext w2 W2.drew := by rw [hW2]; exact (ext_alloc _ _).trans (ext_drew _)
  have hOA : SpAt W2.drew O p (.slice a d c) := by
    have : SpAt W2 O p (.slice a d c) := by rw [hW2, hO]; exact ⟨by simp, by simp, by simp, by simp⟩
    exact this.ext (ext_drew _)
  have HOA := Lib.hid hOA
  have HR2 := Lib.hid ((HR1.out.drw g2 hgR).ext gW2)
  have HQ2 := Lib.hid ((ho.mono (show S.g + 1 ≤ _ from hlt)).ext gW2)
  have G2 := Lib.hid (g2.ext gW2)
  have hgO : O ≠ S.g := by rw [hO]; have := g2.size; omega
  go_wp2_with (fail)
  rw [← hW2, ← hO]
  have HS2 := Lib.hid (G2.out.src HS.out)
  clear hO gW2 ho g2 hW2 hOA HR1
  refine Chg.wp_region_lex_tail (E := Drw.rel S) 4 [(3, .own S (S.g + 1) 8 (Nat.lt_succ_self _))] (by kernel_rfl) (by kernel_rfl) ?_
  simp only [List.take, List.drop]
  (refine Chg.LexW.pure (v := ?_) rfl rfl (fun w1 he => ?_) ?_; rotate_left; ( have he' : Drw S W2.drew _ := he; have x0 := he'.cell (p := ⟨O, 0, none⟩) hgO HOA.out.c0; have x1 := he'.cell (p := ⟨O, 1, none⟩) hgO HOA.out.c1; go_simp; rfl); simp only [Act.put, List.setIfInBounds_toArray, List.set_cons_zero, List.set_cons_succ])
  (refine Chg.LexW.pure (v := ?_) rfl rfl (fun w1 he => ?_) ?_; rotate_left; ( have he' : Drw S W2.drew _ := he; have x0 := he'.cell (p := ⟨O, 0, none⟩) hgO HOA.out.c0; have x1 := he'.cell (p := ⟨O, 1, none⟩) hgO HOA.out.c1; go_simp; rfl); simp only [Act.put, List.setIfInBounds_toArray, List.set_cons_zero, List.set_cons_succ])
  (refine Chg.LexW.pure (v := ?_) rfl rfl (fun w1 he => ?_) ?_; rotate_left; ( have he' : Drw S W2.drew _ := he; have x0 := he'.cell (p := ⟨O, 0, none⟩) hgO HOA.out.c0; have x1 := he'.cell (p := ⟨O, 1, none⟩) hgO HOA.out.c1; go_simp; rfl); simp only [Act.put, List.setIfInBounds_toArray, List.set_cons_zero, List.set_cons_succ])
  (refine Chg.LexW.callR (f := ?_) (args := ?_) rfl rfl (fun w1 => ?_) (fun w1 he hdep => ?_) (fun v hv => ?_); rotate_left 2; (go_simp; refine ⟨?_, ?_⟩ <;> rfl); ( have he' : Drw S W2.drew _ := he; refine Calls.mono (s_vec18 S p a d c w1 (he'.src HS2.out) (by omega) (by omega) (by omega)) ?_; rintro e w9 ⟨a9, c9, m9, x9, rfl, hm9, ho9, g9⟩; exact ⟨_, rfl, g9, a9, m9, c9, x9, rfl, by omega, ho9.mono (Nat.le_trans HS2.out.lt he'.size)⟩); simp only [Act.put, List.setIfInBounds_toArray, List.set_cons_zero, List.set_cons_succ])
  obtain ⟨_, a1, m1, c1, x1, rfl, _⟩ := hv
  refine Chg.LexW.nil (fun w3 he hkn => ?_)
  have he' : Drw S W2.drew w3 := he
  obtain ⟨a1', m1', c1', x1', q1, hm1, ho1⟩ : (Chg.SPred.own S (S.g + 1) 8 (Nat.lt_succ_self _)).holds (.slice a1 m1 c1) w3 := hkn (3, _) (by simp)
  cases q1
  have HR3 := Lib.hid (HR2.out.drw he' hgR)
  have HQ3 := Lib.hid (he'.own HQ2.out (Nat.lt_succ_self _))
  have HO1 := Lib.hid ho1
  have G3 := Lib.hid (G2.out.trans he')
  have r0 := HR3.out.c0
  have r1 := HR3.out.c1
  have f0 := HR3.out.f0
  have f1 := HR3.out.f1
  clear he he' hkn ho1
  go_wp2_with (fail)
  refine bodyPost_ret (v := .tuple #[.agg #[.int .i64 p, .slice a d c], .slice a1 m1 c1]) (by simp [results, Try.results94, go_sem, r0, r1]) rfl ⟨p, a, d, c, qs, a1, m1, c1, x1', rfl, hp0, hp1, hd, hm1, ?_, ?_, ?_⟩
  · exact ((HQ3.out.other (by simp; omega) _).other (by simp; omega) _).mono (by omega)
  · exact ((HO1.out.other (by simp; omega) _).other (by simp; omega) _).mono (by omega)
  · exact ((G3.out.toExt G1.out (by omega)).setCell (by simp) _).setCell (by simp) _
set_option maxHeartbeats 4000000 in
theorem s_drawShiftVersor (ca : Option Addr) (n cap : Nat) (w : World) (hn : n ≤ 4096) (hb : RdY w ca n) :
    Calls Try.prog 38 #[.slice ca n cap] w fun e w' => ∃ p a d c qs a1 m1 c1 x1, e = .returned (.tuple #[.agg #[.int .i64 p, .slice a d c], .slice a1 m1 c1]) ∧ 0 ≤ p ∧ p ≤ 17 ∧ d ≤ 7 ∧ m1 ≤ 8 ∧ OwnC w.heap.size w' a d c qs ∧ OwnC w.heap.size w' a1 m1 c1 x1 ∧ Ext w w' := by
  obtain ⟨W, hW⟩ : ∃ W, W = w.alloc (.cells #[.int .i64 0, .slice none 0 0] 26) := ⟨_, rfl⟩
  have gW : Ext w W := by rw [hW]; exact ext_alloc _ _
  have HZ := Lib.hid (show W.heap.size = w.heap.size + 1 by rw [hW]; simp)
  have HR := Lib.hid (show SpAt W w.heap.size 0 (.slice none 0 0) by rw [hW]; exact ⟨by simp, by simp, by simp, by simp⟩)
  have HW := Lib.hid hW
  have GW := Lib.hid gW
  have HB := Lib.hid (hb.ext gW)
  clear gW hW hb
  go_enter Try.func38, Try.ntmps38
  go_wp2_with (fail)
  rw [← HW.out]
  refine Calls.mono (s_drawPointVector ca n cap W hn HB.out) ?_
  rintro e w1 ⟨p, a, d, c, qs, a1, m1, c1, x1, rfl, hp0, hp1, hd, hm1, ho, ho1, g1⟩
  have hR1 := HR.out.ext g1
  have r0 := hR1.c0
  have r1 := hR1.c1
  have f0 := hR1.f0
  have f1 := hR1.f1
  have lR := hR1.lt
  have hz := HZ.out
  have HQ := Lib.hid ho
  have HO1 := Lib.hid ho1
  have G1 := Lib.hid (GW.out.trans g1)
  clear ho ho1 g1 hR1
  go_wp2_with (fail)
  refine bodyPost_ret (v := .tuple #[.agg #[.int .i64 p, .slice a d c], .slice a1 m1 c1]) (by simp [results, Try.results38, go_sem, r0, r1]) rfl ⟨p, a, d, c, qs, a1, m1, c1, x1, rfl, hp0, hp1, hd, hm1, ?_, ?_, ?_⟩
  · exact ((HQ.out.other (by simp; omega) _).other (by simp; omega) _).mono (by omega)
  · exact ((HO1.out.other (by simp; omega) _).other (by simp; omega) _).mono (by omega)
  · exact (G1.out.setCell (by simp) _).setCell (by simp) _
set_option maxHeartbeats 4000000 in
set_option maxRecDepth 100000 in
theorem s_drawDistanceOf (ca : Option Addr) (n cap : Nat) (w : World) (hn : n ≤ 4096) (hb : RdY w ca n) :
    Calls Try.prog 20 #[.slice ca n cap] w fun e w' => ∃ p a d c qs a1 m1 c1 x1 a2 m2 c2 x2, e = .returned (.tuple #[.agg #[.int .i64 p, .slice a d c], .slice a1 m1 c1, .slice a2 m2 c2]) ∧ 0 ≤ p ∧ p ≤ 17 ∧ d ≤ 7 ∧ m1 ≤ 8 ∧ m2 ≤ 8 ∧ OwnC w.heap.size w' a d c qs ∧ OwnC w.heap.size w' a1 m1 c1 x1 ∧ OwnC w.heap.size w' a2 m2 c2 x2 ∧ Ext w w' := by
  obtain ⟨W, hW⟩ : ∃ W, W = w.alloc (.cells #[.int .i64 0, .slice none 0 0] 26) := ⟨_, rfl⟩
  have gW : Ext w W := by rw [hW]; exact ext_alloc _ _
  have HZ := Lib.hid (show W.heap.size = w.heap.size + 1 by rw [hW]; simp)
  have HR := Lib.hid (show SpAt W w.heap.size 0 (.slice none 0 0) by rw [hW]; exact ⟨by simp, by simp, by simp, by simp⟩)
  have HW := Lib.hid hW
  have GW := Lib.hid gW
  have HB := Lib.hid (hb.ext gW)
  clear gW hW hb
  go_enter Try.func20, Try.ntmps20
  go_wp2_with (fail)
  rw [← HW.out]
  refine Calls.mono (s_from ca n cap W hn HB.out) ?_
  rintro e w1 ⟨g, rfl, hg, hS, g1⟩
  obtain ⟨S, hSe⟩ : ∃ S : SrcP, S = ⟨g, ca, n, cap⟩ := ⟨_, rfl⟩
  obtain rfl : g = S.g := by rw [hSe]
  rw [← hSe] at hS
  have HS := Lib.hid hS
  have HR1 := Lib.hid (HR.out.ext g1)
  have G1 := Lib.hid (GW.out.trans g1)
  have hgR : w.heap.size ≠ S.g := by have := HZ.out; omega
  have hgw : w.heap.size + 1 ≤ S.g := by have := HZ.out; omega
  have hlt := hS.lt
  clear hg hS g1 hSe HR
  go_wp2_with (fail)
  refine Calls.mono (s_draw18 S w1 HS.out) ?_
  rintro e w2 ⟨p, a, d, c, qs, rfl, hp0, hp1, hd, ho, g2⟩
  obtain ⟨W2, hW2⟩ : ∃ W2, W2 = w2.alloc (.cells #[.int .i64 p, .slice a d c] 26) := ⟨_, rfl⟩
  obtain ⟨O, hO⟩ : ∃ O, O = w2.heap.size := ⟨_, rfl⟩
  have gW2 : Ext w2 W2.drew := by rw [hW2]; exact (ext_alloc _ _).trans (ext_drew _)
  have hOA : SpAt W2.drew O p (.slice a d c) := by
    have : SpAt W2 O p (.slice a d c) := by rw [hW2, hO]; exact ⟨by simp, by simp, by simp, by simp⟩
    exact this.ext (ext_drew _)
  have HOA := Lib.hid hOA
  have HR2 := Lib.hid ((HR1.out.drw g2 hgR).ext gW2)
  have HQ2 := Lib.hid ((ho.mono (show S.g + 1 ≤ _ from hlt)).ext gW2)
  have G2 := Lib.hid (g2.ext gW2)
  have hgO : O ≠ S.g := by rw [hO]; have := g2.size; omega
  go_wp2_with (fail)
  rw [← hW2, ← hO]
  have HS2 := Lib.hid (G2.out.src HS.out)
  clear hO gW2 ho g2 hW2 hOA HR1
  refine Chg.wp_region_lex_tail (E := Drw.rel S) 7 [(3, .own S (S.g + 1) 8 (Nat.lt_succ_self _)), (6, .own S (S.g + 1) 8 (Nat.lt_succ_self _))] (by kernel_rfl) (by kernel_rfl) ?_
  simp only [List.take, List.drop]
  (refine Chg.LexW.pure (v := ?_) rfl rfl (fun w1 he => ?_) ?_; rotate_left; ( have he' : Drw S W2.drew _ := he; have x0 := he'.cell (p := ⟨O, 0, none⟩) hgO HOA.out.c0; have x1 := he'.cell (p := ⟨O, 1, none⟩) hgO HOA.out.c1; go_simp; rfl); simp only [Act.put, List.setIfInBounds_toArray, List.set_cons_zero, List.set_cons_succ])
  (refine Chg.LexW.pure (v := ?_) rfl rfl (fun w1 he => ?_) ?_; rotate_left; ( have he' : Drw S W2.drew _ := he; have x0 := he'.cell (p := ⟨O, 0, none⟩) hgO HOA.out.c0; have x1 := he'.cell (p := ⟨O, 1, none⟩) hgO HOA.out.c1; go_simp; rfl); simp only [Act.put, List.setIfInBounds_toArray, List.set_cons_zero, List.set_cons_succ])
  (refine Chg.LexW.pure (v := ?_) rfl rfl (fun w1 he => ?_) ?_; rotate_left; ( have he' : Drw S W2.drew _ := he; have x0 := he'.cell (p := ⟨O, 0, none⟩) hgO HOA.out.c0; have x1 := he'.cell (p := ⟨O, 1, none⟩) hgO HOA.out.c1; go_simp; rfl); simp only [Act.put, List.setIfInBounds_toArray, List.set_cons_zero, List.set_cons_succ])
  (refine Chg.LexW.callR (f := ?_) (args := ?_) rfl rfl (fun w1 => ?_) (fun w1 he hdep => ?_) (fun v hv => ?_); rotate_left 2; (go_simp; refine ⟨?_, ?_⟩ <;> rfl); ( have he' : Drw S W2.drew _ := he; refine Calls.mono (s_vec18 S p a d c w1 (he'.src HS2.out) (by omega) (by omega) (by omega)) ?_; rintro e w9 ⟨a9, c9, m9, x9, rfl, hm9, ho9, g9⟩; exact ⟨_, rfl, g9, a9, m9, c9, x9, rfl, by omega, ho9.mono (Nat.le_trans HS2.out.lt he'.size)⟩); simp only [Act.put, List.setIfInBounds_toArray, List.set_cons_zero, List.set_cons_succ])
  obtain ⟨_, a1, m1, c1, x1, rfl, _⟩ := hv
  (refine Chg.LexW.pure (v := ?_) rfl rfl (fun w1 he => ?_) ?_; rotate_left; ( have he' : Drw S W2.drew _ := he; have x0 := he'.cell (p := ⟨O, 0, none⟩) hgO HOA.out.c0; have x1 := he'.cell (p := ⟨O, 1, none⟩) hgO HOA.out.c1; go_simp; rfl); simp only [Act.put, List.setIfInBounds_toArray, List.set_cons_zero, List.set_cons_succ])
  (refine Chg.LexW.pure (v := ?_) rfl rfl (fun w1 he => ?_) ?_; rotate_left; ( have he' : Drw S W2.drew _ := he; have x0 := he'.cell (p := ⟨O, 0, none⟩) hgO HOA.out.c0; have x1 := he'.cell (p := ⟨O, 1, none⟩) hgO HOA.out.c1; go_simp; rfl); simp only [Act.put, List.setIfInBounds_toArray, List.set_cons_zero, List.set_cons_succ])
  (refine Chg.LexW.callR (f := ?_) (args := ?_) rfl rfl (fun w1 => ?_) (fun w1 he hdep => ?_) (fun v hv => ?_); rotate_left 2; (go_simp; refine ⟨?_, ?_⟩ <;> rfl); ( have he' : Drw S W2.drew _ := he; refine Calls.mono (s_vec18 S p a d c w1 (he'.src HS2.out) (by omega) (by omega) (by omega)) ?_; rintro e w9 ⟨a9, c9, m9, x9, rfl, hm9, ho9, g9⟩; exact ⟨_, rfl, g9, a9, m9, c9, x9, rfl, by omega, ho9.mono (Nat.le_trans HS2.out.lt he'.size)⟩); simp only [Act.put, List.setIfInBounds_toArray, List.set_cons_zero, List.set_cons_succ])
  obtain ⟨_, a2, m2, c2, x2, rfl, _⟩ := hv
  refine Chg.LexW.nil (fun w3 he hkn => ?_)
  have he' : Drw S W2.drew w3 := he
  obtain ⟨a1', m1', c1', x1', q1, hm1, ho1⟩ : (Chg.SPred.own S (S.g + 1) 8 (Nat.lt_succ_self _)).holds (.slice a1 m1 c1) w3 := hkn (3, _) (by simp)
  obtain ⟨a2', m2', c2', x2', q2, hm2, ho2⟩ : (Chg.SPred.own S (S.g + 1) 8 (Nat.lt_succ_self _)).holds (.slice a2 m2 c2) w3 := hkn (6, _) (by simp)
  cases q1
  cases q2
  have HR3 := Lib.hid (HR2.out.drw he' hgR)
  have HQ3 := Lib.hid (he'.own HQ2.out (Nat.lt_succ_self _))
  have HO1 := Lib.hid ho1
  have HO2 := Lib.hid ho2
  have G3 := Lib.hid (G2.out.trans he')
  have r0 := HR3.out.c0
  have r1 := HR3.out.c1
  have f0 := HR3.out.f0
  have f1 := HR3.out.f1
  clear he he' hkn ho1 ho2
  go_wp2_with (fail)
  refine bodyPost_ret (v := .tuple #[.agg #[.int .i64 p, .slice a d c], .slice a1 m1 c1, .slice a2 m2 c2]) (by simp [results, Try.results20, go_sem, r0, r1]) rfl ⟨p, a, d, c, qs, a1, m1, c1, x1', a2, m2, c2, x2', rfl, hp0, hp1, hd, hm1, hm2, ?_, ?_, ?_, ?_⟩
  · exact ((HQ3.out.other (by simp; omega) _).other (by simp; omega) _).mono (by omega)
  · exact ((HO1.out.other (by simp; omega) _).other (by simp; omega) _).mono (by omega)
  · exact ((HO2.out.other (by simp; omega) _).other (by simp; omega) _).mono (by omega)
  · exact ((G3.out.toExt G1.out (by omega)).setCell (by simp) _).setCell (by simp) _
end Go.Proofs.Ytcocbainookkcaa

/-
  The laws' helpers of the later layers: sums, multiples, zero; append that names the block.
  No condition.
-/
namespace Go.Proofs.Ytcocbainookkcaa
set_option maxRecDepth 100000
open Go.RowKit

theorem run_push_at {B : Nat} {w : World} {ra : Option Addr} {n cap : Nat} {xs : List Int} {v : Int} {g : Nat} (hown : OwnC B w ra n cap xs) (hc : w.cell? ⟨g, 0, none⟩ = some (.int .i64 v)) (hn : n ≤ 4194304) (hB : B ≤ w.heap.size) (ty : TypeId) :
    ∃ g' cap' w', (Builtin.append_ #[24, 24] ty #[.slice ra n cap, .slice (some ⟨g, 0, none⟩) 1 1]).run Try.prog w = .ok (.slice (some ⟨g', 0, none⟩) (n + 1) cap') w' ∧
      OwnC B w' (some ⟨g', 0, none⟩) (n + 1) cap' (xs ++ [v]) ∧ w.grownBy w' (Value.slice ra n cap).ownBlock ∧ (g' = w.heap.size ∨ (Value.slice ra n cap).ownBlock = some g') ∧ (∀ W : World, W.heap.size ≤ B → Ext W w → Ext W w') := by
  obtain ⟨i0, hi, hz0, hz1, hz2⟩ := info_parts Try.infoI
  obtain ⟨v', w', hr, h2, h3, _, hbk⟩ := run_append_own_at (P := Try.prog) w B 24 ty 2 i0 (.int .i64 0) 1 8 Try.underlying24 hi hz0 hz1 hz2 rfl (by decide) (.slice ra n cap) n (xs.map (.int .i64)) hown.2
    ⟨g, 0, none⟩ 1 1 [.int .i64 v] rfl (fun j u hj => by
      cases j with
      | zero => simp only [List.getElem?_cons_zero, Option.some.injEq] at hj; subst hj; simpa [Addr.add] using hc
      | succ j => simp at hj) (fun u hu => by simp only [List.mem_singleton] at hu; subst hu; rfl) (by unfold maxLen; omega) (by omega) hB
  have h2' : w'.ownsRow B 2 1 v' (n + 1) ((xs ++ [v]).map (.int .i64)) := by rw [List.map_append]; exact h2
  obtain ⟨g', cap', rfl⟩ := OwnC.form h2' (by omega)
  exact ⟨g', cap', w', hr, ⟨by simp [hown.1], h2'⟩, h3, hbk.elim (fun h => .inr h.symm) (fun h => .inl (Option.some.inj h)), fun W hW hE => hE.grown h3 fun k hk => Nat.le_trans hW (hown.blk k hk)⟩

theorem wpList_push_at {ops : Array Oper} {rest : List Oper} {o : Oper} {a : Act} {Q : Exit → Act → World → Prop} {w : World} (hgd : o.guard = none) (s x : Operand)
    (ho : o.op = .call { callee := .builtin .append, args := #[s, x], argTypes := #[24, 24] })
    {B : Nat} {ra : Option Addr} {n cap : Nat} {xs : List Int} {v : Int} {g : Nat} (hs : a.eval s = .slice ra n cap) (hx : a.eval x = .slice (some ⟨g, 0, none⟩) 1 1)
    (hown : OwnC B w ra n cap xs) (hc : w.cell? ⟨g, 0, none⟩ = some (.int .i64 v)) (hn : n ≤ 4194304) (hB : B ≤ w.heap.size)
    (h : ∀ g' cap' w', OwnC B w' (some ⟨g', 0, none⟩) (n + 1) cap' (xs ++ [v]) → w.grownBy w' (Value.slice ra n cap).ownBlock → (g' = w.heap.size ∨ (Value.slice ra n cap).ownBlock = some g') → (∀ W : World, W.heap.size ≤ B → Ext W w → Ext W w') →
      wpList Try.prog ops Q rest (a.put o.dst (.slice (some ⟨g', 0, none⟩) (n + 1) cap')) w') : wpList Try.prog ops Q (o :: rest) a w := by
  refine wpList_plain hgd fun K hK => ?_
  obtain ⟨g', cap', w', hr, h1, h2, h2b, h3⟩ := run_push_at hown hc hn hB o.type
  unfold Oper.wp execOp
  simp only [ho, resolve, invoke, builtin, Sem.run_bind, Sem.run_pure, Result.andThen_ok, List.map_toArray, List.map_cons, List.map_nil, hs, hx, hr]
  exact hK _ _ (h g' cap' w' h1 h2 h2b h3)
/-- An owned row stays, where another one is grown. -/
theorem OwnC.grownO {B : Nat} {w w' : World} {g n cap h m c : Nat} {xs : List Int} (ho : OwnC B w (some ⟨g, 0, none⟩) n cap xs) (hg : w.grownBy w' (Value.slice (some ⟨h, 0, none⟩) m c).ownBlock) (hne : g ≠ h) : OwnC B w' (some ⟨g, 0, none⟩) n cap xs :=
  ho.keep fun g' hg' => by
    simp only [Option.some.injEq, Addr.mk.injEq, and_true] at hg'
    subst hg'
    exact hg.block _ (ho.base_of _ rfl).2 (fun e => hne (Option.some.inj e))
theorem add_small {p x y : Int} (hx : 0 ≤ x) (hy : 0 ≤ y) : (x + y).tmod p = (x + 1 * y) % p := by
  rw [Int.one_mul, Int.tmod_eq_emod_of_nonneg (by omega)]

set_option maxHeartbeats 2000000 in
theorem l_add9 (p : Int) (ax ay : Option Addr) (n cx cy : Nat) (x y : List Int) (w : World) (hp1 : 3 ≤ p) (hp2 : p ≤ 1000) (hn : n ≤ 4194303) (hx : RdC w ax n x) (hy : RdC w ay n y) (hgx : Good p n x) (hgy : Good p n y) :
    Calls Try.prog 15 #[.int .i64 p, .slice ax n cx, .slice ay n cy] w fun e w' => ∃ g rc, e = .returned (.slice (some ⟨g, 0, none⟩) n rc) ∧ OwnC w.heap.size w' (some ⟨g, 0, none⟩) n rc (plusL p x y 1 n) ∧ Ext w w' := by
  have HX := Lib.hid hx
  have HY := Lib.hid hy
  have HGX := Lib.hid hgx
  have HGY := Lib.hid hgy
  have hpz : ¬ p = 0 := by omega
  clear hx hy hgx hgy
  go_enter Try.func15, Try.ntmps15
  go_wp2_with (fail)
  go_loopw [7, 8] (fun o i wr => ∃ (j g rc : Nat), j ≤ n ∧ i = .int .i64 j ∧ o = .slice (some ⟨g, 0, none⟩) j rc ∧ OwnC w.heap.size wr (some ⟨g, 0, none⟩) j rc (plusL p x y 1 j) ∧ Ext w wr) (fun _ i _ => n - (intOf i).toNat)
  case atStart => exact ⟨0, _, 0, Nat.zero_le _, rfl, rfl, own_empty w, ext_alloc _ _⟩
  case round =>
    obtain ⟨j, g, rc, hj, rfl, rfl, hown, hext⟩ := hrel
    have HOwn := Lib.hid hown
    have HExt := Lib.hid hext
    clear hown hext
    by_cases hlt : j < n
    · obtain ⟨bx, ox, rfl, hcx⟩ := HX.out.2 j hlt
      obtain ⟨by', oy, rfl, hcy⟩ := HY.out.2 j hlt
      have Hcx := Lib.hid ((HExt.out.trans (ext_drew _)).cell hcx)
      have Hcy := Lib.hid ((HExt.out.trans (ext_drew _)).cell hcy)
      have hbx := HGX.out.2 j hlt
      have hby := HGY.out.2 j hlt
      have hw2 : IntKind.i64.wrap (nth x j + nth y j) = nth x j + nth y j := IntWalk.i64_in _ (by omega)
      have HM := Lib.hid (add_small (p := p) hbx.1 hby.1)
      have HPN : Hid (plusN p x y 1 j = (nth x j + 1 * nth y j) % p) := Lib.hid rfl
      obtain ⟨z, hz⟩ : ∃ z, z = (nth x j + nth y j).tmod p := ⟨_, rfl⟩
      have HZ := Lib.hid hz
      have HZP : Hid (z = plusN p x y 1 j) := Lib.hid (by rw [hz, HM.out, HPN.out])
      have hzb : 0 ≤ z ∧ z < p := by rw [hz, HM.out]; exact ⟨Int.emod_nonneg _ (by omega), Int.emod_lt_of_pos _ (by omega)⟩
      have hwz : (nth x j + nth y j).tmod p = z := hz.symm
      clear hcx hcy hz
      have hlt' : (j : Int) < (n : Int) := by omega
      go_wp2_with (fail)
      refine wp_region_lex_tail 13 [(12, .one z)] (by kernel_rfl) (by kernel_rfl) ?_
      simp only [List.take, List.drop]
      repeat' first | (refine LexW.pure (v := ?_) rfl rfl (fun w1 he => ?_) ?_; rotate_left; ( have e3 := he.cell Hcx.out; have e4 := he.cell Hcy.out; go_simp; rfl); simp only [Act.put, List.setIfInBounds_toArray, List.set_cons_zero, List.set_cons_succ]) | ((refine LexW.rel rfl rfl (fun w1 he hdep => ?_) (fun v hv => ?_); ( exact ⟨.slice (some ⟨w1.heap.size, 0, none⟩) 1 1, w1.alloc (.cells #[.int .i64 z] 2), (by go_simp), ext_alloc _ _, _, rfl, (by simp)⟩); simp only [Act.put, List.setIfInBounds_toArray, List.set_cons_zero, List.set_cons_succ]); obtain ⟨_, g9, rfl, _⟩ := hv)
      refine LexW.nil (fun w2 he hkn => ?_)
      obtain ⟨_, q9, r9⟩ : (SPred.one z).holds (.slice (some ⟨g9, 0, none⟩) 1 1) w2 := hkn (12, _) (by simp)
      cases q9
      have G2 := Lib.hid ((ext_drew _).trans he)
      have R9 := Lib.hid r9
      clear he hkn r9 hwz hw2
      go_wp2_with (at_builtin; refine wpList_push rfl (.tmp 22) (.tmp 34) rfl rfl rfl (v := z) (HOwn.out.ext G2.out) ?hc ?hn ?hB ?hk)
      case hc => exact R9.out
      case hn => omega
      case hB => exact (HExt.out.trans G2.out).size'
      case hk =>
        intro g' cap' w3 ho3 hg3 he3
        have HO3 := Lib.hid ho3
        have HE3 := Lib.hid (he3 w (Nat.le_refl _) (HExt.out.trans G2.out))
        clear ho3 hg3 he3
        go_wp2_with (fail)
        go_roundw
        case rel => exact ⟨j + 1, g', cap', by omega, by go_num, rfl, by rw [plusL_succ, ← HZP.out]; exact HO3.out, HE3.out⟩
        case measure => simp [intOf]; omega
    · obtain rfl : j = n := by omega
      have hlt' : ¬ (j : Int) < (j : Int) := by omega
      go_wp2_with (fail)
      go_ret
      exact ⟨g, rc, rfl, HOwn.out, HExt.out⟩
set_option maxHeartbeats 2000000 in
theorem l_scale9 (p k : Int) (ax : Option Addr) (n cx : Nat) (x : List Int) (w : World) (hp1 : 3 ≤ p) (hp2 : p ≤ 1000) (hk : -1000 ≤ k ∧ k ≤ 1000) (hn : n ≤ 4194303) (hx : RdC w ax n x) (hgx : Good p n x) :
    Calls Try.prog 16 #[.int .i64 p, .int .i64 k, .slice ax n cx] w fun e w' => ∃ g rc, e = .returned (.slice (some ⟨g, 0, none⟩) n rc) ∧ OwnC w.heap.size w' (some ⟨g, 0, none⟩) n rc (scaleL p x k n) ∧ Ext w w' := by
  have HX := Lib.hid hx
  have HGX := Lib.hid hgx
  have hpz : ¬ p = 0 := by omega
  clear hx hgx
  go_enter Try.func16, Try.ntmps16
  go_wp2_with (fail)
  go_loopw [7, 8] (fun o i wr => ∃ (j g rc : Nat), j ≤ n ∧ i = .int .i64 j ∧ o = .slice (some ⟨g, 0, none⟩) j rc ∧ OwnC w.heap.size wr (some ⟨g, 0, none⟩) j rc (scaleL p x k j) ∧ Ext w wr) (fun _ i _ => n - (intOf i).toNat)
  case atStart => exact ⟨0, _, 0, Nat.zero_le _, rfl, rfl, own_empty w, ext_alloc _ _⟩
  case round =>
    obtain ⟨j, g, rc, hj, rfl, rfl, hown, hext⟩ := hrel
    have HOwn := Lib.hid hown
    have HExt := Lib.hid hext
    clear hown hext
    by_cases hlt : j < n
    · obtain ⟨bx, ox, rfl, hcx⟩ := HX.out.2 j hlt
      have hcx' := HExt.out.cell hcx
      have hbx := HGX.out.2 j hlt
      have hkb := kmul_bd hk hbx.1 (show nth x j ≤ 1000 by omega)
      have hw1 : IntKind.i64.wrap (k * nth x j) = k * nth x j := IntWalk.i64_in _ (by omega)
      have HE := Lib.hid (num_eq (n := k * nth x j) (p := p) (by omega) hp2)
      have HSN : Hid (scaleN p x k j = (k * nth x j) % p) := Lib.hid (by unfold scaleN; rw [Int.mul_comm])
      obtain ⟨m, hm⟩ : ∃ m, m = k * nth x j := ⟨_, rfl⟩
      rw [← hm] at HE HSN hkb
      have hm' : k * nth x j = m := hm.symm
      rw [hm'] at hw1
      obtain ⟨z, hz⟩ : ∃ z, z = m % p := ⟨_, rfl⟩
      rw [← hz] at HE HSN
      clear hcx hm hz
      have hlt' : (j : Int) < (n : Int) := by omega
      go_wp2_with (at_builtin; refine wpList_push rfl (.tmp 16) (.tmp 29) rfl rfl rfl (v := (wrap64 (m.tmod p + p)).tmod p) (HOwn.out.ext (ext_alloc _ _)) ?hc ?hn ?hB ?hk)
      case hc => simp
      case hn => omega
      case hB => have := HExt.out.size'; simp; omega
      case hk =>
        intro g' cap' w3 ho3 hg3 he3
        rw [HE.out] at ho3
        have HO3 := Lib.hid ho3
        have HE3 := Lib.hid (he3 w (Nat.le_refl _) (HExt.out.trans (ext_alloc _ _)))
        clear ho3 hg3 he3 hcx' hm' hw1
        go_wp2_with (fail)
        go_roundw
        case rel => exact ⟨j + 1, g', cap', by omega, by go_num, rfl, by rw [scaleL_succ, HSN.out]; exact HO3.out, HE3.out⟩
        case measure => simp [intOf]; omega
    · obtain rfl : j = n := by omega
      have hlt' : ¬ (j : Int) < (j : Int) := by omega
      go_wp2_with (fail)
      go_ret
      exact ⟨g, rc, rfl, HOwn.out, HExt.out⟩
end Go.Proofs.Ytcocbainookkcaa

/-
  What is known of the arguments of a law in memory, read off the form's own words.
  No condition.
-/
namespace Go.Proofs.Ytcocbainookkcaa
set_option maxRecDepth 100000
open Go.ChangeShapes Go.WideShapes Go.ChangeAt Go.RowKit Go.Joins

theorem own : ownKnob Try.prog.godebug = none := by kernel_rfl
theorem laidOut : laidOutB Try.prog = true := by kernel_rfl
theorem Try.cellsI : Try.prog.cellsOf 2 = 1 := by kernel_rfl
theorem Try.cellsR : Try.prog.cellsOf 24 = 1 := by kernel_rfl

theorem add_cell {w : World} {x : Addr} {i : Nat} {v v0 : Value} (h0 : w.cell? (x.add 0) = some v0) (h : w.cell? (x.add i) = some v) : ∃ b off, some x = some (⟨b, off, none⟩ : Addr) ∧ w.cell? ⟨b, off + i, none⟩ = some v := by
  obtain ⟨b, off, spot⟩ := x
  cases spot with
  | none =>
    refine ⟨b, off, rfl, ?_⟩
    unfold Addr.add at h
    split at h
    · rename_i hi; subst hi; exact h
    · exact h
  | some s =>
    simp only [World.cell?, Addr.add, if_true] at h0
    split at h0
    · simp at h0
    · cases h0

theorem read_cells {H : Type} {enc : TypeId × Value → H} {W : World} {fuel : Nat} {v : Value} {x : DataW H × List MemPlace}
    (hf : DataW.trod enc Try.prog W 0 (fun _ => true) true fuel 24 [v] = some x) : ∃ a n cap xs, v = .slice a n cap ∧ RdC W a n xs ∧ n ≤ maxLen := by
  rcases open_ints Try.underlying24 Try.underlying2 Try.cellsI hf with ⟨hcs, _⟩ | ⟨y, l, c, zs, hcs, _, hl, hm, hz, _, hcell, hwz⟩
  · simp only [List.cons.injEq, and_true] at hcs
    exact ⟨none, 0, 0, [], hcs, ⟨rfl, fun i hi => by omega⟩, by omega⟩
  · simp only [List.cons.injEq, and_true] at hcs
    have hz' : zs.length = c := by simpa using hz
    refine ⟨some y, l, c, zs.take l, hcs, ⟨by simp; omega, fun i hi => ?_⟩, by omega⟩
    obtain ⟨b, off, h1, h2⟩ := add_cell (hcell 0 (by omega)) (hcell i (by omega))
    refine ⟨b, off, h1, ?_⟩
    rw [h2]
    simp [nth, List.getElem?_take_of_lt hi]

theorem read_ints {H : Type} {enc : TypeId × Value → H} {W : World} {base : Nat} {v : Value} {d : DataW H} {p : List MemPlace}
    (hv : Value.okWide Try.prog W .any base 24 v) (h : DataW.Trod enc Try.prog W 0 (fun _ => true) true 24 v d p) : ∃ a n cap xs, v = .slice a n cap ∧ RdC W a n xs ∧ n ≤ maxLen := by
  obtain ⟨a0, len0, cap0, rfl⟩ := okWide_slice Try.underlying24 hv
  obtain ⟨fuel, hf⟩ := h
  exact read_cells (by simpa [Value.cells] using hf)


end Go.Proofs.Ytcocbainookkcaa

/-
  What is known of the bytes that a law is handed.
  No condition.
-/
namespace Go.Proofs.Ytcocbainookkcaa
set_option maxRecDepth 100000
open Go.ChangeShapes Go.WideShapes Go.ChangeAt Go.RowKit Go.Joins

theorem Try.cellsB : Try.prog.cellsOf 5 = 1 := by kernel_rfl

theorem read_bytes {H : Type} {enc : TypeId × Value → H} {W : World} {base : Nat} {v : Value} {d : DataW H} {p : List MemPlace}
    (hv : Value.okWide Try.prog W .any base 22 v) (h : DataW.Trod enc Try.prog W 0 (fun _ => true) true 22 v d p) : ∃ a n cap, v = .slice a n cap ∧ RdY W a n := by
  obtain ⟨a0, len0, cap0, rfl⟩ := okWide_slice Try.underlying22 hv
  obtain ⟨fuel, hf⟩ := h
  have hf' : DataW.trod enc Try.prog W 0 (fun _ => true) true fuel 22 [.slice a0 len0 cap0] = some (d, p) := by simpa [Value.cells] using hf
  rcases open_ints Try.underlying22 Try.underlying5 Try.cellsB hf' with ⟨hcs, _⟩ | ⟨y, l, c, zs, hcs, _, hl, hm, hz, _, hcell, hwz⟩
  · simp only [List.cons.injEq, and_true] at hcs
    exact ⟨none, 0, 0, hcs, fun i hi => by omega⟩
  · simp only [List.cons.injEq, and_true] at hcs
    have hz' : zs.length = c := by simpa using hz
    refine ⟨some y, l, c, hcs, fun i hi => ?_⟩
    obtain ⟨b, off, h1, h2⟩ := add_cell (hcell 0 (by omega)) (hcell i (by omega))
    have hi' : i < zs.length := by omega
    have hw := hwz (zs.getD i 0) (by rw [List.getD_eq_getElem?_getD, List.getElem?_eq_getElem hi']; exact List.getElem_mem hi')
    refine ⟨b, off, zs.getD i 0, h1, h2, ?_⟩
    replace hw : (decide (IntKind.u8.min ≤ zs.getD i 0) && decide (zs.getD i 0 ≤ IntKind.u8.max)) = true := hw
    have h8 : IntKind.u8.min = 0 ∧ IntKind.u8.max = 255 := by decide
    rw [h8.1, h8.2] at hw
    simp only [Bool.and_eq_true, decide_eq_true_eq] at hw
    omega
end Go.Proofs.Ytcocbainookkcaa
