/-
  Kernels, solutions and inverses from reduced bases, in plain words.
  No condition.
-/
import Derived.Test.YthimjfnmpicbiaaGauss
import Derived.Test.YthimjfnmpicbiaaIdem
namespace Go.Proofs.Ythimjfnmpicbiaa
set_option maxRecDepth 100000
open Go.RowKit

/-- The row whose first number other than 0 is at place t. -/
def pivIx (red : List (List Int)) (t : Nat) : Option Nat := (List.range red.length).find? (fun i => leadN (nthR red i) == t)
theorem pivIx_some {red : List (List Int)} {t i : Nat} (h : pivIx red t = some i) : i < red.length ∧ leadN (nthR red i) = t := by
  unfold pivIx at h
  rw [List.find?_range_eq_some] at h
  exact ⟨by simpa using h.2.1, by simpa using h.1⟩
theorem pivIx_none {red : List (List Int)} {t : Nat} (h : pivIx red t = none) : ∀ i, i < red.length → leadN (nthR red i) ≠ t := by
  unfold pivIx at h
  rw [List.find?_range_eq_none] at h
  intro i hi
  simpa using h i hi

theorem Basis.leadN {p : Int} {m : Nat} {red : List (List Int)} {c : Nat → Nat} (h : Basis p m red c) {i : Nat} (hi : i < red.length) : leadN (nthR red i) = c i := by
  have hl := (h.good i hi).1
  have hc := h.clt i hi
  refine leadN_eq (by omega) (h.lead i hi) (.inr ?_)
  rw [h.one i hi i hi, if_pos rfl]
  omega
theorem Basis.inj {p : Int} {m : Nat} {red : List (List Int)} {c : Nat → Nat} (h : Basis p m red c) {i j : Nat} (hi : i < red.length) (hj : j < red.length) (he : c i = c j) : i = j := by
  rcases Nat.lt_trichotomy i j with hij | hij | hij
  · have := h.mono i j hij hj; omega
  · exact hij
  · have := h.mono j i hij hi; omega
theorem Basis.piv {p : Int} {m : Nat} {red : List (List Int)} {c : Nat → Nat} (h : Basis p m red c) {i : Nat} (hi : i < red.length) : pivIx red (c i) = some i := by
  cases hp : pivIx red (c i) with
  | none => exact absurd (h.leadN hi) (pivIx_none hp i hi)
  | some j =>
    obtain ⟨hj, hl⟩ := pivIx_some hp
    rw [h.leadN hj] at hl
    rw [h.inj hj hi hl]

/-- The vector of the kernel with 1 at a free place f. -/
def kerN (p : Int) (red : List (List Int)) (f t : Nat) : Int := if t = f then 1 else match pivIx red t with | some i => (-(nth (nthR red i) f)) % p | none => 0
def kerV (p : Int) (n : Nat) (red : List (List Int)) (f : Nat) : List Int := (List.range n).map (kerN p red f)
theorem kerV_len {p : Int} {n : Nat} {red : List (List Int)} {f : Nat} : (kerV p n red f).length = n := by simp [kerV]
theorem kerV_nth {p : Int} {n : Nat} {red : List (List Int)} {f t : Nat} (ht : t < n) : nth (kerV p n red f) t = kerN p red f t := by
  unfold kerV; rw [nth_map (by simpa using ht)]; simp
theorem kerV_good {p : Int} {n : Nat} {red : List (List Int)} {f : Nat} (hp : 3 ≤ p) : Good p n (kerV p n red f) := ⟨kerV_len, fun t ht => by
  rw [kerV_nth ht]
  unfold kerN
  split
  · omega
  · split
    · exact ⟨Int.emod_nonneg _ (by omega), Int.emod_lt_of_pos _ (by omega)⟩
    · omega⟩
/-- The free places ahead of k. -/
def freeL (red : List (List Int)) (k : Nat) : List Nat := (List.range k).filter fun t => (pivIx red t).isNone
theorem freeL_no {red : List (List Int)} {k i : Nat} (h : pivIx red k = some i) : freeL red (k + 1) = freeL red k := by simp [freeL, List.range_succ, List.filter_append, h]
theorem freeL_yes {red : List (List Int)} {k : Nat} (h : pivIx red k = none) : freeL red (k + 1) = freeL red k ++ [k] := by simp [freeL, List.range_succ, List.filter_append, h]
theorem freeL_len (red : List (List Int)) (k : Nat) : (freeL red k).length ≤ k := by
  unfold freeL
  have := List.length_filter_le (fun t => (pivIx red t).isNone) (List.range k)
  simpa using this
def kerR (p : Int) (n : Nat) (red : List (List Int)) (k : Nat) : List (List Int) := (freeL red k).map (kerV p n red)
theorem kerR_good {p : Int} {n : Nat} {red : List (List Int)} {k : Nat} (hp : 3 ≤ p) : RowsG p n (kerR p n red k) := fun i hi => by
  unfold kerR at hi ⊢
  rw [nthR_map (by simpa using hi)]
  exact kerV_good hp
/-- The reduced basis of the vectors with n numbers whose products with all rows are 0. -/
def kernL (p : Int) (n : Nat) (rows : List (List Int)) : List (List Int) := basisL p n (kerR p n (basisL p n rows) n)

/-- The solution that is 0 at all free places. -/
def wideL (rows : List (List Int)) (v : List Int) (k : Nat) : List (List Int) := (List.range k).map fun i => nthR rows i ++ [nth v i]
theorem wideL_succ (rows : List (List Int)) (v : List Int) (k : Nat) : wideL rows v (k + 1) = wideL rows v k ++ [nthR rows k ++ [nth v k]] := by simp [wideL, List.range_succ]
theorem wideL_len (rows : List (List Int)) (v : List Int) (k : Nat) : (wideL rows v k).length = k := by simp [wideL]
theorem good_snoc {p : Int} {n : Nat} {x : List Int} {v : Int} (hx : Good p n x) (h0 : 0 ≤ v) (h1 : v < p) : Good p (n + 1) (x ++ [v]) := by
  refine ⟨by simp [hx.1], fun i hi => ?_⟩
  by_cases h : i < n
  · rw [nth_append_left (by rw [hx.1]; exact h)]; exact hx.2 i h
  · have : i = x.length := by rw [hx.1]; omega
    rw [this, nth_append_len]; exact ⟨h0, h1⟩
theorem wideL_good {p : Int} {n : Nat} {rows : List (List Int)} {v : List Int} {k : Nat} (hg : RowsG p n rows) (hv : Good p k v) (hk : k ≤ rows.length) : RowsG p (n + 1) (wideL rows v k) := fun i hi => by
  rw [wideL_len] at hi
  unfold wideL
  rw [nthR_map (by simpa using hi)]
  simp only [List.getElem_range]
  exact good_snoc (hg i (by omega)) (hv.2 i hi).1 (hv.2 i hi).2
def solN (n : Nat) (red : List (List Int)) (t : Nat) : Int := match pivIx red t with | some i => nth (nthR red i) n | none => 0
def solL (n : Nat) (red : List (List Int)) : List Int := (List.range n).map (solN n red)
def okS (n : Nat) (red : List (List Int)) : Bool := (pivIx red n).isNone
/-- The solution as it stands when the first k rows have been gone through. -/
def solS (n : Nat) (red : List (List Int)) : Nat → List Int
  | 0 => List.replicate n 0
  | k + 1 => (solS n red k).set (leadN (nthR red k)) (nth (nthR red k) n)
theorem solS_len {n : Nat} {red : List (List Int)} : ∀ k, (solS n red k).length = n
  | 0 => by simp [solS]
  | k + 1 => by simp [solS, solS_len k]
theorem solS_nth {p : Int} {m n : Nat} {red : List (List Int)} {c : Nat → Nat} (h : Basis p m red c) : ∀ k, k ≤ red.length → ∀ t, t < n → nth (solS n red k) t = match pivIx red t with | some i => if i < k then nth (nthR red i) n else 0 | none => 0
  | 0, _, t, ht => by
    unfold solS
    rw [nth_replicate ht]
    split
    · rw [if_neg (by omega)]
    · rfl
  | k + 1, hk, t, ht => by
    have ih := solS_nth h k (by omega) t ht (n := n)
    show nth ((solS n red k).set (leadN (nthR red k)) (nth (nthR red k) n)) t = _
    by_cases hl : leadN (nthR red k) = t
    · have hkl : k < red.length := by omega
      rw [hl, nth_set (by rw [solS_len]; exact ht), if_pos rfl]
      have hp : pivIx red t = some k := by rw [← hl, h.leadN hkl]; exact h.piv hkl
      rw [hp]
      show _ = if k < k + 1 then _ else _
      rw [if_pos (by omega)]
    · have e : nth ((solS n red k).set (leadN (nthR red k)) (nth (nthR red k) n)) t = nth (solS n red k) t := by
        simp only [nth]
        rw [List.getD_eq_getElem?_getD, List.getElem?_set_ne hl, ← List.getD_eq_getElem?_getD]
      rw [e, ih]
      cases hp : pivIx red t with
      | none => rfl
      | some i =>
        show (if i < k then _ else _) = if i < k + 1 then _ else _
        have : i ≠ k := fun hik => by subst hik; exact hl (pivIx_some hp).2
        by_cases hi : i < k
        · rw [if_pos hi, if_pos (by omega)]
        · rw [if_neg hi, if_neg (by omega)]
theorem solS_all {p : Int} {m n : Nat} {red : List (List Int)} {c : Nat → Nat} (h : Basis p m red c) : solS n red red.length = solL n red := by
  refine ext_nth (by rw [solS_len]; simp [solL]) fun t ht => ?_
  rw [solS_len] at ht
  rw [solS_nth h _ (Nat.le_refl _) t ht]
  unfold solL
  rw [nth_map (by simpa using ht)]
  simp only [List.getElem_range]
  unfold solN
  cases hp : pivIx red t with
  | none => rfl
  | some i => show (if i < red.length then _ else _) = _; rw [if_pos (pivIx_some hp).1]
theorem nth_bd0 {p : Int} {m : Nat} {x : List Int} (hp : 1 ≤ p) (hx : Good p m x) (i : Nat) : 0 ≤ nth x i ∧ nth x i < p := by
  by_cases h : i < m
  · exact hx.2 i h
  · have : nth x i = 0 := by
      simp only [nth, List.getD_eq_getElem?_getD]
      rw [List.getElem?_eq_none (by rw [hx.1]; omega)]; rfl
    omega
theorem sol_good {p : Int} {m n : Nat} {red : List (List Int)} (hp : 1 ≤ p) (hg : RowsG p m red) : Good p n (solL n red) := ⟨by simp [solL], fun t ht => by
  unfold solL
  rw [nth_map (by simpa using ht)]
  simp only [List.getElem_range]
  unfold solN
  split
  · rename_i i h; exact nth_bd0 hp (hg i (pivIx_some h).1) n
  · omega⟩

end Go.Proofs.Ythimjfnmpicbiaa
