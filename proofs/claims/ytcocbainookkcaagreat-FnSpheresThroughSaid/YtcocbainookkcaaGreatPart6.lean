/-
  Contracts and plain laws, part 6: Rank, DetP, Top5B, Mat, Basis, Scale, BasisS, Ideal, Matrix, IsoP.
  No condition.
-/
import Derived.Test.YtcocbainookkcaaGreatPart5
import Derived.Test.YtcocbainookkcaaGreatPart4
import Derived.Test.YtcocbainookkcaaGreatPart3
import Derived.Test.YtcocbainookkcaaGreatPart2
import Derived.RegionTactic
import Derived.ChangeAlike
/-
  The rank of the first columns; a column that no combination of the earlier ones makes raises it.
  No condition. No program in sight.
-/
namespace Go.Proofs.YtcocbainookkcaaGreat
set_option maxRecDepth 100000
open Go.RowKit

def truncL (m : Nat) (rows : List (List Int)) : List (List Int) := rows.map fun r => r.take m
theorem truncL_len {m : Nat} {rows : List (List Int)} : (truncL m rows).length = rows.length := by simp [truncL]
theorem truncL_nth {m i : Nat} {rows : List (List Int)} : nthR (truncL m rows) i = (nthR rows i).take m := by
  by_cases hi : i < rows.length
  · unfold truncL; rw [nthR_map hi, nthR_eq hi]
  · have h1 : nthR (truncL m rows) i = [] := by simp [nthR, truncL, List.getElem?_eq_none (Nat.le_of_not_lt hi)]
    have h2 : nthR rows i = [] := by simp [nthR, List.getElem?_eq_none (Nat.le_of_not_lt hi)]
    rw [h1, h2, List.take_nil]
theorem nth_take {m t : Nat} {x : List Int} (ht : t < m) : nth (x.take m) t = nth x t := by
  simp [nth, List.getElem?_take_of_lt ht]
theorem plus_take {p k : Int} {m m' : Nat} {x y : List Int} (h : m' ≤ m) : (plusL p x y k m).take m' = plusL p (x.take m') (y.take m') k m' := by
  refine ext_nth (by rw [List.length_take, plusL_len, plusL_len, Nat.min_eq_left h]) fun i hi => ?_
  rw [List.length_take, plusL_len, Nat.min_eq_left h] at hi
  rw [nth_take hi, plusL_nth (by omega), plusL_nth hi, plusN, plusN, nth_take hi, nth_take hi]
theorem scale_take {p k : Int} {m m' : Nat} {x : List Int} (h : m' ≤ m) : (scaleL p x k m).take m' = scaleL p (x.take m') k m' := by
  refine ext_nth (by rw [List.length_take, scaleL_len, scaleL_len, Nat.min_eq_left h]) fun i hi => ?_
  rw [List.length_take, scaleL_len, Nat.min_eq_left h] at hi
  rw [nth_take hi, scaleL_nth (by omega), scaleL_nth hi, scaleN, scaleN, nth_take hi]
theorem piv_trunc {m k d : Nat} {rows : List (List Int)} (hk : k < m) (hd : d ≤ rows.length) : pivG (truncL m rows) k d = pivG rows k d := by
  obtain ⟨h1, h2, h3, h4⟩ := pivG_spec rows k d hd
  refine pivG_eq h1 (by rw [truncL_len]; exact h2) (fun j hj hj2 => by rw [truncL_nth, nth_take hk]; exact h3 j hj hj2) ?_
  rcases h4 with h4 | h4
  · left; rw [truncL_len]; exact h4
  · right; rw [truncL_nth, nth_take hk]; exact h4
theorem step_trunc {p : Int} {m m' d k : Nat} {rows : List (List Int)} (h : m' ≤ m) (hk : k < m') (hd : d ≤ rows.length) :
    stepG p m' (truncL m' rows, d) k = (truncL m' (stepG p m (rows, d) k).1, (stepG p m (rows, d) k).2) := by
  have hp := piv_trunc (m := m') (k := k) (d := d) (rows := rows) hk hd
  obtain ⟨p1, p2, _, _⟩ := pivG_spec rows k d hd
  by_cases hn : pivG rows k d = rows.length
  · rw [stepG_no (s := (rows, d)) hn, stepG_no (s := (truncL m' rows, d)) (by rw [hp, truncL_len]; exact hn)]
  · obtain ⟨i, hi⟩ : ∃ i, i = pivG rows k d := ⟨_, rfl⟩
    rw [← hi] at hp p1 p2 hn
    have hil : i < rows.length := by omega
    have hdl : d < rows.length := by omega
    rw [stepG_yes (s := (rows, d)) hi.symm hil, stepG_yes (s := (truncL m' rows, d)) hp (by rw [truncL_len]; exact hil)]
    refine Prod.ext ?_ rfl
    show clrS p k m' d (upG p m' (truncL m' rows) d k i) (truncL m' rows).length = truncL m' (clrS p k m d (upG p m rows d k i) rows.length)
    have hu : ∀ j, nthR (upG p m' (truncL m' rows) d k i) j = (nthR (upG p m rows d k i) j).take m' := fun j => by
      rw [upG_nth (by rw [truncL_len]; exact hdl) (by rw [truncL_len]; exact hil), upG_nth hdl hil, truncL_nth, truncL_nth, truncL_nth, nth_take hk]
      split
      · rw [scale_take h]
      · split <;> rfl
    refine ext_rows (by rw [clrS_len, upG_len, truncL_len, truncL_len, clrS_len, upG_len]) fun j hj => ?_
    rw [clrS_len, upG_len, truncL_len] at hj
    rw [truncL_nth, truncL_len, clrS_nth _ (by rw [upG_len, truncL_len]; exact Nat.le_refl _), clrS_nth _ (by rw [upG_len]; exact Nat.le_refl _), hu, hu, nth_take hk]
    split
    · rw [plus_take h]
    · rfl
theorem gauss_trunc {p : Int} {m m' : Nat} {rows : List (List Int)} (hp : primeB p = true) (hg : RowsG p m rows) (h : m' ≤ m) : ∀ j, j ≤ m' → gaussS p m' (truncL m' rows) j = (truncL m' (gaussS p m rows j).1, (gaussS p m rows j).2)
  | 0, _ => rfl
  | j + 1, hj => by
    show stepG p m' (gaussS p m' (truncL m' rows) j) j = (truncL m' (stepG p m (gaussS p m rows j) j).1, (stepG p m (gaussS p m rows j) j).2)
    rw [gauss_trunc hp hg h j (by omega)]
    obtain ⟨_, c, hr⟩ := gaussS_red hp hg j (by omega)
    exact step_trunc h (by omega) hr.dle
def rankL (p : Int) (m : Nat) (rows : List (List Int)) : Nat := (gaussS p m rows m).2
theorem rank_le {p : Int} {m : Nat} {rows : List (List Int)} (hp : primeB p = true) (hg : RowsG p m rows) : rankL p m rows ≤ rows.length := (gauss_rank hp hg).1
/-- A further column that has no combination raises the rank. -/
theorem rank_up {p : Int} {m : Nat} {rows : List (List Int)} (hp : primeB p = true) (hg : RowsG p (m + 1) rows) (h : okS m (basisL p (m + 1) rows) = false) : rankL p (m + 1) rows = rankL p m (truncL m rows) + 1 := by
  have ht := gauss_trunc hp hg (Nat.le_succ m) m (Nat.le_refl _)
  have hr : rankL p m (truncL m rows) = (gaussS p (m + 1) rows m).2 := by unfold rankL; rw [ht]
  rw [hr]
  obtain ⟨h1, c, h2⟩ := gaussS_red hp hg m (by omega)
  obtain ⟨p1, p2, _, _⟩ := pivG_spec (gaussS p (m + 1) rows m).1 m (gaussS p (m + 1) rows m).2 h2.dle
  by_cases hn : pivG (gaussS p (m + 1) rows m).1 m (gaussS p (m + 1) rows m).2 = (gaussS p (m + 1) rows m).1.length
  · exfalso
    have e : gaussS p (m + 1) rows (m + 1) = gaussS p (m + 1) rows m := stepG_no hn
    -- no pivot in the last column: all first numbers stand ahead of it
    have hl : (basisL p (m + 1) rows).length = (gaussS p (m + 1) rows m).2 := by unfold basisL; rw [e, List.length_take, Nat.min_eq_left h2.dle]
    have hnn : ∀ i, i < (gaussS p (m + 1) rows m).2 → nthR (basisL p (m + 1) rows) i = nthR (gaussS p (m + 1) rows m).1 i := fun i hi => by unfold basisL; rw [e]; exact nthR_take hi
    have hd := h2.dle
    have ok : okS m (basisL p (m + 1) rows) = true := by
      unfold okS
      rw [Option.isNone_iff_eq_none]
      cases hp' : pivIx (basisL p (m + 1) rows) m with
      | none => rfl
      | some i =>
        obtain ⟨hi, hle⟩ := pivIx_some hp'
        have hi2 : i < (gaussS p (m + 1) rows m).2 := by omega
        have hc := h2.clt i hi2
        have hgl := (h1 i (by omega)).1
        have : leadN (nthR (basisL p (m + 1) rows) i) = c i := by
          rw [hnn i hi2]
          refine leadN_eq (by omega) (h2.lead i hi2) (.inr ?_)
          rw [h2.one i hi2 i (by omega), if_pos rfl]; omega
        omega
    rw [h] at ok; cases ok
  · unfold rankL
    show (stepG p (m + 1) (gaussS p (m + 1) rows m) m).2 = _
    rw [stepG_yes rfl (by omega)]
theorem trunc_wide {p : Int} {m n : Nat} {rows : List (List Int)} {u : List Int} (hg : RowsG p m rows) (hn : rows.length = n) : truncL m (wideL rows u n) = rows := by
  refine ext_rows (by rw [truncL_len, wideL_len, hn]) fun i hi => ?_
  rw [truncL_len, wideL_len] at hi
  rw [truncL_nth]
  have e : nthR (wideL rows u n) i = nthR rows i ++ [nth u i] := by unfold wideL; rw [nthR_map (by simpa using hi)]; simp
  rw [e, List.take_append_of_le_length (by rw [(hg i (by omega)).1]; exact Nat.le_refl _), List.take_of_length_le (by rw [(hg i (by omega)).1]; exact Nat.le_refl _)]

end Go.Proofs.YtcocbainookkcaaGreat

/-
  The determinant by elimination, plain: it is not 0 exactly if the rows have full rank; rows of lesser rank lead a vector to 0.
  No condition.
-/
namespace Go.Proofs.YtcocbainookkcaaGreat
set_option maxRecDepth 100000
open Go.RowKit

/-- Row k is taken, so often as needed, from all rows behind it. -/
def elimN (p : Int) (m k : Nat) (rows : List (List Int)) (r : Nat) : List Int := if k < r then plusL p (nthR rows r) (nthR rows k) (-(nth (nthR rows r) k) * invN p (nth (nthR rows k) k)) m else nthR rows r
def elimS (p : Int) (m k : Nat) (rows : List (List Int)) : Nat → List (List Int)
  | 0 => rows
  | r + 1 => if k < r then (elimS p m k rows r).set r (elimN p m k rows r) else elimS p m k rows r
theorem elimS_len {p : Int} {m k : Nat} {rows : List (List Int)} : ∀ r, (elimS p m k rows r).length = rows.length
  | 0 => rfl
  | r + 1 => by rw [elimS]; split <;> simp [elimS_len r]
theorem elimS_nth {p : Int} {m k : Nat} {rows : List (List Int)} : ∀ r, r ≤ rows.length → ∀ j, nthR (elimS p m k rows r) j = if j < r then elimN p m k rows j else nthR rows j
  | 0, _, j => by simp [elimS]
  | r + 1, h, j => by
    have ih := elimS_nth (p := p) (m := m) (k := k) (rows := rows) r (by omega) j
    rw [elimS]
    by_cases hk : k < r
    · rw [if_pos hk, nthR_set (by rw [elimS_len]; omega)]
      by_cases hj : r = j
      · subst hj; rw [if_pos rfl, if_pos (by omega)]
      · rw [if_neg hj, ih]
        by_cases hjr : j < r
        · rw [if_pos hjr, if_pos (by omega)]
        · rw [if_neg hjr, if_neg (by omega)]
    · rw [if_neg hk, ih]
      by_cases hjr : j < r
      · rw [if_pos hjr, if_pos (by omega)]
      · rw [if_neg hjr]
        by_cases hj : j < r + 1
        · rw [if_pos hj]; unfold elimN; rw [if_neg (by omega)]
        · rw [if_neg hj]
def elimL (p : Int) (m k : Nat) (rows : List (List Int)) : List (List Int) := elimS p m k rows rows.length
theorem elimL_len {p : Int} {m k : Nat} {rows : List (List Int)} : (elimL p m k rows).length = rows.length := elimS_len _
theorem elimL_nth {p : Int} {m k : Nat} {rows : List (List Int)} {j : Nat} (hj : j < rows.length) : nthR (elimL p m k rows) j = elimN p m k rows j := by
  unfold elimL; rw [elimS_nth _ (Nat.le_refl _), if_pos hj]
theorem elimL_good {p : Int} {m k : Nat} {rows : List (List Int)} (hp : 1 ≤ p) (h : RowsG p m rows) : RowsG p m (elimL p m k rows) := fun i hi => by
  rw [elimL_len] at hi
  rw [elimL_nth hi]
  unfold elimN
  split
  · exact plus_good hp
  · exact h i hi

/-- The rows and the factor when k columns are done; nothing, when a column had no number other than 0. -/
def detS (p : Int) (m : Nat) (rows : List (List Int)) : Nat → Option (List (List Int) × Int)
  | 0 => some (rows, 1)
  | k + 1 => match detS p m rows k with
    | none => none
    | some (r, o) => if pivG r k k = r.length then none
      else some (elimL p m k (swapL r k (pivG r k k)), ((if pivG r k k = k then o else (-o) % p) * nth (nthR r (pivG r k k)) k) % p)
def detL (p : Int) (m : Nat) (rows : List (List Int)) : Int := match detS p m rows rows.length with | none => 0 | some (_, o) => o

theorem detS_good {p : Int} {m : Nat} {rows : List (List Int)} (hp : 1 ≤ p) (hg : RowsG p m rows) : ∀ k, k ≤ rows.length → ∀ r o, detS p m rows k = some (r, o) → RowsG p m r ∧ r.length = rows.length
  | 0, _, r, o, h => by
    simp only [detS, Option.some.injEq, Prod.mk.injEq] at h
    obtain ⟨rfl, _⟩ := h
    exact ⟨hg, rfl⟩
  | k + 1, hk, r, o, h => by
    rw [detS] at h
    cases hd : detS p m rows k with
    | none => rw [hd] at h; cases h
    | some ro =>
      obtain ⟨r1, o1⟩ := ro
      rw [hd] at h
      simp only at h
      obtain ⟨h1, h2⟩ := detS_good hp hg k (by omega) r1 o1 hd
      split at h
      · cases h
      · rename_i hne
        simp only [Option.some.injEq, Prod.mk.injEq] at h
        obtain ⟨rfl, _⟩ := h
        have hpv := pivG_spec r1 k k (by omega)
        exact ⟨elimL_good hp (swapL_good h1 (by omega) (by omega)), by rw [elimL_len, swapL_len, h2]⟩

theorem pivG_congr {r s : List (List Int)} {k : Nat} (hl : r.length = s.length) (h : ∀ j, k ≤ j → nthR r j = nthR s j) (hk : k ≤ r.length) : pivG r k k = pivG s k k := by
  obtain ⟨h1, h2, h3, h4⟩ := pivG_spec s k k (by omega)
  refine pivG_eq h1 (by omega) (fun j hj hj2 => by rw [h j hj]; exact h3 j hj hj2) ?_
  rcases h4 with h4 | h4
  · exact .inl (by omega)
  · exact .inr (by rw [h _ h1]; exact h4)
theorem plus_scale {p c k : Int} {m : Nat} {x y : List Int} (_hp : 1 ≤ p) : plusL p x (scaleL p y c m) k m = plusL p x y (k * c) m := by
  refine ext_nth (by rw [plusL_len, plusL_len]) fun t ht => ?_
  rw [plusL_len] at ht
  rw [plusL_nth ht, plusL_nth ht, plusN, plusN, scaleL_nth ht, scaleN]
  rw [Int.add_emod, Int.mul_emod, Int.emod_emod, ← Int.mul_emod, ← Int.add_emod]
  congr 2
  rw [Int.mul_comm (nth y t), Int.mul_assoc]

/-- The elimination of the determinant and that of the reduced basis find the same numbers. -/
theorem det_gauss {p : Int} {m : Nat} {rows : List (List Int)} (hp : primeB p = true) (hg : RowsG p m rows) (hm : rows.length ≤ m) : ∀ k, k ≤ rows.length →
    (∀ r o, detS p m rows k = some (r, o) → (gaussS p m rows k).2 = k ∧ (∀ j, k ≤ j → nthR (gaussS p m rows k).1 j = nthR r j) ∧ 0 < o ∧ o < p) ∧ (detS p m rows k = none → (gaussS p m rows k).2 < k)
  | 0, _ => by
    have hpb := prime_bd hp
    refine ⟨fun r o h => ?_, fun h => by simp [detS] at h⟩
    simp only [detS, Option.some.injEq, Prod.mk.injEq] at h
    obtain ⟨rfl, rfl⟩ := h
    exact ⟨rfl, fun j _ => rfl, by omega, by omega⟩
  | k + 1, hk => by
    have hpb := prime_bd hp
    obtain ⟨ih1, ih2⟩ := det_gauss hp hg hm k (by omega)
    have hle : (gaussS p m rows (k + 1)).2 ≤ (gaussS p m rows k).2 + 1 := by
      rw [gaussS, stepG]; split <;> simp
    have hgl := gaussS_len (p := p) (m := m) (rows := rows) k
    obtain ⟨hgg, c, hred⟩ := gaussS_red hp hg k (by omega)
    cases hd : detS p m rows k with
    | none =>
      have := ih2 hd
      refine ⟨fun r o h => ?_, fun _ => by omega⟩
      rw [detS, hd] at h; cases h
    | some ro =>
      obtain ⟨r1, o1⟩ := ro
      obtain ⟨e1, e2, e3, e4⟩ := ih1 r1 o1 hd
      obtain ⟨g1, g2⟩ := detS_good (by omega) hg k (by omega) r1 o1 hd
      have hpiv : pivG (gaussS p m rows k).1 k k = pivG r1 k k := pivG_congr (by omega) e2 (by omega)
      obtain ⟨h1, h2, h3, h4⟩ := pivG_spec r1 k k (by omega)
      by_cases hno : pivG r1 k k = r1.length
      · have hst : gaussS p m rows (k + 1) = gaussS p m rows k := by
          rw [gaussS]
          exact stepG_no (by rw [e1, hpiv, hno]; omega)
        refine ⟨fun r o h => ?_, fun _ => by rw [hst]; omega⟩
        rw [detS, hd] at h
        simp only [hno, if_true] at h
        cases h
      · have hne : nth (nthR r1 (pivG r1 k k)) k ≠ 0 := by
          rcases h4 with h4 | h4
          · exact absurd h4 hno
          · exact h4
        have hil : pivG r1 k k < r1.length := by omega
        have hst := stepG_yes (p := p) (m := m) (s := gaussS p m rows k) (k := k) (i := pivG r1 k k) (by rw [e1]; exact hpiv) (by omega)
        rw [e1] at hst
        refine ⟨fun r o h => ?_, fun h => ?_⟩
        · rw [detS, hd] at h
          simp only [hno, if_false, Option.some.injEq, Prod.mk.injEq] at h
          obtain ⟨rfl, rfl⟩ := h
          have hpb1 := (g1 _ hil).2 k (by omega)
          refine ⟨by rw [gaussS, hst], fun j hj => ?_, ?_⟩
          · rw [gaussS, hst]
            simp only
            by_cases hjl : j < r1.length
            · rw [clrS_nth _ (by rw [upG_len]; omega), if_pos ⟨by omega, by omega⟩, elimL_nth (by rw [swapL_len]; exact hjl)]
              unfold elimN
              rw [if_pos (by omega), upG_nth (by omega) (by omega), upG_nth (by omega) (by omega), if_neg (by omega), if_pos rfl, plus_scale (by omega)]
              rw [swapL_nth (by omega) hil, swapL_nth (by omega) hil]
              have ek : nthR (gaussS p m rows k).1 k = nthR r1 k := e2 k (Nat.le_refl _)
              have ei : nthR (gaussS p m rows k).1 (pivG r1 k k) = nthR r1 (pivG r1 k k) := e2 _ h1
              have ej : nthR (gaussS p m rows k).1 j = nthR r1 j := e2 j (by omega)
              rw [ek, ei, ej]
              have hkk : (if k = pivG r1 k k then nthR r1 k else if k = k then nthR r1 (pivG r1 k k) else nthR r1 k) = nthR r1 (pivG r1 k k) := by
                by_cases hki : k = pivG r1 k k
                · rw [if_pos hki, ← hki]
                · rw [if_neg hki, if_pos rfl]
              rw [hkk]
              have hjj : (if j = pivG r1 k k then nthR r1 k else if j = k then nthR r1 (pivG r1 k k) else nthR r1 j) = (if j = pivG r1 k k then nthR r1 k else nthR r1 j) := by
                by_cases hji : j = pivG r1 k k
                · rw [if_pos hji, if_pos hji]
                · rw [if_neg hji, if_neg hji, if_neg (by omega)]
              rw [hjj]
            · rw [show nthR (elimL p m k (swapL r1 k (pivG r1 k k))) j = [] by unfold nthR; rw [List.getD_eq_getElem?_getD, List.getElem?_eq_none (by rw [elimL_len, swapL_len]; omega)]; rfl]
              unfold nthR
              rw [List.getD_eq_getElem?_getD, List.getElem?_eq_none (by rw [clrS_len, upG_len]; omega)]; rfl
          · have ho : 0 ≤ (if pivG r1 k k = k then o1 else (-o1) % p) ∧ (if pivG r1 k k = k then o1 else (-o1) % p) < p ∧ (if pivG r1 k k = k then o1 else (-o1) % p) ≠ 0 := by
              split
              · omega
              · refine ⟨Int.emod_nonneg _ (by omega), Int.emod_lt_of_pos _ (by omega), fun hz => ?_⟩
                rw [show -o1 = (p - o1) + p * (-1) by omega, Int.add_mul_emod_self_left, Int.emod_eq_of_lt (by omega) (by omega)] at hz
                omega
            have hz := mul_zero_of hp ho.1 ho.2.1 hpb1.1 hpb1.2
            have hn0 : (if pivG r1 k k = k then o1 else (-o1) % p) * nth (nthR r1 (pivG r1 k k)) k % p ≠ 0 := fun h => by
              rcases hz.1 h with h | h
              · exact ho.2.2 h
              · exact hne h
            have := Int.emod_nonneg ((if pivG r1 k k = k then o1 else (-o1) % p) * nth (nthR r1 (pivG r1 k k)) k) (show p ≠ 0 by omega)
            exact ⟨by omega, Int.emod_lt_of_pos _ (by omega)⟩
        · rw [detS, hd] at h
          simp only [hno, if_false] at h
          cases h
/-- The determinant is not 0 exactly if the rank is full. -/
theorem det_rank {p : Int} {m : Nat} {rows : List (List Int)} (hp : primeB p = true) (hg : RowsG p m rows) (hm : rows.length = m) : detL p m rows ≠ 0 ↔ rankL p m rows = m := by
  obtain ⟨h1, h2⟩ := det_gauss hp hg (by omega) rows.length (Nat.le_refl _)
  unfold detL rankL
  cases hd : detS p m rows rows.length with
  | none =>
    have := h2 hd
    rw [hm] at this
    simp only [ne_eq, not_true, false_iff]
    omega
  | some ro =>
    obtain ⟨r, o⟩ := ro
    obtain ⟨e1, _, e3, _⟩ := h1 r o hd
    rw [hm] at e1
    simp only [e1, iff_true]
    omega
theorem det_bd {p : Int} {m : Nat} {rows : List (List Int)} (hp : primeB p = true) (hg : RowsG p m rows) (hm : rows.length ≤ m) : 0 ≤ detL p m rows ∧ detL p m rows < p := by
  have hpb := prime_bd hp
  obtain ⟨h1, _⟩ := det_gauss hp hg hm rows.length (Nat.le_refl _)
  unfold detL
  cases hd : detS p m rows rows.length with
  | none => exact ⟨Int.le_refl _, by show (0 : Int) < p; omega⟩
  | some ro =>
    obtain ⟨r, o⟩ := ro
    have := h1 r o hd
    exact ⟨by show 0 ≤ o; omega, this.2.2.2⟩

/-! ### Kernels -/
theorem kerV_kill {p : Int} {n : Nat} {red : List (List Int)} {c : Nat → Nat} (_hp : 3 ≤ p) (h : Basis p n red c) {f : Nat} (hf : f < n) (hno : pivIx red f = none) : Kill p n red (kerV p n red f) := fun i hi => by
  have hfc : f ≠ c i := fun e => by rw [e, h.piv hi] at hno; cases hno
  have e : ∀ t, t < n → (nth (nthR red i) t * nth (kerV p n red f) t) % p = ((if t = f then nth (nthR red i) f else 0) + (if t = c i then -(nth (nthR red i) f) else 0)) % p := fun t ht => by
    rw [kerV_nth ht]
    unfold kerN
    by_cases htf : t = f
    · subst htf
      rw [if_pos rfl, if_pos rfl, if_neg hfc, Int.mul_one, Int.add_zero]
    · rw [if_neg htf, if_neg htf]
      cases hpv : pivIx red t with
      | none =>
        have htc : t ≠ c i := fun e => by rw [e, h.piv hi] at hpv; cases hpv
        rw [if_neg htc]; simp
      | some j =>
        obtain ⟨hj, hlj⟩ := pivIx_some hpv
        rw [h.leadN hj] at hlj
        subst hlj
        simp only
        rw [h.one j hj i hi]
        by_cases hij : i = j
        · subst hij
          rw [if_pos rfl, if_pos rfl, Int.one_mul, Int.emod_emod, Int.zero_add]
        · rw [if_neg hij, if_neg (fun e => hij (h.inj hi hj e.symm)), Int.zero_mul, Int.zero_add]
  unfold dotN
  rw [sumN_emod e, sumN_add, sumN_single (k := f) hf (fun t _ hne => if_neg hne), sumN_single (k := c i) (h.clt i hi) (fun t _ hne => if_neg hne), if_pos rfl, if_pos rfl]
  simp [Int.add_right_neg]
theorem ker_exists {p : Int} {n : Nat} {rows : List (List Int)} (hp : primeB p = true) (hg : RowsG p n rows) (hr : rankL p n rows < n) : ∃ z f, Good p n z ∧ Kill p n rows z ∧ f < n ∧ nth z f = 1 := by
  have hpb := prime_bd hp
  obtain ⟨c, hb⟩ := basis_red (m := n) hp hg
  have hl : (basisL p n rows).length = rankL p n rows := by
    unfold basisL rankL
    rw [List.length_take, Nat.min_eq_left]
    rw [gaussS_len]
    exact (gauss_rank hp hg).1
  have : ∃ f, f < n ∧ pivIx (basisL p n rows) f = none := Decidable.byContradiction fun hno => by
    have hall : ∀ t, t < n → ∃ j, pivIx (basisL p n rows) t = some j := fun t ht => by
      cases hpv : pivIx (basisL p n rows) t with
      | none => exact absurd ⟨t, ht, hpv⟩ hno
      | some j => exact ⟨j, rfl⟩
    obtain ⟨i, j, hij, hj, he⟩ := dove (rankL p n rows) (fun t => (pivIx (basisL p n rows) t).getD 0) (fun t ht => by
      obtain ⟨j, hj⟩ := hall t (by omega)
      rw [hj]
      have := (pivIx_some hj).1
      simp only [Option.getD_some]; omega)
    obtain ⟨a, ha⟩ := hall i (by omega)
    obtain ⟨b, hb'⟩ := hall j (by omega)
    rw [ha, hb'] at he
    simp only [Option.getD_some] at he
    have h1 := (pivIx_some ha).2
    have h2 := (pivIx_some hb').2
    rw [he] at h1
    omega
  obtain ⟨f, hf, hno⟩ := this
  refine ⟨_, f, kerV_good (f := f) (red := basisL p n rows) (by omega), (kill_basis hp hg).1 (kerV_kill (by omega) hb hf hno), hf, ?_⟩
  rw [kerV_nth hf, kerN, if_pos rfl]
/-- Rows of full rank have solutions for every right side. -/
theorem rank_ok {p : Int} {n : Nat} {rows : List (List Int)} {v : List Int} (hp : primeB p = true) (hg : RowsG p n rows) (hn : rows.length = n) (hv : Good p n v) (hr : rankL p n rows = n) : okS n (basisL p (n + 1) (wideL rows v n)) = true := by
  cases h : okS n (basisL p (n + 1) (wideL rows v n)) with
  | true => rfl
  | false =>
    have hw : RowsG p (n + 1) (wideL rows v n) := wideL_good hg hv (by omega)
    have h1 := rank_up (m := n) hp hw h
    rw [trunc_wide hg hn, hr] at h1
    have h2 := rank_le (m := n + 1) hp hw
    rw [wideL_len] at h2
    omega
end Go.Proofs.YtcocbainookkcaaGreat

/-
  Listed functions of multivectors at good arguments.
  No condition.
-/
namespace Go.Proofs.YtcocbainookkcaaGreat
set_option maxRecDepth 100000
open Go.RowKit

theorem OwnC.addr {B : Nat} {w : World} {a : Option Addr} {n cap : Nat} {xs : List Int} (h : OwnC B w a n cap xs) (hn : 0 < n) : ∃ g, a = some ⟨g, 0, none⟩ := by
  obtain ⟨g, _, hg, _⟩ := h.row hn
  exact ⟨g, hg⟩

end Go.Proofs.YtcocbainookkcaaGreat

/-
  Matrices of the multiplications by a multivector; the listed functions LeftMatrix and RightMatrix.
  No condition.
-/
namespace Go.Proofs.YtcocbainookkcaaGreat
set_option maxRecDepth 100000
open Go.RowKit

/-- The product of a multivector, on one side, and a blade. -/
def mulC (p : Int) (qs x : List Int) (left : Bool) (m : Nat) : List Int := if left = true then prodL p qs tkA x (bladeL (2 ^ qs.length) m) else prodL p qs tkA (bladeL (2 ^ qs.length) m) x
def colsM (p : Int) (qs x : List Int) (left : Bool) (k : Nat) : List (List Int) := (List.range k).map (mulC p qs x left)
theorem colsM_succ (p : Int) (qs x : List Int) (left : Bool) (k : Nat) : colsM p qs x left (k + 1) = colsM p qs x left k ++ [mulC p qs x left k] := by simp [colsM, List.range_succ]
theorem colsM_len (p : Int) (qs x : List Int) (left : Bool) (k : Nat) : (colsM p qs x left k).length = k := by simp [colsM]
theorem mulC_good {p : Int} {qs x : List Int} {left : Bool} {m : Nat} (hp : 1 ≤ p) : Good p (2 ^ qs.length) (mulC p qs x left m) := by unfold mulC; split <;> exact prod_good hp
theorem colsM_nth {p : Int} {qs x : List Int} {left : Bool} {k i : Nat} (h : i < k) : nthR (colsM p qs x left k) i = mulC p qs x left i := by
  unfold colsM; rw [nthR_map (by simpa using h)]; simp
/-- The matrix of a multiplication. -/
def matM (p : Int) (qs x : List Int) (left : Bool) : List (List Int) := turnL (colsM p qs x left (2 ^ qs.length)) (2 ^ qs.length) (2 ^ qs.length)
theorem matM_len (p : Int) (qs x : List Int) (left : Bool) : (matM p qs x left).length = 2 ^ qs.length := turnL_len _ _ _
theorem matM_good {p : Int} {qs x : List Int} {left : Bool} (hp : 1 ≤ p) : RowsG p (2 ^ qs.length) (matM p qs x left) := fun i hi => by
  rw [matM_len] at hi
  unfold matM
  rw [turnL_nth hi]
  refine ⟨colL_len _ _ _, fun j hj => ?_⟩
  rw [colL_nth hj, colsM_nth hj]
  exact (mulC_good hp).2 i hi






theorem cnt_good {p : Int} {m : Nat} {rows : List (List Int)} (h : RowsG p m rows) : ∀ k, k ≤ rows.length → cntR rows k = k * m
  | 0, _ => by simp [cntR]
  | k + 1, hk => by
    show cntR rows k + _ = _
    rw [cnt_good h k (by omega), (h k (by omega)).1, Nat.succ_mul]
theorem matM_cnt {p : Int} {a : Option Addr} {d : Nat} {qs : List Int} {ax1 : Option Addr} {n1 : Nat} {xs1 : List Int} {w : World} {b : Bool} (_hq : RdC w a d qs) (hx1 : RdC w ax1 n1 xs1) (hc : codeA p qs [xs1] = 0) : cntR (matM p qs xs1 b) n1 ≤ 1048576 := by
  obtain ⟨hcm, hq4⟩ := codeA_zero hc
  obtain ⟨hs, hm⟩ := codeM_one hcm
  obtain ⟨hpr, hd1, hd6, hqb⟩ := space_of hs
  have hpb := prime_bd hpr
  obtain ⟨hxl, hxb⟩ := multi_of hm
  have hN : n1 = 2 ^ qs.length := by rw [← hxl]; exact hx1.1.symm
  have h64 := pow_le64 hd6
  rw [cnt_good (matM_good (by omega)) n1 (by rw [matM_len]; omega), hN]
  exact Nat.le_trans (Nat.mul_le_mul h64 h64) (by omega)





end Go.Proofs.YtcocbainookkcaaGreat

/-
  Contract: the reduced basis of rows, in the program and in the reference.
  No condition.
-/
namespace Go.Proofs.YtcocbainookkcaaGreat
set_option maxRecDepth 100000
open Go.RowKit

theorem ownR_put_len {p : Int} {m : Nat} {rows : List (List Int)} (h : RowsG p m rows) {n i : Nat} (hn : rows.length = n) (hi : i < n) : (nthR rows i).length = m := (h i (by omega)).1
theorem basis_nil {p : Int} {m : Nat} : basisL p m [] = [] := by unfold basisL; rw [List.take_of_length_le (by rw [gaussS_len]; exact Nat.zero_le _)]; have := gaussS_len (p := p) (m := m) (rows := []) m; exact List.length_eq_zero_iff.1 this

theorem swapL_at {rows : List (List Int)} {d j : Nat} (hd : d < rows.length) (hj : j < rows.length) : nthR (swapL rows d j) d = nthR rows j := by
  rw [swapL_nth hd hj]
  by_cases h : d = j
  · subst h; rw [if_pos rfl]
  · rw [if_neg h, if_pos rfl]
set_option maxHeartbeats 8000000 in
set_option maxRecDepth 100000 in
theorem c_basis (p : Int) (a : Option Addr) (n cap m : Nat) (rows : List (List Int)) (w : World) (hpr : primeB p = true) (hm : 0 < m) (hm2 : m ≤ 4096) (hl : n ≤ 4096) (hx : RdR w a n rows) (hg : RowsG p m rows) :
    Calls Tryz.prog 39 #[.int .i64 p, .slice a n cap] w fun e w' => ∃ g rc r, e = .returned (.slice (some ⟨g, 0, none⟩) r rc) ∧ OwnR w.heap.size w' (some ⟨g, 0, none⟩) r rc (basisL p m rows) ∧ Ext w w' := by
  have hpb := prime_bd hpr
  have HX := Lib.hid hx
  have HG := Lib.hid hg
  have HPR := Lib.hid hpr
  have HLN := Lib.hid hx.1
  have HRed := Lib.hid (fun k (hk : k ≤ m) => gaussS_red hpr hg k hk)
  clear hx hg hpr
  go_enter Tryz.func39, Tryz.ntmps39
  go_wp2_with (fail)
  refine (c_cloneRows a n cap m rows w hm (by omega) (by omega) (fun i hi => ownR_put_len HG.out HLN.out hi) HX.out).mono ?_
  rintro e w1 ⟨g, rc, rfl, ho, h1⟩
  have HO := Lib.hid ho
  have H1 := Lib.hid h1
  have hgw := Lib.hid (ho.base_of g rfl).1
  clear ho h1
  go_wp2_with (fail)
  go_loopw [6, 7] (fun dd kk wr => ∃ (k d : Nat) (R : List (List Int)), k ≤ m ∧ d ≤ n ∧ kk = .int .i64 k ∧ dd = .int .i64 d ∧ Hid (gaussS p m rows k = (R, d)) ∧ OwnR w.heap.size wr (some ⟨g, 0, none⟩) n rc R ∧ Ext w wr) (fun _ kk _ => m - (intOf kk).toNat)
  case atStart => exact ⟨0, 0, rows, Nat.zero_le _, Nat.zero_le _, rfl, rfl, Lib.hid rfl, HO.out, H1.out⟩
  case round =>
    obtain ⟨k, d, R, hk, hd, rfl, rfl, HS, hown, hext⟩ := hrel
    have HOwn := Lib.hid hown
    have HExt := Lib.hid hext
    have HRL := Lib.hid hown.1
    have HRG : Hid (RowsG p m R) := Lib.hid (by have := (HRed.out k hk).1; rw [HS.out] at this; exact this)
    clear hown hext
    by_cases hfin : n = 0 ∨ k = m ∨ d = n
    · have HRes : Hid (R.take d = basisL p m rows) := Lib.hid (by
        unfold basisL
        rcases hfin with h | h | h
        · have hr : rows = [] := List.length_eq_zero_iff.1 (by rw [HLN.out]; exact h)
          have hR : R = [] := List.length_eq_zero_iff.1 (by rw [HRL.out]; exact h)
          have h2 : (gaussS p m rows m).1 = [] := List.length_eq_zero_iff.1 (by rw [gaussS_len, hr]; rfl)
          rw [hR, h2]; simp
        · have hS := HS.out
          rw [h] at hS
          rw [hS]
        · have := gaussS_stop (p := p) (m := m) (rows := rows) (k := k) (by rw [HS.out, HLN.out]; exact h) (m - k)
          rw [Nat.add_sub_cancel' hk] at this
          rw [this, HS.out])
      by_cases hn0 : n = 0
      · have hd0 : d = 0 := by omega
        subst hd0
        subst hn0
        go_wp2_with (fail)
        go_ret
        exact ⟨g, rc, 0, rfl, by rw [← HRes.out]; exact HOwn.out.take (Nat.le_refl _), HExt.out⟩
      · obtain ⟨a0, c0, hc0, _⟩ := HOwn.out.at (show 0 < n by omega)
        rw [ownR_put_len HRG.out HRL.out (show 0 < n by omega)] at hc0
        have hcap : n ≤ rc := by obtain ⟨_, vs, h2, _⟩ := HOwn.out; rcases h2.2 with ⟨h3, _⟩ | ⟨_, _, _, h3, _, _, h4, _⟩; cases h3; cases h3; exact h4
        have hdc : (d : Int) ≤ (rc : Int) := by omega
        by_cases hkm : k = m
        · subst hkm
          go_wp2_with (fail)
          go_ret
          exact ⟨g, rc, d, rfl, by rw [← HRes.out]; exact HOwn.out.take hd, HExt.out⟩
        · have hdn : d = n := by omega
          have hkm' : k < m := by omega
          subst hdn
          go_wp2_with (fail)
          go_ret
          exact ⟨g, rc, d, rfl, by rw [← HRes.out]; exact HOwn.out.take hd, HExt.out⟩
    · have hkm : k < m := by omega
      have hdn : d < n := by omega
      have hn0 : 0 < n := by omega
      clear hfin
      obtain ⟨a0, c0, hc0, _⟩ := HOwn.out.at hn0
      rw [ownR_put_len HRG.out HRL.out hn0] at hc0
      go_wp2_with (fail)
      clear hc0
      go_loop [8] (fun i => ∃ j : Nat, d ≤ j ∧ j ≤ n ∧ i = .int .i64 j ∧ Hid (∀ t, d ≤ t → t < j → nth (nthR R t) k = 0)) (fun i => n - (intOf i).toNat)
      case atStart => exact ⟨d, Nat.le_refl _, hd, rfl, Lib.hid (fun t h1 h2 => by omega)⟩
      case round =>
        obtain ⟨j, hdj, hj, rfl, HZ⟩ := hrel
        by_cases hjn : j < n
        · obtain ⟨aj, cj, hcj, hoj⟩ := HOwn.out.at hjn
          rw [ownR_put_len HRG.out HRL.out hjn] at hcj hoj
          obtain ⟨bj, oj, rfl, hcjk⟩ := hoj.rd.2 k hkm
          by_cases hz : nth (nthR R j) k = 0
          · have hzb : (nth (nthR R j) k == 0) = true := by simp [hz]
            have HZ' := Lib.hid hz
            clear hz hoj
            go_wp2_with (fail)
            go_round
            case rel => exact ⟨j + 1, by omega, by omega, by go_num, Lib.hid (fun t h1 h2 => by
              by_cases htj : t = j
              · subst htj; exact HZ'.out
              · exact HZ.out t h1 (by omega))⟩
            case measure => simp [intOf]; omega
          · have hzb : (nth (nthR R j) k == 0) = false := by simp [hz]
            have hjb : ((j : Int) == (n : Int)) = false := by simp; omega
            have HPiv := Lib.hid (pivG_eq (rows := R) (k := k) (d := d) hdj (by rw [HRL.out]; exact hj) HZ.out (.inr hz))
            have HNZ := Lib.hid hz
            clear hz hoj
            go_wp2_with (fail)
            clear hcj hcjk
            obtain ⟨ad, cd, aj2, cj2, hcd, hcj2, hod, hoj2, hsw⟩ := HOwn.out.swap hdn hjn
            rw [ownR_put_len HRG.out HRL.out hdn, ownR_put_len HRG.out HRL.out hjn] at hsw
            rw [ownR_put_len HRG.out HRL.out hdn] at hcd hod
            rw [ownR_put_len HRG.out HRL.out hjn] at hcj2 hoj2
            have hfd := HOwn.out.frozen d
            have hfj := HOwn.out.frozen j
            have HOd := Lib.hid hod
            have HOj := Lib.hid hoj2
            have HSw := Lib.hid hsw
            clear hod hoj2 hsw
            have HNM := Lib.hid (HOwn.out.base_of g rfl)
            by_cases hdj2 : d = j
            · subst hdj2
              cases (hcd.symm.trans hcj2)
              go_region
              obtain ⟨W2, hW2⟩ : ∃ W2, W2 = ((wr.setCell ⟨g, d, none⟩ (.slice ad m cd)).setCell ⟨g, d, none⟩ (.slice ad m cd)).drew := ⟨_, rfl⟩
              have HOw2 : Hid (OwnR w.heap.size W2 (some ⟨g, 0, none⟩) n rc (swapL R d d)) := by rw [hW2]; exact HSw.out.ext (ext_drew _)
              have HE2 : Hid (Ext w W2) := by rw [hW2]; exact (((HExt.out.setCell HNM.out.1 _).setCell HNM.out.1 _).trans (ext_drew _))
              rw [← hW2]
              clear hW2 hcd hcj2 hfd hfj HSw HOd HOj
              have HR1 := Lib.hid (swapL_at (show d < R.length by rw [HRL.out]; exact hdn) (show d < R.length by rw [HRL.out]; exact hjn))
              have HXg := Lib.hid (HRG.out d (by rw [HRL.out]; exact hjn))
              obtain ⟨ax, cx, hcx, hox⟩ := HOw2.out.at hdn
              rw [HR1.out, HXg.out.1] at hcx hox
              obtain ⟨bx, ox, rfl, hck⟩ := hox.rd.2 k hkm
              have HXc := Lib.hid ((ext_drew W2).cell hcx)
              have HXk := Lib.hid ((ext_drew W2).cell hck)
              have HXr := Lib.hid (hox.rd.ext (ext_drew W2))
              have HZb := Lib.hid (HXg.out.2 k hkm)
              have HIb : Hid (-1000 ≤ invN p (nth (nthR R d) k) ∧ invN p (nth (nthR R d) k) ≤ 1000) := Lib.hid (by have := invN_bd (p := p) (a := nth (nthR R d) k) (by omega); omega)
              clear hcx hck hox
              go_wp2_with (fail)
              refine wp_region_lex_tail 18 [(15, .val (.int .i64 (invN p (nth (nthR R d) k)))), (16, .ownS W2.drew.heap.size m (scaleL p (nthR R d) (invN p (nth (nthR R d) k)) m))] (by kernel_rfl) (by kernel_rfl) ?_
              simp only [List.take, List.drop]
              (refine LexW.pure (v := ?_) rfl rfl (fun w1 he => ?_) ?_; rotate_left; ( have e1 := he.cell HXc.out; have e2 := he.cell HXk.out; go_simp; rfl); simp only [Act.put, List.setIfInBounds_toArray, List.set_cons_zero, List.set_cons_succ])
              (refine LexW.pure (v := ?_) rfl rfl (fun w1 he => ?_) ?_; rotate_left; ( have e1 := he.cell HXc.out; have e2 := he.cell HXk.out; go_simp; rfl); simp only [Act.put, List.setIfInBounds_toArray, List.set_cons_zero, List.set_cons_succ])
              (refine LexW.pure (v := ?_) rfl rfl (fun w1 he => ?_) ?_; rotate_left; ( have e1 := he.cell HXc.out; have e2 := he.cell HXk.out; go_simp; rfl); simp only [Act.put, List.setIfInBounds_toArray, List.set_cons_zero, List.set_cons_succ])
              (refine LexW.pure (v := ?_) rfl rfl (fun w1 he => ?_) ?_; rotate_left; ( have e1 := he.cell HXc.out; have e2 := he.cell HXk.out; go_simp; rfl); simp only [Act.put, List.setIfInBounds_toArray, List.set_cons_zero, List.set_cons_succ])
              (refine LexW.pure (v := ?_) rfl rfl (fun w1 he => ?_) ?_; rotate_left; ( have e1 := he.cell HXc.out; have e2 := he.cell HXk.out; go_simp; rfl); simp only [Act.put, List.setIfInBounds_toArray, List.set_cons_zero, List.set_cons_succ])
              (refine LexW.pure (v := ?_) rfl rfl (fun w1 he => ?_) ?_; rotate_left; ( have e1 := he.cell HXc.out; have e2 := he.cell HXk.out; go_simp; rfl); simp only [Act.put, List.setIfInBounds_toArray, List.set_cons_zero, List.set_cons_succ])
              (refine LexW.pure (v := ?_) rfl rfl (fun w1 he => ?_) ?_; rotate_left; ( have e1 := he.cell HXc.out; have e2 := he.cell HXk.out; go_simp; rfl); simp only [Act.put, List.setIfInBounds_toArray, List.set_cons_zero, List.set_cons_succ])
              (refine LexW.pure (v := ?_) rfl rfl (fun w1 he => ?_) ?_; rotate_left; ( have e1 := he.cell HXc.out; have e2 := he.cell HXk.out; go_simp; rfl); simp only [Act.put, List.setIfInBounds_toArray, List.set_cons_zero, List.set_cons_succ])
              (refine LexW.pure (v := ?_) rfl rfl (fun w1 he => ?_) ?_; rotate_left; ( have e1 := he.cell HXc.out; have e2 := he.cell HXk.out; go_simp; rfl); simp only [Act.put, List.setIfInBounds_toArray, List.set_cons_zero, List.set_cons_succ])
              (refine LexW.pure (v := ?_) rfl rfl (fun w1 he => ?_) ?_; rotate_left; ( have e1 := he.cell HXc.out; have e2 := he.cell HXk.out; go_simp; rfl); simp only [Act.put, List.setIfInBounds_toArray, List.set_cons_zero, List.set_cons_succ])
              (refine LexW.pure (v := ?_) rfl rfl (fun w1 he => ?_) ?_; rotate_left; ( have e1 := he.cell HXc.out; have e2 := he.cell HXk.out; go_simp; rfl); simp only [Act.put, List.setIfInBounds_toArray, List.set_cons_zero, List.set_cons_succ])
              (refine LexW.pure (v := ?_) rfl rfl (fun w1 he => ?_) ?_; rotate_left; ( have e1 := he.cell HXc.out; have e2 := he.cell HXk.out; go_simp; rfl); simp only [Act.put, List.setIfInBounds_toArray, List.set_cons_zero, List.set_cons_succ])
              (refine LexW.pure (v := ?_) rfl rfl (fun w1 he => ?_) ?_; rotate_left; ( have e1 := he.cell HXc.out; have e2 := he.cell HXk.out; go_simp; rfl); simp only [Act.put, List.setIfInBounds_toArray, List.set_cons_zero, List.set_cons_succ])
              (refine LexW.pure (v := ?_) rfl rfl (fun w1 he => ?_) ?_; rotate_left; ( have e1 := he.cell HXc.out; have e2 := he.cell HXk.out; go_simp; rfl); simp only [Act.put, List.setIfInBounds_toArray, List.set_cons_zero, List.set_cons_succ])
              (refine LexW.pure (v := ?_) rfl rfl (fun w1 he => ?_) ?_; rotate_left; ( have e1 := he.cell HXc.out; have e2 := he.cell HXk.out; go_simp; rfl); simp only [Act.put, List.setIfInBounds_toArray, List.set_cons_zero, List.set_cons_succ])
              (refine LexW.call (f := ?_) (args := ?_) rfl rfl (fun w1 => ?_) (fun w1 he hdep => ?_) ?_; rotate_left 2; (go_simp; refine ⟨?_, ?_⟩ <;> rfl); ( exact c_inv p _ w1 (by omega) (by omega) HZb.out.1 HZb.out.2); simp only [Act.put, List.setIfInBounds_toArray, List.set_cons_zero, List.set_cons_succ])
              (refine LexW.callR (f := ?_) (args := ?_) rfl rfl (fun w1 => ?_) (fun w1 he hdep => ?_) (fun v hv => ?_); rotate_left 2; (go_simp; refine ⟨?_, ?_⟩ <;> rfl); ( refine (c_scaled p _ m _ (nthR R d) (invN p (nth (nthR R d) k)) w1 (by omega) (by omega) HIb.out (by omega) (HXr.out.ext he) HXg.out).mono ?_; rintro e w2 ⟨g, rc, rfl, ho, g2⟩; exact ⟨_, rfl, g2, g, rc, rfl, ho.mono he.size⟩); simp only [Act.put, List.setIfInBounds_toArray, List.set_cons_zero, List.set_cons_succ])
              obtain ⟨_, g82, c82, rfl, _⟩ := hv
              (refine LexW.pure (v := ?_) rfl rfl (fun w1 he => ?_) ?_; rotate_left; ( have e1 := he.cell HXc.out; have e2 := he.cell HXk.out; go_simp; rfl); simp only [Act.put, List.setIfInBounds_toArray, List.set_cons_zero, List.set_cons_succ])
              refine LexW.nil (fun w3 he hkn => ?_)
              obtain ⟨_, _, q82, r82⟩ : (SPred.ownS W2.drew.heap.size m (scaleL p (nthR R d) (invN p (nth (nthR R d) k)) m)).holds (.slice (some ⟨g82, 0, none⟩) m c82) w3 := hkn (16, _) (by simp)
              cases q82
              have R82 := Lib.hid r82
              have HE := Lib.hid he
              clear he hkn r82
              have ow3 := (HOw2.out.ext (ext_drew W2)).ext HE.out
              obtain ⟨ay, cy, hcy, _⟩ := ow3.at hdn
              have hfy := ow3.frozen d
              clear ow3
              go_wp2_with (fail)
              obtain ⟨W3, hW3⟩ : ∃ W3, W3 = w3.setCell ⟨g, d, none⟩ (.slice (some ⟨g82, 0, none⟩) m c82) := ⟨_, rfl⟩
              have HOw3 : Hid (OwnR w.heap.size W3 (some ⟨g, 0, none⟩) n rc (upG p m R d k d)) := by rw [hW3]; exact (HOw2.out.ext (ext_drew W2)).put HE.out (HE2.out.trans (ext_drew W2)).size R82.out hdn
              have HE3 : Hid (Ext w W3) := by rw [hW3]; exact (HE2.out.trans ((ext_drew W2).trans HE.out)).setCell HNM.out.1 _
              rw [← hW3]
              clear hW3 hcy hfy R82 HE HXc HXk HXr HOw2 HE2
              have HUG := Lib.hid (upG_good (k := k) (show 1 ≤ p by omega) HRG.out (show d < R.length by rw [HRL.out]; exact hdn) (show d < R.length by rw [HRL.out]; exact hjn))
              have HUL := Lib.hid (show (upG p m R d k d).length = n by rw [upG_len, HRL.out])
              obtain ⟨U, hU⟩ : ∃ U, U = upG p m R d k d := ⟨_, rfl⟩
              have HU := Lib.hid hU
              rw [← hU] at HOw3 HUG HUL
              clear hU
              go_loopw [86] (fun i wr => ∃ (r : Nat) (C : List (List Int)), r ≤ n ∧ i = .int .i64 r ∧ Hid (C = clrS p k m d U r) ∧ OwnR w.heap.size wr (some ⟨g, 0, none⟩) n rc C ∧ Ext w wr) (fun i _ => n - (intOf i).toNat)
              case atStart => exact ⟨0, U, Nat.zero_le _, rfl, Lib.hid rfl, HOw3.out, HE3.out⟩
              case round =>
                obtain ⟨r, C, hr, rfl, HC, hown, hext⟩ := hrel
                have HCo := Lib.hid hown
                have HCe := Lib.hid hext
                have HCg : Hid (RowsG p m C) := Lib.hid (by rw [HC.out]; exact clrS_good (by omega) HUG.out r)
                have HCl : Hid (C.length = n) := Lib.hid hown.1
                clear hown hext
                by_cases hrn : r < n
                · by_cases hrd : r = d
                  · have hrb : ((r : Int) != (d : Int)) = false := by simp [hrd]
                    have HRD := Lib.hid hrd
                    clear hrd
                    go_wp2_with (fail)
                    go_roundw
                    case rel => exact ⟨r + 1, C, by omega, by go_num, Lib.hid (by rw [HC.out, clrS_self HRD.out]), HCo.out, HCe.out⟩
                    case measure => simp [intOf]; omega
                  · have hrb : ((r : Int) != (d : Int)) = true := by simp; omega
                    obtain ⟨ar, cr, hcr, hor⟩ := HCo.out.at hrn
                    rw [ownR_put_len HCg.out HCl.out hrn] at hcr hor
                    obtain ⟨br, or, rfl, hcrk⟩ := hor.rd.2 k hkm
                    by_cases hz : nth (nthR C r) k = 0
                    · have hzb : (nth (nthR C r) k != 0) = false := by simp [hz]
                      have HZ0 := Lib.hid hz
                      clear hz hor
                      go_wp2_with (fail)
                      go_roundw
                      case rel => exact ⟨r + 1, C, by omega, by go_num, Lib.hid (by rw [clrS_zero (by omega) HUG.out (by rw [HUL.out]; exact hrn) (by rw [← HC.out]; exact HZ0.out)]; exact HC.out), HCo.out, HCe.out⟩
                      case measure => simp [intOf]; omega
                    · have hzb : (nth (nthR C r) k != 0) = true := by simp [hz]
                      have HRd0 := Lib.hid hrd
                      obtain ⟨ad2, cd2, hcd2, hod2⟩ := HCo.out.at hdn
                      rw [ownR_put_len HCg.out HCl.out hdn] at hcd2 hod2
                      have HRr := Lib.hid (hor.rd.ext (ext_drew wr))
                      have HRd := Lib.hid (hod2.rd.ext (ext_drew wr))
                      have HCr := Lib.hid ((ext_drew wr).cell hcr)
                      have HCd := Lib.hid ((ext_drew wr).cell hcd2)
                      have HCk := Lib.hid ((ext_drew wr).cell hcrk)
                      have HGr := Lib.hid (HCg.out r (by rw [HCl.out]; exact hrn))
                      have HGd := Lib.hid (HCg.out d (by rw [HCl.out]; exact hdn))
                      have HZr := Lib.hid (HGr.out.2 k hkm)
                      have HNeg : Hid (IntKind.i64.wrap (-(nth (nthR C r) k)) = -(nth (nthR C r) k)) := Lib.hid (IntWalk.i64_in _ (by have := HZr.out; omega))
                      clear hz hor hod2 hcd2
                      go_wp2_with (fail)
                      clear hcr hcrk
                      refine wp_region_lex_tail 21 [(19, .ownS wr.drew.heap.size m (plusL p (nthR C r) (nthR C d) (-(nth (nthR C r) k)) m))] (by kernel_rfl) (by kernel_rfl) ?_
                      simp only [List.take, List.drop]
                      (refine LexW.pure (v := ?_) rfl rfl (fun w1 he => ?_) ?_; rotate_left; ( have e1 := he.cell HCr.out; have e2 := he.cell HCd.out; have e3 := he.cell HCk.out; have e4 := HNeg.out; go_simp; rfl); simp only [Act.put, List.setIfInBounds_toArray, List.set_cons_zero, List.set_cons_succ])
                      (refine LexW.pure (v := ?_) rfl rfl (fun w1 he => ?_) ?_; rotate_left; ( have e1 := he.cell HCr.out; have e2 := he.cell HCd.out; have e3 := he.cell HCk.out; have e4 := HNeg.out; go_simp; rfl); simp only [Act.put, List.setIfInBounds_toArray, List.set_cons_zero, List.set_cons_succ])
                      (refine LexW.pure (v := ?_) rfl rfl (fun w1 he => ?_) ?_; rotate_left; ( have e1 := he.cell HCr.out; have e2 := he.cell HCd.out; have e3 := he.cell HCk.out; have e4 := HNeg.out; go_simp; rfl); simp only [Act.put, List.setIfInBounds_toArray, List.set_cons_zero, List.set_cons_succ])
                      (refine LexW.pure (v := ?_) rfl rfl (fun w1 he => ?_) ?_; rotate_left; ( have e1 := he.cell HCr.out; have e2 := he.cell HCd.out; have e3 := he.cell HCk.out; have e4 := HNeg.out; go_simp; rfl); simp only [Act.put, List.setIfInBounds_toArray, List.set_cons_zero, List.set_cons_succ])
                      (refine LexW.pure (v := ?_) rfl rfl (fun w1 he => ?_) ?_; rotate_left; ( have e1 := he.cell HCr.out; have e2 := he.cell HCd.out; have e3 := he.cell HCk.out; have e4 := HNeg.out; go_simp; rfl); simp only [Act.put, List.setIfInBounds_toArray, List.set_cons_zero, List.set_cons_succ])
                      (refine LexW.pure (v := ?_) rfl rfl (fun w1 he => ?_) ?_; rotate_left; ( have e1 := he.cell HCr.out; have e2 := he.cell HCd.out; have e3 := he.cell HCk.out; have e4 := HNeg.out; go_simp; rfl); simp only [Act.put, List.setIfInBounds_toArray, List.set_cons_zero, List.set_cons_succ])
                      (refine LexW.pure (v := ?_) rfl rfl (fun w1 he => ?_) ?_; rotate_left; ( have e1 := he.cell HCr.out; have e2 := he.cell HCd.out; have e3 := he.cell HCk.out; have e4 := HNeg.out; go_simp; rfl); simp only [Act.put, List.setIfInBounds_toArray, List.set_cons_zero, List.set_cons_succ])
                      (refine LexW.pure (v := ?_) rfl rfl (fun w1 he => ?_) ?_; rotate_left; ( have e1 := he.cell HCr.out; have e2 := he.cell HCd.out; have e3 := he.cell HCk.out; have e4 := HNeg.out; go_simp; rfl); simp only [Act.put, List.setIfInBounds_toArray, List.set_cons_zero, List.set_cons_succ])
                      (refine LexW.pure (v := ?_) rfl rfl (fun w1 he => ?_) ?_; rotate_left; ( have e1 := he.cell HCr.out; have e2 := he.cell HCd.out; have e3 := he.cell HCk.out; have e4 := HNeg.out; go_simp; rfl); simp only [Act.put, List.setIfInBounds_toArray, List.set_cons_zero, List.set_cons_succ])
                      (refine LexW.pure (v := ?_) rfl rfl (fun w1 he => ?_) ?_; rotate_left; ( have e1 := he.cell HCr.out; have e2 := he.cell HCd.out; have e3 := he.cell HCk.out; have e4 := HNeg.out; go_simp; rfl); simp only [Act.put, List.setIfInBounds_toArray, List.set_cons_zero, List.set_cons_succ])
                      (refine LexW.pure (v := ?_) rfl rfl (fun w1 he => ?_) ?_; rotate_left; ( have e1 := he.cell HCr.out; have e2 := he.cell HCd.out; have e3 := he.cell HCk.out; have e4 := HNeg.out; go_simp; rfl); simp only [Act.put, List.setIfInBounds_toArray, List.set_cons_zero, List.set_cons_succ])
                      (refine LexW.pure (v := ?_) rfl rfl (fun w1 he => ?_) ?_; rotate_left; ( have e1 := he.cell HCr.out; have e2 := he.cell HCd.out; have e3 := he.cell HCk.out; have e4 := HNeg.out; go_simp; rfl); simp only [Act.put, List.setIfInBounds_toArray, List.set_cons_zero, List.set_cons_succ])
                      (refine LexW.pure (v := ?_) rfl rfl (fun w1 he => ?_) ?_; rotate_left; ( have e1 := he.cell HCr.out; have e2 := he.cell HCd.out; have e3 := he.cell HCk.out; have e4 := HNeg.out; go_simp; rfl); simp only [Act.put, List.setIfInBounds_toArray, List.set_cons_zero, List.set_cons_succ])
                      (refine LexW.pure (v := ?_) rfl rfl (fun w1 he => ?_) ?_; rotate_left; ( have e1 := he.cell HCr.out; have e2 := he.cell HCd.out; have e3 := he.cell HCk.out; have e4 := HNeg.out; go_simp; rfl); simp only [Act.put, List.setIfInBounds_toArray, List.set_cons_zero, List.set_cons_succ])
                      (refine LexW.pure (v := ?_) rfl rfl (fun w1 he => ?_) ?_; rotate_left; ( have e1 := he.cell HCr.out; have e2 := he.cell HCd.out; have e3 := he.cell HCk.out; have e4 := HNeg.out; go_simp; rfl); simp only [Act.put, List.setIfInBounds_toArray, List.set_cons_zero, List.set_cons_succ])
                      (refine LexW.pure (v := ?_) rfl rfl (fun w1 he => ?_) ?_; rotate_left; ( have e1 := he.cell HCr.out; have e2 := he.cell HCd.out; have e3 := he.cell HCk.out; have e4 := HNeg.out; go_simp; rfl); simp only [Act.put, List.setIfInBounds_toArray, List.set_cons_zero, List.set_cons_succ])
                      (refine LexW.pure (v := ?_) rfl rfl (fun w1 he => ?_) ?_; rotate_left; ( have e1 := he.cell HCr.out; have e2 := he.cell HCd.out; have e3 := he.cell HCk.out; have e4 := HNeg.out; go_simp; rfl); simp only [Act.put, List.setIfInBounds_toArray, List.set_cons_zero, List.set_cons_succ])
                      (refine LexW.pure (v := ?_) rfl rfl (fun w1 he => ?_) ?_; rotate_left; ( have e1 := he.cell HCr.out; have e2 := he.cell HCd.out; have e3 := he.cell HCk.out; have e4 := HNeg.out; go_simp; rfl); simp only [Act.put, List.setIfInBounds_toArray, List.set_cons_zero, List.set_cons_succ])
                      (refine LexW.pure (v := ?_) rfl rfl (fun w1 he => ?_) ?_; rotate_left; ( have e1 := he.cell HCr.out; have e2 := he.cell HCd.out; have e3 := he.cell HCk.out; have e4 := HNeg.out; go_simp; rfl); simp only [Act.put, List.setIfInBounds_toArray, List.set_cons_zero, List.set_cons_succ])
                      (refine LexW.callR (f := ?_) (args := ?_) rfl rfl (fun w1 => ?_) (fun w1 he hdep => ?_) (fun v hv => ?_); rotate_left 2; (go_simp; refine ⟨?_, ?_⟩ <;> rfl); ( refine (c_plus p _ _ m _ _ (nthR C r) (nthR C d) (-(nth (nthR C r) k)) w1 (by omega) (by omega) (by have := HZr.out; omega) (by omega) (HRr.out.ext he) (HRd.out.ext he) HGr.out HGd.out).mono ?_; rintro e w2 ⟨g, rc, rfl, ho, g2⟩; exact ⟨_, rfl, g2, g, rc, rfl, ho.mono he.size⟩); simp only [Act.put, List.setIfInBounds_toArray, List.set_cons_zero, List.set_cons_succ])
                      obtain ⟨_, g121, c121, rfl, _⟩ := hv
                      (refine LexW.pure (v := ?_) rfl rfl (fun w1 he => ?_) ?_; rotate_left; ( have e1 := he.cell HCr.out; have e2 := he.cell HCd.out; have e3 := he.cell HCk.out; have e4 := HNeg.out; go_simp; rfl); simp only [Act.put, List.setIfInBounds_toArray, List.set_cons_zero, List.set_cons_succ])
                      refine LexW.nil (fun w3 he hkn => ?_)
                      obtain ⟨_, _, q121, r121⟩ : (SPred.ownS wr.drew.heap.size m (plusL p (nthR C r) (nthR C d) (-(nth (nthR C r) k)) m)).holds (.slice (some ⟨g121, 0, none⟩) m c121) w3 := hkn (19, _) (by simp)
                      cases q121
                      have R121 := Lib.hid r121
                      have HE := Lib.hid he
                      clear he hkn r121
                      have ow4 := (HCo.out.ext (ext_drew wr)).ext HE.out
                      obtain ⟨ay, cy, hcy, _⟩ := ow4.at hrn
                      have hfy := ow4.frozen r
                      clear ow4
                      go_wp2_with (fail)
                      go_roundw
                      case rel => exact ⟨r + 1, C.set r (plusL p (nthR C r) (nthR C d) (-(nth (nthR C r) k)) m), by omega, by go_num, Lib.hid (by rw [clrS_ne HRd0.out, ← HC.out]), (HCo.out.ext (ext_drew wr)).put HE.out (HCe.out.trans (ext_drew wr)).size R121.out hrn, (HCe.out.trans ((ext_drew wr).trans HE.out)).setCell HNM.out.1 _⟩
                      case measure => simp [intOf]; omega
                · obtain rfl : r = n := by omega
                  go_wp2_with (fail)
                  go_roundw
                  case rel => exact ⟨k + 1, d + 1, C, by omega, by omega, by go_num, by go_num, Lib.hid (by
                    show stepG p m (gaussS p m rows k) k = _
                    rw [HS.out, stepG_yes (s := (R, d)) HPiv.out (by rw [HRL.out]; exact hjn), HC.out, HU.out, HRL.out]), HCo.out, HCe.out⟩
                  case measure => simp [intOf]; omega
            · have hne : ¬ j = d := fun e => hdj2 e.symm
              go_region
              obtain ⟨W2, hW2⟩ : ∃ W2, W2 = ((wr.setCell ⟨g, d, none⟩ (.slice aj2 m cj2)).setCell ⟨g, j, none⟩ (.slice ad m cd)).drew := ⟨_, rfl⟩
              have HOw2 : Hid (OwnR w.heap.size W2 (some ⟨g, 0, none⟩) n rc (swapL R d j)) := by rw [hW2]; exact HSw.out.ext (ext_drew _)
              have HE2 : Hid (Ext w W2) := by rw [hW2]; exact (((HExt.out.setCell HNM.out.1 _).setCell HNM.out.1 _).trans (ext_drew _))
              rw [← hW2]
              clear hW2 hcd hcj2 hfd hfj HSw HOd HOj
              have HR1 := Lib.hid (swapL_at (show d < R.length by rw [HRL.out]; exact hdn) (show j < R.length by rw [HRL.out]; exact hjn))
              have HXg := Lib.hid (HRG.out j (by rw [HRL.out]; exact hjn))
              obtain ⟨ax, cx, hcx, hox⟩ := HOw2.out.at hdn
              rw [HR1.out, HXg.out.1] at hcx hox
              obtain ⟨bx, ox, rfl, hck⟩ := hox.rd.2 k hkm
              have HXc := Lib.hid ((ext_drew W2).cell hcx)
              have HXk := Lib.hid ((ext_drew W2).cell hck)
              have HXr := Lib.hid (hox.rd.ext (ext_drew W2))
              have HZb := Lib.hid (HXg.out.2 k hkm)
              have HIb : Hid (-1000 ≤ invN p (nth (nthR R j) k) ∧ invN p (nth (nthR R j) k) ≤ 1000) := Lib.hid (by have := invN_bd (p := p) (a := nth (nthR R j) k) (by omega); omega)
              clear hcx hck hox
              go_wp2_with (fail)
              refine wp_region_lex_tail 18 [(15, .val (.int .i64 (invN p (nth (nthR R j) k)))), (16, .ownS W2.drew.heap.size m (scaleL p (nthR R j) (invN p (nth (nthR R j) k)) m))] (by kernel_rfl) (by kernel_rfl) ?_
              simp only [List.take, List.drop]
              (refine LexW.pure (v := ?_) rfl rfl (fun w1 he => ?_) ?_; rotate_left; ( have e1 := he.cell HXc.out; have e2 := he.cell HXk.out; go_simp; rfl); simp only [Act.put, List.setIfInBounds_toArray, List.set_cons_zero, List.set_cons_succ])
              (refine LexW.pure (v := ?_) rfl rfl (fun w1 he => ?_) ?_; rotate_left; ( have e1 := he.cell HXc.out; have e2 := he.cell HXk.out; go_simp; rfl); simp only [Act.put, List.setIfInBounds_toArray, List.set_cons_zero, List.set_cons_succ])
              (refine LexW.pure (v := ?_) rfl rfl (fun w1 he => ?_) ?_; rotate_left; ( have e1 := he.cell HXc.out; have e2 := he.cell HXk.out; go_simp; rfl); simp only [Act.put, List.setIfInBounds_toArray, List.set_cons_zero, List.set_cons_succ])
              (refine LexW.pure (v := ?_) rfl rfl (fun w1 he => ?_) ?_; rotate_left; ( have e1 := he.cell HXc.out; have e2 := he.cell HXk.out; go_simp; rfl); simp only [Act.put, List.setIfInBounds_toArray, List.set_cons_zero, List.set_cons_succ])
              (refine LexW.pure (v := ?_) rfl rfl (fun w1 he => ?_) ?_; rotate_left; ( have e1 := he.cell HXc.out; have e2 := he.cell HXk.out; go_simp; rfl); simp only [Act.put, List.setIfInBounds_toArray, List.set_cons_zero, List.set_cons_succ])
              (refine LexW.pure (v := ?_) rfl rfl (fun w1 he => ?_) ?_; rotate_left; ( have e1 := he.cell HXc.out; have e2 := he.cell HXk.out; go_simp; rfl); simp only [Act.put, List.setIfInBounds_toArray, List.set_cons_zero, List.set_cons_succ])
              (refine LexW.pure (v := ?_) rfl rfl (fun w1 he => ?_) ?_; rotate_left; ( have e1 := he.cell HXc.out; have e2 := he.cell HXk.out; go_simp; rfl); simp only [Act.put, List.setIfInBounds_toArray, List.set_cons_zero, List.set_cons_succ])
              (refine LexW.pure (v := ?_) rfl rfl (fun w1 he => ?_) ?_; rotate_left; ( have e1 := he.cell HXc.out; have e2 := he.cell HXk.out; go_simp; rfl); simp only [Act.put, List.setIfInBounds_toArray, List.set_cons_zero, List.set_cons_succ])
              (refine LexW.pure (v := ?_) rfl rfl (fun w1 he => ?_) ?_; rotate_left; ( have e1 := he.cell HXc.out; have e2 := he.cell HXk.out; go_simp; rfl); simp only [Act.put, List.setIfInBounds_toArray, List.set_cons_zero, List.set_cons_succ])
              (refine LexW.pure (v := ?_) rfl rfl (fun w1 he => ?_) ?_; rotate_left; ( have e1 := he.cell HXc.out; have e2 := he.cell HXk.out; go_simp; rfl); simp only [Act.put, List.setIfInBounds_toArray, List.set_cons_zero, List.set_cons_succ])
              (refine LexW.pure (v := ?_) rfl rfl (fun w1 he => ?_) ?_; rotate_left; ( have e1 := he.cell HXc.out; have e2 := he.cell HXk.out; go_simp; rfl); simp only [Act.put, List.setIfInBounds_toArray, List.set_cons_zero, List.set_cons_succ])
              (refine LexW.pure (v := ?_) rfl rfl (fun w1 he => ?_) ?_; rotate_left; ( have e1 := he.cell HXc.out; have e2 := he.cell HXk.out; go_simp; rfl); simp only [Act.put, List.setIfInBounds_toArray, List.set_cons_zero, List.set_cons_succ])
              (refine LexW.pure (v := ?_) rfl rfl (fun w1 he => ?_) ?_; rotate_left; ( have e1 := he.cell HXc.out; have e2 := he.cell HXk.out; go_simp; rfl); simp only [Act.put, List.setIfInBounds_toArray, List.set_cons_zero, List.set_cons_succ])
              (refine LexW.pure (v := ?_) rfl rfl (fun w1 he => ?_) ?_; rotate_left; ( have e1 := he.cell HXc.out; have e2 := he.cell HXk.out; go_simp; rfl); simp only [Act.put, List.setIfInBounds_toArray, List.set_cons_zero, List.set_cons_succ])
              (refine LexW.pure (v := ?_) rfl rfl (fun w1 he => ?_) ?_; rotate_left; ( have e1 := he.cell HXc.out; have e2 := he.cell HXk.out; go_simp; rfl); simp only [Act.put, List.setIfInBounds_toArray, List.set_cons_zero, List.set_cons_succ])
              (refine LexW.call (f := ?_) (args := ?_) rfl rfl (fun w1 => ?_) (fun w1 he hdep => ?_) ?_; rotate_left 2; (go_simp; refine ⟨?_, ?_⟩ <;> rfl); ( exact c_inv p _ w1 (by omega) (by omega) HZb.out.1 HZb.out.2); simp only [Act.put, List.setIfInBounds_toArray, List.set_cons_zero, List.set_cons_succ])
              (refine LexW.callR (f := ?_) (args := ?_) rfl rfl (fun w1 => ?_) (fun w1 he hdep => ?_) (fun v hv => ?_); rotate_left 2; (go_simp; refine ⟨?_, ?_⟩ <;> rfl); ( refine (c_scaled p _ m _ (nthR R j) (invN p (nth (nthR R j) k)) w1 (by omega) (by omega) HIb.out (by omega) (HXr.out.ext he) HXg.out).mono ?_; rintro e w2 ⟨g, rc, rfl, ho, g2⟩; exact ⟨_, rfl, g2, g, rc, rfl, ho.mono he.size⟩); simp only [Act.put, List.setIfInBounds_toArray, List.set_cons_zero, List.set_cons_succ])
              obtain ⟨_, g82, c82, rfl, _⟩ := hv
              (refine LexW.pure (v := ?_) rfl rfl (fun w1 he => ?_) ?_; rotate_left; ( have e1 := he.cell HXc.out; have e2 := he.cell HXk.out; go_simp; rfl); simp only [Act.put, List.setIfInBounds_toArray, List.set_cons_zero, List.set_cons_succ])
              refine LexW.nil (fun w3 he hkn => ?_)
              obtain ⟨_, _, q82, r82⟩ : (SPred.ownS W2.drew.heap.size m (scaleL p (nthR R j) (invN p (nth (nthR R j) k)) m)).holds (.slice (some ⟨g82, 0, none⟩) m c82) w3 := hkn (16, _) (by simp)
              cases q82
              have R82 := Lib.hid r82
              have HE := Lib.hid he
              clear he hkn r82
              have ow3 := (HOw2.out.ext (ext_drew W2)).ext HE.out
              obtain ⟨ay, cy, hcy, _⟩ := ow3.at hdn
              have hfy := ow3.frozen d
              clear ow3
              go_wp2_with (fail)
              obtain ⟨W3, hW3⟩ : ∃ W3, W3 = w3.setCell ⟨g, d, none⟩ (.slice (some ⟨g82, 0, none⟩) m c82) := ⟨_, rfl⟩
              have HOw3 : Hid (OwnR w.heap.size W3 (some ⟨g, 0, none⟩) n rc (upG p m R d k j)) := by rw [hW3]; exact (HOw2.out.ext (ext_drew W2)).put HE.out (HE2.out.trans (ext_drew W2)).size R82.out hdn
              have HE3 : Hid (Ext w W3) := by rw [hW3]; exact (HE2.out.trans ((ext_drew W2).trans HE.out)).setCell HNM.out.1 _
              rw [← hW3]
              clear hW3 hcy hfy R82 HE HXc HXk HXr HOw2 HE2
              have HUG := Lib.hid (upG_good (k := k) (show 1 ≤ p by omega) HRG.out (show d < R.length by rw [HRL.out]; exact hdn) (show j < R.length by rw [HRL.out]; exact hjn))
              have HUL := Lib.hid (show (upG p m R d k j).length = n by rw [upG_len, HRL.out])
              obtain ⟨U, hU⟩ : ∃ U, U = upG p m R d k j := ⟨_, rfl⟩
              have HU := Lib.hid hU
              rw [← hU] at HOw3 HUG HUL
              clear hU
              go_loopw [86] (fun i wr => ∃ (r : Nat) (C : List (List Int)), r ≤ n ∧ i = .int .i64 r ∧ Hid (C = clrS p k m d U r) ∧ OwnR w.heap.size wr (some ⟨g, 0, none⟩) n rc C ∧ Ext w wr) (fun i _ => n - (intOf i).toNat)
              case atStart => exact ⟨0, U, Nat.zero_le _, rfl, Lib.hid rfl, HOw3.out, HE3.out⟩
              case round =>
                obtain ⟨r, C, hr, rfl, HC, hown, hext⟩ := hrel
                have HCo := Lib.hid hown
                have HCe := Lib.hid hext
                have HCg : Hid (RowsG p m C) := Lib.hid (by rw [HC.out]; exact clrS_good (by omega) HUG.out r)
                have HCl : Hid (C.length = n) := Lib.hid hown.1
                clear hown hext
                by_cases hrn : r < n
                · by_cases hrd : r = d
                  · have hrb : ((r : Int) != (d : Int)) = false := by simp [hrd]
                    have HRD := Lib.hid hrd
                    clear hrd
                    go_wp2_with (fail)
                    go_roundw
                    case rel => exact ⟨r + 1, C, by omega, by go_num, Lib.hid (by rw [HC.out, clrS_self HRD.out]), HCo.out, HCe.out⟩
                    case measure => simp [intOf]; omega
                  · have hrb : ((r : Int) != (d : Int)) = true := by simp; omega
                    obtain ⟨ar, cr, hcr, hor⟩ := HCo.out.at hrn
                    rw [ownR_put_len HCg.out HCl.out hrn] at hcr hor
                    obtain ⟨br, or, rfl, hcrk⟩ := hor.rd.2 k hkm
                    by_cases hz : nth (nthR C r) k = 0
                    · have hzb : (nth (nthR C r) k != 0) = false := by simp [hz]
                      have HZ0 := Lib.hid hz
                      clear hz hor
                      go_wp2_with (fail)
                      go_roundw
                      case rel => exact ⟨r + 1, C, by omega, by go_num, Lib.hid (by rw [clrS_zero (by omega) HUG.out (by rw [HUL.out]; exact hrn) (by rw [← HC.out]; exact HZ0.out)]; exact HC.out), HCo.out, HCe.out⟩
                      case measure => simp [intOf]; omega
                    · have hzb : (nth (nthR C r) k != 0) = true := by simp [hz]
                      have HRd0 := Lib.hid hrd
                      obtain ⟨ad2, cd2, hcd2, hod2⟩ := HCo.out.at hdn
                      rw [ownR_put_len HCg.out HCl.out hdn] at hcd2 hod2
                      have HRr := Lib.hid (hor.rd.ext (ext_drew wr))
                      have HRd := Lib.hid (hod2.rd.ext (ext_drew wr))
                      have HCr := Lib.hid ((ext_drew wr).cell hcr)
                      have HCd := Lib.hid ((ext_drew wr).cell hcd2)
                      have HCk := Lib.hid ((ext_drew wr).cell hcrk)
                      have HGr := Lib.hid (HCg.out r (by rw [HCl.out]; exact hrn))
                      have HGd := Lib.hid (HCg.out d (by rw [HCl.out]; exact hdn))
                      have HZr := Lib.hid (HGr.out.2 k hkm)
                      have HNeg : Hid (IntKind.i64.wrap (-(nth (nthR C r) k)) = -(nth (nthR C r) k)) := Lib.hid (IntWalk.i64_in _ (by have := HZr.out; omega))
                      clear hz hor hod2 hcd2
                      go_wp2_with (fail)
                      clear hcr hcrk
                      refine wp_region_lex_tail 21 [(19, .ownS wr.drew.heap.size m (plusL p (nthR C r) (nthR C d) (-(nth (nthR C r) k)) m))] (by kernel_rfl) (by kernel_rfl) ?_
                      simp only [List.take, List.drop]
                      (refine LexW.pure (v := ?_) rfl rfl (fun w1 he => ?_) ?_; rotate_left; ( have e1 := he.cell HCr.out; have e2 := he.cell HCd.out; have e3 := he.cell HCk.out; have e4 := HNeg.out; go_simp; rfl); simp only [Act.put, List.setIfInBounds_toArray, List.set_cons_zero, List.set_cons_succ])
                      (refine LexW.pure (v := ?_) rfl rfl (fun w1 he => ?_) ?_; rotate_left; ( have e1 := he.cell HCr.out; have e2 := he.cell HCd.out; have e3 := he.cell HCk.out; have e4 := HNeg.out; go_simp; rfl); simp only [Act.put, List.setIfInBounds_toArray, List.set_cons_zero, List.set_cons_succ])
                      (refine LexW.pure (v := ?_) rfl rfl (fun w1 he => ?_) ?_; rotate_left; ( have e1 := he.cell HCr.out; have e2 := he.cell HCd.out; have e3 := he.cell HCk.out; have e4 := HNeg.out; go_simp; rfl); simp only [Act.put, List.setIfInBounds_toArray, List.set_cons_zero, List.set_cons_succ])
                      (refine LexW.pure (v := ?_) rfl rfl (fun w1 he => ?_) ?_; rotate_left; ( have e1 := he.cell HCr.out; have e2 := he.cell HCd.out; have e3 := he.cell HCk.out; have e4 := HNeg.out; go_simp; rfl); simp only [Act.put, List.setIfInBounds_toArray, List.set_cons_zero, List.set_cons_succ])
                      (refine LexW.pure (v := ?_) rfl rfl (fun w1 he => ?_) ?_; rotate_left; ( have e1 := he.cell HCr.out; have e2 := he.cell HCd.out; have e3 := he.cell HCk.out; have e4 := HNeg.out; go_simp; rfl); simp only [Act.put, List.setIfInBounds_toArray, List.set_cons_zero, List.set_cons_succ])
                      (refine LexW.pure (v := ?_) rfl rfl (fun w1 he => ?_) ?_; rotate_left; ( have e1 := he.cell HCr.out; have e2 := he.cell HCd.out; have e3 := he.cell HCk.out; have e4 := HNeg.out; go_simp; rfl); simp only [Act.put, List.setIfInBounds_toArray, List.set_cons_zero, List.set_cons_succ])
                      (refine LexW.pure (v := ?_) rfl rfl (fun w1 he => ?_) ?_; rotate_left; ( have e1 := he.cell HCr.out; have e2 := he.cell HCd.out; have e3 := he.cell HCk.out; have e4 := HNeg.out; go_simp; rfl); simp only [Act.put, List.setIfInBounds_toArray, List.set_cons_zero, List.set_cons_succ])
                      (refine LexW.pure (v := ?_) rfl rfl (fun w1 he => ?_) ?_; rotate_left; ( have e1 := he.cell HCr.out; have e2 := he.cell HCd.out; have e3 := he.cell HCk.out; have e4 := HNeg.out; go_simp; rfl); simp only [Act.put, List.setIfInBounds_toArray, List.set_cons_zero, List.set_cons_succ])
                      (refine LexW.pure (v := ?_) rfl rfl (fun w1 he => ?_) ?_; rotate_left; ( have e1 := he.cell HCr.out; have e2 := he.cell HCd.out; have e3 := he.cell HCk.out; have e4 := HNeg.out; go_simp; rfl); simp only [Act.put, List.setIfInBounds_toArray, List.set_cons_zero, List.set_cons_succ])
                      (refine LexW.pure (v := ?_) rfl rfl (fun w1 he => ?_) ?_; rotate_left; ( have e1 := he.cell HCr.out; have e2 := he.cell HCd.out; have e3 := he.cell HCk.out; have e4 := HNeg.out; go_simp; rfl); simp only [Act.put, List.setIfInBounds_toArray, List.set_cons_zero, List.set_cons_succ])
                      (refine LexW.pure (v := ?_) rfl rfl (fun w1 he => ?_) ?_; rotate_left; ( have e1 := he.cell HCr.out; have e2 := he.cell HCd.out; have e3 := he.cell HCk.out; have e4 := HNeg.out; go_simp; rfl); simp only [Act.put, List.setIfInBounds_toArray, List.set_cons_zero, List.set_cons_succ])
                      (refine LexW.pure (v := ?_) rfl rfl (fun w1 he => ?_) ?_; rotate_left; ( have e1 := he.cell HCr.out; have e2 := he.cell HCd.out; have e3 := he.cell HCk.out; have e4 := HNeg.out; go_simp; rfl); simp only [Act.put, List.setIfInBounds_toArray, List.set_cons_zero, List.set_cons_succ])
                      (refine LexW.pure (v := ?_) rfl rfl (fun w1 he => ?_) ?_; rotate_left; ( have e1 := he.cell HCr.out; have e2 := he.cell HCd.out; have e3 := he.cell HCk.out; have e4 := HNeg.out; go_simp; rfl); simp only [Act.put, List.setIfInBounds_toArray, List.set_cons_zero, List.set_cons_succ])
                      (refine LexW.pure (v := ?_) rfl rfl (fun w1 he => ?_) ?_; rotate_left; ( have e1 := he.cell HCr.out; have e2 := he.cell HCd.out; have e3 := he.cell HCk.out; have e4 := HNeg.out; go_simp; rfl); simp only [Act.put, List.setIfInBounds_toArray, List.set_cons_zero, List.set_cons_succ])
                      (refine LexW.pure (v := ?_) rfl rfl (fun w1 he => ?_) ?_; rotate_left; ( have e1 := he.cell HCr.out; have e2 := he.cell HCd.out; have e3 := he.cell HCk.out; have e4 := HNeg.out; go_simp; rfl); simp only [Act.put, List.setIfInBounds_toArray, List.set_cons_zero, List.set_cons_succ])
                      (refine LexW.pure (v := ?_) rfl rfl (fun w1 he => ?_) ?_; rotate_left; ( have e1 := he.cell HCr.out; have e2 := he.cell HCd.out; have e3 := he.cell HCk.out; have e4 := HNeg.out; go_simp; rfl); simp only [Act.put, List.setIfInBounds_toArray, List.set_cons_zero, List.set_cons_succ])
                      (refine LexW.pure (v := ?_) rfl rfl (fun w1 he => ?_) ?_; rotate_left; ( have e1 := he.cell HCr.out; have e2 := he.cell HCd.out; have e3 := he.cell HCk.out; have e4 := HNeg.out; go_simp; rfl); simp only [Act.put, List.setIfInBounds_toArray, List.set_cons_zero, List.set_cons_succ])
                      (refine LexW.pure (v := ?_) rfl rfl (fun w1 he => ?_) ?_; rotate_left; ( have e1 := he.cell HCr.out; have e2 := he.cell HCd.out; have e3 := he.cell HCk.out; have e4 := HNeg.out; go_simp; rfl); simp only [Act.put, List.setIfInBounds_toArray, List.set_cons_zero, List.set_cons_succ])
                      (refine LexW.pure (v := ?_) rfl rfl (fun w1 he => ?_) ?_; rotate_left; ( have e1 := he.cell HCr.out; have e2 := he.cell HCd.out; have e3 := he.cell HCk.out; have e4 := HNeg.out; go_simp; rfl); simp only [Act.put, List.setIfInBounds_toArray, List.set_cons_zero, List.set_cons_succ])
                      (refine LexW.callR (f := ?_) (args := ?_) rfl rfl (fun w1 => ?_) (fun w1 he hdep => ?_) (fun v hv => ?_); rotate_left 2; (go_simp; refine ⟨?_, ?_⟩ <;> rfl); ( refine (c_plus p _ _ m _ _ (nthR C r) (nthR C d) (-(nth (nthR C r) k)) w1 (by omega) (by omega) (by have := HZr.out; omega) (by omega) (HRr.out.ext he) (HRd.out.ext he) HGr.out HGd.out).mono ?_; rintro e w2 ⟨g, rc, rfl, ho, g2⟩; exact ⟨_, rfl, g2, g, rc, rfl, ho.mono he.size⟩); simp only [Act.put, List.setIfInBounds_toArray, List.set_cons_zero, List.set_cons_succ])
                      obtain ⟨_, g121, c121, rfl, _⟩ := hv
                      (refine LexW.pure (v := ?_) rfl rfl (fun w1 he => ?_) ?_; rotate_left; ( have e1 := he.cell HCr.out; have e2 := he.cell HCd.out; have e3 := he.cell HCk.out; have e4 := HNeg.out; go_simp; rfl); simp only [Act.put, List.setIfInBounds_toArray, List.set_cons_zero, List.set_cons_succ])
                      refine LexW.nil (fun w3 he hkn => ?_)
                      obtain ⟨_, _, q121, r121⟩ : (SPred.ownS wr.drew.heap.size m (plusL p (nthR C r) (nthR C d) (-(nth (nthR C r) k)) m)).holds (.slice (some ⟨g121, 0, none⟩) m c121) w3 := hkn (19, _) (by simp)
                      cases q121
                      have R121 := Lib.hid r121
                      have HE := Lib.hid he
                      clear he hkn r121
                      have ow4 := (HCo.out.ext (ext_drew wr)).ext HE.out
                      obtain ⟨ay, cy, hcy, _⟩ := ow4.at hrn
                      have hfy := ow4.frozen r
                      clear ow4
                      go_wp2_with (fail)
                      go_roundw
                      case rel => exact ⟨r + 1, C.set r (plusL p (nthR C r) (nthR C d) (-(nth (nthR C r) k)) m), by omega, by go_num, Lib.hid (by rw [clrS_ne HRd0.out, ← HC.out]), (HCo.out.ext (ext_drew wr)).put HE.out (HCe.out.trans (ext_drew wr)).size R121.out hrn, (HCe.out.trans ((ext_drew wr).trans HE.out)).setCell HNM.out.1 _⟩
                      case measure => simp [intOf]; omega
                · obtain rfl : r = n := by omega
                  go_wp2_with (fail)
                  go_roundw
                  case rel => exact ⟨k + 1, d + 1, C, by omega, by omega, by go_num, by go_num, Lib.hid (by
                    show stepG p m (gaussS p m rows k) k = _
                    rw [HS.out, stepG_yes (s := (R, d)) HPiv.out (by rw [HRL.out]; exact hjn), HC.out, HU.out, HRL.out]), HCo.out, HCe.out⟩
                  case measure => simp [intOf]; omega
        · have hjb : ((j : Int) == (n : Int)) = true := by simp; omega
          have HPiv := Lib.hid (pivG_eq (rows := R) (k := k) (d := d) hdj (by rw [HRL.out]; exact hj) HZ.out (.inl (by rw [HRL.out]; omega)))
          go_wp2_with (fail)
          go_roundw
          case rel => exact ⟨k + 1, d, R, by omega, hd, by go_num, rfl, Lib.hid (by
            show stepG p m (gaussS p m rows k) k = _
            rw [HS.out]
            exact stepG_no (s := (R, d)) (by rw [HPiv.out, HRL.out]; omega)), HOwn.out, HExt.out⟩
          case measure => simp [intOf]; omega
end Go.Proofs.YtcocbainookkcaaGreat

/-
  Contract: multiples of lists, in the reference; a row brought up by two stores with calls between.
  No condition.
-/
namespace Go.Proofs.YtcocbainookkcaaGreat
set_option maxRecDepth 100000
open Go.RowKit


/-- Row d is stored at place i; later a new row at place d. -/
theorem OwnR.up {B : Nat} {w0 w2 : World} {g n cap : Nat} {rows : List (List Int)} {b : Option Addr} {m c : Nat} {xs : List Int} {i d : Nat} {ad : Option Addr} {cd : Nat}
    (h : OwnR B w0 (some ⟨g, 0, none⟩) n cap rows) (hi : i < n) (hd : d < n) (hc : w0.cell? ⟨g, d, none⟩ = some (.slice ad (nthR rows d).length cd))
    (he : Ext (w0.setCell ⟨g, i, none⟩ (.slice ad (nthR rows d).length cd)) w2) (hB : B ≤ w0.heap.size) (hx : OwnC w0.heap.size w2 b m c xs) :
    OwnR B (w2.setCell ⟨g, d, none⟩ (.slice b m c)) (some ⟨g, 0, none⟩) n cap ((rows.set i (nthR rows d)).set d xs) ∧ (∃ v, w2.cell? ⟨g, d, none⟩ = some v) ∧ w2.frozen? ⟨g, d, none⟩ = false := by
  obtain ⟨h1, vs, h2, hap, h4⟩ := h
  have hvl : vs.length = n := by have := h2.1; omega
  have vd : vs[d]? = some (.slice ad (nthR rows d).length cd) := by rw [← h2.cellAt d (by omega)]; exact hc
  have h3 := (h2.stored i (.slice ad (nthR rows d).length cd)).1
  have h3' := ownsRow_ext h3 he
  refine ⟨?_, ⟨_, (h3'.cellAt d (by omega)).trans (List.getElem?_eq_getElem (by simp; omega))⟩, h3'.frozenAt d⟩
  have h5 := (h3'.stored d (.slice b m c)).1
  have get : ∀ k, k < n → ((vs.set i (.slice ad (nthR rows d).length cd)).set d (.slice b m c))[k]? = if k = d then some (.slice b m c) else vs[if k = i then d else k]? := fun k hk => by
    by_cases hkd : k = d
    · subst hkd; rw [List.getElem?_set_self (by simp; omega), if_pos rfl]
    · rw [List.getElem?_set_ne (Ne.symm hkd), if_neg hkd]
      by_cases hki : k = i
      · subst hki; rw [List.getElem?_set_self (by omega), if_pos rfl, vd]
      · rw [List.getElem?_set_ne (Ne.symm hki), if_neg hki]
  have old : ∀ l n3 c3 g', l < n → vs[l]? = some (.slice (some ⟨g', 0, none⟩) n3 c3) → g' < w0.heap.size := fun l n3 c3 g' hl e => by
    obtain ⟨ai, ci, h5, h6⟩ := h4 l hl
    rw [h5] at e
    simp only [Option.some.injEq, Value.slice.injEq] at e
    exact (h6.base_of g' e.1).2
  refine ⟨by simpa using h1, _, h5, ?_, fun k hk => ?_⟩
  · intro k l g' n1 c1 n2 c2 hkl hk hl
    have lt : ∀ l n3 c3, ((vs.set i (.slice ad (nthR rows d).length cd)).set d (.slice b m c))[l]? = some (.slice (some ⟨g', 0, none⟩) n3 c3) → l < n := fun l n3 c3 e => by
      rcases Nat.lt_or_ge l n with h | h
      · exact h
      · rw [List.getElem?_eq_none (by simp; omega)] at e; cases e
    have hk' := lt _ _ _ hk
    have hl' := lt _ _ _ hl
    rw [get k hk'] at hk
    rw [get l hl'] at hl
    by_cases hkd : k = d
    · rw [if_pos hkd] at hk
      simp only [Option.some.injEq, Value.slice.injEq] at hk
      have h7 := (hx.base_of g' hk.1).1
      rw [if_neg (by omega)] at hl
      have h8 := old _ _ _ _ (by split <;> omega) hl
      omega
    · rw [if_neg hkd] at hk
      by_cases hld : l = d
      · rw [if_pos hld] at hl
        simp only [Option.some.injEq, Value.slice.injEq] at hl
        have h7 := (hx.base_of g' hl.1).1
        have h8 := old _ _ _ _ (by split <;> omega) hk
        omega
      · rw [if_neg hld] at hl
        refine hap _ _ g' _ _ _ _ ?_ hk hl
        split <;> split <;> omega
  · rw [get k hk, nthR_set (by simp; omega)]
    by_cases hkd : k = d
    · subst hkd
      rw [if_pos rfl, if_pos rfl, hx.1]
      exact ⟨b, c, rfl, (hx.mono hB).setOuter h3' _⟩
    · rw [if_neg hkd, if_neg (Ne.symm hkd), nthR_set (by omega)]
      have e : (if i = k then nthR rows d else nthR rows k) = nthR rows (if k = i then d else k) := by
        by_cases hki : k = i
        · subst hki; simp
        · rw [if_neg hki, if_neg (Ne.symm hki)]
      rw [e]
      obtain ⟨al, cl, h6, h7⟩ := h4 (if k = i then d else k) (by split <;> omega)
      exact ⟨al, cl, h6, ((h7.setOuter h2 _).ext he).setOuter h3' _⟩
theorem upG_eq {p : Int} {m : Nat} {rows : List (List Int)} {d k i : Nat} : upG p m rows d k i = (rows.set i (nthR rows d)).set d (scaleL p (nthR rows i) (invN p (nth (nthR rows i) k)) m) := by
  unfold upG swapL
  by_cases h : d = i
  · subst h; simp
  · rw [List.set_comm _ _ (by omega : i ≠ d), List.set_set, List.set_comm _ _ (by omega : d ≠ i)]

end Go.Proofs.YtcocbainookkcaaGreat

/-
  Contract: the reduced basis of rows, in the reference.
  No condition.
-/
namespace Go.Proofs.YtcocbainookkcaaGreat
set_option maxRecDepth 100000
open Go.RowKit

end Go.Proofs.YtcocbainookkcaaGreat

/-
  The listed function LeftIdealOf.
  No condition.
-/
namespace Go.Proofs.YtcocbainookkcaaGreat
set_option maxRecDepth 100000
open Go.RowKit

def idealL (p : Int) (qs x : List Int) : List (List Int) := basisL p (2 ^ qs.length) (turnL (matM p qs x false) (2 ^ qs.length) (2 ^ qs.length))
theorem turn_good {p : Int} {n m : Nat} {rows : List (List Int)} (h : RowsG p m rows) (hn : n = rows.length) : RowsG p n (turnL rows n m) := fun i hi => by
  rw [turnL_len] at hi
  rw [turnL_nth hi]
  exact ⟨colL_len _ _ _, fun j hj => by rw [colL_nth hj]; exact (h j (by omega)).2 i hi⟩
theorem ideal_cnt {p : Int} {qs x : List Int} (hp : primeB p = true) (hd : qs.length ≤ 6) : (idealL p qs x).length ≤ 1048576 ∧ cntR (idealL p qs x) (idealL p qs x).length ≤ 1048576 := by
  have hpb := prime_bd hp
  have h64 := pow_le64 hd
  obtain ⟨c, hb⟩ := basis_red hp (turn_good (matM_good (qs := qs) (x := x) (left := false) (show 1 ≤ p by omega)) (matM_len p qs x false).symm)
  have hl : (idealL p qs x).length ≤ 2 ^ qs.length := hb.len
  refine ⟨by omega, ?_⟩
  rw [cnt_good (show RowsG p (2 ^ qs.length) (idealL p qs x) from hb.good) _ (Nat.le_refl _)]
  exact Nat.le_trans (Nat.mul_le_mul hl (Nat.le_refl _)) (Nat.le_trans (Nat.mul_le_mul h64 h64) (by omega))




end Go.Proofs.YtcocbainookkcaaGreat

/-
  Matrices: checks, products, the listed functions of them at matrices.
  No condition.
-/
namespace Go.Proofs.YtcocbainookkcaaGreat
set_option maxRecDepth 100000
open Go.RowKit

/-- A row fits a table. -/
def rowOk (p : Int) (m : Nat) (r : List Int) : Bool := decide (r.length = m) && decide (1 ≤ r.length) && decide (r.length ≤ 16) && isB p r
def tableB (p : Int) (rows : List (List Int)) : Bool := decide (rows.length ≤ 16) && decide (∀ i, i < rows.length → rowOk p (nthR rows 0).length (nthR rows i) = true)
def matB (p : Int) (rows : List (List Int)) : Bool := decide (0 < rows.length) && tableB p rows
theorem table_big {p : Int} {rows : List (List Int)} (h : 16 < rows.length) : tableB p rows = false := by
  unfold tableB; rw [decide_eq_false (by omega)]; rfl
theorem table_not {p : Int} {rows : List (List Int)} {n k : Nat} (hk : k < n) (hn : rows.length = n) (h : rowOk p (nthR rows 0).length (nthR rows k) = false) : tableB p rows = false := by
  unfold tableB
  rw [decide_eq_false (p := ∀ i, i < rows.length → _) (fun ha => by have := ha k (by omega); rw [h] at this; cases this)]
  simp
theorem table_yes {p : Int} {rows : List (List Int)} {n : Nat} (hn : rows.length = n) (h16 : n ≤ 16) (h : ∀ k, k < n → rowOk p (nthR rows 0).length (nthR rows k) = true) : tableB p rows = true := by
  unfold tableB
  rw [decide_eq_true (by omega), decide_eq_true (by rw [hn]; exact h)]; rfl
theorem rowOk_of {p : Int} {m : Nat} {r : List Int} (h : rowOk p m r = true) : Good p m r ∧ 1 ≤ m ∧ m ≤ 16 := by
  unfold rowOk at h
  simp only [Bool.and_eq_true, decide_eq_true_eq] at h
  obtain ⟨⟨⟨h1, h2⟩, h3⟩, h4⟩ := h
  exact ⟨good_isB h1 h4, by omega, by omega⟩
theorem matB_of {p : Int} {rows : List (List Int)} (h : matB p rows = true) : 0 < rows.length ∧ rows.length ≤ 16 ∧ ∃ m, 1 ≤ m ∧ m ≤ 16 ∧ ∀ i, i < rows.length → Good p m (nthR rows i) := by
  unfold matB tableB at h
  simp only [Bool.and_eq_true, decide_eq_true_eq] at h
  obtain ⟨h1, h2, h3⟩ := h
  have h0 := rowOk_of (h3 0 h1)
  exact ⟨h1, h2, _, h0.2.1, h0.2.2, fun i hi => (rowOk_of (h3 i hi)).1⟩
theorem matB_good {p : Int} {rows : List (List Int)} {n m : Nat} (hn : rows.length = n) (h0 : 0 < n) (h16 : n ≤ 16) (hm : 1 ≤ m) (hm16 : m ≤ 16) (h : ∀ i, i < n → Good p m (nthR rows i)) : matB p rows = true := by
  unfold matB
  rw [decide_eq_true (by omega), table_yes hn h16 (fun k hk => ?_)]
  · rfl
  · have hk' := h k hk
    unfold rowOk
    rw [(h 0 h0).1, hk'.1, good_bits hk', decide_eq_true rfl, decide_eq_true hm, decide_eq_true hm16]; rfl


/-! ### Products -/
/-- A matrix and a vector. -/
def appL (p : Int) (rows : List (List Int)) (v : List Int) (m n : Nat) : List Int := (List.range n).map fun i => dotL p (nthR rows i) v m
theorem appL_succ (p : Int) (rows : List (List Int)) (v : List Int) (m n : Nat) : appL p rows v m (n + 1) = appL p rows v m n ++ [dotL p (nthR rows n) v m] := by simp [appL, List.range_succ]
theorem appL_len (p : Int) (rows : List (List Int)) (v : List Int) (m n : Nat) : (appL p rows v m n).length = n := by simp [appL]
theorem appL_nth {p : Int} {rows : List (List Int)} {v : List Int} {m n i : Nat} (h : i < n) : nth (appL p rows v m n) i = dotL p (nthR rows i) v m := by
  unfold appL; rw [nth_map (by simpa using h)]; simp
theorem dotL_bd {p : Int} {x y : List Int} {n : Nat} (hp : 1 ≤ p) : 0 ≤ dotL p x y n ∧ dotL p x y n < p := ⟨Int.emod_nonneg _ (by omega), Int.emod_lt_of_pos _ (by omega)⟩
theorem app_good {p : Int} {rows : List (List Int)} {v : List Int} {m n : Nat} (hp : 1 ≤ p) : Good p n (appL p rows v m n) := ⟨appL_len _ _ _ _ _, fun i hi => by rw [appL_nth hi]; exact dotL_bd hp⟩
/-- The product of matrices: n rows, k columns, m in between. -/
def mulL (p : Int) (a b : List (List Int)) (n m k : Nat) : List (List Int) := (List.range n).map fun i => appL p (turnL b m k) (nthR a i) m k
theorem mulL_succ (p : Int) (a b : List (List Int)) (n m k : Nat) : mulL p a b (n + 1) m k = mulL p a b n m k ++ [appL p (turnL b m k) (nthR a n) m k] := by simp [mulL, List.range_succ]
theorem mulL_len (p : Int) (a b : List (List Int)) (n m k : Nat) : (mulL p a b n m k).length = n := by simp [mulL]
theorem mulL_nth {p : Int} {a b : List (List Int)} {n m k i : Nat} (h : i < n) : nthR (mulL p a b n m k) i = appL p (turnL b m k) (nthR a i) m k := by
  unfold mulL; rw [nthR_map (by simpa using h)]; simp
theorem mul_good {p : Int} {a b : List (List Int)} {n m k : Nat} (hp : 1 ≤ p) : ∀ i, i < n → Good p k (nthR (mulL p a b n m k) i) := fun i hi => by
  rw [mulL_nth hi]; exact app_good hp


end Go.Proofs.YtcocbainookkcaaGreat

/-
  Isometries of a space and inverses of matrices, in plain numbers.
  No condition. No program in sight.
-/
namespace Go.Proofs.YtcocbainookkcaaGreat
set_option maxRecDepth 100000
open Go.RowKit

theorem pairL_comm {p : Int} {qs v u : List Int} {n : Nat} : pairL p qs v u n = pairL p qs u v n := by
  unfold pairL dotL
  have h : ∀ k, k ≤ n → dotS (wtL p qs v n) u k % p = dotS (wtL p qs u n) v k % p := by
    intro k
    induction k with
    | zero => intro _; rfl
    | succ k ih =>
      intro hk
      simp only [dotS]
      rw [Int.add_emod, ih (by omega), wtL_nth (by omega), wtL_nth (by omega)]
      conv => rhs; rw [Int.add_emod]
      congr 2
      unfold wtN
      rw [Int.mul_emod, Int.emod_emod, ← Int.mul_emod]
      conv => rhs; rw [Int.mul_emod, Int.emod_emod, ← Int.mul_emod]
      congr 1
      rw [Int.mul_assoc, Int.mul_comm (nth v k), Int.mul_assoc, Int.mul_comm (nth u k), Int.mul_comm (nth u k), Int.mul_assoc, Int.mul_comm (nth v k), ← Int.mul_assoc]
  exact h n (Nat.le_refl _)

/-- The product that two columns must have. -/
def wantN (qs : List Int) (i k : Nat) : Int := if i = k then nth qs i else 0
def isoAt (p : Int) (qs : List Int) (cols : List (List Int)) (d i k : Nat) : Prop := pairL p qs (nthR cols i) (nthR cols k) d = wantN qs i k
instance (p : Int) (qs : List Int) (cols : List (List Int)) (d i k : Nat) : Decidable (isoAt p qs cols d i k) := inferInstanceAs (Decidable (_ = _))
def isoB (p : Int) (qs : List Int) (rows : List (List Int)) (d : Nat) : Bool :=
  matB p rows && decide (rows.length = d) && decide ((nthR rows 0).length = d) && decide (detL p d rows ≠ 0) && decide (∀ i, i < d → ∀ k, k < d → isoAt p qs (turnL rows d d) d i k)
theorem isoAt_comm {p : Int} {qs : List Int} {cols : List (List Int)} {d i k : Nat} : isoAt p qs cols d i k ↔ isoAt p qs cols d k i := by
  unfold isoAt wantN
  rw [pairL_comm]
  by_cases h : i = k
  · subst h; exact Iff.rfl
  · rw [if_neg h, if_neg (Ne.symm h)]
theorem isoB_yes {p : Int} {qs : List Int} {rows : List (List Int)} {d : Nat} (hm : matB p rows = true) (hn : rows.length = d) (h0 : (nthR rows 0).length = d) (hd : detL p d rows ≠ 0) (h : ∀ i, i < d → ∀ k, k < d → isoAt p qs (turnL rows d d) d i k) : isoB p qs rows d = true := by
  unfold isoB
  rw [hm, decide_eq_true hn, decide_eq_true h0, decide_eq_true hd, decide_eq_true h]; rfl
theorem isoB_yes2 {p : Int} {qs : List Int} {rows : List (List Int)} {d : Nat} (hm : matB p rows = true) (hn : rows.length = d) (h0 : (nthR rows 0).length = d) (hd : detL p d rows ≠ 0) (h : ∀ i, i < d → ∀ k, k < i + 1 → isoAt p qs (turnL rows d d) d i k) : isoB p qs rows d = true := by
  refine isoB_yes hm hn h0 hd fun i hi k hk => ?_
  by_cases hki : k < i + 1
  · exact h i hi k hki
  · exact isoAt_comm.1 (h k hk i (by omega))
theorem isoB_mat {p : Int} {qs : List Int} {rows : List (List Int)} {d : Nat} (h : matB p rows = false) : isoB p qs rows d = false := by unfold isoB; rw [h]; rfl
theorem isoB_len {p : Int} {qs : List Int} {rows : List (List Int)} {d : Nat} (h : rows.length ≠ d) : isoB p qs rows d = false := by unfold isoB; rw [decide_eq_false h]; simp
theorem isoB_wid {p : Int} {qs : List Int} {rows : List (List Int)} {d : Nat} (h : (nthR rows 0).length ≠ d) : isoB p qs rows d = false := by unfold isoB; rw [decide_eq_false h]; simp
theorem isoB_det {p : Int} {qs : List Int} {rows : List (List Int)} {d : Nat} (h : detL p d rows = 0) : isoB p qs rows d = false := by unfold isoB; rw [decide_eq_false (p := detL p d rows ≠ 0) (by simp [h])]; simp
theorem isoB_at {p : Int} {qs : List Int} {rows : List (List Int)} {d i k : Nat} (hi : i < d) (hk : k < d) (h : ¬ isoAt p qs (turnL rows d d) d i k) : isoB p qs rows d = false := by
  unfold isoB; rw [decide_eq_false (p := ∀ i, i < d → ∀ k, k < d → isoAt p qs (turnL rows d d) d i k) (fun ha => h (ha i hi k hk))]; simp
theorem isoB_of {p : Int} {qs : List Int} {rows : List (List Int)} {d : Nat} (h : isoB p qs rows d = true) : matB p rows = true ∧ rows.length = d ∧ (nthR rows 0).length = d ∧ detL p d rows ≠ 0 ∧ ∀ i, i < d → ∀ k, k < d → isoAt p qs (turnL rows d d) d i k := by
  unfold isoB at h
  simp only [Bool.and_eq_true, decide_eq_true_eq] at h
  obtain ⟨⟨⟨⟨h1, h2⟩, h3⟩, h4⟩, h5⟩ := h
  exact ⟨h1, h2, h3, h4, h5⟩
/-- A matrix all of whose rows have the length of the first one. -/
theorem mat_good {p : Int} {rows : List (List Int)} {d : Nat} (h : matB p rows = true) (h0 : (nthR rows 0).length = d) : RowsG p d rows := by
  obtain ⟨h1, _, m, _, _, hg⟩ := matB_of h
  have : d = m := by rw [← h0]; exact (hg 0 h1).1
  subst this
  exact hg
theorem frame_good {p : Int} {rows : List (List Int)} {d : Nat} (hm : matB p rows = true) (_hn : rows.length = d) (h0 : (nthR rows 0).length = d) : ∀ i, i < d → (nthR rows i).length = d := fun i hi => (mat_good hm h0 i (by omega)).1

/-! ### Inverses -/
def wideM (A : List (List Int)) (n k : Nat) : List (List Int) := (List.range k).map fun i => nthR A i ++ bladeL n i
theorem wideM_succ (A : List (List Int)) (n k : Nat) : wideM A n (k + 1) = wideM A n k ++ [nthR A k ++ bladeL n k] := by simp [wideM, List.range_succ]
theorem wideM_len (A : List (List Int)) (n k : Nat) : (wideM A n k).length = k := by simp [wideM]
theorem wideM_nth {A : List (List Int)} {n k i : Nat} (h : i < k) : nthR (wideM A n k) i = nthR A i ++ bladeL n i := by
  unfold wideM; rw [nthR_map (by simpa using h)]; simp
theorem good_append {p : Int} {n m : Nat} {x y : List Int} (hx : Good p n x) (hy : Good p m y) : Good p (n + m) (x ++ y) := by
  refine ⟨by rw [List.length_append, hx.1, hy.1], fun i hi => ?_⟩
  by_cases h : i < n
  · rw [nth_append_left (by rw [hx.1]; exact h)]; exact hx.2 i h
  · have : nth (x ++ y) i = nth y (i - n) := by
      unfold nth
      rw [List.getD_eq_getElem?_getD, List.getD_eq_getElem?_getD, List.getElem?_append_right (by rw [hx.1]; omega), hx.1]
    rw [this]; exact hy.2 _ (by omega)
theorem wideM_good {p : Int} {A : List (List Int)} {n : Nat} (hp : 3 ≤ p) (hg : RowsG p n A) (hn : A.length = n) : RowsG p (n + n) (wideM A n n) := fun i hi => by
  rw [wideM_len] at hi
  rw [wideM_nth hi]
  exact good_append (hg i (by omega)) (blade_good hp)
theorem clr_cut {p : Int} {n m k d : Nat} {U V : List (List Int)} (hnm : n ≤ m) (hk : k < n) (hl : U.length = V.length) (h : ∀ j t, t < n → nth (nthR U j) t = nth (nthR V j) t) : ∀ j t, t < n → nth (nthR (clrS p k m d U U.length) j) t = nth (nthR (clrS p k n d V V.length) j) t := by
  intro j t ht
  rw [clrS_nth _ (Nat.le_refl _), clrS_nth _ (Nat.le_refl _), hl]
  split
  · rw [plusL_nth (by omega), plusL_nth ht, plusN, plusN, h j t ht, h d t ht, h j k hk]
  · exact h j t ht
theorem up_cut {p : Int} {n m k d i : Nat} {R S : List (List Int)} (hnm : n ≤ m) (hk : k < n) (hl : R.length = S.length) (hd : d < R.length) (hi : i < R.length) (h : ∀ j t, t < n → nth (nthR R j) t = nth (nthR S j) t) : ∀ j t, t < n → nth (nthR (upG p m R d k i) j) t = nth (nthR (upG p n S d k i) j) t := by
  intro j t ht
  rw [upG_nth hd hi, upG_nth (by omega) (by omega)]
  split
  · rw [scaleL_nth (by omega), scaleL_nth ht, scaleN, scaleN, h i t ht, h i k hk]
  · split
    · exact h d t ht
    · exact h j t ht
theorem piv_cut {n k d : Nat} {R S : List (List Int)} (hk : k < n) (hl : R.length = S.length) (hd : d ≤ R.length) (h : ∀ j t, t < n → nth (nthR R j) t = nth (nthR S j) t) : pivG R k d = pivG S k d := by
  obtain ⟨h1, h2, h3, h4⟩ := pivG_spec S k d (by omega)
  refine pivG_eq h1 (by omega) (fun j hj hj2 => by rw [h j k hk]; exact h3 j hj hj2) ?_
  rcases h4 with h4 | h4
  · exact .inl (by omega)
  · exact .inr (by rw [h _ k hk]; exact h4)
/-- Elimination with wide rows does at the first places what elimination with these places alone does. -/
theorem gauss_cut {p : Int} {n m : Nat} {A W : List (List Int)} (hp : primeB p = true) (hgA : RowsG p n A) (hgW : RowsG p m W) (hnm : n ≤ m) (hl : W.length = A.length) (h : ∀ j t, t < n → nth (nthR W j) t = nth (nthR A j) t) :
    ∀ k, k ≤ n → (gaussS p m W k).2 = (gaussS p n A k).2 ∧ ∀ j t, t < n → nth (nthR (gaussS p m W k).1 j) t = nth (nthR (gaussS p n A k).1 j) t
  | 0, _ => ⟨rfl, h⟩
  | k + 1, hk => by
    obtain ⟨e1, e2⟩ := gauss_cut hp hgA hgW hnm hl h k (by omega)
    obtain ⟨_, cW, rW⟩ := gaussS_red hp hgW k (by omega)
    have lW := gaussS_len (p := p) (m := m) (rows := W) k
    have lA := gaussS_len (p := p) (m := n) (rows := A) k
    have hd := rW.dle
    have hpv := piv_cut (n := n) (k := k) (d := (gaussS p m W k).2) (by omega) (show (gaussS p m W k).1.length = (gaussS p n A k).1.length by omega) hd e2
    show (stepG p m (gaussS p m W k) k).2 = (stepG p n (gaussS p n A k) k).2 ∧ ∀ j t, t < n → nth (nthR (stepG p m (gaussS p m W k) k).1 j) t = nth (nthR (stepG p n (gaussS p n A k) k).1 j) t
    obtain ⟨p1, p2, _, _⟩ := pivG_spec (gaussS p m W k).1 k _ hd
    by_cases hno : pivG (gaussS p m W k).1 k (gaussS p m W k).2 = (gaussS p m W k).1.length
    · rw [stepG_no hno, stepG_no (by rw [← e1, ← hpv, hno]; omega)]
      exact ⟨e1, e2⟩
    · have hi : pivG (gaussS p m W k).1 k (gaussS p m W k).2 < (gaussS p m W k).1.length := by omega
      rw [stepG_yes rfl hi, stepG_yes (s := gaussS p n A k) (k := k) (i := pivG (gaussS p m W k).1 k (gaussS p m W k).2) (by rw [← e1]; exact hpv.symm) (by omega)]
      refine ⟨by show _ + 1 = _ + 1; rw [e1], ?_⟩
      have hu := up_cut (p := p) (n := n) (m := m) (k := k) (d := (gaussS p m W k).2) (i := pivG (gaussS p m W k).1 k (gaussS p m W k).2) hnm (by omega) (show (gaussS p m W k).1.length = (gaussS p n A k).1.length by omega) (by omega) hi e2
      have h9 := clr_cut (p := p) (n := n) (m := m) (k := k) (d := (gaussS p m W k).2) hnm (by omega) (by rw [upG_len, upG_len]; omega) hu
      intro j t ht
      have h8 := h9 j t ht
      rw [upG_len, upG_len] at h8
      rw [← e1]
      exact h8
/-- The rows of the reduced basis of the wide rows. -/
def invW (p : Int) (n : Nat) (A : List (List Int)) : List (List Int) := basisL p (n + n) (wideM A n n)
theorem invW_cut {p : Int} {n : Nat} {A : List (List Int)} (hg : RowsG p n A) (hn : A.length = n) : ∀ j t, t < n → nth (nthR (wideM A n n) j) t = nth (nthR A j) t := fun j t ht => by
  by_cases hj : j < n
  · rw [wideM_nth hj, nth_append_left (by rw [(hg j (by omega)).1]; exact ht)]
  · have e1 : nthR (wideM A n n) j = [] := by unfold nthR; rw [List.getD_eq_getElem?_getD, List.getElem?_eq_none (by rw [wideM_len]; omega)]; rfl
    have e2 : nthR A j = [] := by unfold nthR; rw [List.getD_eq_getElem?_getD, List.getElem?_eq_none (by omega)]; rfl
    rw [e1, e2]
theorem invW_good {p : Int} {n : Nat} {A : List (List Int)} (hp : primeB p = true) (hg : RowsG p n A) (hn : A.length = n) : RowsG p (n + n) (invW p n A) := by
  have hpb := prime_bd hp
  obtain ⟨c, hb⟩ := basis_red hp (wideM_good (by omega) hg hn)
  exact hb.good
theorem invW_yes {p : Int} {n : Nat} {A : List (List Int)} (hp : primeB p = true) (hg : RowsG p n A) (hn : A.length = n) (hd : detL p n A ≠ 0) (h0 : 0 < n) : (invW p n A).length = n ∧ leadN (nthR (invW p n A) (n - 1)) < n := by
  have hpb := prime_bd hp
  have hgW := wideM_good (p := p) (by omega) hg hn
  have hr := (det_rank hp hg hn).1 hd
  unfold rankL at hr
  obtain ⟨e1, _⟩ := gauss_cut hp hg hgW (by omega) (by rw [wideM_len, hn]) (invW_cut hg hn) n (Nat.le_refl _)
  rw [hr] at e1
  obtain ⟨_, c, hred⟩ := gaussS_red hp hgW n (by omega)
  have hst := gaussS_stop (p := p) (m := n + n) (rows := wideM A n n) (k := n) (by rw [e1, wideM_len]) n
  have hgl := gaussS_len (p := p) (m := n + n) (rows := wideM A n n) n
  rw [wideM_len] at hgl
  have hbe : invW p n A = (gaussS p (n + n) (wideM A n n) n).1 := by
    unfold invW basisL
    rw [hst, e1, List.take_of_length_le (by omega)]
  rw [hbe]
  refine ⟨hgl, ?_⟩
  have hlt := hred.clt (n - 1) (by omega)
  have h1 := hred.one (n - 1) (by omega) (n - 1) (by omega)
  rw [if_pos rfl] at h1
  have hgn := (gaussS_red hp hgW n (by omega)).1 (n - 1) (by omega)
  rw [leadN_eq (k := c (n - 1)) (by rw [hgn.1]; omega) (hred.lead _ (by omega)) (.inr (by rw [h1]; decide))]
  exact hlt
theorem mono_id {n : Nat} {c : Nat → Nat} (hm : ∀ i j, i < j → j < n → c i < c j) : ∀ i, i < n → i ≤ c i
  | 0, _ => Nat.zero_le _
  | i + 1, h => by
    have h1 := mono_id hm i (by omega)
    have h2 := hm i (i + 1) (by omega) h
    omega
theorem mono_up {n : Nat} {c : Nat → Nat} (hm : ∀ i j, i < j → j < n → c i < c j) (h0 : 0 < n) : ∀ j, j < n → c (n - 1 - j) + j ≤ c (n - 1)
  | 0, _ => by simp
  | j + 1, h => by
    have h1 := mono_up hm h0 j (by omega)
    have h2 := hm (n - 1 - (j + 1)) (n - 1 - j) (by omega) (by omega)
    omega
theorem dotN_append {p : Int} {n m : Nat} {x y z : List Int} (hx : x.length = n) (hz : z.length = n) : dotN (n + m) (x ++ y) (z ++ List.replicate m 0) % p = dotN n x z % p := by
  unfold dotN
  have h : ∀ k, k ≤ m → sumN (n + k) (fun t => nth (x ++ y) t * nth (z ++ List.replicate m 0) t) = sumN n (fun t => nth x t * nth z t) := by
    intro k
    induction k with
    | zero =>
      intro _
      exact sumN_congr fun t ht => by rw [nth_append_left (by omega), nth_append_left (by omega)]
    | succ k ih =>
      intro hk
      show sumN (n + k) _ + nth (x ++ y) (n + k) * nth (z ++ List.replicate m 0) (n + k) = _
      rw [ih (by omega)]
      have : nth (z ++ List.replicate m (0 : Int)) (n + k) = 0 := by
        unfold nth
        rw [List.getD_eq_getElem?_getD, List.getElem?_append_right (by omega), List.getElem?_replicate]
        split <;> rfl
      rw [this, Int.mul_zero, Int.add_zero]
  rw [h m (Nat.le_refl _)]
theorem invW_no {p : Int} {n : Nat} {A : List (List Int)} (hp : primeB p = true) (hg : RowsG p n A) (hn : A.length = n) (hd : detL p n A = 0) (hl : (invW p n A).length = n) : n ≤ leadN (nthR (invW p n A) (n - 1)) := by
  have hpb := prime_bd hp
  have hgW := wideM_good (p := p) (by omega) hg hn
  have hr : rankL p n A < n := by
    have h1 := gauss_rank hp hg
    have h2 : rankL p n A ≠ n := fun h => (det_rank hp hg hn).2 h hd
    have : rankL p n A ≤ n := h1.2
    omega
  obtain ⟨z, f, hz, hk, hf, hzf⟩ := ker_exists hp hg hr
  obtain ⟨c, hb⟩ := basis_red (m := n + n) hp hgW
  have hb' : Basis p (n + n) (invW p n A) c := hb
  rw [hb'.leadN (by omega)]
  refine Nat.le_of_not_lt fun hc => ?_
  have hid : ∀ i, i < n → c i = i := fun i hi => by
    have h1 := mono_id (n := n) (fun i j a b => hb'.mono i j a (by omega)) i hi
    have h2 := mono_up (n := n) (fun i j a b => hb'.mono i j a (by omega)) (by omega) (n - 1 - i) (by omega)
    rw [show n - 1 - (n - 1 - i) = i by omega] at h2
    omega
  have hkW : Kill p (n + n) (wideM A n n) (z ++ List.replicate n 0) := fun i hi => by
    rw [wideM_len] at hi
    rw [wideM_nth hi, dotN_append (hg i (by omega)).1 hz.1]
    exact hk i (by omega)
  have hkB := (kill_basis hp hgW).2 hkW
  have h1 := hkB f (by show f < (invW p n A).length; omega)
  have hsum : dotN (n + n) (nthR (invW p n A) f) (z ++ List.replicate n 0) = nth z f := by
    unfold dotN
    have hs : ∀ k, k ≤ n + n → sumN k (fun t => nth (nthR (invW p n A) f) t * nth (z ++ List.replicate n 0) t) = if f < k then nth z f else 0 := by
      intro k
      induction k with
      | zero => intro _; rfl
      | succ k ih =>
        intro hk
        show sumN k _ + nth (nthR (invW p n A) f) k * nth (z ++ List.replicate n 0) k = _
        rw [ih (by omega)]
        by_cases hkn : k < n
        · have ho := hb'.one k (by omega) f (by omega)
          rw [hid k hkn] at ho
          rw [ho, nth_append_left (by rw [hz.1]; exact hkn)]
          by_cases hfk : f = k
          · subst hfk; rw [if_neg (by omega), if_pos rfl, if_pos (by omega)]; omega
          · rw [if_neg hfk, Int.zero_mul, Int.add_zero]
            by_cases hlt : f < k
            · rw [if_pos hlt, if_pos (by omega)]
            · rw [if_neg hlt, if_neg (by omega)]
        · have e0 : nth (z ++ List.replicate n (0 : Int)) k = 0 := by
            unfold nth
            rw [List.getD_eq_getElem?_getD, List.getElem?_append_right (by rw [hz.1]; omega), List.getElem?_replicate]
            split <;> rfl
          rw [e0, Int.mul_zero, Int.add_zero, if_pos (by omega), if_pos (by omega)]
    rw [hs (n + n) (Nat.le_refl _), if_pos (by omega)]
  rw [show nthR (basisL p (n + n) (wideM A n n)) f = nthR (invW p n A) f from rfl, hsum, hzf, Int.emod_eq_of_lt (by omega) (by omega)] at h1
  cases h1
/-- The inverse: the wide rows' last halves. -/
def cutM (rows : List (List Int)) (n k : Nat) : List (List Int) := (List.range k).map fun i => (nthR rows i).drop n
theorem cutM_succ (rows : List (List Int)) (n k : Nat) : cutM rows n (k + 1) = cutM rows n k ++ [(nthR rows k).drop n] := by simp [cutM, List.range_succ]
theorem cutM_len (rows : List (List Int)) (n k : Nat) : (cutM rows n k).length = k := by simp [cutM]
theorem cutM_nth {rows : List (List Int)} {n k i : Nat} (h : i < k) : nthR (cutM rows n k) i = (nthR rows i).drop n := by
  unfold cutM; rw [nthR_map (by simpa using h)]; simp
theorem drop_nth {x : List Int} {n i : Nat} : nth (x.drop n) i = nth x (n + i) := by
  unfold nth; rw [List.getD_eq_getElem?_getD, List.getD_eq_getElem?_getD, List.getElem?_drop]
theorem drop_good {p : Int} {n m : Nat} {x : List Int} (h : Good p (n + m) x) : Good p m (x.drop n) := ⟨by rw [List.length_drop, h.1]; omega, fun i hi => by rw [drop_nth]; exact h.2 _ (by omega)⟩
def invM (p : Int) (n : Nat) (A : List (List Int)) : List (List Int) := cutM (invW p n A) n n
theorem invM_good {p : Int} {n : Nat} {A : List (List Int)} (hp : primeB p = true) (hg : RowsG p n A) (hn : A.length = n) (hl : (invW p n A).length = n) : RowsG p n (invM p n A) := fun i hi => by
  unfold invM at hi ⊢
  rw [cutM_len] at hi
  rw [cutM_nth hi]
  exact drop_good (invW_good hp hg hn i (by omega))
end Go.Proofs.YtcocbainookkcaaGreat
