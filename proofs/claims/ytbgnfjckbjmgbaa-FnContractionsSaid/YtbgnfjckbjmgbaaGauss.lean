/-
  Reduced bases of lists of numbers, in plain words: columns one after another, a row with a number other than 0 there is brought up, divided, and taken from all others.
  No condition.
-/
import Derived.Test.YtbgnfjckbjmgbaaInv
import Derived.Test.YtbgnfjckbjmgbaaRowsA
namespace Go.Proofs.Ytbgnfjckbjmgbaa
set_option maxRecDepth 100000
open Go.RowKit

/-- All rows have m numbers. -/
def RowsG (p : Int) (m : Nat) (rows : List (List Int)) : Prop := ∀ i, i < rows.length → Good p m (nthR rows i)
theorem RowsG.set {p : Int} {m : Nat} {rows : List (List Int)} (h : RowsG p m rows) {j : Nat} {v : List Int} (hv : Good p m v) : RowsG p m (rows.set j v) := by
  intro i hi
  rw [List.length_set] at hi
  by_cases hj : j < rows.length
  · rw [nthR_set hj]
    split
    · exact hv
    · exact h i hi
  · rw [List.set_eq_of_length_le (by omega)]; exact h i hi
theorem plus_zero {p : Int} {m : Nat} {x y : List Int} (hx : Good p m x) : plusL p x y 0 m = x := by
  refine ext_nth (by rw [plusL_len, hx.1]) fun i hi => ?_
  rw [plusL_len] at hi
  rw [plusL_nth hi]
  unfold plusN
  rw [Int.zero_mul, Int.add_zero, Int.emod_eq_of_lt (hx.2 i hi).1 (hx.2 i hi).2]
theorem plus_mod {p k k' : Int} {m : Nat} {x y : List Int} (h : k % p = k' % p) : plusL p x y k m = plusL p x y k' m := by
  unfold plusL
  refine List.map_congr_left fun i _ => ?_
  unfold plusN
  rw [Int.add_emod, Int.mul_emod, h, ← Int.mul_emod, ← Int.add_emod]

/-- The first row from number d on whose number k is not 0, or the number of rows. -/
def pivG (rows : List (List Int)) (k d : Nat) : Nat := match (List.range rows.length).find? (fun i => decide (d ≤ i) && nth (nthR rows i) k != 0) with | some i => i | none => rows.length
theorem pivG_eq {rows : List (List Int)} {k d i : Nat} (hdi : d ≤ i) (hi : i ≤ rows.length) (hz : ∀ j, d ≤ j → j < i → nth (nthR rows j) k = 0) (he : i = rows.length ∨ nth (nthR rows i) k ≠ 0) : pivG rows k d = i := by
  unfold pivG
  by_cases hl : i < rows.length
  · have hne : nth (nthR rows i) k ≠ 0 := by rcases he with h | h; omega; exact h
    have : (List.range rows.length).find? (fun i => decide (d ≤ i) && nth (nthR rows i) k != 0) = some i := by
      rw [List.find?_range_eq_some]
      refine ⟨by simp [hdi, hne], by simpa using hl, fun j hj => ?_⟩
      by_cases hd : d ≤ j
      · simp [hz j hd hj]
      · simp [hd]
    rw [this]
  · have : (List.range rows.length).find? (fun i => decide (d ≤ i) && nth (nthR rows i) k != 0) = none := by
      rw [List.find?_range_eq_none]
      intro j hj
      by_cases hd : d ≤ j
      · simp [hz j hd (by omega)]
      · simp [hd]
    rw [this]
    show rows.length = i
    omega
theorem pivG_spec (rows : List (List Int)) (k d : Nat) (hd : d ≤ rows.length) : d ≤ pivG rows k d ∧ pivG rows k d ≤ rows.length ∧ (∀ j, d ≤ j → j < pivG rows k d → nth (nthR rows j) k = 0) ∧ (pivG rows k d = rows.length ∨ nth (nthR rows (pivG rows k d)) k ≠ 0) := by
  unfold pivG
  split
  · rename_i i h
    rw [List.find?_range_eq_some] at h
    obtain ⟨h1, h2, h3⟩ := h
    simp only [Bool.and_eq_true, decide_eq_true_eq, bne_iff_ne, ne_eq] at h1
    have h2' : i < rows.length := by simpa using h2
    refine ⟨h1.1, by omega, fun j hj hji => ?_, .inr h1.2⟩
    have := h3 j hji
    simpa [hj] using this
  · rename_i h
    rw [List.find?_range_eq_none] at h
    refine ⟨hd, Nat.le_refl _, fun j hj hjl => ?_, .inl rfl⟩
    have := h j hjl
    simpa [hj] using this

/-- Row d, times a number, is added to the first rows, such that their numbers k become 0. -/
def clrS (p : Int) (k m d : Nat) (rows : List (List Int)) : Nat → List (List Int)
  | 0 => rows
  | r + 1 => if r = d then clrS p k m d rows r else (clrS p k m d rows r).set r (plusL p (nthR (clrS p k m d rows r) r) (nthR (clrS p k m d rows r) d) (-(nth (nthR (clrS p k m d rows r) r) k)) m)
theorem clrS_len {p : Int} {k m d : Nat} {rows : List (List Int)} : ∀ r, (clrS p k m d rows r).length = rows.length
  | 0 => rfl
  | r + 1 => by unfold clrS; split; exact clrS_len r; rw [List.length_set]; exact clrS_len r
theorem clrS_good {p : Int} {k m d : Nat} {rows : List (List Int)} (hp : 1 ≤ p) (h : RowsG p m rows) : ∀ r, RowsG p m (clrS p k m d rows r)
  | 0 => h
  | r + 1 => by unfold clrS; split; exact clrS_good hp h r; exact (clrS_good hp h r).set (plus_good hp)
theorem clrS_nth {p : Int} {k m d : Nat} {rows : List (List Int)} : ∀ r, r ≤ rows.length → ∀ j, nthR (clrS p k m d rows r) j = if j < r ∧ j ≠ d then plusL p (nthR rows j) (nthR rows d) (-(nth (nthR rows j) k)) m else nthR rows j
  | 0, _, j => by rw [if_neg (by omega)]; rfl
  | r + 1, hr, j => by
    have ih := clrS_nth r (by omega) (p := p) (k := k) (m := m) (d := d) (rows := rows)
    unfold clrS
    by_cases hd : r = d
    · rw [if_pos hd, ih j]
      by_cases hj : j < r ∧ j ≠ d
      · rw [if_pos hj, if_pos (by omega)]
      · rw [if_neg hj, if_neg (by omega)]
    · have e1 : nthR (clrS p k m d rows r) r = nthR rows r := by rw [ih r, if_neg (by omega)]
      have e2 : nthR (clrS p k m d rows r) d = nthR rows d := by rw [ih d, if_neg (by omega)]
      rw [if_neg hd, nthR_set (by rw [clrS_len]; omega), e1, e2]
      by_cases hj : r = j
      · subst hj; rw [if_pos rfl, if_pos (by omega)]
      · rw [if_neg hj, ih j]
        by_cases hj' : j < r ∧ j ≠ d
        · rw [if_pos hj', if_pos (by omega)]
        · rw [if_neg hj', if_neg (by omega)]
theorem clrS_self {p : Int} {k m d : Nat} {rows : List (List Int)} {r : Nat} (h : r = d) : clrS p k m d rows (r + 1) = clrS p k m d rows r := by rw [clrS, if_pos h]
theorem clrS_ne {p : Int} {k m d : Nat} {rows : List (List Int)} {r : Nat} (h : ¬ r = d) : clrS p k m d rows (r + 1) = (clrS p k m d rows r).set r (plusL p (nthR (clrS p k m d rows r) r) (nthR (clrS p k m d rows r) d) (-(nth (nthR (clrS p k m d rows r) r) k)) m) := by rw [clrS, if_neg h]
theorem clrS_zero {p : Int} {k m d : Nat} {rows : List (List Int)} {r : Nat} (hp : 1 ≤ p) (h : RowsG p m rows) (hr : r < rows.length) (hz : nth (nthR (clrS p k m d rows r) r) k = 0) : clrS p k m d rows (r + 1) = clrS p k m d rows r := by
  by_cases hd : r = d
  · exact clrS_self hd
  · rw [clrS_ne hd, hz, Int.neg_zero, plus_zero (clrS_good hp h r r (by rw [clrS_len]; exact hr)), set_self]

def swapL (rows : List (List Int)) (i j : Nat) : List (List Int) := (rows.set i (nthR rows j)).set j (nthR rows i)
theorem swapL_len {rows : List (List Int)} {i j : Nat} : (swapL rows i j).length = rows.length := by simp [swapL]
theorem swapL_nth {rows : List (List Int)} {i j k : Nat} (hi : i < rows.length) (hj : j < rows.length) : nthR (swapL rows i j) k = if k = j then nthR rows i else if k = i then nthR rows j else nthR rows k := by
  unfold swapL
  rw [nthR_set (by simpa using hj)]
  by_cases hkj : j = k
  · subst hkj; simp
  · rw [if_neg hkj, if_neg (Ne.symm hkj), nthR_set hi]
    by_cases hki : i = k
    · subst hki; simp
    · rw [if_neg hki, if_neg (Ne.symm hki)]
theorem swapL_good {p : Int} {m : Nat} {rows : List (List Int)} (h : RowsG p m rows) {i j : Nat} (hi : i < rows.length) (hj : j < rows.length) : RowsG p m (swapL rows i j) := by
  intro k hk
  rw [swapL_len] at hk
  rw [swapL_nth hi hj]
  split
  · exact h i hi
  · split
    · exact h j hj
    · exact h k hk

/-- The rows with row i brought up to place d and divided by its number k. -/
def upG (p : Int) (m : Nat) (rows : List (List Int)) (d k i : Nat) : List (List Int) := (swapL rows d i).set d (scaleL p (nthR rows i) (invN p (nth (nthR rows i) k)) m)
theorem upG_len {p : Int} {m : Nat} {rows : List (List Int)} {d k i : Nat} : (upG p m rows d k i).length = rows.length := by simp [upG, swapL_len]
theorem upG_good {p : Int} {m : Nat} {rows : List (List Int)} {d k i : Nat} (hp : 1 ≤ p) (h : RowsG p m rows) (hd : d < rows.length) (hi : i < rows.length) : RowsG p m (upG p m rows d k i) := (swapL_good h hd hi).set (scale_good hp)
theorem upG_nth {p : Int} {m : Nat} {rows : List (List Int)} {d k i j : Nat} (hd : d < rows.length) (hi : i < rows.length) : nthR (upG p m rows d k i) j = if j = d then scaleL p (nthR rows i) (invN p (nth (nthR rows i) k)) m else if j = i then nthR rows d else nthR rows j := by
  unfold upG
  rw [nthR_set (by rw [swapL_len]; exact hd)]
  by_cases hj : d = j
  · subst hj; simp
  · rw [if_neg hj, if_neg (Ne.symm hj), swapL_nth hd hi]
    by_cases hji : j = i
    · rw [if_pos hji, if_pos hji]
    · rw [if_neg hji, if_neg hji, if_neg (Ne.symm hj)]
def stepG (p : Int) (m : Nat) (s : List (List Int) × Nat) (k : Nat) : List (List Int) × Nat :=
  if pivG s.1 k s.2 = s.1.length then s else (clrS p k m s.2 (upG p m s.1 s.2 k (pivG s.1 k s.2)) s.1.length, s.2 + 1)
def gaussS (p : Int) (m : Nat) (rows : List (List Int)) : Nat → List (List Int) × Nat
  | 0 => (rows, 0)
  | k + 1 => stepG p m (gaussS p m rows k) k
def basisL (p : Int) (m : Nat) (rows : List (List Int)) : List (List Int) := (gaussS p m rows m).1.take (gaussS p m rows m).2

theorem stepG_no {p : Int} {m : Nat} {s : List (List Int) × Nat} {k : Nat} (h : pivG s.1 k s.2 = s.1.length) : stepG p m s k = s := by rw [stepG, if_pos h]
theorem stepG_yes {p : Int} {m : Nat} {s : List (List Int) × Nat} {k i : Nat} (h : pivG s.1 k s.2 = i) (hi : i < s.1.length) : stepG p m s k = (clrS p k m s.2 (upG p m s.1 s.2 k i) s.1.length, s.2 + 1) := by
  rw [stepG, h, if_neg (by omega)]

/-- What holds of the rows when k columns are done: d rows have a 1 at a place of their own, where all other rows have 0. -/
structure Red (rows : List (List Int)) (d k : Nat) (c : Nat → Nat) : Prop where
  dle : d ≤ rows.length
  dk : d ≤ k
  clt : ∀ i, i < d → c i < k
  mono : ∀ i j, i < j → j < d → c i < c j
  one : ∀ i, i < d → ∀ j, j < rows.length → nth (nthR rows j) (c i) = if j = i then 1 else 0
  lead : ∀ i, i < d → ∀ t, t < c i → nth (nthR rows i) t = 0
  rest : ∀ i, d ≤ i → i < rows.length → ∀ t, t < k → nth (nthR rows i) t = 0

theorem Red.step {p : Int} {m : Nat} {rows : List (List Int)} {d k : Nat} {c : Nat → Nat} (hp : primeB p = true) (hk : k < m) (hg : RowsG p m rows) (h : Red rows d k c) :
    ∃ c', Red (stepG p m (rows, d) k).1 (stepG p m (rows, d) k).2 (k + 1) c' := by
  have hpb := prime_bd hp
  obtain ⟨h1, h2, h3, h4⟩ := pivG_spec rows k d h.dle
  by_cases hn : pivG rows k d = rows.length
  · rw [stepG_no (s := (rows, d)) hn]
    refine ⟨c, h.dle, Nat.le_succ_of_le h.dk, fun i hi => Nat.lt_succ_of_lt (h.clt i hi), h.mono, h.one, h.lead, fun i hdi hi t ht => ?_⟩
    rcases Nat.lt_or_eq_of_le (Nat.le_of_lt_succ ht) with ht | ht
    · exact h.rest i hdi hi t ht
    · subst ht; exact h3 i hdi (by rw [hn]; exact hi)
  · obtain ⟨i0, hi0⟩ : ∃ i0, i0 = pivG rows k d := ⟨_, rfl⟩
    rw [← hi0] at h1 h2 h3 h4 hn
    have hi : i0 < rows.length := by omega
    have hne : nth (nthR rows i0) k ≠ 0 := by rcases h4 with h | h; omega; exact h
    rw [stepG_yes (s := (rows, d)) hi0.symm hi]
    have hd : d < rows.length := by omega
    obtain ⟨R, hR⟩ : ∃ R, R = upG p m rows d k i0 := ⟨_, rfl⟩
    have Rl : R.length = rows.length := by rw [hR, upG_len]
    have Rg : RowsG p m R := by rw [hR]; exact upG_good (by omega) hg hd hi
    have Rn : ∀ j, nthR R j = if j = d then scaleL p (nthR rows i0) (invN p (nth (nthR rows i0) k)) m else if j = i0 then nthR rows d else nthR rows j := fun j => by rw [hR]; exact upG_nth hd hi
    have gi := hg i0 hi
    -- the row that is brought up
    have Dz : ∀ t, t < k → nth (nthR R d) t = 0 := fun t ht => by
      rw [Rn d, if_pos rfl, scaleL_nth (by omega), scaleN, h.rest i0 h1 hi t ht]; simp
    have D1 : nth (nthR R d) k = 1 := by
      rw [Rn d, if_pos rfl, scaleL_nth hk, scaleN]
      have hb := gi.2 k hk
      exact (inv_spec hp (by omega) hb.2).2.1
    -- zeros of the others
    have Rz : ∀ j, d ≤ j → j < rows.length → ∀ t, t < k → nth (nthR R j) t = 0 := fun j hj hjl t ht => by
      by_cases hjd : j = d
      · subst hjd; exact Dz t ht
      · rw [Rn j, if_neg hjd]
        split
        · exact h.rest d (Nat.le_refl _) hd t ht
        · exact h.rest j hj hjl t ht
    have Ro : ∀ j, j < d → nthR R j = nthR rows j := fun j hj => by rw [Rn j, if_neg (by omega), if_neg (by omega)]
    rw [← hR]
    have Cn : ∀ j, j < rows.length → nthR (clrS p k m d R rows.length) j = if j ≠ d then plusL p (nthR R j) (nthR R d) (-(nth (nthR R j) k)) m else nthR R j := fun j hj => by
      rw [clrS_nth _ (by omega)]
      by_cases hjd : j ≠ d
      · rw [if_pos ⟨hj, hjd⟩, if_pos hjd]
      · rw [if_neg (by omega), if_neg hjd]
    -- places ahead of k do not change
    have Ct : ∀ j, j < rows.length → ∀ t, t < k → nth (nthR (clrS p k m d R rows.length) j) t = nth (nthR R j) t := fun j hj t ht => by
      rw [Cn j hj]
      by_cases hjd : j ≠ d
      · rw [if_pos hjd, plusL_nth (by omega)]
        unfold plusN
        have gj := (Rg j (by omega)).2 t (by omega)
        rw [Dz t ht, Int.mul_zero, Int.add_zero, Int.emod_eq_of_lt gj.1 gj.2]
      · rw [if_neg hjd]
    have Ck : ∀ j, j < rows.length → nth (nthR (clrS p k m d R rows.length) j) k = if j = d then 1 else 0 := fun j hj => by
      rw [Cn j hj]
      by_cases hjd : j ≠ d
      · rw [if_pos hjd, plusL_nth hk, if_neg hjd]
        unfold plusN
        rw [D1, Int.mul_one]
        rw [show nth (nthR R j) k + -nth (nthR R j) k = 0 by omega]; simp
      · rw [if_neg hjd, if_pos (by omega), show j = d by omega, D1]
    refine ⟨fun i => if i = d then k else c i, ?_⟩
    constructor
    · show d + 1 ≤ _; rw [clrS_len, Rl]; omega
    · show d + 1 ≤ k + 1; have := h.dk; omega
    · intro i hid
      have hid' : i < d + 1 := hid
      by_cases hi' : i = d
      · simp [hi']
      · simp only [hi', if_false]; have := h.clt i (by omega); omega
    · intro i j hij hj
      have hj' : j < d + 1 := hj
      have e1 : i ≠ d := by omega
      simp only [e1, if_false]
      by_cases hjd : j = d
      · simp only [hjd, if_true]; exact h.clt i (by omega)
      · simp only [hjd, if_false]; exact h.mono i j hij (by omega)
    · intro i hid j hj
      have hid' : i < d + 1 := hid
      rw [clrS_len, Rl] at hj
      by_cases hi' : i = d
      · simp only [hi', if_true]; exact Ck j hj
      · simp only [hi', if_false]
        have hid2 : i < d := by omega
        have hc := h.clt i hid2
        rw [Ct j hj _ hc]
        by_cases hjd : j < d
        · rw [Ro j hjd]; exact h.one i hid2 j hj
        · rw [Rz j (by omega) hj _ hc, if_neg (by omega)]
    · intro i hid t ht
      have hid' : i < d + 1 := hid
      by_cases hi' : i = d
      · simp only [hi', if_true] at ht
        rw [hi', Ct d hd t ht]; exact Dz t ht
      · simp only [hi', if_false] at ht
        have hid2 : i < d := by omega
        have hc := h.clt i hid2
        rw [Ct i (by omega) t (by omega), Ro i hid2]
        exact h.lead i hid2 t ht
    · intro i hdi hil t ht
      have hdi' : d + 1 ≤ i := hdi
      rw [clrS_len, Rl] at hil
      rcases Nat.lt_or_eq_of_le (Nat.le_of_lt_succ ht) with ht | ht
      · rw [Ct i hil t ht]; exact Rz i (by omega) hil t ht
      · rw [ht, Ck i hil, if_neg (by omega)]

theorem gaussS_len {p : Int} {m : Nat} {rows : List (List Int)} : ∀ k, (gaussS p m rows k).1.length = rows.length
  | 0 => rfl
  | k + 1 => by
    have ih := gaussS_len (p := p) (m := m) (rows := rows) k
    show (stepG p m (gaussS p m rows k) k).1.length = _
    unfold stepG
    split
    · exact ih
    · simp only [clrS_len, upG_len]; exact ih
theorem gaussS_red {p : Int} {m : Nat} {rows : List (List Int)} (hp : primeB p = true) (hg : RowsG p m rows) : ∀ k, k ≤ m → RowsG p m (gaussS p m rows k).1 ∧ ∃ c, Red (gaussS p m rows k).1 (gaussS p m rows k).2 k c
  | 0, _ => ⟨hg, fun _ => 0, Nat.zero_le _, Nat.le_refl _, fun i hi => absurd hi (Nat.not_lt_zero _), fun i j _ hj => absurd hj (Nat.not_lt_zero _), fun i hi => absurd hi (Nat.not_lt_zero _), fun i hi => absurd hi (Nat.not_lt_zero _), fun i _ _ t ht => absurd ht (Nat.not_lt_zero _)⟩
  | k + 1, hk => by
    obtain ⟨h1, c, h2⟩ := gaussS_red hp hg k (by omega)
    refine ⟨?_, h2.step hp (by omega) h1⟩
    show RowsG p m (stepG p m (gaussS p m rows k) k).1
    have hpb := prime_bd hp
    obtain ⟨p1, p2, p3, p4⟩ := pivG_spec _ k _ h2.dle
    by_cases hn : pivG (gaussS p m rows k).1 k (gaussS p m rows k).2 = (gaussS p m rows k).1.length
    · rw [stepG_no hn]; exact h1
    · rw [stepG_yes rfl (by omega)]
      exact clrS_good (by omega) (upG_good (by omega) h1 (by omega) (by omega)) _
theorem gaussS_stop {p : Int} {m : Nat} {rows : List (List Int)} {k : Nat} (h : (gaussS p m rows k).2 = rows.length) : ∀ j, gaussS p m rows (k + j) = gaussS p m rows k
  | 0 => rfl
  | j + 1 => by
    show stepG p m (gaussS p m rows (k + j)) (k + j) = _
    rw [gaussS_stop h j]
    apply stepG_no
    have hl := gaussS_len (p := p) (m := m) (rows := rows) k
    obtain ⟨p1, p2, _, _⟩ := pivG_spec (gaussS p m rows k).1 (k + j) (gaussS p m rows k).2 (by omega)
    omega
theorem gauss_rank {p : Int} {m : Nat} {rows : List (List Int)} (hp : primeB p = true) (hg : RowsG p m rows) : (gaussS p m rows m).2 ≤ rows.length ∧ (gaussS p m rows m).2 ≤ m := by
  obtain ⟨_, c, h⟩ := gaussS_red hp hg m (Nat.le_refl _)
  have := gaussS_len (p := p) (m := m) (rows := rows) m
  exact ⟨by have := h.dle; omega, h.dk⟩
/-- A reduced basis: each row has its first number other than 0, a 1, at a place of its own; all others have 0 there. -/
structure Basis (p : Int) (m : Nat) (rows : List (List Int)) (c : Nat → Nat) : Prop where
  good : RowsG p m rows
  len : rows.length ≤ m
  clt : ∀ i, i < rows.length → c i < m
  mono : ∀ i j, i < j → j < rows.length → c i < c j
  one : ∀ i, i < rows.length → ∀ j, j < rows.length → nth (nthR rows j) (c i) = if j = i then 1 else 0
  lead : ∀ i, i < rows.length → ∀ t, t < c i → nth (nthR rows i) t = 0
theorem basis_red {p : Int} {m : Nat} {rows : List (List Int)} (hp : primeB p = true) (hg : RowsG p m rows) : ∃ c, Basis p m (basisL p m rows) c := by
  obtain ⟨h1, c, h2⟩ := gaussS_red hp hg m (Nat.le_refl _)
  have hl : (basisL p m rows).length = (gaussS p m rows m).2 := by unfold basisL; rw [List.length_take, Nat.min_eq_left h2.dle]
  have hn : ∀ i, i < (gaussS p m rows m).2 → nthR (basisL p m rows) i = nthR (gaussS p m rows m).1 i := fun i hi => by unfold basisL; exact nthR_take hi
  have hd := h2.dle
  refine ⟨c, fun i hi => ?_, by rw [hl]; exact h2.dk, fun i hi => h2.clt i (by omega), fun i j hij hj => h2.mono i j hij (by omega), fun i hi j hj => ?_, fun i hi t ht => ?_⟩
  · rw [hn i (by omega)]; exact h1 i (by omega)
  · rw [hn j (by omega)]; exact h2.one i (by omega) j (by omega)
  · rw [hn i (by omega)]; exact h2.lead i (by omega) t ht

end Go.Proofs.Ytbgnfjckbjmgbaa
