/-
  Contracts and plain laws, part 3: Gauss, Reverse, Undual, Vecs, CodesV, Norm, Point, Code18.
  No condition.
-/
import Derived.Test.YtcocbainookkcaaGreatPart2
import Derived.Test.YtcocbainookkcaaGreatPart0
import Derived.Test.YtcocbainookkcaaGreatPart1
/-
  Reduced bases of lists of numbers, in plain words: columns one after another, a row with a number other than 0 there is brought up, divided, and taken from all others.
  No condition.
-/
namespace Go.Proofs.YtcocbainookkcaaGreat
set_option maxRecDepth 100000
open Go.RowKit

/-- All rows have m numbers. -/
def RowsG (p : Int) (m : Nat) (rows : List (List Int)) : Prop := ∀ i, i < rows.length → Good p m (nthR rows i)
theorem RowsG.set {p : Int} {m : Nat} {rows : List (List Int)} (h : RowsG p m rows) {j : Nat} {v : List Int} (hv : Good p m v) : RowsG p m (rows.set j v) := by
  intro i hi
  rw [List.length_set] at hi
  by_cases hj : j < rows.length
  · rw [nthR_set hj]
    split
    · exact hv
    · exact h i hi
  · rw [List.set_eq_of_length_le (by omega)]; exact h i hi
theorem plus_zero {p : Int} {m : Nat} {x y : List Int} (hx : Good p m x) : plusL p x y 0 m = x := by
  refine ext_nth (by rw [plusL_len, hx.1]) fun i hi => ?_
  rw [plusL_len] at hi
  rw [plusL_nth hi]
  unfold plusN
  rw [Int.zero_mul, Int.add_zero, Int.emod_eq_of_lt (hx.2 i hi).1 (hx.2 i hi).2]
theorem plus_mod {p k k' : Int} {m : Nat} {x y : List Int} (h : k % p = k' % p) : plusL p x y k m = plusL p x y k' m := by
  unfold plusL
  refine List.map_congr_left fun i _ => ?_
  unfold plusN
  rw [Int.add_emod, Int.mul_emod, h, ← Int.mul_emod, ← Int.add_emod]

/-- The first row from number d on whose number k is not 0, or the number of rows. -/
def pivG (rows : List (List Int)) (k d : Nat) : Nat := match (List.range rows.length).find? (fun i => decide (d ≤ i) && nth (nthR rows i) k != 0) with | some i => i | none => rows.length
theorem pivG_eq {rows : List (List Int)} {k d i : Nat} (hdi : d ≤ i) (hi : i ≤ rows.length) (hz : ∀ j, d ≤ j → j < i → nth (nthR rows j) k = 0) (he : i = rows.length ∨ nth (nthR rows i) k ≠ 0) : pivG rows k d = i := by
  unfold pivG
  by_cases hl : i < rows.length
  · have hne : nth (nthR rows i) k ≠ 0 := by rcases he with h | h; omega; exact h
    have : (List.range rows.length).find? (fun i => decide (d ≤ i) && nth (nthR rows i) k != 0) = some i := by
      rw [List.find?_range_eq_some]
      refine ⟨by simp [hdi, hne], by simpa using hl, fun j hj => ?_⟩
      by_cases hd : d ≤ j
      · simp [hz j hd hj]
      · simp [hd]
    rw [this]
  · have : (List.range rows.length).find? (fun i => decide (d ≤ i) && nth (nthR rows i) k != 0) = none := by
      rw [List.find?_range_eq_none]
      intro j hj
      by_cases hd : d ≤ j
      · simp [hz j hd (by omega)]
      · simp [hd]
    rw [this]
    show rows.length = i
    omega
theorem pivG_spec (rows : List (List Int)) (k d : Nat) (hd : d ≤ rows.length) : d ≤ pivG rows k d ∧ pivG rows k d ≤ rows.length ∧ (∀ j, d ≤ j → j < pivG rows k d → nth (nthR rows j) k = 0) ∧ (pivG rows k d = rows.length ∨ nth (nthR rows (pivG rows k d)) k ≠ 0) := by
  unfold pivG
  split
  · rename_i i h
    rw [List.find?_range_eq_some] at h
    obtain ⟨h1, h2, h3⟩ := h
    simp only [Bool.and_eq_true, decide_eq_true_eq, bne_iff_ne, ne_eq] at h1
    have h2' : i < rows.length := by simpa using h2
    refine ⟨h1.1, by omega, fun j hj hji => ?_, .inr h1.2⟩
    have := h3 j hji
    simpa [hj] using this
  · rename_i h
    rw [List.find?_range_eq_none] at h
    refine ⟨hd, Nat.le_refl _, fun j hj hjl => ?_, .inl rfl⟩
    have := h j hjl
    simpa [hj] using this

/-- Row d, times a number, is added to the first rows, such that their numbers k become 0. -/
def clrS (p : Int) (k m d : Nat) (rows : List (List Int)) : Nat → List (List Int)
  | 0 => rows
  | r + 1 => if r = d then clrS p k m d rows r else (clrS p k m d rows r).set r (plusL p (nthR (clrS p k m d rows r) r) (nthR (clrS p k m d rows r) d) (-(nth (nthR (clrS p k m d rows r) r) k)) m)
theorem clrS_len {p : Int} {k m d : Nat} {rows : List (List Int)} : ∀ r, (clrS p k m d rows r).length = rows.length
  | 0 => rfl
  | r + 1 => by unfold clrS; split; exact clrS_len r; rw [List.length_set]; exact clrS_len r
theorem clrS_good {p : Int} {k m d : Nat} {rows : List (List Int)} (hp : 1 ≤ p) (h : RowsG p m rows) : ∀ r, RowsG p m (clrS p k m d rows r)
  | 0 => h
  | r + 1 => by unfold clrS; split; exact clrS_good hp h r; exact (clrS_good hp h r).set (plus_good hp)
theorem clrS_nth {p : Int} {k m d : Nat} {rows : List (List Int)} : ∀ r, r ≤ rows.length → ∀ j, nthR (clrS p k m d rows r) j = if j < r ∧ j ≠ d then plusL p (nthR rows j) (nthR rows d) (-(nth (nthR rows j) k)) m else nthR rows j
  | 0, _, j => by rw [if_neg (by omega)]; rfl
  | r + 1, hr, j => by
    have ih := clrS_nth r (by omega) (p := p) (k := k) (m := m) (d := d) (rows := rows)
    unfold clrS
    by_cases hd : r = d
    · rw [if_pos hd, ih j]
      by_cases hj : j < r ∧ j ≠ d
      · rw [if_pos hj, if_pos (by omega)]
      · rw [if_neg hj, if_neg (by omega)]
    · have e1 : nthR (clrS p k m d rows r) r = nthR rows r := by rw [ih r, if_neg (by omega)]
      have e2 : nthR (clrS p k m d rows r) d = nthR rows d := by rw [ih d, if_neg (by omega)]
      rw [if_neg hd, nthR_set (by rw [clrS_len]; omega), e1, e2]
      by_cases hj : r = j
      · subst hj; rw [if_pos rfl, if_pos (by omega)]
      · rw [if_neg hj, ih j]
        by_cases hj' : j < r ∧ j ≠ d
        · rw [if_pos hj', if_pos (by omega)]
        · rw [if_neg hj', if_neg (by omega)]
theorem clrS_self {p : Int} {k m d : Nat} {rows : List (List Int)} {r : Nat} (h : r = d) : clrS p k m d rows (r + 1) = clrS p k m d rows r := by rw [clrS, if_pos h]
theorem clrS_ne {p : Int} {k m d : Nat} {rows : List (List Int)} {r : Nat} (h : ¬ r = d) : clrS p k m d rows (r + 1) = (clrS p k m d rows r).set r (plusL p (nthR (clrS p k m d rows r) r) (nthR (clrS p k m d rows r) d) (-(nth (nthR (clrS p k m d rows r) r) k)) m) := by rw [clrS, if_neg h]
theorem clrS_zero {p : Int} {k m d : Nat} {rows : List (List Int)} {r : Nat} (hp : 1 ≤ p) (h : RowsG p m rows) (hr : r < rows.length) (hz : nth (nthR (clrS p k m d rows r) r) k = 0) : clrS p k m d rows (r + 1) = clrS p k m d rows r := by
  by_cases hd : r = d
  · exact clrS_self hd
  · rw [clrS_ne hd, hz, Int.neg_zero, plus_zero (clrS_good hp h r r (by rw [clrS_len]; exact hr)), set_self]

def swapL (rows : List (List Int)) (i j : Nat) : List (List Int) := (rows.set i (nthR rows j)).set j (nthR rows i)
theorem swapL_len {rows : List (List Int)} {i j : Nat} : (swapL rows i j).length = rows.length := by simp [swapL]
theorem swapL_nth {rows : List (List Int)} {i j k : Nat} (hi : i < rows.length) (hj : j < rows.length) : nthR (swapL rows i j) k = if k = j then nthR rows i else if k = i then nthR rows j else nthR rows k := by
  unfold swapL
  rw [nthR_set (by simpa using hj)]
  by_cases hkj : j = k
  · subst hkj; simp
  · rw [if_neg hkj, if_neg (Ne.symm hkj), nthR_set hi]
    by_cases hki : i = k
    · subst hki; simp
    · rw [if_neg hki, if_neg (Ne.symm hki)]
theorem swapL_good {p : Int} {m : Nat} {rows : List (List Int)} (h : RowsG p m rows) {i j : Nat} (hi : i < rows.length) (hj : j < rows.length) : RowsG p m (swapL rows i j) := by
  intro k hk
  rw [swapL_len] at hk
  rw [swapL_nth hi hj]
  split
  · exact h i hi
  · split
    · exact h j hj
    · exact h k hk

/-- The rows with row i brought up to place d and divided by its number k. -/
def upG (p : Int) (m : Nat) (rows : List (List Int)) (d k i : Nat) : List (List Int) := (swapL rows d i).set d (scaleL p (nthR rows i) (invN p (nth (nthR rows i) k)) m)
theorem upG_len {p : Int} {m : Nat} {rows : List (List Int)} {d k i : Nat} : (upG p m rows d k i).length = rows.length := by simp [upG, swapL_len]
theorem upG_good {p : Int} {m : Nat} {rows : List (List Int)} {d k i : Nat} (hp : 1 ≤ p) (h : RowsG p m rows) (hd : d < rows.length) (hi : i < rows.length) : RowsG p m (upG p m rows d k i) := (swapL_good h hd hi).set (scale_good hp)
theorem upG_nth {p : Int} {m : Nat} {rows : List (List Int)} {d k i j : Nat} (hd : d < rows.length) (hi : i < rows.length) : nthR (upG p m rows d k i) j = if j = d then scaleL p (nthR rows i) (invN p (nth (nthR rows i) k)) m else if j = i then nthR rows d else nthR rows j := by
  unfold upG
  rw [nthR_set (by rw [swapL_len]; exact hd)]
  by_cases hj : d = j
  · subst hj; simp
  · rw [if_neg hj, if_neg (Ne.symm hj), swapL_nth hd hi]
    by_cases hji : j = i
    · rw [if_pos hji, if_pos hji]
    · rw [if_neg hji, if_neg hji, if_neg (Ne.symm hj)]
def stepG (p : Int) (m : Nat) (s : List (List Int) × Nat) (k : Nat) : List (List Int) × Nat :=
  if pivG s.1 k s.2 = s.1.length then s else (clrS p k m s.2 (upG p m s.1 s.2 k (pivG s.1 k s.2)) s.1.length, s.2 + 1)
def gaussS (p : Int) (m : Nat) (rows : List (List Int)) : Nat → List (List Int) × Nat
  | 0 => (rows, 0)
  | k + 1 => stepG p m (gaussS p m rows k) k
def basisL (p : Int) (m : Nat) (rows : List (List Int)) : List (List Int) := (gaussS p m rows m).1.take (gaussS p m rows m).2

theorem stepG_no {p : Int} {m : Nat} {s : List (List Int) × Nat} {k : Nat} (h : pivG s.1 k s.2 = s.1.length) : stepG p m s k = s := by rw [stepG, if_pos h]
theorem stepG_yes {p : Int} {m : Nat} {s : List (List Int) × Nat} {k i : Nat} (h : pivG s.1 k s.2 = i) (hi : i < s.1.length) : stepG p m s k = (clrS p k m s.2 (upG p m s.1 s.2 k i) s.1.length, s.2 + 1) := by
  rw [stepG, h, if_neg (by omega)]

/-- What holds of the rows when k columns are done: d rows have a 1 at a place of their own, where all other rows have 0. -/
structure Red (rows : List (List Int)) (d k : Nat) (c : Nat → Nat) : Prop where
  dle : d ≤ rows.length
  dk : d ≤ k
  clt : ∀ i, i < d → c i < k
  mono : ∀ i j, i < j → j < d → c i < c j
  one : ∀ i, i < d → ∀ j, j < rows.length → nth (nthR rows j) (c i) = if j = i then 1 else 0
  lead : ∀ i, i < d → ∀ t, t < c i → nth (nthR rows i) t = 0
  rest : ∀ i, d ≤ i → i < rows.length → ∀ t, t < k → nth (nthR rows i) t = 0

theorem Red.step {p : Int} {m : Nat} {rows : List (List Int)} {d k : Nat} {c : Nat → Nat} (hp : primeB p = true) (hk : k < m) (hg : RowsG p m rows) (h : Red rows d k c) :
    ∃ c', Red (stepG p m (rows, d) k).1 (stepG p m (rows, d) k).2 (k + 1) c' := by
  have hpb := prime_bd hp
  obtain ⟨h1, h2, h3, h4⟩ := pivG_spec rows k d h.dle
  by_cases hn : pivG rows k d = rows.length
  · rw [stepG_no (s := (rows, d)) hn]
    refine ⟨c, h.dle, Nat.le_succ_of_le h.dk, fun i hi => Nat.lt_succ_of_lt (h.clt i hi), h.mono, h.one, h.lead, fun i hdi hi t ht => ?_⟩
    rcases Nat.lt_or_eq_of_le (Nat.le_of_lt_succ ht) with ht | ht
    · exact h.rest i hdi hi t ht
    · subst ht; exact h3 i hdi (by rw [hn]; exact hi)
  · obtain ⟨i0, hi0⟩ : ∃ i0, i0 = pivG rows k d := ⟨_, rfl⟩
    rw [← hi0] at h1 h2 h3 h4 hn
    have hi : i0 < rows.length := by omega
    have hne : nth (nthR rows i0) k ≠ 0 := by rcases h4 with h | h; omega; exact h
    rw [stepG_yes (s := (rows, d)) hi0.symm hi]
    have hd : d < rows.length := by omega
    obtain ⟨R, hR⟩ : ∃ R, R = upG p m rows d k i0 := ⟨_, rfl⟩
    have Rl : R.length = rows.length := by rw [hR, upG_len]
    have Rg : RowsG p m R := by rw [hR]; exact upG_good (by omega) hg hd hi
    have Rn : ∀ j, nthR R j = if j = d then scaleL p (nthR rows i0) (invN p (nth (nthR rows i0) k)) m else if j = i0 then nthR rows d else nthR rows j := fun j => by rw [hR]; exact upG_nth hd hi
    have gi := hg i0 hi
    -- the row that is brought up
    have Dz : ∀ t, t < k → nth (nthR R d) t = 0 := fun t ht => by
      rw [Rn d, if_pos rfl, scaleL_nth (by omega), scaleN, h.rest i0 h1 hi t ht]; simp
    have D1 : nth (nthR R d) k = 1 := by
      rw [Rn d, if_pos rfl, scaleL_nth hk, scaleN]
      have hb := gi.2 k hk
      exact (inv_spec hp (by omega) hb.2).2.1
    -- zeros of the others
    have Rz : ∀ j, d ≤ j → j < rows.length → ∀ t, t < k → nth (nthR R j) t = 0 := fun j hj hjl t ht => by
      by_cases hjd : j = d
      · subst hjd; exact Dz t ht
      · rw [Rn j, if_neg hjd]
        split
        · exact h.rest d (Nat.le_refl _) hd t ht
        · exact h.rest j hj hjl t ht
    have Ro : ∀ j, j < d → nthR R j = nthR rows j := fun j hj => by rw [Rn j, if_neg (by omega), if_neg (by omega)]
    rw [← hR]
    have Cn : ∀ j, j < rows.length → nthR (clrS p k m d R rows.length) j = if j ≠ d then plusL p (nthR R j) (nthR R d) (-(nth (nthR R j) k)) m else nthR R j := fun j hj => by
      rw [clrS_nth _ (by omega)]
      by_cases hjd : j ≠ d
      · rw [if_pos ⟨hj, hjd⟩, if_pos hjd]
      · rw [if_neg (by omega), if_neg hjd]
    -- places ahead of k do not change
    have Ct : ∀ j, j < rows.length → ∀ t, t < k → nth (nthR (clrS p k m d R rows.length) j) t = nth (nthR R j) t := fun j hj t ht => by
      rw [Cn j hj]
      by_cases hjd : j ≠ d
      · rw [if_pos hjd, plusL_nth (by omega)]
        unfold plusN
        have gj := (Rg j (by omega)).2 t (by omega)
        rw [Dz t ht, Int.mul_zero, Int.add_zero, Int.emod_eq_of_lt gj.1 gj.2]
      · rw [if_neg hjd]
    have Ck : ∀ j, j < rows.length → nth (nthR (clrS p k m d R rows.length) j) k = if j = d then 1 else 0 := fun j hj => by
      rw [Cn j hj]
      by_cases hjd : j ≠ d
      · rw [if_pos hjd, plusL_nth hk, if_neg hjd]
        unfold plusN
        rw [D1, Int.mul_one]
        rw [show nth (nthR R j) k + -nth (nthR R j) k = 0 by omega]; simp
      · rw [if_neg hjd, if_pos (by omega), show j = d by omega, D1]
    refine ⟨fun i => if i = d then k else c i, ?_⟩
    constructor
    · show d + 1 ≤ _; rw [clrS_len, Rl]; omega
    · show d + 1 ≤ k + 1; have := h.dk; omega
    · intro i hid
      have hid' : i < d + 1 := hid
      by_cases hi' : i = d
      · simp [hi']
      · simp only [hi', if_false]; have := h.clt i (by omega); omega
    · intro i j hij hj
      have hj' : j < d + 1 := hj
      have e1 : i ≠ d := by omega
      simp only [e1, if_false]
      by_cases hjd : j = d
      · simp only [hjd, if_true]; exact h.clt i (by omega)
      · simp only [hjd, if_false]; exact h.mono i j hij (by omega)
    · intro i hid j hj
      have hid' : i < d + 1 := hid
      rw [clrS_len, Rl] at hj
      by_cases hi' : i = d
      · simp only [hi', if_true]; exact Ck j hj
      · simp only [hi', if_false]
        have hid2 : i < d := by omega
        have hc := h.clt i hid2
        rw [Ct j hj _ hc]
        by_cases hjd : j < d
        · rw [Ro j hjd]; exact h.one i hid2 j hj
        · rw [Rz j (by omega) hj _ hc, if_neg (by omega)]
    · intro i hid t ht
      have hid' : i < d + 1 := hid
      by_cases hi' : i = d
      · simp only [hi', if_true] at ht
        rw [hi', Ct d hd t ht]; exact Dz t ht
      · simp only [hi', if_false] at ht
        have hid2 : i < d := by omega
        have hc := h.clt i hid2
        rw [Ct i (by omega) t (by omega), Ro i hid2]
        exact h.lead i hid2 t ht
    · intro i hdi hil t ht
      have hdi' : d + 1 ≤ i := hdi
      rw [clrS_len, Rl] at hil
      rcases Nat.lt_or_eq_of_le (Nat.le_of_lt_succ ht) with ht | ht
      · rw [Ct i hil t ht]; exact Rz i (by omega) hil t ht
      · rw [ht, Ck i hil, if_neg (by omega)]

theorem gaussS_len {p : Int} {m : Nat} {rows : List (List Int)} : ∀ k, (gaussS p m rows k).1.length = rows.length
  | 0 => rfl
  | k + 1 => by
    have ih := gaussS_len (p := p) (m := m) (rows := rows) k
    show (stepG p m (gaussS p m rows k) k).1.length = _
    unfold stepG
    split
    · exact ih
    · simp only [clrS_len, upG_len]; exact ih
theorem gaussS_red {p : Int} {m : Nat} {rows : List (List Int)} (hp : primeB p = true) (hg : RowsG p m rows) : ∀ k, k ≤ m → RowsG p m (gaussS p m rows k).1 ∧ ∃ c, Red (gaussS p m rows k).1 (gaussS p m rows k).2 k c
  | 0, _ => ⟨hg, fun _ => 0, Nat.zero_le _, Nat.le_refl _, fun i hi => absurd hi (Nat.not_lt_zero _), fun i j _ hj => absurd hj (Nat.not_lt_zero _), fun i hi => absurd hi (Nat.not_lt_zero _), fun i hi => absurd hi (Nat.not_lt_zero _), fun i _ _ t ht => absurd ht (Nat.not_lt_zero _)⟩
  | k + 1, hk => by
    obtain ⟨h1, c, h2⟩ := gaussS_red hp hg k (by omega)
    refine ⟨?_, h2.step hp (by omega) h1⟩
    show RowsG p m (stepG p m (gaussS p m rows k) k).1
    have hpb := prime_bd hp
    obtain ⟨p1, p2, p3, p4⟩ := pivG_spec _ k _ h2.dle
    by_cases hn : pivG (gaussS p m rows k).1 k (gaussS p m rows k).2 = (gaussS p m rows k).1.length
    · rw [stepG_no hn]; exact h1
    · rw [stepG_yes rfl (by omega)]
      exact clrS_good (by omega) (upG_good (by omega) h1 (by omega) (by omega)) _
theorem gaussS_stop {p : Int} {m : Nat} {rows : List (List Int)} {k : Nat} (h : (gaussS p m rows k).2 = rows.length) : ∀ j, gaussS p m rows (k + j) = gaussS p m rows k
  | 0 => rfl
  | j + 1 => by
    show stepG p m (gaussS p m rows (k + j)) (k + j) = _
    rw [gaussS_stop h j]
    apply stepG_no
    have hl := gaussS_len (p := p) (m := m) (rows := rows) k
    obtain ⟨p1, p2, _, _⟩ := pivG_spec (gaussS p m rows k).1 (k + j) (gaussS p m rows k).2 (by omega)
    omega
theorem gauss_rank {p : Int} {m : Nat} {rows : List (List Int)} (hp : primeB p = true) (hg : RowsG p m rows) : (gaussS p m rows m).2 ≤ rows.length ∧ (gaussS p m rows m).2 ≤ m := by
  obtain ⟨_, c, h⟩ := gaussS_red hp hg m (Nat.le_refl _)
  have := gaussS_len (p := p) (m := m) (rows := rows) m
  exact ⟨by have := h.dle; omega, h.dk⟩
/-- A reduced basis: each row has its first number other than 0, a 1, at a place of its own; all others have 0 there. -/
structure Basis (p : Int) (m : Nat) (rows : List (List Int)) (c : Nat → Nat) : Prop where
  good : RowsG p m rows
  len : rows.length ≤ m
  clt : ∀ i, i < rows.length → c i < m
  mono : ∀ i j, i < j → j < rows.length → c i < c j
  one : ∀ i, i < rows.length → ∀ j, j < rows.length → nth (nthR rows j) (c i) = if j = i then 1 else 0
  lead : ∀ i, i < rows.length → ∀ t, t < c i → nth (nthR rows i) t = 0
theorem basis_red {p : Int} {m : Nat} {rows : List (List Int)} (hp : primeB p = true) (hg : RowsG p m rows) : ∃ c, Basis p m (basisL p m rows) c := by
  obtain ⟨h1, c, h2⟩ := gaussS_red hp hg m (Nat.le_refl _)
  have hl : (basisL p m rows).length = (gaussS p m rows m).2 := by unfold basisL; rw [List.length_take, Nat.min_eq_left h2.dle]
  have hn : ∀ i, i < (gaussS p m rows m).2 → nthR (basisL p m rows) i = nthR (gaussS p m rows m).1 i := fun i hi => by unfold basisL; exact nthR_take hi
  have hd := h2.dle
  refine ⟨c, fun i hi => ?_, by rw [hl]; exact h2.dk, fun i hi => h2.clt i (by omega), fun i j hij hj => h2.mono i j hij (by omega), fun i hi j hj => ?_, fun i hi t ht => ?_⟩
  · rw [hn i (by omega)]; exact h1 i (by omega)
  · rw [hn j (by omega)]; exact h2.one i (by omega) j (by omega)
  · rw [hn i (by omega)]; exact h2.lead i (by omega) t ht

end Go.Proofs.YtcocbainookkcaaGreat

/-
  Reverses of multivectors, in the program and in the reference.
  No condition.
-/
namespace Go.Proofs.YtcocbainookkcaaGreat
set_option maxRecDepth 100000
open Go.RowKit


def revB (g : Nat) : Bool := g * (g - 1) / 2 % 2 == 1
theorem rev_i (g : Nat) (hg : g ≤ 6) : ((wrap64 ((wrap64 ((g : Int) * ((g : Int) - 1))).tdiv 2)).tmod 2 == 1) = revB g := by
  have : ∀ g : Nat, g < 7 → ((wrap64 ((wrap64 ((g : Int) * ((g : Int) - 1))).tdiv 2)).tmod 2 == 1) = revB g := by decide +kernel
  exact this g (by omega)

def signN (p : Int) (odd : Nat → Bool) (x : List Int) (i : Nat) : Int := if odd (popc i) = true then (-nth x i) % p else nth x i
def signL (p : Int) (odd : Nat → Bool) (x : List Int) (n : Nat) : List Int := (List.range n).map (signN p odd x)
theorem signL_len (p : Int) (odd : Nat → Bool) (x : List Int) (n : Nat) : (signL p odd x n).length = n := by simp [signL]
theorem signL_nth {p : Int} {odd : Nat → Bool} {x : List Int} {n i : Nat} (h : i < n) : nth (signL p odd x n) i = signN p odd x i := by
  unfold signL; rw [nth_map (by simpa using h)]; simp
theorem signL_succ (p : Int) (odd : Nat → Bool) (x : List Int) (n : Nat) : signL p odd x (n + 1) = signL p odd x n ++ [signN p odd x n] := by simp [signL, List.range_succ]
theorem signN_bd {p : Int} {odd : Nat → Bool} {x : List Int} {n i : Nat} (hp : 1 ≤ p) (hx : Good p n x) (h : i < n) : 0 ≤ signN p odd x i ∧ signN p odd x i < p := by
  unfold signN; split
  · exact ⟨Int.emod_nonneg _ (by omega), Int.emod_lt_of_pos _ (by omega)⟩
  · exact hx.2 i h
theorem sign_good {p : Int} {odd : Nat → Bool} {x : List Int} {n : Nat} (hp : 1 ≤ p) (hx : Good p n x) : Good p n (signL p odd x n) := ⟨signL_len _ _ _ _, fun i hi => by rw [signL_nth hi]; exact signN_bd hp hx hi⟩



theorem neg_ref {p x : Int} : (p - x) % p = (-x) % p := by
  rw [show p - x = -x + p * 1 by omega, Int.add_mul_emod_self_left]


end Go.Proofs.YtcocbainookkcaaGreat

/-
  Unduals, scalar products, brackets: walks.
  No condition.
-/
namespace Go.Proofs.YtcocbainookkcaaGreat
set_option maxRecDepth 100000
open Go.RowKit



def scalL (p : Int) (qs x y : List Int) : Int := nth (prodL p qs tkA (signL p revB x (2 ^ qs.length)) y) 0


theorem prod_two {p : Int} {qs x y : List Int} {N : Nat} (hN : N = 2 ^ qs.length) (hp : 3 ≤ p) (hx : Good p N x) : timesL p qs [x, y] = prodL p qs tkA x y := timesL_two hp (by rw [← hN]; exact hx)



end Go.Proofs.YtcocbainookkcaaGreat

/-
  Products of lists of vectors.
  No condition.
-/
namespace Go.Proofs.YtcocbainookkcaaGreat
set_option maxRecDepth 100000
open Go.RowKit

/-- The product of the first k of some vectors. -/
def prodS (p : Int) (qs : List Int) (tk : Nat → Nat → Bool) (rows : List (List Int)) : Nat → List Int
  | 0 => bladeL (2 ^ qs.length) 0
  | k + 1 => prodL p qs tk (prodS p qs tk rows k) (vecL (2 ^ qs.length) (nthR rows k))
theorem prodS_good {p : Int} {qs : List Int} {tk : Nat → Nat → Bool} {rows : List (List Int)} (hp : 3 ≤ p) : ∀ k, Good p (2 ^ qs.length) (prodS p qs tk rows k)
  | 0 => blade_good hp
  | k + 1 => prod_good (by omega)
/-- The code of a space and a list of at most 16 vectors. -/
def codeVR (p : Int) (qs : List Int) (rows : List (List Int)) : Int := if codeV p qs rows = 0 then (if rows.length ≤ 16 then 0 else 2) else codeV p qs rows
theorem codeVR_zero {p : Int} {qs : List Int} {rows : List (List Int)} (h : codeVR p qs rows = 0) : spaceB p qs = true ∧ rows.all (vecB p qs.length) = true ∧ rows.length ≤ 16 := by
  unfold codeVR codeV at h
  cases hs : spaceB p qs
  · simp [hs] at h
  · cases ha : rows.all (vecB p qs.length)
    · simp [hs, ha] at h
    · simp [hs, ha] at h
      exact ⟨rfl, rfl, h⟩
theorem rows_good {p : Int} {d : Nat} {rows : List (List Int)} (h : rows.all (vecB p d) = true) : RowsG p d rows := fun i hi => by
  have := List.all_eq_true.1 h (nthR rows i) (by rw [nthR_eq hi]; exact List.getElem_mem hi)
  obtain ⟨h1, h2⟩ := vec_of this
  exact good_isB h1 h2

set_option maxHeartbeats 2000000 in
theorem c_wedgeAll {N d : Nat} (hN : N = 2 ^ d) (p : Int) (a : Option Addr) (cap : Nat) (qs : List Int) (al : Option Addr) (n cl : Nat) (rows : List (List Int)) (w : World) (hd : d ≤ 6) (hp1 : 3 ≤ p) (hp2 : p ≤ 1000) (hl : n ≤ 4194304) (hq : RdC w a d qs) (hqb : isB p qs = true) (hx : RdR w al n rows) (hg : RowsG p d rows) :
    Calls Tryz.prog 32 #[.agg #[.int .i64 p, .slice a d cap], .slice al n cl] w fun e w' => ∃ g, e = .returned (.slice (some ⟨g, 0, none⟩) N N) ∧ OwnC w.heap.size w' (some ⟨g, 0, none⟩) N N (prodS p qs tkW rows n) ∧ Ext w w' := by
  have HN := Lib.hid hN
  have HX := Lib.hid hx
  have HQ := Lib.hid hq
  have HQB := Lib.hid hqb
  have HG := Lib.hid hg
  have HD := Lib.hid (show N = 2 ^ qs.length by rw [hq.1]; exact hN)
  have HPA : Hid (∀ k, Good p N (prodS p qs tkW rows k)) := Lib.hid (fun k => by rw [HD.out]; exact prodS_good hp1 k)
  clear hN hx hq hqb hg
  obtain ⟨W, hW⟩ : ∃ W, W = w.alloc (.cells #[.int .i64 p, .slice a d cap] 26) := ⟨_, rfl⟩
  have gW : Ext w W := by rw [hW]; exact ext_alloc _ _
  have hs0 : W.cell? ⟨w.heap.size, 0, none⟩ = some (.int .i64 p) := by rw [hW]; simp
  have hs1 : W.cell? ⟨w.heap.size, 1, none⟩ = some (.slice a d cap) := by rw [hW]; simp
  have HS0 := Lib.hid (hs0)
  have HS1 := Lib.hid (hs1)
  have GW := Lib.hid (gW)
  have HW := Lib.hid hW
  clear hs0 hs1 gW hW
  go_enter Tryz.func32, Tryz.ntmps32
  go_wp2_with (fail)
  rw [← HW.out]
  refine (c_oneN HN.out p a cap W hd).mono ?_
  rintro e w1 ⟨g, rfl, ho, g1⟩
  have HO := Lib.hid (ho.mono GW.out.size)
  have G1 := Lib.hid g1
  clear ho g1
  go_wp2_with (fail)
  go_loopw [5, 12] (fun v i wr => ∃ (k g : Nat), k ≤ n ∧ i = .int .i64 k ∧ v = .slice (some ⟨g, 0, none⟩) N N ∧ OwnC w.heap.size wr (some ⟨g, 0, none⟩) N N (prodS p qs tkW rows k) ∧ Ext W wr) (fun _ i _ => n - (intOf i).toNat)
  case atStart => exact ⟨0, g, Nat.zero_le _, rfl, rfl, by show OwnC _ _ _ _ _ (bladeL (2 ^ qs.length) 0); rw [← HD.out]; exact HO.out, G1.out⟩
  case round =>
    obtain ⟨k, g', hk, rfl, rfl, hown, hext⟩ := hrel
    have HOwn := Lib.hid hown
    have HExt := Lib.hid hext
    clear hown hext
    by_cases hlt : k < n
    · obtain ⟨b, off, ai, ci, rfl, hc, hri⟩ := HX.out.2 k hlt
      rw [(HG.out k (by rw [HX.out.1]; exact hlt)).1] at hc hri
      have hc' := (GW.out.trans HExt.out).cell hc
      have HRi := Lib.hid hri
      have HV := Lib.hid (show Good p N (vecL N (nthR rows k)) from vec_good (by omega) (HG.out k (by rw [HX.out.1]; exact hlt)))
      have HPS := Lib.hid (HPA.out k)
      have HCd := Lib.hid ((ext_drew _).cell hc')
      clear hri hc
      go_wp2_with (fail)
      clear hc'
      have GX := Lib.hid (GW.out.trans (HExt.out.trans (ext_drew wr)))
      have HT0 := Lib.hid ((HExt.out.trans (ext_drew wr)).cell HS0.out)
      have HT1 := Lib.hid ((HExt.out.trans (ext_drew wr)).cell HS1.out)
      refine wp_region_lex [(4, .ownG w.heap.size N (vecL N (nthR rows k))), (5, .ownG w.heap.size N (prodL p qs tkW (prodS p qs tkW rows k) (vecL N (nthR rows k))))] (by kernel_rfl) (by kernel_rfl) ?_
      (refine LexW.pure (v := ?_) rfl rfl (fun w1 he => ?_) ?_; rotate_left; ( have e1 := he.cell HT0.out; have e2 := he.cell HT1.out; have e3 := he.cell HCd.out; go_simp; rfl); simp only [Act.put, List.setIfInBounds_toArray, List.set_cons_zero, List.set_cons_succ])
      (refine LexW.pure (v := ?_) rfl rfl (fun w1 he => ?_) ?_; rotate_left; ( have e1 := he.cell HT0.out; have e2 := he.cell HT1.out; have e3 := he.cell HCd.out; go_simp; rfl); simp only [Act.put, List.setIfInBounds_toArray, List.set_cons_zero, List.set_cons_succ])
      (refine LexW.pure (v := ?_) rfl rfl (fun w1 he => ?_) ?_; rotate_left; ( have e1 := he.cell HT0.out; have e2 := he.cell HT1.out; have e3 := he.cell HCd.out; go_simp; rfl); simp only [Act.put, List.setIfInBounds_toArray, List.set_cons_zero, List.set_cons_succ])
      (refine LexW.pure (v := ?_) rfl rfl (fun w1 he => ?_) ?_; rotate_left; ( have e1 := he.cell HT0.out; have e2 := he.cell HT1.out; have e3 := he.cell HCd.out; go_simp; rfl); simp only [Act.put, List.setIfInBounds_toArray, List.set_cons_zero, List.set_cons_succ])
      (refine LexW.callR (f := ?_) (args := ?_) rfl rfl (fun w1 => ?_) (fun w1 he hdep => ?_) (fun v hv => ?_); rotate_left 2; (go_simp; refine ⟨?_, ?_⟩ <;> rfl); ( refine (c_vector HN.out p a cap ai ci (nthR rows k) w1 hd (HRi.out.ext (GX.out.trans he))).mono ?_; rintro e w2 ⟨g, rfl, ho, g2⟩; exact ⟨_, rfl, g2, g, rfl, ho.mono (Nat.le_trans GX.out.size he.size)⟩); simp only [Act.put, List.setIfInBounds_toArray, List.set_cons_zero, List.set_cons_succ])
      obtain ⟨_, g20, rfl, _⟩ := hv
      (refine LexW.callR (f := ?_) (args := ?_) rfl rfl (fun w1 => ?_) (fun w1 he hdep => ?_) (fun v hv => ?_); rotate_left 2; (go_simp; refine ⟨?_, ?_⟩ <;> rfl); ( obtain ⟨_, q20, r20⟩ : (SPred.ownG w.heap.size N (vecL N (nthR rows k))).holds (.slice (some ⟨g20, 0, none⟩) N N) w1 := hdep (4, 20) (by decide +kernel); cases q20; refine (c_wedgeN HN.out p a cap qs _ _ N N (prodS p qs tkW rows k) (vecL N (nthR rows k)) w1 hd hp1 hp2 (HQ.out.ext (GX.out.trans he)) HQB.out (HOwn.out.rd.ext ((ext_drew _).trans he)) r20.rd HPS.out.isB HV.out.isB).mono ?_; rintro e w2 ⟨g, rfl, ho, g2⟩; exact ⟨_, rfl, g2, g, rfl, ho.mono (Nat.le_trans GX.out.size he.size)⟩); simp only [Act.put, List.setIfInBounds_toArray, List.set_cons_zero, List.set_cons_succ])
      obtain ⟨_, g21, rfl, _⟩ := hv
      (refine LexW.pure (v := ?_) rfl rfl (fun w1 he => ?_) ?_; rotate_left; ( have e1 := he.cell HT0.out; have e2 := he.cell HT1.out; have e3 := he.cell HCd.out; go_simp; rfl); simp only [Act.put, List.setIfInBounds_toArray, List.set_cons_zero, List.set_cons_succ])
      refine LexW.nil (fun w3 he hkn => ?_)
      obtain ⟨_, q21, r21⟩ : (SPred.ownG w.heap.size N (prodL p qs tkW (prodS p qs tkW rows k) (vecL N (nthR rows k)))).holds (.slice (some ⟨g21, 0, none⟩) N N) w3 := hkn (5, _) (by simp)
      cases q21
      have R21 := Lib.hid r21
      have HE := Lib.hid (GX.out.trans he)
      have X4 := Lib.hid (HExt.out.trans ((ext_drew _).trans he))
      clear he hkn r21
      go_wp2_with (fail)
      go_roundw
      case rel => exact ⟨k + 1, g21, by omega, by go_num, rfl, (by show OwnC _ _ _ _ _ (prodL p qs tkW _ _); rw [← HD.out]; exact R21.out), X4.out⟩
      case measure => simp [intOf]; omega
    · go_wp2_with (fail)
      go_ret
      obtain rfl : k = n := by omega
      exact ⟨_, rfl, HOwn.out, GW.out.trans HExt.out⟩




end Go.Proofs.YtcocbainookkcaaGreat

/-
  The codes of spaces and lists of vectors; the listed function WedgeOfVectors.
  No condition.
-/
namespace Go.Proofs.YtcocbainookkcaaGreat
set_option maxRecDepth 100000
open Go.RowKit

theorem codeVR_space {p : Int} {qs : List Int} {rows : List (List Int)} (h : spaceB p qs = false) : codeVR p qs rows = 1 := by simp [codeVR, codeV, h]
theorem codeVR_of {p : Int} {qs : List Int} {rows : List (List Int)} (h : spaceB p qs = true) : codeVR p qs rows = if (rows.all (vecB p qs.length) && decide (rows.length ≤ 16)) = true then 0 else 2 := by
  unfold codeVR codeV
  cases ha : rows.all (vecB p qs.length)
  · simp [h]
  · by_cases hl : rows.length ≤ 16 <;> simp [h, hl]

set_option maxHeartbeats 400000 in
theorem c_checkList (p : Int) (a : Option Addr) (d cap : Nat) (qs : List Int) (al : Option Addr) (n cl : Nat) (rows : List (List Int)) (w : World) (hd : d ≤ 4194304) (hl : n ≤ 4194304) (hr : ∀ i, i < n → (nthR rows i).length ≤ 4194304)
    (hq : RdC w a d qs) (hx : RdR w al n rows) :
    Calls Tryz.prog 37 #[.agg #[.int .i64 p, .slice a d cap], .slice al n cl] w fun e w' => e = .returned (.int .i64 (codeVR p qs rows)) ∧ Ext w w' := by
  have Hr := Lib.hid hr
  clear hr
  by_cases hc : codeV p qs rows = 0
  · have HC := Lib.hid hc
    have hcb : ((0 : Int) != 0) = false := by simp
    by_cases h16 : n ≤ 16
    · have HF := Lib.hid (show codeVR p qs rows = 0 by simp [codeVR, hc, hx.1, h16])
      clear hc
      go_enter Tryz.func37, Tryz.ntmps37
      go_wp2_with (go_at_call 69; refine (c_checkVectors p a d cap qs al n cl rows _ hd hl Hr.out (hq.ext (ext_alloc _ _)) (hx.ext (ext_alloc _ _))).mono ?_; rintro e w1 ⟨rfl, g1⟩; rw [HC.out])
      go_ret
      exact ⟨ret_int HF.out.symm, (ext_alloc _ _).trans g1⟩
    · have HF := Lib.hid (show codeVR p qs rows = 2 by simp [codeVR, hc, hx.1, h16])
      clear hc
      go_enter Tryz.func37, Tryz.ntmps37
      go_wp2_with (go_at_call 69; refine (c_checkVectors p a d cap qs al n cl rows _ hd hl Hr.out (hq.ext (ext_alloc _ _)) (hx.ext (ext_alloc _ _))).mono ?_; rintro e w1 ⟨rfl, g1⟩; rw [HC.out])
      go_ret
      exact ⟨ret_int HF.out.symm, (ext_alloc _ _).trans g1⟩
  · have HF := Lib.hid (show codeVR p qs rows = codeV p qs rows by simp [codeVR, hc])
    have hcb : (codeV p qs rows != 0) = true := by simp [hc]
    clear hc
    go_enter Tryz.func37, Tryz.ntmps37
    go_wp2_with (go_at_call 69; refine (c_checkVectors p a d cap qs al n cl rows _ hd hl Hr.out (hq.ext (ext_alloc _ _)) (hx.ext (ext_alloc _ _))).mono ?_; rintro e w1 ⟨rfl, g1⟩)
    go_ret
    exact ⟨ret_int HF.out.symm, (ext_alloc _ _).trans g1⟩

set_option maxHeartbeats 400000 in
theorem s_isVector (p : Int) (a : Option Addr) (d cap : Nat) (ax : Option Addr) (n cx : Nat) (xs : List Int) (w : World) (hp1 : 1 ≤ p) (hp2 : p ≤ 1000) (hl : n ≤ 4194304) (hx : RdC w ax n xs) :
    Calls Tryz.prog 84 #[.agg #[.int .i64 p, .slice a d cap], .slice ax n cx] w fun e w' => e = .returned (.bool (vecB p d xs)) ∧ Ext w w' := by
  by_cases hc : n = d
  · have HF := Lib.hid (show vecB p d xs = isB p xs by simp [vecB, hx.1, hc])
    have hcb : ((n : Int) == (d : Int)) = true := by simp [hc]
    clear hc
    go_enter Tryz.func84, Tryz.ntmps84
    go_wp2_with (go_at_call 101; refine (s_numbers _ _ _ _ _ _ hp1 hp2 hl (hx.ext (ext_alloc _ _))).mono ?_; rintro e w3 ⟨rfl, h3⟩)
    go_ret
    exact ⟨ret_bool HF.out.symm, (ext_alloc _ _).trans h3⟩
  · have HF := Lib.hid (show vecB p d xs = false by simp [vecB, hx.1, hc])
    have hcb : ((n : Int) == (d : Int)) = false := by simp; omega
    go_enter Tryz.func84, Tryz.ntmps84
    go_wp2_with (fail)
    go_ret
    exact ⟨ret_bool HF.out.symm, ext_alloc _ _⟩

theorem allV_false {p : Int} {d n k : Nat} {rows : List (List Int)} (hn : rows.length = n) (hk : k < n) (h : vecB p d (nthR rows k) = false) : rows.all (vecB p d) = false := by
  rw [List.all_eq_false]
  subst hn
  exact ⟨rows[k], List.getElem_mem hk, by rw [nthR_eq hk] at h; simp [h]⟩
theorem allV_true {p : Int} {d n : Nat} {rows : List (List Int)} (hn : rows.length = n) (h : ∀ j, j < n → vecB p d (nthR rows j) = true) : rows.all (vecB p d) = true := by
  rw [List.all_eq_true]
  intro x hx
  obtain ⟨i, hi, rfl⟩ := List.getElem_of_mem hx
  have := h i (by omega)
  rwa [nthR_eq hi] at this



def wedgeL (p : Int) (qs : List Int) (rows : List (List Int)) (n : Nat) : List Int := prodS p qs tkW rows n
end Go.Proofs.YtcocbainookkcaaGreat

/-
  Products and norms of vectors.
  No condition.
-/
namespace Go.Proofs.YtcocbainookkcaaGreat
set_option maxRecDepth 100000
open Go.RowKit

/-- The sum of the first k products. -/
def dotS (x y : List Int) : Nat → Int
  | 0 => 0
  | k + 1 => dotS x y k + nth x k * nth y k
theorem dotS_bd {p : Int} {n : Nat} {x y : List Int} (hp : p ≤ 1000) (hx : Good p n x) (hy : Good p n y) : ∀ k, k ≤ n → 0 ≤ dotS x y k ∧ dotS x y k ≤ 1000000 * k
  | 0, _ => by simp [dotS]
  | k + 1, hk => by
    have ih := dotS_bd hp hx hy k (by omega)
    have h1 := hx.2 k (by omega)
    have h2 := hy.2 k (by omega)
    have h3 := mul_bd hp h1.1 h1.2 h2.1 h2.2
    simp only [dotS, Int.natCast_add]
    omega
def dotL (p : Int) (x y : List Int) (n : Nat) : Int := dotS x y n % p
def wtN (p : Int) (qs v : List Int) (i : Nat) : Int := (nth v i * nth qs i) % p
def wtL (p : Int) (qs v : List Int) (n : Nat) : List Int := (List.range n).map (wtN p qs v)
theorem wtL_succ (p : Int) (qs v : List Int) (n : Nat) : wtL p qs v (n + 1) = wtL p qs v n ++ [wtN p qs v n] := by simp [wtL, List.range_succ]
theorem wtL_nth {p : Int} {qs v : List Int} {n i : Nat} (h : i < n) : nth (wtL p qs v n) i = wtN p qs v i := by
  unfold wtL; rw [nth_map (by simpa using h)]; simp
theorem wt_good {p : Int} {qs v : List Int} {n : Nat} (hp : 1 ≤ p) : Good p n (wtL p qs v n) := ⟨by simp [wtL], fun i hi => by
  rw [wtL_nth hi]; exact ⟨Int.emod_nonneg _ (by omega), Int.emod_lt_of_pos _ (by omega)⟩⟩
/-- The product of two vectors. -/
def pairL (p : Int) (qs v w : List Int) (n : Nat) : Int := dotL p (wtL p qs v n) w n
theorem pairL_bd {p : Int} {qs v w : List Int} {n : Nat} (hp : 1 ≤ p) : 0 ≤ pairL p qs v w n ∧ pairL p qs v w n < p := ⟨Int.emod_nonneg _ (by omega), Int.emod_lt_of_pos _ (by omega)⟩
/-- As the reference sums it. -/
def pairS (p : Int) (qs v w : List Int) : Nat → Int
  | 0 => 0
  | k + 1 => (pairS p qs v w k + nth v k * nth w k % p * nth qs k) % p
theorem dotS_congr {p : Int} {x x' y : List Int} : ∀ k, (∀ i, i < k → nth x i % p = nth x' i % p) → dotS x y k % p = dotS x' y k % p
  | 0, _ => rfl
  | k + 1, h => by
    simp only [dotS]
    rw [Int.add_emod, dotS_congr k (fun i hi => h i (by omega)), Int.mul_emod, h k (by omega), ← Int.mul_emod, ← Int.add_emod]
theorem pairS_eq {p : Int} {qs v w : List Int} {n : Nat} : ∀ k, k ≤ n → pairS p qs v w k = dotS (wtL p qs v n) w k % p
  | 0, _ => by simp [pairS, dotS]
  | k + 1, hk => by
    simp only [pairS, dotS]
    rw [pairS_eq k (by omega) (n := n), wtL_nth (by omega), wtN, Int.emod_add_emod, Int.add_emod, Int.add_emod (dotS _ _ _)]
    congr 1
    congr 1
    rw [Int.mul_emod, Int.emod_emod, ← Int.mul_emod, Int.mul_emod (_ % p), Int.emod_emod, ← Int.mul_emod]
    congr 1
    ac_rfl
theorem pairS_bd {p : Int} {qs v w : List Int} (hp : 1 ≤ p) : ∀ k, 0 ≤ pairS p qs v w k ∧ pairS p qs v w k < p
  | 0 => by simp only [pairS]; omega
  | k + 1 => ⟨Int.emod_nonneg _ (by omega), Int.emod_lt_of_pos _ (by omega)⟩

set_option maxHeartbeats 1000000 in
theorem c_dot (p : Int) (ax ay : Option Addr) (n cx cy : Nat) (x y : List Int) (w : World) (hp1 : 1 ≤ p) (hp2 : p ≤ 1000) (hn : n ≤ 1048576) (hx : RdC w ax n x) (hy : RdC w ay n y) (hgx : Good p n x) (hgy : Good p n y) :
    Calls Tryz.prog 97 #[.int .i64 p, .slice ax n cx, .slice ay n cy] w fun e w' => e = .returned (.int .i64 (dotL p x y n)) ∧ Ext w w' := by
  have HX := Lib.hid hx
  have HY := Lib.hid hy
  have HB := Lib.hid (fun k (hk : k ≤ n) => dotS_bd hp2 hgx hgy k hk)
  have HGX := Lib.hid hgx
  have HGY := Lib.hid hgy
  clear hx hy hgx hgy
  go_enter Tryz.func97, Tryz.ntmps97
  go_wp2_with (fail)
  go_loop [7, 12] (fun s i => ∃ (j : Nat) (z : Int), j ≤ n ∧ i = .int .i64 j ∧ s = .int .i64 z ∧ Hid (z = dotS x y j)) (fun _ i => n - (intOf i).toNat)
  case atStart => exact ⟨0, 0, Nat.zero_le _, rfl, rfl, Lib.hid rfl⟩
  case round =>
    obtain ⟨j, z, hj, rfl, rfl, HZ⟩ := hrel
    by_cases hlt : j < n
    · obtain ⟨bx, ox, rfl, hcx⟩ := HX.out.2 j hlt
      obtain ⟨by', oy, rfl, hcy⟩ := HY.out.2 j hlt
      have hbx := HGX.out.2 j hlt
      have hby := HGY.out.2 j hlt
      have hm := mul_bd hp2 hbx.1 hbx.2 hby.1 hby.2
      have hz := HB.out j hj
      rw [← HZ.out] at hz
      have hw1 : IntKind.i64.wrap (nth x j * nth y j) = nth x j * nth y j := IntWalk.i64_in _ (by omega)
      have hw2 : IntKind.i64.wrap (z + nth x j * nth y j) = z + nth x j * nth y j := IntWalk.i64_in _ (by omega)
      have HS : Hid (z + nth x j * nth y j = dotS x y (j + 1)) := Lib.hid (by simp only [dotS]; rw [HZ.out])
      clear hm hz
      go_wp2_with (fail)
      go_round
      case rel => exact ⟨j + 1, _, by omega, by go_num, rfl, HS⟩
      case measure => simp [intOf]; omega
    · obtain rfl : j = n := by omega
      have HR := Lib.hid (show z % p = dotL p x y j by unfold dotL; rw [HZ.out])
      go_wp2_with (go_at_call 81; refine (c_num _ _ _ hp1 hp2).mono ?_; rintro e w2 ⟨rfl, g2⟩; rw [HR.out])
      go_ret
      exact ⟨rfl, g2⟩

set_option maxHeartbeats 1000000 in
theorem c_weighted (p : Int) (a : Option Addr) (d cap : Nat) (qs : List Int) (av : Option Addr) (cv : Nat) (v : List Int) (w : World) (hp1 : 3 ≤ p) (hp2 : p ≤ 1000) (hd : d ≤ 1048576) (hq : RdC w a d qs) (hqb : isB p qs = true) (hv : RdC w av d v) (hg : Good p d v) :
    Calls Tryz.prog 51 #[.agg #[.int .i64 p, .slice a d cap], .slice av d cv] w fun e w' => ∃ g rc, e = .returned (.slice (some ⟨g, 0, none⟩) d rc) ∧ OwnC w.heap.size w' (some ⟨g, 0, none⟩) d rc (wtL p qs v d) ∧ Ext w w' := by
  have HQ := Lib.hid hq
  have HV := Lib.hid hv
  have HG := Lib.hid hg
  have HGQ := Lib.hid (good_isB hq.1 hqb)
  clear hq hv hg hqb
  obtain ⟨W, hW⟩ : ∃ W, W = w.alloc (.cells #[.int .i64 p, .slice a d cap] 26) := ⟨_, rfl⟩
  have gW : Ext w W := by rw [hW]; exact ext_alloc _ _
  have hs0 : W.cell? ⟨w.heap.size, 0, none⟩ = some (.int .i64 p) := by rw [hW]; simp
  have hs1 : W.cell? ⟨w.heap.size, 1, none⟩ = some (.slice a d cap) := by rw [hW]; simp
  have HS0 := Lib.hid (hs0)
  have HS1 := Lib.hid (hs1)
  have GW := Lib.hid (gW)
  have HW := Lib.hid hW
  clear hs0 hs1 gW hW
  go_enter Tryz.func51, Tryz.ntmps51
  go_wp2_with (fail)
  rw [← HW.out]
  go_wp2_with (fail)
  go_loopw [5, 11] (fun s i wr => ∃ (j g rc : Nat), j ≤ d ∧ i = .int .i64 j ∧ s = .slice (some ⟨g, 0, none⟩) j rc ∧ OwnC W.heap.size wr (some ⟨g, 0, none⟩) j rc (wtL p qs v j) ∧ Ext W wr) (fun _ i _ => d - (intOf i).toNat)
  case atStart => exact ⟨0, _, _, Nat.zero_le _, rfl, rfl, by have h := own_empty W; have hz : w.heap.size + 1 = W.heap.size := by rw [HW.out]; simp
                                                              rw [hz]; exact h, ext_alloc _ _⟩
  case round =>
    obtain ⟨j, g, rc, hj, rfl, rfl, hown, hext⟩ := hrel
    have HOwn := Lib.hid hown
    have HExt := Lib.hid hext
    clear hown hext
    by_cases hlt : j < d
    · obtain ⟨bv, ov, rfl, hcv⟩ := HV.out.2 j hlt
      obtain ⟨bq, oq, rfl, hcq⟩ := HQ.out.2 j hlt
      have hcv' := (GW.out.trans HExt.out).cell hcv
      have HCq := Lib.hid ((GW.out.trans (HExt.out.trans (ext_drew _))).cell hcq)
      have HT0 := Lib.hid ((HExt.out.trans (ext_drew _)).cell HS0.out)
      have HT1 := Lib.hid ((HExt.out.trans (ext_drew _)).cell HS1.out)
      have hbv := HG.out.2 j hlt
      have hbq := HGQ.out.2 j hlt
      have hm := mul_bd hp2 hbv.1 hbv.2 hbq.1 hbq.2
      have HW1 : Hid (IntKind.i64.wrap (nth v j * nth qs j) = nth v j * nth qs j) := Lib.hid (IntWalk.i64_in _ (by omega))
      clear hcv hcq hm hbv hbq
      go_wp2_with (fail)
      clear hcv'
      refine wp_region_lex_tail 12 [(11, .one (wtN p qs v j)), (2, .val (.int .i64 p)), (10, .val (.int .i64 (wtN p qs v j)))] (by kernel_rfl) (by kernel_rfl) ?_
      simp only [List.take, List.drop]
      (refine LexW.pure (v := ?_) rfl rfl (fun w1 he => ?_) ?_; rotate_left; ( have e1 := he.cell HT0.out; have e2 := he.cell HT1.out; have e3 := he.cell HCq.out; have e4 := HW1.out; go_simp; rfl); simp only [Act.put, List.setIfInBounds_toArray, List.set_cons_zero, List.set_cons_succ])
      (refine LexW.pure (v := ?_) rfl rfl (fun w1 he => ?_) ?_; rotate_left; ( have e1 := he.cell HT0.out; have e2 := he.cell HT1.out; have e3 := he.cell HCq.out; have e4 := HW1.out; go_simp; rfl); simp only [Act.put, List.setIfInBounds_toArray, List.set_cons_zero, List.set_cons_succ])
      (refine LexW.call (f := ?_) (args := ?_) rfl rfl (fun w1 => ?_) (fun w1 he hdep => ?_) ?_; rotate_left 2; (go_simp; refine ⟨?_, ?_⟩ <;> rfl); ( exact c_field p _ w1); simp only [Act.put, List.setIfInBounds_toArray, List.set_cons_zero, List.set_cons_succ])
      (refine LexW.pure (v := ?_) rfl rfl (fun w1 he => ?_) ?_; rotate_left; ( have e1 := he.cell HT0.out; have e2 := he.cell HT1.out; have e3 := he.cell HCq.out; have e4 := HW1.out; go_simp; rfl); simp only [Act.put, List.setIfInBounds_toArray, List.set_cons_zero, List.set_cons_succ])
      (refine LexW.pure (v := ?_) rfl rfl (fun w1 he => ?_) ?_; rotate_left; ( have e1 := he.cell HT0.out; have e2 := he.cell HT1.out; have e3 := he.cell HCq.out; have e4 := HW1.out; go_simp; rfl); simp only [Act.put, List.setIfInBounds_toArray, List.set_cons_zero, List.set_cons_succ])
      (refine LexW.pure (v := ?_) rfl rfl (fun w1 he => ?_) ?_; rotate_left; ( have e1 := he.cell HT0.out; have e2 := he.cell HT1.out; have e3 := he.cell HCq.out; have e4 := HW1.out; go_simp; rfl); simp only [Act.put, List.setIfInBounds_toArray, List.set_cons_zero, List.set_cons_succ])
      (refine LexW.pure (v := ?_) rfl rfl (fun w1 he => ?_) ?_; rotate_left; ( have e1 := he.cell HT0.out; have e2 := he.cell HT1.out; have e3 := he.cell HCq.out; have e4 := HW1.out; go_simp; rfl); simp only [Act.put, List.setIfInBounds_toArray, List.set_cons_zero, List.set_cons_succ])
      (refine LexW.pure (v := ?_) rfl rfl (fun w1 he => ?_) ?_; rotate_left; ( have e1 := he.cell HT0.out; have e2 := he.cell HT1.out; have e3 := he.cell HCq.out; have e4 := HW1.out; go_simp; rfl); simp only [Act.put, List.setIfInBounds_toArray, List.set_cons_zero, List.set_cons_succ])
      (refine LexW.pure (v := ?_) rfl rfl (fun w1 he => ?_) ?_; rotate_left; ( have e1 := he.cell HT0.out; have e2 := he.cell HT1.out; have e3 := he.cell HCq.out; have e4 := HW1.out; go_simp; rfl); simp only [Act.put, List.setIfInBounds_toArray, List.set_cons_zero, List.set_cons_succ])
      (refine LexW.pure (v := ?_) rfl rfl (fun w1 he => ?_) ?_; rotate_left; ( have e1 := he.cell HT0.out; have e2 := he.cell HT1.out; have e3 := he.cell HCq.out; have e4 := HW1.out; go_simp; rfl); simp only [Act.put, List.setIfInBounds_toArray, List.set_cons_zero, List.set_cons_succ])
      (refine LexW.call (f := ?_) (args := ?_) rfl rfl (fun w1 => ?_) (fun w1 he hdep => ?_) ?_; rotate_left 2; (go_simp; refine ⟨?_, ?_⟩ <;> rfl); ( exact c_num p (nth v j * nth qs j) w1 (by omega) hp2); simp only [Act.put, List.setIfInBounds_toArray, List.set_cons_zero, List.set_cons_succ])
      (refine LexW.rel rfl rfl (fun w1 he hdep => ?_) (fun v hv => ?_); ( exact ⟨.slice (some ⟨w1.heap.size, 0, none⟩) 1 1, w1.alloc (.cells #[.int .i64 (wtN p qs v j)] 2), (by go_simp), ext_alloc _ _, _, rfl, (by simp)⟩); simp only [Act.put, List.setIfInBounds_toArray, List.set_cons_zero, List.set_cons_succ])
      obtain ⟨_, g27, rfl, _⟩ := hv
      refine LexW.nil (fun w3 he hkn => ?_)
      obtain ⟨_, q27, r27⟩ : (SPred.one (wtN p qs v j)).holds (.slice (some ⟨g27, 0, none⟩) 1 1) w3 := hkn (11, _) (by simp)
      cases q27
      have X3 := Lib.hid ((ext_drew wr).trans he)
      have R27 := Lib.hid r27
      clear he hkn r27
      go_wp2_with (at_builtin; refine wpList_push rfl (.tmp 16) (.tmp 27) rfl rfl rfl (v := wtN p qs v j) (HOwn.out.ext X3.out) R27.out (by omega) (HExt.out.trans X3.out).size ?hk)
      case hk =>
        intro g' cap' w4 ho4 hg4 he4
        have HO4 := Lib.hid ho4
        have HE4 := Lib.hid (he4 W (Nat.le_refl _) (HExt.out.trans X3.out))
        clear ho4 hg4 he4
        go_wp2_with (fail)
        go_roundw
        case rel => exact ⟨j + 1, g', cap', by omega, by go_num, rfl, by rw [wtL_succ]; exact HO4.out, HE4.out⟩
        case measure => simp [intOf]; omega
    · obtain rfl : j = d := by omega
      go_wp2_with (fail)
      go_ret
      exact ⟨g, rc, rfl, HOwn.out.mono GW.out.size, GW.out.trans HExt.out⟩

set_option maxHeartbeats 1000000 in
theorem c_pair (p : Int) (a : Option Addr) (d cap : Nat) (qs : List Int) (av : Option Addr) (cv : Nat) (v : List Int) (au : Option Addr) (cu : Nat) (u : List Int) (w : World) (hp1 : 3 ≤ p) (hp2 : p ≤ 1000) (hd : d ≤ 6) (hq : RdC w a d qs) (hqb : isB p qs = true) (hv : RdC w av d v) (hgv : Good p d v) (hu : RdC w au d u) (hgu : Good p d u) :
    Calls Tryz.prog 73 #[.agg #[.int .i64 p, .slice a d cap], .slice av d cv, .slice au d cu] w fun e w' => e = .returned (.int .i64 (pairL p qs v u d)) ∧ Ext w w' := by
  have HQ := Lib.hid hq
  have HQB := Lib.hid hqb
  have HV := Lib.hid hv
  have HGV := Lib.hid hgv
  have HU := Lib.hid hu
  have HGU := Lib.hid hgu
  clear hq hqb hv hgv hu hgu
  obtain ⟨W, hW⟩ : ∃ W, W = w.alloc (.cells #[.int .i64 p, .slice a d cap] 26) := ⟨_, rfl⟩
  have gW : Ext w W := by rw [hW]; exact ext_alloc _ _
  have hs0 : W.cell? ⟨w.heap.size, 0, none⟩ = some (.int .i64 p) := by rw [hW]; simp
  have hs1 : W.cell? ⟨w.heap.size, 1, none⟩ = some (.slice a d cap) := by rw [hW]; simp
  have HS0 := Lib.hid ((ext_drew _).cell hs0)
  have HS1 := Lib.hid ((ext_drew _).cell hs1)
  have GW := Lib.hid (gW.trans (ext_drew _))
  have HW := Lib.hid hW
  clear hs0 hs1 gW hW
  go_enter Tryz.func73, Tryz.ntmps73
  go_wp2_with (fail)
  rw [← HW.out]
  refine wp_region_lex [(1, .val (.int .i64 p)), (4, .ownS w.heap.size d (wtL p qs v d)), (6, .val (.int .i64 (pairL p qs v u d)))] (by kernel_rfl) (by kernel_rfl) ?_
  (refine LexW.pure (v := ?_) rfl rfl (fun w1 he => ?_) ?_; rotate_left; ( have e1 := he.cell HS0.out; have e2 := he.cell HS1.out; go_simp; rfl); simp only [Act.put, List.setIfInBounds_toArray, List.set_cons_zero, List.set_cons_succ])
  (refine LexW.call (f := ?_) (args := ?_) rfl rfl (fun w1 => ?_) (fun w1 he hdep => ?_) ?_; rotate_left 2; (go_simp; refine ⟨?_, ?_⟩ <;> rfl); ( exact c_field p _ w1); simp only [Act.put, List.setIfInBounds_toArray, List.set_cons_zero, List.set_cons_succ])
  (refine LexW.pure (v := ?_) rfl rfl (fun w1 he => ?_) ?_; rotate_left; ( have e1 := he.cell HS0.out; have e2 := he.cell HS1.out; go_simp; rfl); simp only [Act.put, List.setIfInBounds_toArray, List.set_cons_zero, List.set_cons_succ])
  (refine LexW.pure (v := ?_) rfl rfl (fun w1 he => ?_) ?_; rotate_left; ( have e1 := he.cell HS0.out; have e2 := he.cell HS1.out; go_simp; rfl); simp only [Act.put, List.setIfInBounds_toArray, List.set_cons_zero, List.set_cons_succ])
  (refine LexW.callR (f := ?_) (args := ?_) rfl rfl (fun w1 => ?_) (fun w1 he hdep => ?_) (fun v hv => ?_); rotate_left 2; (go_simp; refine ⟨?_, ?_⟩ <;> rfl); ( refine (c_weighted p a d cap qs av cv v w1 hp1 hp2 (by omega) (HQ.out.ext (GW.out.trans he)) HQB.out (HV.out.ext (GW.out.trans he)) HGV.out).mono ?_; rintro e w2 ⟨g, rc, rfl, ho, g2⟩; exact ⟨_, rfl, g2, g, rc, rfl, ho.mono (Nat.le_trans GW.out.size he.size)⟩); simp only [Act.put, List.setIfInBounds_toArray, List.set_cons_zero, List.set_cons_succ])
  obtain ⟨_, g11, c11, rfl, _⟩ := hv
  (refine LexW.pure (v := ?_) rfl rfl (fun w1 he => ?_) ?_; rotate_left; ( have e1 := he.cell HS0.out; have e2 := he.cell HS1.out; go_simp; rfl); simp only [Act.put, List.setIfInBounds_toArray, List.set_cons_zero, List.set_cons_succ])
  (refine LexW.call (f := ?_) (args := ?_) rfl rfl (fun w1 => ?_) (fun w1 he hdep => ?_) ?_; rotate_left 2; (go_simp; refine ⟨?_, ?_⟩ <;> rfl); ( obtain ⟨_, _, q11, r11⟩ : (SPred.ownS w.heap.size d (wtL p qs v d)).holds (.slice (some ⟨g11, 0, none⟩) d c11) w1 := hdep (4, 11) (by decide +kernel); cases q11; exact c_dot p _ au d _ cu (wtL p qs v d) u w1 (by omega) hp2 (by omega) r11.rd (HU.out.ext (GW.out.trans he)) (wt_good (by omega)) HGU.out); simp only [Act.put, List.setIfInBounds_toArray, List.set_cons_zero, List.set_cons_succ])
  (refine LexW.pure (v := ?_) rfl rfl (fun w1 he => ?_) ?_; rotate_left; ( have e1 := he.cell HS0.out; have e2 := he.cell HS1.out; go_simp; rfl); simp only [Act.put, List.setIfInBounds_toArray, List.set_cons_zero, List.set_cons_succ])
  refine LexW.nil (fun w3 he hkn => ?_)
  have HE := Lib.hid (GW.out.trans he)
  clear he hkn 
  go_wp2_with (fail)
  go_ret
  exact ⟨rfl, HE.out⟩
set_option maxHeartbeats 400000 in
theorem c_norm (p : Int) (a : Option Addr) (d cap : Nat) (qs : List Int) (av : Option Addr) (cv : Nat) (v : List Int) (w : World) (hp1 : 3 ≤ p) (hp2 : p ≤ 1000) (hd : d ≤ 6) (hq : RdC w a d qs) (hqb : isB p qs = true) (hv : RdC w av d v) (hgv : Good p d v) :
    Calls Tryz.prog 50 #[.agg #[.int .i64 p, .slice a d cap], .slice av d cv] w fun e w' => e = .returned (.int .i64 (pairL p qs v v d)) ∧ Ext w w' := by
  have HQ := Lib.hid hq
  have HQB := Lib.hid hqb
  have HV := Lib.hid hv
  have HGV := Lib.hid hgv
  clear hq hqb hv hgv
  go_enter Tryz.func50, Tryz.ntmps50
  go_wp2_with (go_at_call 73; refine (c_pair p a d cap qs av cv v av cv v _ hp1 hp2 hd (HQ.out.ext (ext_alloc _ _)) HQB.out (HV.out.ext (ext_alloc _ _)) HGV.out (HV.out.ext (ext_alloc _ _)) HGV.out).mono ?_; rintro e w1 ⟨rfl, g1⟩)
  go_ret
  exact ⟨rfl, (ext_alloc _ _).trans g1⟩

set_option maxHeartbeats 2000000 in
theorem s_pair (p : Int) (a : Option Addr) (d cap : Nat) (qs : List Int) (av : Option Addr) (cv : Nat) (v : List Int) (au : Option Addr) (cu : Nat) (u : List Int) (w : World) (hp1 : 3 ≤ p) (hp2 : p ≤ 1000) (hd : d ≤ 6) (hq : RdC w a d qs) (hqb : isB p qs = true) (hv : RdC w av d v) (hgv : Good p d v) (hu : RdC w au d u) (hgu : Good p d u) :
    Calls Tryz.prog 59 #[.agg #[.int .i64 p, .slice a d cap], .slice av d cv, .slice au d cu] w fun e w' => e = .returned (.int .i64 (pairL p qs v u d)) ∧ Ext w w' := by
  have hpz : ¬ p = 0 := by omega
  have HQ := Lib.hid hq
  have HGQ := Lib.hid (good_isB hq.1 hqb)
  have HV := Lib.hid hv
  have HGV := Lib.hid hgv
  have HU := Lib.hid hu
  have HGU := Lib.hid hgu
  have HEnd := Lib.hid (pairS_eq (p := p) (qs := qs) (v := v) (w := u) d (Nat.le_refl d))
  have HBd := Lib.hid (fun k => pairS_bd (p := p) (qs := qs) (v := v) (w := u) (show 1 ≤ p by omega) k)
  clear hq hqb hv hgv hu hgu
  obtain ⟨W, hW⟩ : ∃ W, W = w.alloc (.cells #[.int .i64 p, .slice a d cap] 26) := ⟨_, rfl⟩
  have gW : Ext w W := by rw [hW]; exact ext_alloc _ _
  have hs0 : W.cell? ⟨w.heap.size, 0, none⟩ = some (.int .i64 p) := by rw [hW]; simp
  have hs1 : W.cell? ⟨w.heap.size, 1, none⟩ = some (.slice a d cap) := by rw [hW]; simp
  have HS0 := Lib.hid (hs0)
  have HS1 := Lib.hid (hs1)
  have GW := Lib.hid (gW)
  have HW := Lib.hid hW
  clear hs0 hs1 gW hW
  go_enter Tryz.func59, Tryz.ntmps59
  go_wp2_with (fail)
  rw [← HW.out]
  go_loopw [7, 8] (fun s i wr => ∃ (j : Nat) (z : Int), j ≤ d ∧ i = .int .i64 j ∧ s = .int .i64 z ∧ Hid (z = pairS p qs v u j) ∧ Ext W wr) (fun _ i _ => d - (intOf i).toNat)
  case atStart => exact ⟨0, 0, Nat.zero_le _, rfl, rfl, Lib.hid rfl, Ext.refl _⟩
  case round =>
    obtain ⟨j, z, hj, rfl, rfl, HZ, hext⟩ := hrel
    have HExt := Lib.hid hext
    clear hext
    by_cases hlt : j < d
    · obtain ⟨bv, ov, rfl, hcv⟩ := HV.out.2 j hlt
      obtain ⟨bu, ou, rfl, hcu⟩ := HU.out.2 j hlt
      obtain ⟨bq, oq, rfl, hcq⟩ := HQ.out.2 j hlt
      have GX := Lib.hid (GW.out.trans (HExt.out.trans (ext_drew wr)))
      have HCv := Lib.hid (GX.out.cell hcv)
      have HCu := Lib.hid (GX.out.cell hcu)
      have HCq := Lib.hid (GX.out.cell hcq)
      have HT0 := Lib.hid ((HExt.out.trans (ext_drew _)).cell HS0.out)
      have HT1 := Lib.hid ((HExt.out.trans (ext_drew _)).cell HS1.out)
      have hbv := HGV.out.2 j hlt
      have hbu := HGU.out.2 j hlt
      have hbq := HGQ.out.2 j hlt
      have hz := HBd.out j
      rw [← HZ.out] at hz
      have hm := mul_bd hp2 hbv.1 hbv.2 hbu.1 hbu.2
      obtain ⟨m1, hm1⟩ : ∃ m1, m1 = nth v j * nth u j % p := ⟨_, rfl⟩
      have hm1b : 0 ≤ m1 ∧ m1 < p := by rw [hm1]; exact ⟨Int.emod_nonneg _ (by omega), Int.emod_lt_of_pos _ (by omega)⟩
      have hm2 := mul_bd hp2 hm1b.1 hm1b.2 hbq.1 hbq.2
      obtain ⟨m2, hm2e⟩ : ∃ m2, m2 = (z + m1 * nth qs j) % p := ⟨_, rfl⟩
      have HW1 : Hid (IntKind.i64.wrap (nth v j * nth u j) = nth v j * nth u j) := Lib.hid (IntWalk.i64_in _ (by omega))
      have HW2 : Hid ((nth v j * nth u j).tmod p = m1) := Lib.hid (by rw [hm1]; exact Int.tmod_eq_emod_of_nonneg hm.1)
      have HW3 : Hid (IntKind.i64.wrap (m1 * nth qs j) = m1 * nth qs j) := Lib.hid (IntWalk.i64_in _ (by omega))
      have HW4 : Hid (IntKind.i64.wrap (z + m1 * nth qs j) = z + m1 * nth qs j) := Lib.hid (IntWalk.i64_in _ (by omega))
      have HW5 : Hid ((z + m1 * nth qs j).tmod p = m2) := Lib.hid (by rw [hm2e]; exact Int.tmod_eq_emod_of_nonneg (by omega))
      have HR : Hid (m2 = pairS p qs v u (j + 1)) := Lib.hid (by rw [hm2e, hm1, HZ.out]; rfl)
      clear hm hm1 hm1b hm2 hm2e hz hcv hcu hcq hbv hbu hbq
      go_wp2_with (fail)
      refine wp_region_lex [] (by kernel_rfl) (by kernel_rfl) ?_
      (refine LexW.pure (v := ?_) rfl rfl (fun w1 he => ?_) ?_; rotate_left; ( have e1 := he.cell HT0.out; have e2 := he.cell HT1.out; have e3 := he.cell HCv.out; have e4 := he.cell HCu.out; have e5 := he.cell HCq.out; have e6 := HW1.out; have e7 := HW2.out; have e8 := HW3.out; have e9 := HW4.out; have e10 := HW5.out; go_simp; rfl); simp only [Act.put, List.setIfInBounds_toArray, List.set_cons_zero, List.set_cons_succ])
      (refine LexW.pure (v := ?_) rfl rfl (fun w1 he => ?_) ?_; rotate_left; ( have e1 := he.cell HT0.out; have e2 := he.cell HT1.out; have e3 := he.cell HCv.out; have e4 := he.cell HCu.out; have e5 := he.cell HCq.out; have e6 := HW1.out; have e7 := HW2.out; have e8 := HW3.out; have e9 := HW4.out; have e10 := HW5.out; go_simp; rfl); simp only [Act.put, List.setIfInBounds_toArray, List.set_cons_zero, List.set_cons_succ])
      (refine LexW.pure (v := ?_) rfl rfl (fun w1 he => ?_) ?_; rotate_left; ( have e1 := he.cell HT0.out; have e2 := he.cell HT1.out; have e3 := he.cell HCv.out; have e4 := he.cell HCu.out; have e5 := he.cell HCq.out; have e6 := HW1.out; have e7 := HW2.out; have e8 := HW3.out; have e9 := HW4.out; have e10 := HW5.out; go_simp; rfl); simp only [Act.put, List.setIfInBounds_toArray, List.set_cons_zero, List.set_cons_succ])
      (refine LexW.pure (v := ?_) rfl rfl (fun w1 he => ?_) ?_; rotate_left; ( have e1 := he.cell HT0.out; have e2 := he.cell HT1.out; have e3 := he.cell HCv.out; have e4 := he.cell HCu.out; have e5 := he.cell HCq.out; have e6 := HW1.out; have e7 := HW2.out; have e8 := HW3.out; have e9 := HW4.out; have e10 := HW5.out; go_simp; rfl); simp only [Act.put, List.setIfInBounds_toArray, List.set_cons_zero, List.set_cons_succ])
      (refine LexW.pure (v := ?_) rfl rfl (fun w1 he => ?_) ?_; rotate_left; ( have e1 := he.cell HT0.out; have e2 := he.cell HT1.out; have e3 := he.cell HCv.out; have e4 := he.cell HCu.out; have e5 := he.cell HCq.out; have e6 := HW1.out; have e7 := HW2.out; have e8 := HW3.out; have e9 := HW4.out; have e10 := HW5.out; go_simp; rfl); simp only [Act.put, List.setIfInBounds_toArray, List.set_cons_zero, List.set_cons_succ])
      (refine LexW.pure (v := ?_) rfl rfl (fun w1 he => ?_) ?_; rotate_left; ( have e1 := he.cell HT0.out; have e2 := he.cell HT1.out; have e3 := he.cell HCv.out; have e4 := he.cell HCu.out; have e5 := he.cell HCq.out; have e6 := HW1.out; have e7 := HW2.out; have e8 := HW3.out; have e9 := HW4.out; have e10 := HW5.out; go_simp; rfl); simp only [Act.put, List.setIfInBounds_toArray, List.set_cons_zero, List.set_cons_succ])
      (refine LexW.pure (v := ?_) rfl rfl (fun w1 he => ?_) ?_; rotate_left; ( have e1 := he.cell HT0.out; have e2 := he.cell HT1.out; have e3 := he.cell HCv.out; have e4 := he.cell HCu.out; have e5 := he.cell HCq.out; have e6 := HW1.out; have e7 := HW2.out; have e8 := HW3.out; have e9 := HW4.out; have e10 := HW5.out; go_simp; rfl); simp only [Act.put, List.setIfInBounds_toArray, List.set_cons_zero, List.set_cons_succ])
      (refine LexW.pure (v := ?_) rfl rfl (fun w1 he => ?_) ?_; rotate_left; ( have e1 := he.cell HT0.out; have e2 := he.cell HT1.out; have e3 := he.cell HCv.out; have e4 := he.cell HCu.out; have e5 := he.cell HCq.out; have e6 := HW1.out; have e7 := HW2.out; have e8 := HW3.out; have e9 := HW4.out; have e10 := HW5.out; go_simp; rfl); simp only [Act.put, List.setIfInBounds_toArray, List.set_cons_zero, List.set_cons_succ])
      (refine LexW.pure (v := ?_) rfl rfl (fun w1 he => ?_) ?_; rotate_left; ( have e1 := he.cell HT0.out; have e2 := he.cell HT1.out; have e3 := he.cell HCv.out; have e4 := he.cell HCu.out; have e5 := he.cell HCq.out; have e6 := HW1.out; have e7 := HW2.out; have e8 := HW3.out; have e9 := HW4.out; have e10 := HW5.out; go_simp; rfl); simp only [Act.put, List.setIfInBounds_toArray, List.set_cons_zero, List.set_cons_succ])
      (refine LexW.pure (v := ?_) rfl rfl (fun w1 he => ?_) ?_; rotate_left; ( have e1 := he.cell HT0.out; have e2 := he.cell HT1.out; have e3 := he.cell HCv.out; have e4 := he.cell HCu.out; have e5 := he.cell HCq.out; have e6 := HW1.out; have e7 := HW2.out; have e8 := HW3.out; have e9 := HW4.out; have e10 := HW5.out; go_simp; rfl); simp only [Act.put, List.setIfInBounds_toArray, List.set_cons_zero, List.set_cons_succ])
      (refine LexW.pure (v := ?_) rfl rfl (fun w1 he => ?_) ?_; rotate_left; ( have e1 := he.cell HT0.out; have e2 := he.cell HT1.out; have e3 := he.cell HCv.out; have e4 := he.cell HCu.out; have e5 := he.cell HCq.out; have e6 := HW1.out; have e7 := HW2.out; have e8 := HW3.out; have e9 := HW4.out; have e10 := HW5.out; go_simp; rfl); simp only [Act.put, List.setIfInBounds_toArray, List.set_cons_zero, List.set_cons_succ])
      (refine LexW.pure (v := ?_) rfl rfl (fun w1 he => ?_) ?_; rotate_left; ( have e1 := he.cell HT0.out; have e2 := he.cell HT1.out; have e3 := he.cell HCv.out; have e4 := he.cell HCu.out; have e5 := he.cell HCq.out; have e6 := HW1.out; have e7 := HW2.out; have e8 := HW3.out; have e9 := HW4.out; have e10 := HW5.out; go_simp; rfl); simp only [Act.put, List.setIfInBounds_toArray, List.set_cons_zero, List.set_cons_succ])
      (refine LexW.pure (v := ?_) rfl rfl (fun w1 he => ?_) ?_; rotate_left; ( have e1 := he.cell HT0.out; have e2 := he.cell HT1.out; have e3 := he.cell HCv.out; have e4 := he.cell HCu.out; have e5 := he.cell HCq.out; have e6 := HW1.out; have e7 := HW2.out; have e8 := HW3.out; have e9 := HW4.out; have e10 := HW5.out; go_simp; rfl); simp only [Act.put, List.setIfInBounds_toArray, List.set_cons_zero, List.set_cons_succ])
      (refine LexW.pure (v := ?_) rfl rfl (fun w1 he => ?_) ?_; rotate_left; ( have e1 := he.cell HT0.out; have e2 := he.cell HT1.out; have e3 := he.cell HCv.out; have e4 := he.cell HCu.out; have e5 := he.cell HCq.out; have e6 := HW1.out; have e7 := HW2.out; have e8 := HW3.out; have e9 := HW4.out; have e10 := HW5.out; go_simp; rfl); simp only [Act.put, List.setIfInBounds_toArray, List.set_cons_zero, List.set_cons_succ])
      (refine LexW.pure (v := ?_) rfl rfl (fun w1 he => ?_) ?_; rotate_left; ( have e1 := he.cell HT0.out; have e2 := he.cell HT1.out; have e3 := he.cell HCv.out; have e4 := he.cell HCu.out; have e5 := he.cell HCq.out; have e6 := HW1.out; have e7 := HW2.out; have e8 := HW3.out; have e9 := HW4.out; have e10 := HW5.out; go_simp; rfl); simp only [Act.put, List.setIfInBounds_toArray, List.set_cons_zero, List.set_cons_succ])
      (refine LexW.pure (v := ?_) rfl rfl (fun w1 he => ?_) ?_; rotate_left; ( have e1 := he.cell HT0.out; have e2 := he.cell HT1.out; have e3 := he.cell HCv.out; have e4 := he.cell HCu.out; have e5 := he.cell HCq.out; have e6 := HW1.out; have e7 := HW2.out; have e8 := HW3.out; have e9 := HW4.out; have e10 := HW5.out; go_simp; rfl); simp only [Act.put, List.setIfInBounds_toArray, List.set_cons_zero, List.set_cons_succ])
      (refine LexW.pure (v := ?_) rfl rfl (fun w1 he => ?_) ?_; rotate_left; ( have e1 := he.cell HT0.out; have e2 := he.cell HT1.out; have e3 := he.cell HCv.out; have e4 := he.cell HCu.out; have e5 := he.cell HCq.out; have e6 := HW1.out; have e7 := HW2.out; have e8 := HW3.out; have e9 := HW4.out; have e10 := HW5.out; go_simp; rfl); simp only [Act.put, List.setIfInBounds_toArray, List.set_cons_zero, List.set_cons_succ])
      (refine LexW.pure (v := ?_) rfl rfl (fun w1 he => ?_) ?_; rotate_left; ( have e1 := he.cell HT0.out; have e2 := he.cell HT1.out; have e3 := he.cell HCv.out; have e4 := he.cell HCu.out; have e5 := he.cell HCq.out; have e6 := HW1.out; have e7 := HW2.out; have e8 := HW3.out; have e9 := HW4.out; have e10 := HW5.out; go_simp; rfl); simp only [Act.put, List.setIfInBounds_toArray, List.set_cons_zero, List.set_cons_succ])
      (refine LexW.pure (v := ?_) rfl rfl (fun w1 he => ?_) ?_; rotate_left; ( have e1 := he.cell HT0.out; have e2 := he.cell HT1.out; have e3 := he.cell HCv.out; have e4 := he.cell HCu.out; have e5 := he.cell HCq.out; have e6 := HW1.out; have e7 := HW2.out; have e8 := HW3.out; have e9 := HW4.out; have e10 := HW5.out; go_simp; rfl); simp only [Act.put, List.setIfInBounds_toArray, List.set_cons_zero, List.set_cons_succ])
      (refine LexW.pure (v := ?_) rfl rfl (fun w1 he => ?_) ?_; rotate_left; ( have e1 := he.cell HT0.out; have e2 := he.cell HT1.out; have e3 := he.cell HCv.out; have e4 := he.cell HCu.out; have e5 := he.cell HCq.out; have e6 := HW1.out; have e7 := HW2.out; have e8 := HW3.out; have e9 := HW4.out; have e10 := HW5.out; go_simp; rfl); simp only [Act.put, List.setIfInBounds_toArray, List.set_cons_zero, List.set_cons_succ])
      (refine LexW.pure (v := ?_) rfl rfl (fun w1 he => ?_) ?_; rotate_left; ( have e1 := he.cell HT0.out; have e2 := he.cell HT1.out; have e3 := he.cell HCv.out; have e4 := he.cell HCu.out; have e5 := he.cell HCq.out; have e6 := HW1.out; have e7 := HW2.out; have e8 := HW3.out; have e9 := HW4.out; have e10 := HW5.out; go_simp; rfl); simp only [Act.put, List.setIfInBounds_toArray, List.set_cons_zero, List.set_cons_succ])
      (refine LexW.pure (v := ?_) rfl rfl (fun w1 he => ?_) ?_; rotate_left; ( have e1 := he.cell HT0.out; have e2 := he.cell HT1.out; have e3 := he.cell HCv.out; have e4 := he.cell HCu.out; have e5 := he.cell HCq.out; have e6 := HW1.out; have e7 := HW2.out; have e8 := HW3.out; have e9 := HW4.out; have e10 := HW5.out; go_simp; rfl); simp only [Act.put, List.setIfInBounds_toArray, List.set_cons_zero, List.set_cons_succ])
      (refine LexW.pure (v := ?_) rfl rfl (fun w1 he => ?_) ?_; rotate_left; ( have e1 := he.cell HT0.out; have e2 := he.cell HT1.out; have e3 := he.cell HCv.out; have e4 := he.cell HCu.out; have e5 := he.cell HCq.out; have e6 := HW1.out; have e7 := HW2.out; have e8 := HW3.out; have e9 := HW4.out; have e10 := HW5.out; go_simp; rfl); simp only [Act.put, List.setIfInBounds_toArray, List.set_cons_zero, List.set_cons_succ])
      (refine LexW.pure (v := ?_) rfl rfl (fun w1 he => ?_) ?_; rotate_left; ( have e1 := he.cell HT0.out; have e2 := he.cell HT1.out; have e3 := he.cell HCv.out; have e4 := he.cell HCu.out; have e5 := he.cell HCq.out; have e6 := HW1.out; have e7 := HW2.out; have e8 := HW3.out; have e9 := HW4.out; have e10 := HW5.out; go_simp; rfl); simp only [Act.put, List.setIfInBounds_toArray, List.set_cons_zero, List.set_cons_succ])
      refine LexW.nil (fun w3 he hkn => ?_)
      have X3 := Lib.hid (HExt.out.trans ((ext_drew wr).trans he))
      clear he hkn
      go_wp2_with (fail)
      go_roundw
      case rel => exact ⟨j + 1, m2, by omega, by go_num, rfl, HR, X3.out⟩
      case measure => simp [intOf]; omega
    · obtain rfl : j = d := by omega
      go_wp2_with (fail)
      go_ret
      exact ⟨ret_int (by rw [HZ.out, HEnd.out]; rfl), GW.out.trans HExt.out⟩

end Go.Proofs.YtcocbainookkcaaGreat

/-
  Point vectors: contracts of the program and the reference.
  No condition.
-/
namespace Go.Proofs.YtcocbainookkcaaGreat
set_option maxRecDepth 100000
open Go.RowKit

theorem good_app2 {p : Int} {n : Nat} {x : List Int} {u t : Int} (hx : Good p n x) (hu : 0 ≤ u ∧ u < p) (ht : 0 ≤ t ∧ t < p) : Good p (n + 2) (x ++ [u, t]) := by
  have e : x ++ [u, t] = (x ++ [u]) ++ [t] := by simp
  have h1 : ∀ {m : Nat} {y : List Int} {s : Int}, Good p m y → 0 ≤ s ∧ s < p → Good p (m + 1) (y ++ [s]) := fun {m y s} hy hs => ⟨by simp [hy.1], fun i hi => by
    by_cases h : i < m
    · rw [nth_append_left (by rw [hy.1]; exact h)]; exact hy.2 i h
    · have : i = y.length := by rw [hy.1]; omega
      rw [this, nth_append_len]; exact hs⟩
  rw [e]
  exact h1 (h1 hx hu) ht
theorem infL_len (d : Nat) : (infL d).length = d + 2 := by simp [infL]
theorem infL_good {p : Int} (hp : 3 ≤ p) (d : Nat) : Good p (d + 2) (infL d) := good_app2 (good_zero (by omega)) (by omega) (by omega)
def pointL (p : Int) (qs v : List Int) : List Int := plusL p (v ++ [((-1) * invN p 2) % p, (1 * invN p 2) % p]) (infL qs.length) ((pairL p qs v v qs.length * invN p 2) % p) (qs.length + 2)
theorem pointL_good {p : Int} {qs v : List Int} {d : Nat} (hp : 1 ≤ p) (hd : qs.length = d) : Good p (d + 2) (pointL p qs v) := by subst hd; exact plus_good hp
theorem app2_nth {x : List Int} {u t : Int} {n i : Nat} (hx : x.length = n) : nth (x ++ [u, t]) i = if i < n then nth x i else if i = n then u else if i = n + 1 then t else 0 := by
  subst hx
  by_cases h : i < x.length
  · rw [if_pos h, nth_append_left h]
  · rw [if_neg h]
    unfold nth
    rw [List.getD_eq_getElem?_getD, List.getElem?_append_right (by omega)]
    by_cases h1 : i = x.length
    · subst h1; simp
    · rw [if_neg h1]
      by_cases h2 : i = x.length + 1
      · subst h2
        rw [if_pos rfl, show x.length + 1 - x.length = 1 by omega]; rfl
      · rw [if_neg h2, List.getElem?_eq_none (by simp; omega)]; rfl
theorem point_eq {p : Int} {qs v : List Int} {d : Nat} (hd : qs.length = d) (hv : v.length = d) :
    plusL p (v ++ [p - invN p 2, invN p 2]) (scaleL p (infL d) (invN p 2 * pairL p qs v v d) (d + 2)) 1 (d + 2) = pointL p qs v := by
  unfold pointL
  rw [hd]
  generalize hN : pairL p qs v v d = N
  generalize hh : invN p 2 = h
  unfold plusL
  refine List.map_congr_left fun i hi => ?_
  have hi' : i < d + 2 := List.mem_range.1 hi
  unfold plusN
  rw [scaleL_nth hi', scaleN, app2_nth hv, app2_nth hv]
  have hinf : nth (infL d) i = if i < d then 0 else if i = d then 1 else if i = d + 1 then 1 else 0 := by
    unfold infL
    rw [app2_nth (List.length_replicate)]
    by_cases h : i < d
    · rw [if_pos h, if_pos h, nth_replicate h]
    · rw [if_neg h, if_neg h]
  rw [hinf]
  by_cases h1 : i < d
  · simp only [if_pos h1, Int.zero_mul, Int.zero_emod, Int.mul_zero]
  · rw [if_neg h1, if_neg h1, if_neg h1]
    by_cases h2 : i = d
    · simp only [if_pos h2, Int.one_mul, Int.mul_one, Int.add_emod_emod, Int.emod_add_emod]
      rw [show p - h + h * N = (-1 * h + N * h) + p by rw [Int.mul_comm N h]; omega, Int.add_emod_right]
    · rw [if_neg h2, if_neg h2, if_neg h2, if_pos (by omega), if_pos (by omega), if_pos (by omega)]
      simp only [Int.one_mul, Int.mul_one, Int.add_emod_emod, Int.emod_add_emod]
      rw [Int.mul_comm N h]
set_option maxHeartbeats 400000 in
theorem c_half (p n h : Int) (w : World) (hp1 : 3 ≤ p) (hp2 : p ≤ 1000) (hn : -1000 ≤ n ∧ n ≤ 1000) (hh : (n * invN p 2) % p = h) :
    Calls Tryz.prog 47 #[.int .i64 p, .int .i64 n] w fun e w' => e = .returned (.int .i64 h) ∧ Ext w w' := by
  have hb := invN_bd (a := 2) hp1
  obtain ⟨I, hI⟩ : ∃ I, I = invN p 2 := ⟨_, rfl⟩
  have HI := Lib.hid hI.symm
  rw [← hI] at hb hh
  have hkb := kmul_bd hn hb.1 (show I ≤ 1000 by omega)
  have hw1 : IntKind.i64.wrap (n * I) = n * I := IntWalk.i64_in _ (by omega)
  have HH := Lib.hid hh
  clear hh hI
  go_enter Tryz.func47, Tryz.ntmps47
  go_wp2_with (first | (go_at_call 72; refine (c_inv p 2 _ hp1 hp2 (by omega) (by omega)).mono ?_; rintro e w1 ⟨rfl, g1⟩; rw [HI.out]) | (go_at_call 81; refine (c_num _ _ _ (by omega) hp2).mono ?_; rintro e w2 ⟨rfl, g2⟩; rw [HH.out]))
  go_ret
  exact ⟨rfl, g1.trans g2⟩

set_option maxHeartbeats 4000000 in
set_option maxRecDepth 100000 in
theorem c_point (p : Int) (a : Option Addr) (d cap : Nat) (qs : List Int) (av : Option Addr) (cv : Nat) (v : List Int) (w : World) (hd1 : 0 < d) (hd : d ≤ 4) (hpr : primeB p = true) (hq : RdC w a d qs) (hqb : isB p qs = true) (hv : RdC w av d v) (hg : Good p d v) :
    Calls Tryz.prog 24 #[.agg #[.int .i64 p, .slice a d cap], .slice av d cv] w fun e w' => ∃ g rc, e = .returned (.slice (some ⟨g, 0, none⟩) (d + 2) rc) ∧ OwnC w.heap.size w' (some ⟨g, 0, none⟩) (d + 2) rc (pointL p qs v) ∧ Ext w w' := by
  have hpb := prime_bd hpr
  obtain ⟨bv, ov, rfl, _⟩ := hv.2 0 hd1
  have HPR := Lib.hid hpr
  have HQ := Lib.hid hq
  have HQB := Lib.hid hqb
  have HV := Lib.hid hv
  have HG := Lib.hid hg
  have HIG : Hid (Good p (d + 2) (infL d)) := Lib.hid (infL_good (by omega) d)
  obtain ⟨I, hI⟩ : ∃ I, I = invN p 2 := ⟨_, rfl⟩
  obtain ⟨N, hN⟩ : ∃ N, N = pairL p qs v v d := ⟨_, rfl⟩
  have HN := Lib.hid hN
  have hNb : 0 ≤ N ∧ N < p := by rw [hN]; exact pairL_bd (by omega)
  obtain ⟨H1, hH1⟩ : ∃ h, ((-1) * invN p 2) % p = h := ⟨_, rfl⟩
  obtain ⟨H2, hH2⟩ : ∃ h, (1 * invN p 2) % p = h := ⟨_, rfl⟩
  obtain ⟨K, hK⟩ : ∃ h, (N * invN p 2) % p = h := ⟨_, rfl⟩
  have hb1 : 0 ≤ H1 ∧ H1 < p := by rw [← hH1]; exact ⟨Int.emod_nonneg _ (by omega), Int.emod_lt_of_pos _ (by omega)⟩
  have hb2 : 0 ≤ H2 ∧ H2 < p := by rw [← hH2]; exact ⟨Int.emod_nonneg _ (by omega), Int.emod_lt_of_pos _ (by omega)⟩
  have hbK : 0 ≤ K ∧ K < p := by rw [← hK]; exact ⟨Int.emod_nonneg _ (by omega), Int.emod_lt_of_pos _ (by omega)⟩
  have HP := Lib.hid (show pointL p qs v = plusL p (v ++ [H1, H2]) (infL d) K (d + 2) by unfold pointL; rw [hq.1, ← hN, hH1, hH2, hK])
  have HOG := Lib.hid (good_app2 HG.out hb1 hb2)
  have HH1 := Lib.hid hH1
  have HH2 := Lib.hid hH2
  have HK := Lib.hid hK
  clear hq hqb hv hg hpr hI hN hH1 hH2 hK
  obtain ⟨W, hW⟩ : ∃ W, W = w.alloc (.cells #[.int .i64 p, .slice a d cap] 26) := ⟨_, rfl⟩
  have gW : Ext w W := by rw [hW]; exact ext_alloc _ _
  have hs0 : W.cell? ⟨w.heap.size, 0, none⟩ = some (.int .i64 p) := by rw [hW]; simp
  have hs1 : W.cell? ⟨w.heap.size, 1, none⟩ = some (.slice a d cap) := by rw [hW]; simp
  have HS0 := Lib.hid (hs0)
  have HS1 := Lib.hid (hs1)
  have GW := Lib.hid (gW)
  have HW := Lib.hid hW
  clear hs0 hs1 gW hW
  go_enter Tryz.func24, Tryz.ntmps24
  go_wp2_with (fail)
  rw [← HW.out]
  have hs0 := HS0.out
  have hs1 := HS1.out
  go_wp2_with (first
    | (go_at_call 38; refine (c_field _ _ _).mono ?_; rintro e w1 ⟨rfl, g1⟩; have G1 := Lib.hid g1; clear g1)
    | (go_at_call 46; refine (c_clone bv ov d cv v _ hd1 (by omega) (HV.out.ext (GW.out.trans G1.out))).mono ?_; rintro e w2 ⟨g2, r2, rfl, ho2, x2⟩; have HO2 := Lib.hid ho2; have G2 := Lib.hid (G1.out.trans x2); clear ho2 x2)
    | (go_at_call 47; refine (c_half p _ _ _ (by omega) (by omega) (by omega) rfl).mono ?_; rintro e w3 ⟨rfl, g3⟩; (first | rw [HH1.out] | rw [HH2.out]); first | (have X4 := Lib.hid (X3.out.trans g3); clear g3) | (have X3 := Lib.hid g3; clear g3))
    | (at_builtin; refine wpList_appendAll rfl (.tmp 10) (.tmp 15) rfl rfl rfl (HO2.out.ext (X4.out.trans (ext_alloc _ _))) (rdC_two (x := H1) (y := H2) (by simp) (by simp)) (by omega) (by omega) (by omega) ?hB ?hk))
  case hB => have h1 := (G2.out.trans X4.out).size'; have h2 := (HO2.out.base_of _ rfl).1; have h3 := G1.out.size'; have h4 := X4.out.size'; have h5 := (HO2.out.base_of _ rfl).2; simp; omega
  case hk =>
    intro g5 c5 w5 ho5 hg5 he5
    have HO5 := Lib.hid ho5
    have G5 := Lib.hid (he5 W G1.out.size' ((G2.out.trans X4.out).trans (ext_alloc _ _)))
    clear ho5 hg5 he5 hs0 hs1
    go_wp2_with (fail)
    have T0 := Lib.hid ((G5.out.trans (ext_drew _)).cell HS0.out)
    have T1 := Lib.hid ((G5.out.trans (ext_drew _)).cell HS1.out)
    have GX := Lib.hid (GW.out.trans (G5.out.trans (ext_drew w5)))
    have O5 := Lib.hid (HO5.out.ext (ext_drew w5))
    refine wp_region_lex [(3, .ownS w.heap.size (d + 2) (infL d)), (7, .val (.int .i64 N)), (8, .val (.int .i64 K)), (9, .ownS w.heap.size (d + 2) (plusL p (v ++ [H1, H2]) (infL d) K (d + 2)))] (by kernel_rfl) (by kernel_rfl) ?_
    (refine LexW.pure (v := ?_) rfl rfl (fun w1 he => ?_) ?_; rotate_left; ( have e1 := he.cell T0.out; have e2 := he.cell T1.out; go_simp; rfl); simp only [Act.put, List.setIfInBounds_toArray, List.set_cons_zero, List.set_cons_succ])
    (refine LexW.pure (v := ?_) rfl rfl (fun w1 he => ?_) ?_; rotate_left; ( have e1 := he.cell T0.out; have e2 := he.cell T1.out; go_simp; rfl); simp only [Act.put, List.setIfInBounds_toArray, List.set_cons_zero, List.set_cons_succ])
    (refine LexW.pure (v := ?_) rfl rfl (fun w1 he => ?_) ?_; rotate_left; ( have e1 := he.cell T0.out; have e2 := he.cell T1.out; go_simp; rfl); simp only [Act.put, List.setIfInBounds_toArray, List.set_cons_zero, List.set_cons_succ])
    (refine LexW.callR (f := ?_) (args := ?_) rfl rfl (fun w1 => ?_) (fun w1 he hdep => ?_) (fun v hv => ?_); rotate_left 2; (go_simp; refine ⟨?_, ?_⟩ <;> rfl); ( refine (c_infinity p a d cap w1 (by omega)).mono ?_; rintro e w2 ⟨g, rc, rfl, ho, g2⟩; exact ⟨_, rfl, g2, g, rc, rfl, ho.mono (Nat.le_trans GX.out.size he.size)⟩); simp only [Act.put, List.setIfInBounds_toArray, List.set_cons_zero, List.set_cons_succ])
    obtain ⟨_, g20, c20, rfl, _⟩ := hv
    (refine LexW.pure (v := ?_) rfl rfl (fun w1 he => ?_) ?_; rotate_left; ( have e1 := he.cell T0.out; have e2 := he.cell T1.out; go_simp; rfl); simp only [Act.put, List.setIfInBounds_toArray, List.set_cons_zero, List.set_cons_succ])
    (refine LexW.pure (v := ?_) rfl rfl (fun w1 he => ?_) ?_; rotate_left; ( have e1 := he.cell T0.out; have e2 := he.cell T1.out; go_simp; rfl); simp only [Act.put, List.setIfInBounds_toArray, List.set_cons_zero, List.set_cons_succ])
    (refine LexW.pure (v := ?_) rfl rfl (fun w1 he => ?_) ?_; rotate_left; ( have e1 := he.cell T0.out; have e2 := he.cell T1.out; go_simp; rfl); simp only [Act.put, List.setIfInBounds_toArray, List.set_cons_zero, List.set_cons_succ])
    (refine LexW.call (f := ?_) (args := ?_) rfl rfl (fun w1 => ?_) (fun w1 he hdep => ?_) ?_; rotate_left 2; (go_simp; refine ⟨?_, ?_⟩ <;> rfl); ( rw [HN.out]; exact c_norm p a d cap qs _ cv v w1 (by omega) (by omega) (by omega) (HQ.out.ext (GX.out.trans he)) HQB.out (HV.out.ext (GX.out.trans he)) HG.out); simp only [Act.put, List.setIfInBounds_toArray, List.set_cons_zero, List.set_cons_succ])
    (refine LexW.call (f := ?_) (args := ?_) rfl rfl (fun w1 => ?_) (fun w1 he hdep => ?_) ?_; rotate_left 2; (go_simp; refine ⟨?_, ?_⟩ <;> rfl); ( exact c_half p N K w1 (by omega) (by omega) (by omega) HK.out); simp only [Act.put, List.setIfInBounds_toArray, List.set_cons_zero, List.set_cons_succ])
    (refine LexW.callR (f := ?_) (args := ?_) rfl rfl (fun w1 => ?_) (fun w1 he hdep => ?_) (fun v hv => ?_); rotate_left 2; (go_simp; refine ⟨?_, ?_⟩ <;> rfl); ( obtain ⟨_, _, q20, r20⟩ : (SPred.ownS w.heap.size (d + 2) (infL d)).holds (.slice (some ⟨g20, 0, none⟩) (d + 2) c20) w1 := hdep (3, 20) (by decide +kernel); cases q20; refine (c_plus p _ _ (d + 2) c5 c20 (v ++ [H1, H2]) (infL d) K w1 (by omega) (by omega) (by omega) (by omega) (O5.out.rd.ext he) r20.rd HOG.out HIG.out).mono ?_; rintro e w2 ⟨g, rc, rfl, ho, g2⟩; exact ⟨_, rfl, g2, g, rc, rfl, ho.mono (Nat.le_trans GX.out.size he.size)⟩); simp only [Act.put, List.setIfInBounds_toArray, List.set_cons_zero, List.set_cons_succ])
    obtain ⟨_, g26, c26, rfl, _⟩ := hv
    (refine LexW.pure (v := ?_) rfl rfl (fun w1 he => ?_) ?_; rotate_left; ( have e1 := he.cell T0.out; have e2 := he.cell T1.out; go_simp; rfl); simp only [Act.put, List.setIfInBounds_toArray, List.set_cons_zero, List.set_cons_succ])
    refine LexW.nil (fun w3 he hkn => ?_)
    obtain ⟨_, _, q26, r26⟩ : (SPred.ownS w.heap.size (d + 2) (plusL p (v ++ [H1, H2]) (infL d) K (d + 2))).holds (.slice (some ⟨g26, 0, none⟩) (d + 2) c26) w3 := hkn (9, _) (by simp)
    cases q26
    have R26 := Lib.hid r26
    have HE := Lib.hid (GX.out.trans he)
    clear he hkn r26
    go_wp2_with (fail)
    go_ret
    exact ⟨_, _, rfl, by rw [HP.out]; exact R26.out, HE.out⟩

set_option maxHeartbeats 4000000 in
set_option maxRecDepth 100000 in
theorem s_point (p : Int) (a : Option Addr) (d cap : Nat) (qs : List Int) (av : Option Addr) (cv : Nat) (v : List Int) (w : World) (hd1 : 0 < d) (hd : d ≤ 4) (hpr : primeB p = true) (hq : RdC w a d qs) (hqb : isB p qs = true) (hv : RdC w av d v) (hg : Good p d v) :
    Calls Tryz.prog 29 #[.agg #[.int .i64 p, .slice a d cap], .slice av d cv] w fun e w' => ∃ g rc, e = .returned (.slice (some ⟨g, 0, none⟩) (d + 2) rc) ∧ OwnC w.heap.size w' (some ⟨g, 0, none⟩) (d + 2) rc (pointL p qs v) ∧ Ext w w' := by
  have hpb := prime_bd hpr
  obtain ⟨bv, ov, rfl, _⟩ := hv.2 0 hd1
  have HPR := Lib.hid hpr
  have HQ := Lib.hid hq
  have HQB := Lib.hid hqb
  have HV := Lib.hid hv
  have HG := Lib.hid hg
  have HIG : Hid (Good p (d + 2) (infL d)) := Lib.hid (infL_good (by omega) d)
  obtain ⟨I, hI⟩ : ∃ I, I = invN p 2 := ⟨_, rfl⟩
  obtain ⟨N, hN⟩ : ∃ N, N = pairL p qs v v d := ⟨_, rfl⟩
  have HN := Lib.hid hN
  have hNb : 0 ≤ N ∧ N < p := by rw [hN]; exact pairL_bd (by omega)
  have hib : 0 ≤ I ∧ I < p := by rw [hI]; exact invN_bd (by omega)
  obtain ⟨M, hM⟩ : ∃ M, M = I * N := ⟨_, rfl⟩
  have hMb : 0 ≤ M ∧ M ≤ 1000 := by
    rw [hM]
    refine ⟨Int.mul_nonneg hib.1 hNb.1, ?_⟩
    have h1 : I * N ≤ 13 * N := Int.mul_le_mul_of_nonneg_right (by omega) hNb.1
    omega
  have hwM : IntKind.i64.wrap (I * N) = M := by rw [hM]; exact IntWalk.i64_in _ (by omega)
  have hwI0 : IntKind.i64.wrap (p - I) = p - I := IntWalk.i64_in _ (by omega)
  have HP := Lib.hid (show plusL p (v ++ [p - I, I]) (scaleL p (infL d) M (d + 2)) 1 (d + 2) = pointL p qs v by rw [hM, hI, hN]; exact point_eq hq.1 hv.1)
  obtain ⟨J, hJ⟩ : ∃ J, J = p - I := ⟨_, rfl⟩
  rw [← hJ] at HP
  have hwI : IntKind.i64.wrap (p - I) = J := hwI0.trans hJ.symm
  have hJb : 0 ≤ J ∧ J ≤ 1000 := by omega
  have HOB : Hid (∀ i, i < d + 2 → 0 ≤ nth (v ++ [J, I]) i ∧ nth (v ++ [J, I]) i ≤ 1000) := Lib.hid (fun i hi => by
    rw [app2_nth hv.1]
    by_cases h1 : i < d
    · rw [if_pos h1]; have := hg.2 i h1; omega
    · rw [if_neg h1]
      by_cases h2 : i = d
      · rw [if_pos h2]; exact hJb
      · rw [if_neg h2, if_pos (by omega)]; omega)
  have HI := Lib.hid hI.symm
  clear hq hqb hv hg hpr hI hN hM hJ hwI0
  obtain ⟨W, hW⟩ : ∃ W, W = w.alloc (.cells #[.int .i64 p, .slice a d cap] 26) := ⟨_, rfl⟩
  have gW : Ext w W := by rw [hW]; exact ext_alloc _ _
  have hs0 : W.cell? ⟨w.heap.size, 0, none⟩ = some (.int .i64 p) := by rw [hW]; simp
  have hs1 : W.cell? ⟨w.heap.size, 1, none⟩ = some (.slice a d cap) := by rw [hW]; simp
  have HS0 := Lib.hid (hs0)
  have HS1 := Lib.hid (hs1)
  have GW := Lib.hid (gW)
  have HW := Lib.hid hW
  clear hs0 hs1 gW hW
  go_enter Tryz.func29, Tryz.ntmps29
  go_wp2_with (fail)
  rw [← HW.out]
  have hs0 := HS0.out
  have hs1 := HS1.out
  go_wp2_with (go_at_call 56; refine (s_inv p 2 _ HPR.out (by omega) (by omega)).mono ?_; rintro e w1 ⟨rfl, g1⟩; rw [HI.out]; have G1 := Lib.hid g1; clear g1)
  have T0 := Lib.hid ((G1.out.trans (ext_drew _)).cell HS0.out)
  have T1 := Lib.hid ((G1.out.trans (ext_drew _)).cell HS1.out)
  have GX := Lib.hid (GW.out.trans (G1.out.trans (ext_drew w1)))
  clear hs0 hs1
  rename World => w0
  refine wp_region_lex_tail 8 [(1, .ownS w0.drew.heap.size d v), (7, .two J I)] (by kernel_rfl) (by kernel_rfl) ?_
  simp only [List.take, List.drop]
  (refine LexW.pure (v := ?_) rfl rfl (fun w1 he => ?_) ?_; rotate_left; ( go_simp; rfl); simp only [Act.put, List.setIfInBounds_toArray, List.set_cons_zero, List.set_cons_succ])
  (refine LexW.callR (f := ?_) (args := ?_) rfl rfl (fun w1 => ?_) (fun w1 he hdep => ?_) (fun v hv => ?_); rotate_left 2; (go_simp; refine ⟨?_, ?_⟩ <;> rfl); ( refine (s_own bv ov d cv v w1 hd1 (by omega) (HV.out.ext (GX.out.trans he))).mono ?_; rintro e w2 ⟨g2, rc2, rfl, ho, x2⟩; exact ⟨_, rfl, x2, g2, rc2, rfl, ho.mono he.size⟩); simp only [Act.put, List.setIfInBounds_toArray, List.set_cons_zero, List.set_cons_succ])
  obtain ⟨_, g11, c11, rfl, _⟩ := hv
  (refine LexW.pure (v := ?_) rfl rfl (fun w1 he => ?_) ?_; rotate_left; ( have e1 := he.cell T0.out; have e2 := he.cell T1.out; go_simp; rfl); simp only [Act.put, List.setIfInBounds_toArray, List.set_cons_zero, List.set_cons_succ])
  (refine LexW.pure (v := ?_) rfl rfl (fun w1 he => ?_) ?_; rotate_left; ( have e1 := he.cell T0.out; have e2 := he.cell T1.out; go_simp; rfl); simp only [Act.put, List.setIfInBounds_toArray, List.set_cons_zero, List.set_cons_succ])
  (refine LexW.pure (v := ?_) rfl rfl (fun w1 he => ?_) ?_; rotate_left; ( go_simp; rfl); simp only [Act.put, List.setIfInBounds_toArray, List.set_cons_zero, List.set_cons_succ])
  (refine LexW.pure (v := ?_) rfl rfl (fun w1 he => ?_) ?_; rotate_left; ( go_simp; rfl); simp only [Act.put, List.setIfInBounds_toArray, List.set_cons_zero, List.set_cons_succ])
  (refine LexW.pure (v := ?_) rfl rfl (fun w1 he => ?_) ?_; rotate_left; ( go_simp; rfl); simp only [Act.put, List.setIfInBounds_toArray, List.set_cons_zero, List.set_cons_succ])
  (refine LexW.rel rfl rfl (fun w1 he hdep => ?_) (fun v hv => ?_); ( exact ⟨.slice (some ⟨w1.heap.size, 0, none⟩) 2 2, w1.alloc (.cells #[.int .i64 J, .int .i64 I] 2), (by go_simp), ext_alloc _ _, _, rfl, (by simp), (by simp)⟩); simp only [Act.put, List.setIfInBounds_toArray, List.set_cons_zero, List.set_cons_succ])
  obtain ⟨_, g17, rfl, _⟩ := hv
  refine LexW.nil (fun w3 he hkn => ?_)
  obtain ⟨_, _, q11, r11⟩ : (SPred.ownS w0.drew.heap.size d v).holds (.slice (some ⟨g11, 0, none⟩) d c11) w3 := hkn (1, _) (by simp)
  cases q11
  obtain ⟨_, q17, r17, r17'⟩ : (SPred.two J I).holds (.slice (some ⟨g17, 0, none⟩) 2 2) w3 := hkn (7, _) (by simp)
  cases q17
  have R11 := Lib.hid r11
  have R17 := Lib.hid (rdC_two r17 r17')
  have X3 := Lib.hid he
  clear he hkn r11 r17 r17'
  go_wp2_with (at_builtin; refine wpList_appendAll rfl (.tmp 11) (.tmp 17) rfl rfl rfl R11.out R17.out (by omega) (by omega) (by omega) X3.out.size ?hk)
  case hk =>
    intro g5 c5 w5 ho5 hg5 he5
    have HO5 := Lib.hid ho5
    have X5 := Lib.hid (he5 w0.drew (Nat.le_refl _) X3.out)
    clear ho5 hg5 he5
    go_wp2_with (fail)
    have GY := Lib.hid (GX.out.trans (X5.out.trans (ext_drew w5)))
    have U0 := Lib.hid ((X5.out.trans (ext_drew w5)).cell T0.out)
    have U1 := Lib.hid ((X5.out.trans (ext_drew w5)).cell T1.out)
    have O5 := Lib.hid (HO5.out.ext (ext_drew w5))
    refine wp_region_lex [(9, .val (.int .i64 N)), (12, .ownS w.heap.size (d + 2) (infL d)), (13, .ownS w.heap.size (d + 2) (scaleL p (infL d) M (d + 2))), (14, .ownS w.heap.size (d + 2) (plusL p (v ++ [J, I]) (scaleL p (infL d) M (d + 2)) 1 (d + 2)))] (by kernel_rfl) (by kernel_rfl) ?_
    (refine LexW.pure (v := ?_) rfl rfl (fun w1 he => ?_) ?_; rotate_left; ( have e1 := he.cell U0.out; have e2 := he.cell U1.out; go_simp; rfl); simp only [Act.put, List.setIfInBounds_toArray, List.set_cons_zero, List.set_cons_succ])
    (refine LexW.pure (v := ?_) rfl rfl (fun w1 he => ?_) ?_; rotate_left; ( have e1 := he.cell U0.out; have e2 := he.cell U1.out; go_simp; rfl); simp only [Act.put, List.setIfInBounds_toArray, List.set_cons_zero, List.set_cons_succ])
    (refine LexW.pure (v := ?_) rfl rfl (fun w1 he => ?_) ?_; rotate_left; ( have e1 := he.cell U0.out; have e2 := he.cell U1.out; go_simp; rfl); simp only [Act.put, List.setIfInBounds_toArray, List.set_cons_zero, List.set_cons_succ])
    (refine LexW.pure (v := ?_) rfl rfl (fun w1 he => ?_) ?_; rotate_left; ( have e1 := he.cell U0.out; have e2 := he.cell U1.out; go_simp; rfl); simp only [Act.put, List.setIfInBounds_toArray, List.set_cons_zero, List.set_cons_succ])
    (refine LexW.pure (v := ?_) rfl rfl (fun w1 he => ?_) ?_; rotate_left; ( have e1 := he.cell U0.out; have e2 := he.cell U1.out; go_simp; rfl); simp only [Act.put, List.setIfInBounds_toArray, List.set_cons_zero, List.set_cons_succ])
    (refine LexW.pure (v := ?_) rfl rfl (fun w1 he => ?_) ?_; rotate_left; ( have e1 := he.cell U0.out; have e2 := he.cell U1.out; go_simp; rfl); simp only [Act.put, List.setIfInBounds_toArray, List.set_cons_zero, List.set_cons_succ])
    (refine LexW.pure (v := ?_) rfl rfl (fun w1 he => ?_) ?_; rotate_left; ( have e1 := he.cell U0.out; have e2 := he.cell U1.out; go_simp; rfl); simp only [Act.put, List.setIfInBounds_toArray, List.set_cons_zero, List.set_cons_succ])
    (refine LexW.pure (v := ?_) rfl rfl (fun w1 he => ?_) ?_; rotate_left; ( have e1 := he.cell U0.out; have e2 := he.cell U1.out; go_simp; rfl); simp only [Act.put, List.setIfInBounds_toArray, List.set_cons_zero, List.set_cons_succ])
    (refine LexW.pure (v := ?_) rfl rfl (fun w1 he => ?_) ?_; rotate_left; ( have e1 := he.cell U0.out; have e2 := he.cell U1.out; go_simp; rfl); simp only [Act.put, List.setIfInBounds_toArray, List.set_cons_zero, List.set_cons_succ])
    (refine LexW.call (f := ?_) (args := ?_) rfl rfl (fun w1 => ?_) (fun w1 he hdep => ?_) ?_; rotate_left 2; (go_simp; refine ⟨?_, ?_⟩ <;> rfl); ( rw [HN.out]; exact s_pair p a d cap qs _ cv v _ cv v w1 (by omega) (by omega) (by omega) (HQ.out.ext (GY.out.trans he)) HQB.out (HV.out.ext (GY.out.trans he)) HG.out (HV.out.ext (GY.out.trans he)) HG.out); simp only [Act.put, List.setIfInBounds_toArray, List.set_cons_zero, List.set_cons_succ])
    (refine LexW.pure (v := ?_) rfl rfl (fun w1 he => ?_) ?_; rotate_left; ( have e1 := he.cell U0.out; have e2 := he.cell U1.out; go_simp; rfl); simp only [Act.put, List.setIfInBounds_toArray, List.set_cons_zero, List.set_cons_succ])
    (refine LexW.pure (v := ?_) rfl rfl (fun w1 he => ?_) ?_; rotate_left; ( have e1 := he.cell U0.out; have e2 := he.cell U1.out; go_simp; rfl); simp only [Act.put, List.setIfInBounds_toArray, List.set_cons_zero, List.set_cons_succ])
    (refine LexW.callR (f := ?_) (args := ?_) rfl rfl (fun w1 => ?_) (fun w1 he hdep => ?_) (fun v hv => ?_); rotate_left 2; (go_simp; refine ⟨?_, ?_⟩ <;> rfl); ( refine (s_infinity p a d cap w1 (by omega)).mono ?_; rintro e w2 ⟨g, rc, rfl, ho, g2⟩; exact ⟨_, rfl, g2, g, rc, rfl, ho.mono (Nat.le_trans GY.out.size he.size)⟩); simp only [Act.put, List.setIfInBounds_toArray, List.set_cons_zero, List.set_cons_succ])
    obtain ⟨_, g31, c31, rfl, _⟩ := hv
    (refine LexW.callR (f := ?_) (args := ?_) rfl rfl (fun w1 => ?_) (fun w1 he hdep => ?_) (fun v hv => ?_); rotate_left 2; (go_simp; refine ⟨?_, ?_⟩ <;> rfl); ( obtain ⟨_, _, q31, r31⟩ : (SPred.ownS w.heap.size (d + 2) (infL d)).holds (.slice (some ⟨g31, 0, none⟩) (d + 2) c31) w1 := hdep (12, 31) (by decide +kernel); cases q31; refine (s_scale11 p _ (d + 2) c31 (infL d) M w1 (by omega) (by omega) (by omega) (by omega) r31.rd HIG.out).mono ?_; rintro e w2 ⟨g, rc, rfl, ho, g2⟩; exact ⟨_, rfl, g2, g, rc, rfl, ho.mono (Nat.le_trans GY.out.size he.size)⟩); simp only [Act.put, List.setIfInBounds_toArray, List.set_cons_zero, List.set_cons_succ])
    obtain ⟨_, g32, c32, rfl, _⟩ := hv
    (refine LexW.callR (f := ?_) (args := ?_) rfl rfl (fun w1 => ?_) (fun w1 he hdep => ?_) (fun v hv => ?_); rotate_left 2; (go_simp; refine ⟨?_, ?_⟩ <;> rfl); ( obtain ⟨_, _, q32, r32⟩ : (SPred.ownS w.heap.size (d + 2) (scaleL p (infL d) M (d + 2))).holds (.slice (some ⟨g32, 0, none⟩) (d + 2) c32) w1 := hdep (13, 32) (by decide +kernel); cases q32; refine (s_add11 p _ _ (d + 2) c5 c32 (v ++ [J, I]) (scaleL p (infL d) M (d + 2)) w1 (by omega) (by omega) (by omega) (O5.out.rd.ext he) r32.rd HOB.out (scale_good (by omega))).mono ?_; rintro e w2 ⟨g, rc, rfl, ho, g2⟩; exact ⟨_, rfl, g2, g, rc, rfl, ho.mono (Nat.le_trans GY.out.size he.size)⟩); simp only [Act.put, List.setIfInBounds_toArray, List.set_cons_zero, List.set_cons_succ])
    obtain ⟨_, g33, c33, rfl, _⟩ := hv
    (refine LexW.pure (v := ?_) rfl rfl (fun w1 he => ?_) ?_; rotate_left; ( have e1 := he.cell U0.out; have e2 := he.cell U1.out; go_simp; rfl); simp only [Act.put, List.setIfInBounds_toArray, List.set_cons_zero, List.set_cons_succ])
    refine LexW.nil (fun w3 he hkn => ?_)
    obtain ⟨_, _, q33, r33⟩ : (SPred.ownS w.heap.size (d + 2) (plusL p (v ++ [J, I]) (scaleL p (infL d) M (d + 2)) 1 (d + 2))).holds (.slice (some ⟨g33, 0, none⟩) (d + 2) c33) w3 := hkn (14, _) (by simp)
    cases q33
    have R33 := Lib.hid r33
    have HE := Lib.hid (GY.out.trans he)
    clear he hkn r33
    go_wp2_with (fail)
    go_ret
    exact ⟨_, _, rfl, by rw [← HP.out]; exact R33.out, HE.out⟩

end Go.Proofs.YtcocbainookkcaaGreat

/-
  The codes of spaces that can be extended.
  No condition.
-/
namespace Go.Proofs.YtcocbainookkcaaGreat
set_option maxRecDepth 100000
open Go.RowKit

def code18 (p : Int) (qs : List Int) (vs : List (List Int)) : Int := if spaceB p qs = true then (if qs.length ≤ 4 then (if vs.all (vecB p qs.length) = true then 0 else 2) else 3) else 1
theorem code18_zero {p : Int} {qs : List Int} {vs : List (List Int)} (h : code18 p qs vs = 0) : spaceB p qs = true ∧ qs.length ≤ 4 ∧ vs.all (vecB p qs.length) = true := by
  unfold code18 at h
  split at h
  · rename_i h1
    split at h
    · rename_i h2
      split at h
      · rename_i h3; exact ⟨h1, h2, h3⟩
      · cases h
    · cases h
  · cases h
theorem extL_space {p : Int} {qs : List Int} (hs : spaceB p qs = true) (h4 : qs.length ≤ 4) : spaceB p (extL p qs) = true := by
  obtain ⟨hpr, hd1, hd6, hqb⟩ := space_of hs
  unfold spaceB
  rw [hpr, extL_isB (prime_bd hpr).1 hqb, extL_len]
  simp [inB]; omega
def code18L (p : Int) (qs : List Int) (vs : List (List Int)) : Int := if code18 p qs vs = 0 then (if vs.length ≤ 16 then 0 else 2) else code18 p qs vs
theorem code18L_zero {p : Int} {qs : List Int} {vs : List (List Int)} (h : code18L p qs vs = 0) : code18 p qs vs = 0 ∧ vs.length ≤ 16 := by
  unfold code18L at h
  split at h
  · rename_i h1
    split at h
    · rename_i h2; exact ⟨h1, h2⟩
    · cases h
  · rename_i h1; exact absurd h h1

set_option maxHeartbeats 2000000 in
theorem c_checkPlaces (p : Int) (a : Option Addr) (d cap : Nat) (qs : List Int) (al : Option Addr) (n cl : Nat) (vs : List (List Int)) (w : World) (hd : d ≤ 4194304) (hl : n ≤ 4194304) (hr : ∀ i, i < n → (nthR vs i).length ≤ 4194304)
    (hq : RdC w a d qs) (hx : RdR w al n vs) :
    Calls Tryz.prog 36 #[.agg #[.int .i64 p, .slice a d cap], .slice al n cl, .slice none 0 0] w fun e w' => e = .returned (.int .i64 (code18 p qs vs)) ∧ Ext w w' := by
  have Hr := Lib.hid hr
  have HQ := Lib.hid hq
  have HX := Lib.hid hx
  have hdl := hq.1
  clear hr hq hx
  cases hs : spaceB p qs
  · have HS := Lib.hid hs
    have HC := Lib.hid (show code18 p qs vs = 1 by simp [code18, hs])
    clear hs
    go_enter Tryz.func36, Tryz.ntmps36
    go_wp2_with (go_at_call 41; refine (c_isSpace _ _ _ _ _ _ hd (HQ.out.ext (ext_alloc _ _))).mono ?_; rintro e w1 ⟨rfl, g1⟩; rw [HS.out]; have hcc := Ext.cells g1)
    go_ret
    exact ⟨ret_int HC.out.symm, (ext_alloc _ _).trans g1⟩
  · obtain ⟨hpr, hd1, hd6, hqb⟩ := space_of hs
    have hpb := prime_bd hpr
    rw [hdl] at hd1
    have HS := Lib.hid hs
    have hcb : ((0 : Int) != 0) = false := by simp
    have hcb2 : ((2 : Int) != 0) = true := by simp
    by_cases h4 : d ≤ 4
    · have h4q : qs.length ≤ 4 := by omega
      have HV2 := Lib.hid (show codeV p (extL p qs) [] = 0 by unfold codeV; rw [extL_space hs h4q]; simp)
      cases ha : vs.all (vecB p qs.length)
      · have HV := Lib.hid (show codeV p qs vs = 2 by unfold codeV; rw [hs, ha]; rfl)
        have HC := Lib.hid (show code18 p qs vs = 2 by unfold code18; rw [if_pos hs, if_pos h4q, ha]; rfl)
        clear hs ha hpr hqb hd6 hdl h4q
        go_enter Tryz.func36, Tryz.ntmps36
        go_wp2_with (first | (go_at_call 41; refine (c_isSpace _ _ _ _ _ _ hd (HQ.out.ext (ext_alloc _ _))).mono ?_; rintro e w1 ⟨rfl, g1⟩; rw [HS.out]; have hcc := Ext.cells g1; try simp only [World.size_alloc] at hcc) | (go_at_call 53; refine (c_dim _ _ _ _ _).mono ?_; rintro e w2 ⟨rfl, g2⟩; have hcc2 := Ext.cells (g1.trans g2); try simp only [World.size_alloc] at hcc2) | (go_at_call 69; refine (c_checkVectors p a d cap qs al n cl vs _ hd hl Hr.out (HQ.out.ext ((ext_alloc _ _).trans (g1.trans g2))) (HX.out.ext ((ext_alloc _ _).trans (g1.trans g2)))).mono ?_; rintro e w3 ⟨rfl, g3⟩; rw [HV.out]; have hcc3 := Ext.cells ((g1.trans g2).trans g3); try simp only [World.size_alloc] at hcc3))
        go_ret
        exact ⟨ret_int HC.out.symm, (ext_alloc _ _).trans ((g1.trans g2).trans g3)⟩
      · have HV := Lib.hid (show codeV p qs vs = 0 by unfold codeV; rw [hs, ha]; rfl)
        have HC := Lib.hid (show code18 p qs vs = 0 by unfold code18; rw [if_pos hs, if_pos h4q, if_pos ha])
        clear hs ha hpr hqb hd6 hdl h4q
        go_enter Tryz.func36, Tryz.ntmps36
        go_wp2_with (first | (go_at_call 41; refine (c_isSpace _ _ _ _ _ _ hd (HQ.out.ext (ext_alloc _ _))).mono ?_; rintro e w1 ⟨rfl, g1⟩; rw [HS.out]; have hcc := Ext.cells g1; try simp only [World.size_alloc] at hcc) | (go_at_call 53; refine (c_dim _ _ _ _ _).mono ?_; rintro e w2 ⟨rfl, g2⟩; have hcc2 := Ext.cells (g1.trans g2); try simp only [World.size_alloc] at hcc2) | (go_at_call 25; refine (c_extended p a d cap qs _ (by omega) (by omega) (by omega) (by omega) (HQ.out.ext ((ext_alloc _ _).trans ((g1.trans g2).trans g3)))).mono ?_; rintro e w4 ⟨ge, re, rfl, he4, g4⟩; have HE4 := Lib.hid he4; clear he4) | (go_at_call 69; refine (c_checkVectors p (some ⟨ge, 0, none⟩) (d + 2) re (extL p qs) none 0 0 [] _ (by omega) (by omega) (fun _ hi => absurd hi (Nat.not_lt_zero _)) HE4.out.rd ⟨rfl, fun _ hi => absurd hi (Nat.not_lt_zero _)⟩).mono ?_; rintro e w5 ⟨rfl, g5⟩; rw [HV2.out]) | (go_at_call 69; refine (c_checkVectors p a d cap qs al n cl vs _ hd hl Hr.out (HQ.out.ext ((ext_alloc _ _).trans (g1.trans g2))) (HX.out.ext ((ext_alloc _ _).trans (g1.trans g2)))).mono ?_; rintro e w3 ⟨rfl, g3⟩; rw [HV.out]; have hcc3 := Ext.cells ((g1.trans g2).trans g3); try simp only [World.size_alloc] at hcc3))
        go_ret
        exact ⟨ret_int HC.out.symm, ((ext_alloc _ _).trans ((g1.trans g2).trans g3)).trans (g4.trans g5)⟩
    · have HC := Lib.hid (show code18 p qs vs = 3 by unfold code18; rw [if_pos hs, if_neg (by omega)])
      clear hs hpr hqb hd6 hdl
      go_enter Tryz.func36, Tryz.ntmps36
      go_wp2_with (first | (go_at_call 41; refine (c_isSpace _ _ _ _ _ _ hd (HQ.out.ext (ext_alloc _ _))).mono ?_; rintro e w1 ⟨rfl, g1⟩; rw [HS.out]; have hcc := Ext.cells g1; try simp only [World.size_alloc] at hcc) | (go_at_call 53; refine (c_dim _ _ _ _ _).mono ?_; rintro e w2 ⟨rfl, g2⟩; have hcc2 := Ext.cells (g1.trans g2); try simp only [World.size_alloc] at hcc2))
      go_ret
      exact ⟨ret_int HC.out.symm, (ext_alloc _ _).trans (g1.trans g2)⟩
set_option maxHeartbeats 1000000 in
theorem c_checkSome (p : Int) (a : Option Addr) (d cap : Nat) (qs : List Int) (al : Option Addr) (n cl : Nat) (vs : List (List Int)) (w : World) (hd : d ≤ 4194304) (hl : n ≤ 4194304) (hr : ∀ i, i < n → (nthR vs i).length ≤ 4194304)
    (hq : RdC w a d qs) (hx : RdR w al n vs) :
    Calls Tryz.prog 23 #[.agg #[.int .i64 p, .slice a d cap], .slice al n cl] w fun e w' => e = .returned (.int .i64 (code18L p qs vs)) ∧ Ext w w' := by
  have Hr := Lib.hid hr
  have hxl := hx.1
  clear hr
  by_cases hc : code18 p qs vs = 0
  · have HC := Lib.hid hc
    have hcb : ((0 : Int) != 0) = false := by simp
    by_cases h16 : n ≤ 16
    · have HF := Lib.hid (show code18L p qs vs = 0 by unfold code18L; rw [if_pos hc, if_pos (by omega)])
      clear hc hxl
      go_enter Tryz.func23, Tryz.ntmps23
      go_wp2_with (go_at_call 36; refine (c_checkPlaces p a d cap qs al n cl vs _ hd hl Hr.out (hq.ext (ext_alloc _ _)) (hx.ext (ext_alloc _ _))).mono ?_; rintro e w1 ⟨rfl, g1⟩; rw [HC.out])
      go_ret
      exact ⟨ret_int HF.out.symm, (ext_alloc _ _).trans g1⟩
    · have HF := Lib.hid (show code18L p qs vs = 2 by unfold code18L; rw [if_pos hc, if_neg (by omega)])
      clear hc hxl
      go_enter Tryz.func23, Tryz.ntmps23
      go_wp2_with (go_at_call 36; refine (c_checkPlaces p a d cap qs al n cl vs _ hd hl Hr.out (hq.ext (ext_alloc _ _)) (hx.ext (ext_alloc _ _))).mono ?_; rintro e w1 ⟨rfl, g1⟩; rw [HC.out])
      go_ret
      exact ⟨ret_int HF.out.symm, (ext_alloc _ _).trans g1⟩
  · have HF := Lib.hid (show code18L p qs vs = code18 p qs vs by unfold code18L; rw [if_neg hc])
    have hcb : (code18 p qs vs != 0) = true := by simp [hc]
    clear hc hxl
    go_enter Tryz.func23, Tryz.ntmps23
    go_wp2_with (go_at_call 36; refine (c_checkPlaces p a d cap qs al n cl vs _ hd hl Hr.out (hq.ext (ext_alloc _ _)) (hx.ext (ext_alloc _ _))).mono ?_; rintro e w1 ⟨rfl, g1⟩)
    go_ret
    exact ⟨ret_int HF.out.symm, (ext_alloc _ _).trans g1⟩
set_option maxHeartbeats 2000000 in
theorem s_code18 (p : Int) (a : Option Addr) (d cap : Nat) (qs : List Int) (al : Option Addr) (n cl : Nat) (vs : List (List Int)) (w : World) (hd : d ≤ 4194304) (hl : n ≤ 4194304) (hr : ∀ i, i < n → (nthR vs i).length ≤ 4194304)
    (hq : RdC w a d qs) (hx : RdR w al n vs) :
    Calls Tryz.prog 54 #[.agg #[.int .i64 p, .slice a d cap], .slice al n cl] w fun e w' => e = .returned (.int .i64 (code18 p qs vs)) ∧ Ext w w' := by
  have Hr := Lib.hid hr
  have HQ := Lib.hid hq
  have HL := Lib.hid hx.1
  have HR := Lib.hid hx.2
  have hdl := hq.1
  clear hr hq hx
  cases hs : spaceB p qs
  · have HS := Lib.hid hs
    have HC := Lib.hid (show code18 p qs vs = 1 by simp [code18, hs])
    clear hs
    go_enter Tryz.func54, Tryz.ntmps54
    go_wp2_with (go_at_call 83; refine (s_is _ _ _ _ _ _ hd (HQ.out.ext (ext_alloc _ _))).mono ?_; rintro e w1 ⟨rfl, g1⟩; rw [HS.out]; have hcc := Ext.cells g1)
    go_ret
    exact ⟨ret_int HC.out.symm, (ext_alloc _ _).trans g1⟩
  · obtain ⟨hpr, hd1, hd6, hqb⟩ := space_of hs
    have hpb := prime_bd hpr
    have HS := Lib.hid hs
    by_cases h4 : d ≤ 4
    · have HC := Lib.hid (show code18 p qs vs = if vs.all (vecB p d) = true then 0 else 2 by unfold code18; rw [if_pos hs, if_pos (by omega), hdl])
      clear hs hpr hqb hd1 hd6 hdl
      go_enter Tryz.func54, Tryz.ntmps54
      go_wp2_with (go_at_call 83; refine (s_is _ _ _ _ _ _ hd (HQ.out.ext (ext_alloc _ _))).mono ?_; rintro e w1 ⟨rfl, g1⟩; rw [HS.out]; have hq0 : w1.cell? ⟨w.heap.size, 0, none⟩ = some (.int .i64 p) := g1.cell (by simp); have hq1 : w1.cell? ⟨w.heap.size, 1, none⟩ = some (.slice a d cap) := g1.cell (by simp))
      have Q0 := Lib.hid hq0
      have Q1 := Lib.hid hq1
      have G1 := Lib.hid ((ext_alloc w (.cells #[.int .i64 p, .slice a d cap] 26)).trans g1)
      clear g1 hq0 hq1
      go_loopw [5] (fun i wr => ∃ k : Nat, k ≤ n ∧ i = .int .i64 k ∧ Hid (∀ j, j < k → vecB p d (nthR vs j) = true) ∧ Ext w1 wr) (fun i _ => n - (intOf i).toNat)
      case atStart => exact ⟨0, Nat.zero_le _, rfl, Lib.hid (fun j hj => by omega), Ext.refl _⟩
      case round =>
        obtain ⟨k, hk, rfl, HT, hext⟩ := hrel
        have HExt := Lib.hid hext
        clear hext
        by_cases hlt : k < n
        · obtain ⟨b, off, ai, ci, rfl, hc, hrow⟩ := HR.out k hlt
          have g2 := G1.out.trans HExt.out
          have HRow := Lib.hid (hrow.ext g2)
          have Hc0 := Lib.hid ((g2.trans (ext_drew _)).cell hc)
          have Hq0 := Lib.hid ((HExt.out.trans (ext_drew _)).cell Q0.out)
          have Hq1 := Lib.hid ((HExt.out.trans (ext_drew _)).cell Q1.out)
          clear hc hrow g2
          have hl0 := Hr.out k hlt
          cases hb : vecB p d (nthR vs k)
          all_goals
            have HB := Lib.hid hb
            clear hb
            go_wp2_with (fail)
            refine wp_region_lex [(5, .val (.bool (vecB p d (nthR vs k))))] (by kernel_rfl) (by kernel_rfl) ?_
            repeat' first | (refine LexW.pure (v := ?_) rfl rfl (fun w1 he => ?_) ?_; rotate_left; ( have hc0 := he.cell Hc0.out; have hq0 := he.cell Hq0.out; have hq1 := he.cell Hq1.out; go_simp; rfl); simp only [Act.put, List.setIfInBounds_toArray, List.set_cons_zero, List.set_cons_succ]) | (refine LexW.call (f := ?_) (args := ?_) rfl rfl (fun w1 => ?_) (fun w1 he hdep => ?_) ?_; rotate_left 2; (go_simp; refine ⟨?_, ?_⟩ <;> rfl); ( have H := s_isVector p a d cap ai _ ci (nthR vs k) w1 (by omega) (by omega) hl0 (HRow.out.ext ((ext_drew _).trans he)); exact H); simp only [Act.put, List.setIfInBounds_toArray, List.set_cons_zero, List.set_cons_succ])
            refine LexW.nil (fun w2 he hk => ?_)
            have X2 := Lib.hid (HExt.out.trans ((ext_drew _).trans he))
            clear he hk
            rw [HB.out]
            go_wp2_with (fail)
          · go_ret
            exact ⟨ret_int (by rw [HC.out, allV_false HL.out hlt HB.out]; rfl), G1.out.trans X2.out⟩
          · go_roundw
            case rel => exact ⟨k + 1, by omega, by go_num, Lib.hid (fun j hj => by
              by_cases hjk : j = k
              · subst hjk; exact HB.out
              · exact HT.out j (by omega)), X2.out⟩
            case measure => simp [intOf]; omega
        · go_wp2_with (fail)
          go_ret
          exact ⟨ret_int (by rw [HC.out, allV_true HL.out (fun j hj => HT.out j (by omega))]; rfl), G1.out.trans HExt.out⟩
    · have HC := Lib.hid (show code18 p qs vs = 3 by unfold code18; rw [if_pos hs, if_neg (by omega)])
      clear hs hpr hqb hd1 hd6 hdl
      go_enter Tryz.func54, Tryz.ntmps54
      go_wp2_with (go_at_call 83; refine (s_is _ _ _ _ _ _ hd (HQ.out.ext (ext_alloc _ _))).mono ?_; rintro e w1 ⟨rfl, g1⟩; rw [HS.out]; have hcc := Ext.cells g1)
      go_ret
      exact ⟨ret_int HC.out.symm, (ext_alloc _ _).trans g1⟩
set_option maxHeartbeats 1000000 in
theorem s_code18L (p : Int) (a : Option Addr) (d cap : Nat) (qs : List Int) (al : Option Addr) (n cl : Nat) (vs : List (List Int)) (w : World) (hd : d ≤ 4194304) (hl : n ≤ 4194304) (hr : ∀ i, i < n → (nthR vs i).length ≤ 4194304)
    (hq : RdC w a d qs) (hx : RdR w al n vs) :
    Calls Tryz.prog 27 #[.agg #[.int .i64 p, .slice a d cap], .slice al n cl] w fun e w' => e = .returned (.int .i64 (code18L p qs vs)) ∧ Ext w w' := by
  have Hr := Lib.hid hr
  have hxl := hx.1
  clear hr
  by_cases hc : code18 p qs vs = 0
  · have HC := Lib.hid hc
    have hcb : ((0 : Int) == 0) = true := by simp
    by_cases h16 : n ≤ 16
    · have HF := Lib.hid (show code18L p qs vs = 0 by unfold code18L; rw [if_pos hc, if_pos (by omega)])
      clear hc hxl
      go_enter Tryz.func27, Tryz.ntmps27
      go_wp2_with (go_at_call 54; refine (s_code18 p a d cap qs al n cl vs _ hd hl Hr.out (hq.ext (ext_alloc _ _)) (hx.ext (ext_alloc _ _))).mono ?_; rintro e w1 ⟨rfl, g1⟩; rw [HC.out])
      go_ret
      exact ⟨ret_int HF.out.symm, (ext_alloc _ _).trans g1⟩
    · have HF := Lib.hid (show code18L p qs vs = 2 by unfold code18L; rw [if_pos hc, if_neg (by omega)])
      clear hc hxl
      go_enter Tryz.func27, Tryz.ntmps27
      go_wp2_with (go_at_call 54; refine (s_code18 p a d cap qs al n cl vs _ hd hl Hr.out (hq.ext (ext_alloc _ _)) (hx.ext (ext_alloc _ _))).mono ?_; rintro e w1 ⟨rfl, g1⟩; rw [HC.out])
      go_ret
      exact ⟨ret_int HF.out.symm, (ext_alloc _ _).trans g1⟩
  · have HF := Lib.hid (show code18L p qs vs = code18 p qs vs by unfold code18L; rw [if_neg hc])
    have hcb : (code18 p qs vs == 0) = false := by simp [hc]
    clear hc hxl
    go_enter Tryz.func27, Tryz.ntmps27
    go_wp2_with (go_at_call 54; refine (s_code18 p a d cap qs al n cl vs _ hd hl Hr.out (hq.ext (ext_alloc _ _)) (hx.ext (ext_alloc _ _))).mono ?_; rintro e w1 ⟨rfl, g1⟩)
    go_ret
    exact ⟨ret_int HF.out.symm, (ext_alloc _ _).trans g1⟩
end Go.Proofs.YtcocbainookkcaaGreat
