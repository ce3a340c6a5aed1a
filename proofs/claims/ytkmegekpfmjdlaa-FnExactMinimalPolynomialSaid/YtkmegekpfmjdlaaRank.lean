/-
  The rank of the first columns; a column that no combination of the earlier ones makes raises it.
  No condition. No program in sight.
-/
import Derived.Test.YtkmegekpfmjdlaaKill
namespace Go.Proofs.Ytkmegekpfmjdlaa
set_option maxRecDepth 100000
open Go.RowKit

def truncL (m : Nat) (rows : List (List Int)) : List (List Int) := rows.map fun r => r.take m
theorem truncL_len {m : Nat} {rows : List (List Int)} : (truncL m rows).length = rows.length := by simp [truncL]
theorem truncL_nth {m i : Nat} {rows : List (List Int)} : nthR (truncL m rows) i = (nthR rows i).take m := by
  by_cases hi : i < rows.length
  · unfold truncL; rw [nthR_map hi, nthR_eq hi]
  · have h1 : nthR (truncL m rows) i = [] := by simp [nthR, truncL, List.getElem?_eq_none (Nat.le_of_not_lt hi)]
    have h2 : nthR rows i = [] := by simp [nthR, List.getElem?_eq_none (Nat.le_of_not_lt hi)]
    rw [h1, h2, List.take_nil]
theorem nth_take {m t : Nat} {x : List Int} (ht : t < m) : nth (x.take m) t = nth x t := by
  simp [nth, List.getElem?_take_of_lt ht]
theorem plus_take {p k : Int} {m m' : Nat} {x y : List Int} (h : m' ≤ m) : (plusL p x y k m).take m' = plusL p (x.take m') (y.take m') k m' := by
  refine ext_nth (by rw [List.length_take, plusL_len, plusL_len, Nat.min_eq_left h]) fun i hi => ?_
  rw [List.length_take, plusL_len, Nat.min_eq_left h] at hi
  rw [nth_take hi, plusL_nth (by omega), plusL_nth hi, plusN, plusN, nth_take hi, nth_take hi]
theorem scale_take {p k : Int} {m m' : Nat} {x : List Int} (h : m' ≤ m) : (scaleL p x k m).take m' = scaleL p (x.take m') k m' := by
  refine ext_nth (by rw [List.length_take, scaleL_len, scaleL_len, Nat.min_eq_left h]) fun i hi => ?_
  rw [List.length_take, scaleL_len, Nat.min_eq_left h] at hi
  rw [nth_take hi, scaleL_nth (by omega), scaleL_nth hi, scaleN, scaleN, nth_take hi]
theorem piv_trunc {m k d : Nat} {rows : List (List Int)} (hk : k < m) (hd : d ≤ rows.length) : pivG (truncL m rows) k d = pivG rows k d := by
  obtain ⟨h1, h2, h3, h4⟩ := pivG_spec rows k d hd
  refine pivG_eq h1 (by rw [truncL_len]; exact h2) (fun j hj hj2 => by rw [truncL_nth, nth_take hk]; exact h3 j hj hj2) ?_
  rcases h4 with h4 | h4
  · left; rw [truncL_len]; exact h4
  · right; rw [truncL_nth, nth_take hk]; exact h4
theorem step_trunc {p : Int} {m m' d k : Nat} {rows : List (List Int)} (h : m' ≤ m) (hk : k < m') (hd : d ≤ rows.length) :
    stepG p m' (truncL m' rows, d) k = (truncL m' (stepG p m (rows, d) k).1, (stepG p m (rows, d) k).2) := by
  have hp := piv_trunc (m := m') (k := k) (d := d) (rows := rows) hk hd
  obtain ⟨p1, p2, _, _⟩ := pivG_spec rows k d hd
  by_cases hn : pivG rows k d = rows.length
  · rw [stepG_no (s := (rows, d)) hn, stepG_no (s := (truncL m' rows, d)) (by rw [hp, truncL_len]; exact hn)]
  · obtain ⟨i, hi⟩ : ∃ i, i = pivG rows k d := ⟨_, rfl⟩
    rw [← hi] at hp p1 p2 hn
    have hil : i < rows.length := by omega
    have hdl : d < rows.length := by omega
    rw [stepG_yes (s := (rows, d)) hi.symm hil, stepG_yes (s := (truncL m' rows, d)) hp (by rw [truncL_len]; exact hil)]
    refine Prod.ext ?_ rfl
    show clrS p k m' d (upG p m' (truncL m' rows) d k i) (truncL m' rows).length = truncL m' (clrS p k m d (upG p m rows d k i) rows.length)
    have hu : ∀ j, nthR (upG p m' (truncL m' rows) d k i) j = (nthR (upG p m rows d k i) j).take m' := fun j => by
      rw [upG_nth (by rw [truncL_len]; exact hdl) (by rw [truncL_len]; exact hil), upG_nth hdl hil, truncL_nth, truncL_nth, truncL_nth, nth_take hk]
      split
      · rw [scale_take h]
      · split <;> rfl
    refine ext_rows (by rw [clrS_len, upG_len, truncL_len, truncL_len, clrS_len, upG_len]) fun j hj => ?_
    rw [clrS_len, upG_len, truncL_len] at hj
    rw [truncL_nth, truncL_len, clrS_nth _ (by rw [upG_len, truncL_len]; exact Nat.le_refl _), clrS_nth _ (by rw [upG_len]; exact Nat.le_refl _), hu, hu, nth_take hk]
    split
    · rw [plus_take h]
    · rfl
theorem gauss_trunc {p : Int} {m m' : Nat} {rows : List (List Int)} (hp : primeB p = true) (hg : RowsG p m rows) (h : m' ≤ m) : ∀ j, j ≤ m' → gaussS p m' (truncL m' rows) j = (truncL m' (gaussS p m rows j).1, (gaussS p m rows j).2)
  | 0, _ => rfl
  | j + 1, hj => by
    show stepG p m' (gaussS p m' (truncL m' rows) j) j = (truncL m' (stepG p m (gaussS p m rows j) j).1, (stepG p m (gaussS p m rows j) j).2)
    rw [gauss_trunc hp hg h j (by omega)]
    obtain ⟨_, c, hr⟩ := gaussS_red hp hg j (by omega)
    exact step_trunc h (by omega) hr.dle
def rankL (p : Int) (m : Nat) (rows : List (List Int)) : Nat := (gaussS p m rows m).2
theorem rank_le {p : Int} {m : Nat} {rows : List (List Int)} (hp : primeB p = true) (hg : RowsG p m rows) : rankL p m rows ≤ rows.length := (gauss_rank hp hg).1
/-- A further column that has no combination raises the rank. -/
theorem rank_up {p : Int} {m : Nat} {rows : List (List Int)} (hp : primeB p = true) (hg : RowsG p (m + 1) rows) (h : okS m (basisL p (m + 1) rows) = false) : rankL p (m + 1) rows = rankL p m (truncL m rows) + 1 := by
  have ht := gauss_trunc hp hg (Nat.le_succ m) m (Nat.le_refl _)
  have hr : rankL p m (truncL m rows) = (gaussS p (m + 1) rows m).2 := by unfold rankL; rw [ht]
  rw [hr]
  obtain ⟨h1, c, h2⟩ := gaussS_red hp hg m (by omega)
  obtain ⟨p1, p2, _, _⟩ := pivG_spec (gaussS p (m + 1) rows m).1 m (gaussS p (m + 1) rows m).2 h2.dle
  by_cases hn : pivG (gaussS p (m + 1) rows m).1 m (gaussS p (m + 1) rows m).2 = (gaussS p (m + 1) rows m).1.length
  · exfalso
    have e : gaussS p (m + 1) rows (m + 1) = gaussS p (m + 1) rows m := stepG_no hn
    -- no pivot in the last column: all first numbers stand ahead of it
    have hl : (basisL p (m + 1) rows).length = (gaussS p (m + 1) rows m).2 := by unfold basisL; rw [e, List.length_take, Nat.min_eq_left h2.dle]
    have hnn : ∀ i, i < (gaussS p (m + 1) rows m).2 → nthR (basisL p (m + 1) rows) i = nthR (gaussS p (m + 1) rows m).1 i := fun i hi => by unfold basisL; rw [e]; exact nthR_take hi
    have hd := h2.dle
    have ok : okS m (basisL p (m + 1) rows) = true := by
      unfold okS
      rw [Option.isNone_iff_eq_none]
      cases hp' : pivIx (basisL p (m + 1) rows) m with
      | none => rfl
      | some i =>
        obtain ⟨hi, hle⟩ := pivIx_some hp'
        have hi2 : i < (gaussS p (m + 1) rows m).2 := by omega
        have hc := h2.clt i hi2
        have hgl := (h1 i (by omega)).1
        have : leadN (nthR (basisL p (m + 1) rows) i) = c i := by
          rw [hnn i hi2]
          refine leadN_eq (by omega) (h2.lead i hi2) (.inr ?_)
          rw [h2.one i hi2 i (by omega), if_pos rfl]; omega
        omega
    rw [h] at ok; cases ok
  · unfold rankL
    show (stepG p (m + 1) (gaussS p (m + 1) rows m) m).2 = _
    rw [stepG_yes rfl (by omega)]
theorem trunc_wide {p : Int} {m n : Nat} {rows : List (List Int)} {u : List Int} (hg : RowsG p m rows) (hn : rows.length = n) : truncL m (wideL rows u n) = rows := by
  refine ext_rows (by rw [truncL_len, wideL_len, hn]) fun i hi => ?_
  rw [truncL_len, wideL_len] at hi
  rw [truncL_nth]
  have e : nthR (wideL rows u n) i = nthR rows i ++ [nth u i] := by unfold wideL; rw [nthR_map (by simpa using hi)]; simp
  rw [e, List.take_append_of_le_length (by rw [(hg i (by omega)).1]; exact Nat.le_refl _), List.take_of_length_le (by rw [(hg i (by omega)).1]; exact Nat.le_refl _)]

end Go.Proofs.Ytkmegekpfmjdlaa
