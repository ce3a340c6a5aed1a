/-
  Minimal polynomials in plain numbers: the first power that earlier ones make.
  No condition. No program in sight.
-/
import Derived.Test.YtkmegekpfmjdlaaRank
import Derived.Test.YtkmegekpfmjdlaaInvM
namespace Go.Proofs.Ytkmegekpfmjdlaa
set_option maxRecDepth 100000
open Go.RowKit

/-- The first k powers. -/
def powsL (p : Int) (qs x : List Int) (k : Nat) : List (List Int) := (List.range k).map (powL p qs x)
theorem powsL_len (p : Int) (qs x : List Int) (k : Nat) : (powsL p qs x k).length = k := by simp [powsL]
theorem powsL_succ (p : Int) (qs x : List Int) (k : Nat) : powsL p qs x (k + 1) = powsL p qs x k ++ [powL p qs x k] := by simp [powsL, List.range_succ]
theorem powsL_nth {p : Int} {qs x : List Int} {k i : Nat} (h : i < k) : nthR (powsL p qs x k) i = powL p qs x i := by
  unfold powsL; rw [nthR_map (by simpa using h)]; simp
/-- The first k powers as columns. -/
def powM (p : Int) (qs x : List Int) (k : Nat) : List (List Int) := turnL (powsL p qs x k) k (2 ^ qs.length)
theorem powM_len (p : Int) (qs x : List Int) (k : Nat) : (powM p qs x k).length = 2 ^ qs.length := turnL_len _ _ _
theorem powM_good {p : Int} {qs x : List Int} {k : Nat} (hp : 3 ≤ p) : RowsG p k (powM p qs x k) := fun i hi => by
  rw [powM_len] at hi
  unfold powM
  rw [turnL_nth hi]
  exact ⟨colL_len _ _ _, fun j hj => by rw [colL_nth hj, powsL_nth hj]; exact (pow_good hp j).2 i hi⟩
theorem powM_wide {p : Int} {qs x : List Int} {k : Nat} : wideL (powM p qs x k) (powL p qs x k) (2 ^ qs.length) = powM p qs x (k + 1) := by
  refine ext_rows (by rw [wideL_len, powM_len]) fun i hi => ?_
  rw [wideL_len] at hi
  have e : nthR (wideL (powM p qs x k) (powL p qs x k) (2 ^ qs.length)) i = nthR (powM p qs x k) i ++ [nth (powL p qs x k) i] := by unfold wideL; rw [nthR_map (by simpa using hi)]; simp
  rw [e]
  unfold powM
  rw [turnL_nth hi, turnL_nth hi, colL_succ, powsL_nth (Nat.lt_succ_self k)]
  congr 1
  unfold colL
  refine List.map_congr_left fun j hj => ?_
  have hj' : j < k := by simpa using hj
  rw [powsL_nth hj', powsL_nth (by omega)]
/-- Power k is made of the earlier ones. -/
def stopB (p : Int) (qs x : List Int) (k : Nat) : Bool := okS k (redL p k (powM p qs x k) (powL p qs x k) (2 ^ qs.length))
theorem stop_rank {p : Int} {qs x : List Int} (hp : primeB p = true) : ∀ k, (∀ j, 1 ≤ j → j ≤ k → stopB p qs x j = false) → rankL p (k + 1) (powM p qs x (k + 1)) = k + 1
  | 0, _ => by
    have hpb := prime_bd hp
    have hN := pow_pos' qs.length
    have hg := powM_good (qs := qs) (x := x) (k := 1) (show 3 ≤ p by omega)
    have hl := powM_len p qs x 1
    have h1 : nth (nthR (powM p qs x 1) 0) 0 = 1 := by
      unfold powM
      rw [turnL_nth (by omega), colL_nth (by omega), powsL_nth (by omega)]
      show nth (bladeL (2 ^ qs.length) 0) 0 = 1
      rw [bladeL_nth (by omega) (by omega), if_pos rfl]
    have hpv : pivG (powM p qs x 1) 0 0 = 0 := pivG_eq (Nat.le_refl _) (Nat.zero_le _) (fun j h h' => by omega) (.inr (by rw [h1]; omega))
    unfold rankL
    show (stepG p 1 (powM p qs x 1, 0) 0).2 = 1
    rw [stepG_yes (s := (powM p qs x 1, 0)) hpv (by show 0 < (powM p qs x 1).length; omega)]
  | k + 1, h => by
    have hpb := prime_bd hp
    have ih := stop_rank hp k (fun j h1 h2 => h j h1 (by omega)) (qs := qs) (x := x)
    have hg := powM_good (qs := qs) (x := x) (k := k + 2) (show 3 ≤ p by omega)
    have hs := h (k + 1) (by omega) (Nat.le_refl _)
    unfold stopB redL at hs
    rw [powM_wide] at hs
    rw [rank_up hp hg hs, ← powM_wide, trunc_wide (powM_good (by omega)) (powM_len p qs x (k + 1)), ih]
theorem stop_le {p : Int} {qs x : List Int} (hp : primeB p = true) {k : Nat} (h : ∀ j, 1 ≤ j → j ≤ k → stopB p qs x j = false) : k + 1 ≤ 2 ^ qs.length := by
  have hpb := prime_bd hp
  have := rank_le hp (powM_good (qs := qs) (x := x) (k := k + 1) (show 3 ≤ p by omega))
  rw [stop_rank hp k h, powM_len] at this
  exact this

/-- The coefficients when the first k powers make the next one. -/
def polyK (p : Int) (qs x : List Int) (k : Nat) : List Int := scaleL p (solR k (redL p k (powM p qs x k) (powL p qs x k) (2 ^ qs.length))) (-1) k ++ [1]
def minK (p : Int) (qs x : List Int) : Nat := match (List.range (2 ^ qs.length + 1)).find? (fun k => decide (1 ≤ k) && stopB p qs x k) with | some k => k | none => 0
def minL (p : Int) (qs x : List Int) : List Int := polyK p qs x (minK p qs x)
theorem minK_eq {p : Int} {qs x : List Int} (hp : primeB p = true) {k : Nat} (h1 : 1 ≤ k) (hs : stopB p qs x k = true) (h : ∀ j, 1 ≤ j → j < k → stopB p qs x j = false) : minK p qs x = k := by
  have hle : k ≤ 2 ^ qs.length := by
    have := stop_le (qs := qs) (x := x) hp (k := k - 1) (fun j h2 h3 => h j h2 (by omega))
    omega
  unfold minK
  have : (List.range (2 ^ qs.length + 1)).find? (fun k => decide (1 ≤ k) && stopB p qs x k) = some k := by
    rw [List.find?_range_eq_some]
    refine ⟨by simp [h1, hs], by simp; omega, fun j hj => ?_⟩
    by_cases hj1 : 1 ≤ j
    · simp [h j hj1 hj]
    · simp [hj1]
  rw [this]
theorem scale_minus {p : Int} {x : List Int} {n : Nat} : scaleL p x (p - 1) n = scaleL p x (-1) n := by
  unfold scaleL
  refine List.map_congr_left fun i _ => ?_
  unfold scaleN
  rw [show nth x i * (p - 1) = nth x i * -1 + p * nth x i by rw [Int.mul_sub, Int.mul_comm p]; omega, Int.add_mul_emod_self_left]

end Go.Proofs.Ytkmegekpfmjdlaa
