/-
  Contract: the reduced basis of rows, in the program and in the reference.
  No condition.
-/
import Derived.Test.YtlchmkaaogokiaaRowsC
import Derived.Test.YtlchmkaaogokiaaGauss
import Derived.RegionTactic
import Derived.ChangeAlike
namespace Go.Proofs.Ytlchmkaaogokiaa
set_option maxRecDepth 100000
open Go.RowKit

theorem ownR_put_len {p : Int} {m : Nat} {rows : List (List Int)} (h : RowsG p m rows) {n i : Nat} (hn : rows.length = n) (hi : i < n) : (nthR rows i).length = m := (h i (by omega)).1
theorem basis_nil {p : Int} {m : Nat} : basisL p m [] = [] := by unfold basisL; rw [List.take_of_length_le (by rw [gaussS_len]; exact Nat.zero_le _)]; have := gaussS_len (p := p) (m := m) (rows := []) m; exact List.length_eq_zero_iff.1 this

theorem swapL_at {rows : List (List Int)} {d j : Nat} (hd : d < rows.length) (hj : j < rows.length) : nthR (swapL rows d j) d = nthR rows j := by
  rw [swapL_nth hd hj]
  by_cases h : d = j
  · subst h; rw [if_pos rfl]
  · rw [if_neg h, if_pos rfl]
end Go.Proofs.Ytlchmkaaogokiaa
