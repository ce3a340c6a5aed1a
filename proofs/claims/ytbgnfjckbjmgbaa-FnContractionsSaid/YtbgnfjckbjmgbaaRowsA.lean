/-
  Lists of lists, place by place.
  No condition.
-/
import Derived.Test.YtbgnfjckbjmgbaaLeaf
namespace Go.Proofs.Ytbgnfjckbjmgbaa
set_option maxRecDepth 100000
open Go.RowKit

theorem nthR_set {rows : List (List Int)} {i j : Nat} {v : List Int} (h : i < rows.length) : nthR (rows.set i v) j = if i = j then v else nthR rows j := by
  by_cases hij : i = j
  · subst hij; simp [nthR, h]
  · simp [nthR, hij]
theorem ext_rows {xs ys : List (List Int)} (h : xs.length = ys.length) (he : ∀ i, i < xs.length → nthR xs i = nthR ys i) : xs = ys := by
  apply List.ext_getElem h
  intro i h1 h2
  have := he i h1
  rwa [nthR_eq h1, nthR_eq h2] at this
theorem set_self {rows : List (List Int)} {j : Nat} : rows.set j (nthR rows j) = rows := by
  by_cases hj : j < rows.length
  · rw [nthR_eq hj, List.set_getElem_self]
  · exact List.set_eq_of_length_le (by omega)
theorem nthR_take {rows : List (List Int)} {k i : Nat} (h : i < k) : nthR (rows.take k) i = nthR rows i := by simp [nthR, h]
theorem nthR_snoc {rows : List (List Int)} {v : List Int} {i : Nat} (h : i < rows.length) : nthR (rows ++ [v]) i = nthR rows i := by simp [nthR, List.getElem?_append_left h]
theorem nthR_last {rows : List (List Int)} {v : List Int} : nthR (rows ++ [v]) rows.length = v := by simp [nthR]
theorem nthR_map {α : Type} {f : α → List Int} {xs : List α} {i : Nat} (h : i < xs.length) : nthR (xs.map f) i = f xs[i] := by simp [nthR, h]
theorem takeR_snoc (rows : List (List Int)) (k : Nat) (h : k < rows.length) : rows.take (k + 1) = rows.take k ++ [nthR rows k] := by
  rw [List.take_succ_eq_append_getElem h, nthR_eq h]

end Go.Proofs.Ytbgnfjckbjmgbaa
