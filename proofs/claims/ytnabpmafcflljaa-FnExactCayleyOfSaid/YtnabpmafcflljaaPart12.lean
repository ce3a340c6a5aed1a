/-
  Contracts and plain laws, part 12: ReadR.
  No condition.
-/
import Derived.Test.YtnabpmafcflljaaPart11
import Derived.Deep.Matrix
/-
  What is known of a slice of slices that a law is handed.
  No condition.
-/
namespace Go.Proofs.Ytnabpmafcflljaa
set_option maxRecDepth 100000
open Go.ChangeShapes Go.WideShapes Go.ChangeAt Go.RowKit Go.Joins

theorem read_rows {H : Type} {enc : TypeId × Value → H} {W : World} {base : Nat} {v : Value} {d : DataW H} {p : List MemPlace}
    (hv : Value.okWide Try.prog W .any base 25 v) (h : DataW.Trod enc Try.prog W 0 (fun _ => true) true 25 v d p) : ∃ a n cap rows, v = .slice a n cap ∧ RdR W a n rows ∧ n ≤ maxLen ∧ ∀ i, i < n → (nthR rows i).length ≤ maxLen := by
  obtain ⟨a0, len0, cap0, rfl⟩ := okWide_slice Try.underlying25 hv
  obtain ⟨fuel, hf⟩ := h
  rcases Go.Deep.open_int_rows Try.underlying25 Try.underlying22 Try.underlying2 Try.cellsR Try.cellsI (by simpa [Value.cells] using hf) with ⟨hcs, _⟩ | ⟨y, l, c, A, L, C, Z, hcs, _, hl, hm, _, hr⟩
  · simp only [List.cons.injEq, and_true] at hcs
    exact ⟨none, 0, 0, [], hcs, ⟨rfl, fun i hi => by omega⟩, by omega, fun i hi => by omega⟩
  · simp only [List.cons.injEq, and_true] at hcs
    have e : ∀ i, i < l → nthR ((List.range l).map fun r => (Z r).take (L r)) i = (Z i).take (L i) := fun i hi => by simp [nthR, hi]
    refine ⟨some y, l, c, (List.range l).map fun r => (Z r).take (L r), hcs, ⟨by simp, fun i hi => ?_⟩, by omega, fun i hi => ?_⟩
    · obtain ⟨h1, h2, h3, h4, _, h5, h6⟩ := hr i (by omega)
      obtain ⟨b, off, ha, hc⟩ := add_cell (hr 0 (by omega)).1 h1
      refine ⟨b, off, A i, C i, ha, ?_, ?_⟩
      · rw [hc, e i hi]; simp [h4, h2]
      · rw [e i hi]
        have hlen : ((Z i).take (L i)).length = L i := by simp [h4, h2]
        refine ⟨rfl, fun j hj => ?_⟩
        rw [hlen] at hj
        cases hA : A i with
        | none => have := h5 hA; omega
        | some a' =>
          have h7 := (h6 a' hA).2
          obtain ⟨b1, off1, ha1, hc1⟩ := add_cell (h7 0 (by omega)) (h7 j (by omega))
          refine ⟨b1, off1, ha1, ?_⟩
          rw [hc1]
          simp [nth, List.getElem?_take_of_lt hj]
    · obtain ⟨h1, h2, h3, h4, _⟩ := hr i (by omega)
      rw [e i hi]
      simp; omega
end Go.Proofs.Ytnabpmafcflljaa
