/-
  What is known of the arguments of a law in memory, read off the form's own words.
  No condition.
-/
import Derived.Test.YtdccileoiiafmaaDoorCheck
import Derived.ProofKit
import Derived.OpenShut
import Derived.ShutString
import Derived.ChangeOld
import Derived.Below
import Derived.Lib.SmallJoins
namespace Go.Proofs.YtdccileoiiafmaaDoor
set_option maxRecDepth 100000
open Go.ChangeShapes Go.WideShapes Go.ChangeAt Go.RowKit Go.Joins

theorem own : ownKnob Tryd.prog.godebug = none := by kernel_rfl
theorem laidOut : laidOutB Tryd.prog = true := by kernel_rfl
theorem Tryd.cellsI : Tryd.prog.cellsOf 2 = 1 := by kernel_rfl
theorem Tryd.cellsR : Tryd.prog.cellsOf 22 = 1 := by kernel_rfl
theorem Tryd.cellsS : Tryd.prog.cellsOf 24 = 2 := by kernel_rfl

theorem add_cell {w : World} {x : Addr} {i : Nat} {v v0 : Value} (h0 : w.cell? (x.add 0) = some v0) (h : w.cell? (x.add i) = some v) : ∃ b off, some x = some (⟨b, off, none⟩ : Addr) ∧ w.cell? ⟨b, off + i, none⟩ = some v := by
  obtain ⟨b, off, spot⟩ := x
  cases spot with
  | none =>
    refine ⟨b, off, rfl, ?_⟩
    unfold Addr.add at h
    split at h
    · rename_i hi; subst hi; exact h
    · exact h
  | some s =>
    simp only [World.cell?, Addr.add, if_true] at h0
    split at h0
    · simp at h0
    · cases h0

theorem read_cells {H : Type} {enc : TypeId × Value → H} {W : World} {fuel : Nat} {v : Value} {x : DataW H × List MemPlace}
    (hf : DataW.trod enc Tryd.prog W 0 (fun _ => true) true fuel 22 [v] = some x) : ∃ a n cap xs, v = .slice a n cap ∧ RdC W a n xs ∧ n ≤ maxLen := by
  rcases open_ints Tryd.underlying22 Tryd.underlying2 Tryd.cellsI hf with ⟨hcs, _⟩ | ⟨y, l, c, zs, hcs, _, hl, hm, hz, _, hcell, hwz⟩
  · simp only [List.cons.injEq, and_true] at hcs
    exact ⟨none, 0, 0, [], hcs, ⟨rfl, fun i hi => by omega⟩, by omega⟩
  · simp only [List.cons.injEq, and_true] at hcs
    have hz' : zs.length = c := by simpa using hz
    refine ⟨some y, l, c, zs.take l, hcs, ⟨by simp; omega, fun i hi => ?_⟩, by omega⟩
    obtain ⟨b, off, h1, h2⟩ := add_cell (hcell 0 (by omega)) (hcell i (by omega))
    refine ⟨b, off, h1, ?_⟩
    rw [h2]
    simp [nth, List.getElem?_take_of_lt hi]

theorem read_ints {H : Type} {enc : TypeId × Value → H} {W : World} {base : Nat} {v : Value} {d : DataW H} {p : List MemPlace}
    (hv : Value.okWide Tryd.prog W .any base 22 v) (h : DataW.Trod enc Tryd.prog W 0 (fun _ => true) true 22 v d p) : ∃ a n cap xs, v = .slice a n cap ∧ RdC W a n xs ∧ n ≤ maxLen := by
  obtain ⟨a0, len0, cap0, rfl⟩ := okWide_slice Tryd.underlying22 hv
  obtain ⟨fuel, hf⟩ := h
  exact read_cells (by simpa [Value.cells] using hf)

theorem read_space {H : Type} {enc : TypeId × Value → H} {W : World} {base : Nat} {v : Value} {d : DataW H} {p : List MemPlace}
    (hv : Value.okWide Tryd.prog W .any base 24 v) (h : DataW.Trod enc Tryd.prog W 0 (fun _ => true) true 24 v d p) : ∃ q a n cap xs, v = .agg #[.int .i64 q, .slice a n cap] ∧ RdC W a n xs ∧ n ≤ maxLen ∧ (Lit.int .i64 q).wf = true := by
  obtain ⟨c0, c1, y0, y1, m, rfl, rfl, rfl, hy0, hy1⟩ := open_agg2 Tryd.underlying24 (by kernel_rfl) Tryd.cellsS hv h
  obtain ⟨q, e0, _, wq⟩ := DataW.trod_int Tryd.underlying2 hy0
  simp only [List.cons.injEq, and_true] at e0
  obtain ⟨a, n, cap, xs, e1, hr, hm⟩ := read_cells hy1
  exact ⟨q, a, n, cap, xs, by rw [e0, e1], hr, hm, wq⟩

end Go.Proofs.YtdccileoiiafmaaDoor
