/-
  Contracts: the helpers of the exact laws: sizes, copies, comparisons, marks.
  No condition.
-/
import Derived.Test.YtbgnfjckbjmgbaaCheck
namespace Go.Proofs.Ytbgnfjckbjmgbaa
set_option maxRecDepth 100000
open Go.RowKit

def szN (left : Int) (n : Nat) : Int := if left - n < 0 then -1 else left - n
theorem szN_neg {left : Int} {n : Nat} (h : left - n < 0) : szN left n = -1 := by simp [szN, h]
theorem szN_pos {left : Int} {n : Nat} (h : 0 ≤ left - n) : szN left n = left - n := by
  unfold szN; rw [if_neg (by omega)]



def eqB (xs ys : List Int) : Bool := decide (xs = ys)
theorem eqB_self (xs : List Int) : eqB xs xs = true := by simp [eqB]
theorem eqB_len {xs ys : List Int} (h : xs.length ≠ ys.length) : eqB xs ys = false := by
  simp only [eqB, decide_eq_false_iff_not]; intro he; exact h (by rw [he])
theorem eqB_nth {xs ys : List Int} {k : Nat} (h : nth xs k ≠ nth ys k) : eqB xs ys = false := by
  simp only [eqB, decide_eq_false_iff_not]; intro he; exact h (by rw [he])
theorem eqB_all {xs ys : List Int} {n : Nat} (hx : xs.length = n) (hy : ys.length = n) (h : ∀ j, j < n → nth xs j = nth ys j) : eqB xs ys = true := by
  simp only [eqB, decide_eq_true_eq]; exact ext_nth (by omega) (fun i hi => h i (by omega))


/-! ### Marks -/
def marks (k : Int) (n : Nat) : List Int := (List.range n).map fun (i : Nat) => k + (i : Int)
theorem marks_len (k : Int) (n : Nat) : (marks k n).length = n := by simp [marks]
theorem marks_nth {k : Int} {n i : Nat} (h : i < n) : nth (marks k n) i = k + i := by
  unfold marks
  rw [nth_map (by simpa using h)]
  simp

/-- The world has been extended, and the row of a slice may have been written. -/
def Wrote (w w' : World) (a : Option Addr) : Prop := w.heap.size ≤ w'.heap.size ∧ w'.os = w.os ∧ w'.tape = w.tape ∧ w'.output = w.output ∧ ∀ k, k < w.heap.size → (∀ g, a = some ⟨g, 0, none⟩ → k ≠ g) → w'.heap[k]? = w.heap[k]?
theorem Wrote.refl (w : World) (a : Option Addr) : Wrote w w a := ⟨Nat.le_refl _, rfl, rfl, rfl, fun _ _ _ => rfl⟩
theorem Wrote.below {B : Nat} {w w' : World} {a : Option Addr} (h : Wrote w w' a) (hB : B ≤ w.heap.size) (ha : ∀ g, a = some ⟨g, 0, none⟩ → B ≤ g) : Below B w w' :=
  ⟨h.2.1, h.2.2.1, h.2.2.2.1, h.1, fun k hk => h.2.2.2.2 k (by omega) (fun g hg => by have := ha g hg; omega)⟩
theorem Wrote.ext {B w w' : World} {a : Option Addr} (h : Wrote w w' a) (hb : Ext B w) (ha : ∀ g, a = some ⟨g, 0, none⟩ → B.heap.size ≤ g) : Ext B w' :=
  hb.trans' (h.below hb.size ha)
theorem Wrote.cell {w w' : World} {a : Option Addr} (h : Wrote w w' a) {p : Addr} {v : Value} (hc : w.cell? p = some v) (hn : ∀ g, a = some ⟨g, 0, none⟩ → p.block ≠ g) : w'.cell? p = some v := by
  rw [World.cell?_of_block (w := w) (h.2.2.2.2 p.block (lt_of_cell hc) hn)]
  exact hc
theorem Wrote.own {B : Nat} {w w' : World} {a b : Option Addr} {n cap : Nat} {xs : List Int} (h : Wrote w w' a) (ho : OwnC B w b n cap xs) (hd : ∀ g, a = some ⟨g, 0, none⟩ → b ≠ some ⟨g, 0, none⟩) : OwnC B w' b n cap xs := by
  obtain ⟨h1, h2, h3⟩ := ho
  refine ⟨h1, h2, ?_⟩
  rcases h3 with h3 | ⟨g, c, cur, hv, hb, hh, h4⟩
  · exact .inl h3
  · refine .inr ⟨g, c, cur, hv, hb, ?_, h4⟩
    simp only [Value.slice.injEq] at hv
    have hlt : g < w.heap.size := by
      rcases Nat.lt_or_ge g w.heap.size with h | h
      · exact h
      · rw [Array.getElem?_eq_none h] at hh; cases hh
    rw [h.2.2.2.2 g hlt (fun g' hg' hgg => by subst hgg; exact hd _ hg' hv.1)]
    exact hh

end Go.Proofs.Ytbgnfjckbjmgbaa
