/-
  Objects of a law in memory: rows of rows in blocks of a range, and writes into a range.
  No condition.
-/
import Derived.Test.YtbgnfjckbjmgbaaLawA
import Derived.Test.YtbgnfjckbjmgbaaRows2
namespace Go.Proofs.Ytbgnfjckbjmgbaa
set_option maxRecDepth 100000
open Go.RowKit

/-- Rows of rows, all in blocks from lo on and below hi. -/
def OwnRH (lo hi : Nat) (w : World) (a : Option Addr) (n cap : Nat) (rows : List (List Int)) : Prop :=
  rows.length = n ∧ (∀ g, a = some ⟨g, 0, none⟩ → g < hi) ∧ ∃ vs : List Value, w.ownsRow lo 24 1 (.slice a n cap) n vs ∧ Apart vs ∧
    ∀ i, i < n → ∃ ai ci, vs[i]? = some (.slice ai (nthR rows i).length ci) ∧ OwnC lo w ai (nthR rows i).length ci (nthR rows i) ∧ ∀ g, ai = some ⟨g, 0, none⟩ → g < hi
theorem OwnR.high {B : Nat} {w : World} {a : Option Addr} {n cap : Nat} {rows : List (List Int)} (h : OwnR B w a n cap rows) : OwnRH B w.heap.size w a n cap rows := by
  have hb := h.base_of
  obtain ⟨h1, vs, h2, h3, h4⟩ := h
  refine ⟨h1, fun g hg => (hb g hg).2, vs, h2, h3, fun i hi => ?_⟩
  obtain ⟨ai, ci, h5, h6⟩ := h4 i hi
  exact ⟨ai, ci, h5, h6, fun g hg => (h6.base_of g hg).2⟩
theorem OwnRH.low {lo hi : Nat} {w : World} {a : Option Addr} {n cap : Nat} {rows : List (List Int)} (h : OwnRH lo hi w a n cap rows) : OwnR lo w a n cap rows := by
  obtain ⟨h1, _, vs, h2, h3, h4⟩ := h
  refine ⟨h1, vs, h2, h3, fun i hi => ?_⟩
  obtain ⟨ai, ci, h5, h6, _⟩ := h4 i hi
  exact ⟨ai, ci, h5, h6⟩
theorem OwnRH.ext {lo hi : Nat} {w w' : World} {a : Option Addr} {n cap : Nat} {rows : List (List Int)} (h : OwnRH lo hi w a n cap rows) (he : Ext w w') : OwnRH lo hi w' a n cap rows := by
  obtain ⟨h1, h0, vs, h2, h3, h4⟩ := h
  refine ⟨h1, h0, vs, ownsRow_ext h2 he, h3, fun i hi => ?_⟩
  obtain ⟨ai, ci, h5, h6, h7⟩ := h4 i hi
  exact ⟨ai, ci, h5, h6.ext he, h7⟩

/-- The world has been extended, and blocks from lo on below hi may have been written. -/
structure WroteIn (lo hi : Nat) (w w' : World) : Prop where
  size : w.heap.size ≤ w'.heap.size
  os : w'.os = w.os
  tape : w'.tape = w.tape
  output : w'.output = w.output
  block : ∀ k, k < w.heap.size → (k < lo ∨ hi ≤ k) → w'.heap[k]? = w.heap[k]?
theorem WroteIn.refl (lo hi : Nat) (w : World) : WroteIn lo hi w w := ⟨Nat.le_refl _, rfl, rfl, rfl, fun _ _ _ => rfl⟩
theorem WroteIn.trans {lo hi : Nat} {a b c : World} (h : WroteIn lo hi a b) (k : WroteIn lo hi b c) : WroteIn lo hi a c :=
  ⟨Nat.le_trans h.size k.size, k.os.trans h.os, k.tape.trans h.tape, k.output.trans h.output, fun i hi hr => (k.block i (Nat.lt_of_lt_of_le hi h.size) hr).trans (h.block i hi hr)⟩
theorem WroteIn.ofExt {lo hi : Nat} {a b : World} (h : Ext a b) : WroteIn lo hi a b := ⟨h.size, h.os, h.tape, h.output, fun i hi _ => h.block i hi⟩
theorem Wrote.inR {lo hi : Nat} {w w' : World} {a : Option Addr} (h : Wrote w w' a) (hd : ∀ g, a = some ⟨g, 0, none⟩ → lo ≤ g ∧ g < hi) : WroteIn lo hi w w' :=
  ⟨h.1, h.2.1, h.2.2.1, h.2.2.2.1, fun k hk hr => h.2.2.2.2 k hk fun g hg e => by have := hd g hg; omega⟩
theorem WroteIn.ext {lo hi : Nat} {B w w' : World} (h : WroteIn lo hi w w') (hb : Ext B w) (hl : B.heap.size ≤ lo) : Ext B w' :=
  hb.trans' ⟨h.os, h.tape, h.output, h.size, fun k hk => h.block k (Nat.lt_of_lt_of_le hk hb.size) (.inl (by omega))⟩
theorem WroteIn.cell {lo hi : Nat} {w w' : World} (h : WroteIn lo hi w w') {p : Addr} {v : Value} (hc : w.cell? p = some v) (hn : p.block < lo ∨ hi ≤ p.block) : w'.cell? p = some v := by
  rw [World.cell?_of_block (w := w) (h.block p.block (lt_of_cell hc) hn)]
  exact hc
theorem WroteIn.own {lo hi B : Nat} {w w' : World} {b : Option Addr} {n cap : Nat} {xs : List Int} (h : WroteIn lo hi w w') (ho : OwnC B w b n cap xs) (hd : ∀ g, b = some ⟨g, 0, none⟩ → g < lo ∨ hi ≤ g) : OwnC B w' b n cap xs :=
  ho.keep fun g hg => h.block g (ho.base_of g hg).2 (hd g hg)
theorem WroteIn.ownR {lo hi lo' hi' : Nat} {w w' : World} {b : Option Addr} {n cap : Nat} {rows : List (List Int)} (h : WroteIn lo hi w w') (ho : OwnRH lo' hi' w b n cap rows) (hd : hi' ≤ lo ∨ hi ≤ lo') : OwnRH lo' hi' w' b n cap rows := by
  have hb := ho.low.base_of
  obtain ⟨h1, h0, vs, h2, h3, h4⟩ := ho
  have ow : w'.ownsRow lo' 24 1 (.slice b n cap) n vs := by
    obtain ⟨h5, h6⟩ := h2
    refine ⟨h5, ?_⟩
    rcases h6 with h6 | ⟨g, c, cur, hv, hg, hh, h7⟩
    · exact .inl h6
    · refine .inr ⟨g, c, cur, hv, hg, ?_, h7⟩
      simp only [Value.slice.injEq] at hv
      have := hb g hv.1
      have := h0 g hv.1
      rw [h.block g (by omega) (by omega)]; exact hh
  refine ⟨h1, h0, vs, ow, h3, fun i hi => ?_⟩
  obtain ⟨ai, ci, h5, h6, h7⟩ := h4 i hi
  refine ⟨ai, ci, h5, h.own h6 fun g hg => ?_, h7⟩
  have := h7 g hg
  have := (h6.base_of g hg).1
  omega

/-- One row of the rows is written in its place. -/
theorem OwnRH.atRow {lo hi : Nat} {w : World} {a : Option Addr} {n cap : Nat} {rows : List (List Int)} (h : OwnRH lo hi w a n cap rows) {i : Nat} (hi' : i < n) :
    ∃ b off ai ci, a = some ⟨b, off, none⟩ ∧ w.cell? ⟨b, off + i, none⟩ = some (.slice ai (nthR rows i).length ci) ∧ OwnC lo w ai (nthR rows i).length ci (nthR rows i) ∧ (∀ g, ai = some ⟨g, 0, none⟩ → lo ≤ g ∧ g < hi) ∧
      ∀ w' xs, xs.length = (nthR rows i).length → Wrote w w' ai → OwnC lo w' ai (nthR rows i).length ci xs → OwnRH lo hi w' a n cap (rows.set i xs) := by
  have hb := h.low.base_of
  obtain ⟨g, cur, rfl, _⟩ := h.low.row (by omega)
  obtain ⟨h1, h0, vs, h2, h3, h4⟩ := h
  obtain ⟨ai, ci, h5, h6, h7⟩ := h4 i hi'
  have hvl : vs.length = n := by have := h2.1; omega
  refine ⟨g, 0, ai, ci, rfl, ?_, h6, fun k hk => ⟨(h6.base_of k hk).1, h7 k hk⟩, fun w' xs hxl hw ho => ?_⟩
  · rw [Nat.zero_add, h2.cellAt i (by omega)]; exact h5
  · have hn : ∀ g', ai = some ⟨g', 0, none⟩ → g ≠ g' := fun g' hg' e => by
      subst e
      exact own_apart h2 h6 g hg' rfl
    have ow : w'.ownsRow lo 24 1 (.slice (some ⟨g, 0, none⟩) n cap) n vs := by
      obtain ⟨h8, h9⟩ := h2
      refine ⟨h8, ?_⟩
      rcases h9 with h9 | ⟨g', c, cur, hv, hg, hh, h10⟩
      · exact .inl h9
      · refine .inr ⟨g', c, cur, hv, hg, ?_, h10⟩
        simp only [Value.slice.injEq, Option.some.injEq, Addr.mk.injEq] at hv
        obtain ⟨⟨rfl, _⟩, _⟩ := hv
        have := hb g rfl
        rw [hw.2.2.2.2 g (by omega) (fun g' hg' => hn g' hg')]; exact hh
    refine ⟨by simpa using h1, h0, vs, ow, h3, fun j hj => ?_⟩
    rw [nthR_set (by omega)]
    by_cases hij : i = j
    · subst hij
      rw [if_pos rfl, hxl]
      exact ⟨ai, ci, h5, ho, h7⟩
    · rw [if_neg hij]
      obtain ⟨aj, cj, h8, h9, h10⟩ := h4 j hj
      refine ⟨aj, cj, h8, hw.own h9 fun g' hg' e => ?_, h10⟩
      subst hg'
      subst e
      exact h3 i j g' _ _ _ _ hij h5 h8

/-! ### Numbers of places, marks, sizes -/
def cntR (rows : List (List Int)) : Nat → Nat
  | 0 => 0
  | j + 1 => cntR rows j + (nthR rows j).length
theorem cntR_mono (rows : List (List Int)) (i : Nat) : ∀ j, cntR rows i ≤ cntR rows (i + j)
  | 0 => Nat.le_refl _
  | j + 1 => Nat.le_trans (cntR_mono rows i j) (Nat.le_add_right _ _)
theorem cntR_le (rows : List (List Int)) {i j : Nat} (h : i ≤ j) : cntR rows i ≤ cntR rows j := by
  have := cntR_mono rows i (j - i)
  rwa [Nat.add_sub_cancel' h] at this
theorem cntR_row (rows : List (List Int)) {i n : Nat} (h : i < n) : (nthR rows i).length ≤ cntR rows n := by
  have : cntR rows (i + 1) ≤ cntR rows n := cntR_le rows h
  have e : cntR rows (i + 1) = cntR rows i + (nthR rows i).length := rfl
  omega
/-- Marks in rows. -/
def markR (k : Int) (rows : List (List Int)) (n : Nat) : List (List Int) := (List.range n).map fun j => marks (k + cntR rows j) (nthR rows j).length
theorem markR_len (k : Int) (rows : List (List Int)) (n : Nat) : (markR k rows n).length = n := by simp [markR]
theorem markR_nth {k : Int} {rows : List (List Int)} {n j : Nat} (h : j < n) : nthR (markR k rows n) j = marks (k + cntR rows j) (nthR rows j).length := by
  unfold markR; rw [nthR_map (by simpa using h)]; simp
theorem markR_sum {k : Int} {rows : List (List Int)} {n : Nat} : ∀ j, j ≤ n → cntR (markR k rows n) j = cntR rows j
  | 0, _ => rfl
  | j + 1, h => by
    show cntR (markR k rows n) j + _ = cntR rows j + _
    rw [markR_sum j (by omega), markR_nth (by omega), marks_len]

def szK (left : Int) (rows : List (List Int)) (n j : Nat) : Int := left - (n : Int) - (cntR rows j : Int)
/-- What is left when rows have been counted, or -1. -/
def szR (left : Int) (rows : List (List Int)) : Int := if szK left rows rows.length rows.length < 0 then -1 else szK left rows rows.length rows.length
theorem szR_neg {left : Int} {rows : List (List Int)} {n j : Nat} (hn : rows.length = n) (hj : j ≤ n) (h : szK left rows n j < 0) : szR left rows = -1 := by
  unfold szR
  have : szK left rows rows.length rows.length ≤ szK left rows n j := by
    subst hn
    unfold szK
    have := cntR_le rows hj
    omega
  rw [if_pos (by omega)]
theorem szR_pos {left : Int} {rows : List (List Int)} {n : Nat} (hn : rows.length = n) (h : 0 ≤ szK left rows n n) : szR left rows = szK left rows n n := by
  subst hn
  unfold szR
  rw [if_neg (by omega)]
theorem szR_bd {left : Int} {rows : List (List Int)} (h : 0 ≤ szR left rows) : (rows.length : Int) + cntR rows rows.length ≤ left := by
  unfold szR at h
  split at h
  · omega
  · rename_i h'
    unfold szK at h'
    omega
theorem szR_le {left : Int} {rows : List (List Int)} (h : 0 ≤ szR left rows) : szR left rows ≤ left := by
  unfold szR at h ⊢
  split
  · rename_i h'
    rw [if_pos h'] at h; omega
  · unfold szK; omega
theorem szR_lt {left : Int} {rows : List (List Int)} (h : szR left rows < 0) : szR left rows = -1 := by
  unfold szR at h ⊢
  split
  · rfl
  · rename_i h'
    rw [if_neg h'] at h
    omega
def eqR (xs ys : List (List Int)) : Bool := decide (xs = ys)
theorem eqR_self (xs : List (List Int)) : eqR xs xs = true := by simp [eqR]
theorem eqR_len {xs ys : List (List Int)} (h : xs.length ≠ ys.length) : eqR xs ys = false := by
  simp only [eqR, decide_eq_false_iff_not]; intro he; exact h (by rw [he])
theorem eqR_nth {xs ys : List (List Int)} {k : Nat} (h : nthR xs k ≠ nthR ys k) : eqR xs ys = false := by
  simp only [eqR, decide_eq_false_iff_not]; intro he; exact h (by rw [he])
theorem eqR_all {xs ys : List (List Int)} {n : Nat} (hx : xs.length = n) (hy : ys.length = n) (h : ∀ j, j < n → nthR xs j = nthR ys j) : eqR xs ys = true := by
  simp only [eqR, decide_eq_true_eq]; exact ext_rows (by omega) (fun i hi => h i (by omega))

end Go.Proofs.Ytbgnfjckbjmgbaa
