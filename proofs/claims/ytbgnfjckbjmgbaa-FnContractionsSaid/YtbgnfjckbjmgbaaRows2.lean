/-
  Rows of rows of the call's own, each row in a block of its own: read, extended, changed.
  No condition.
-/
import Derived.Test.YtbgnfjckbjmgbaaPush
import Derived.Test.YtbgnfjckbjmgbaaCheck
import Derived.Test.YtbgnfjckbjmgbaaRowsA
namespace Go.Proofs.Ytbgnfjckbjmgbaa
set_option maxRecDepth 100000
open Go.RowKit

/-- An owned row of numbers, whose block is one of numbers, does not feel a change of another block. -/
theorem OwnC.grown {B : Nat} {w w' : World} {a : Option Addr} {n cap : Nat} {xs : List Int} {row : Option Nat} (h : OwnC B w a n cap xs) (hg : w.grownBy w' row) (hne : ∀ g, a = some ⟨g, 0, none⟩ → row ≠ some g) : OwnC B w' a n cap xs :=
  h.keep fun g ha => hg.block g (h.base_of g ha).2 (fun e => hne g ha e.symm)

/-- Slices in blocks of their own. -/
def Apart (vs : List Value) : Prop := ∀ (i j g n c n' c' : Nat), i ≠ j → vs[i]? = some (Value.slice (some ⟨g, 0, none⟩) n c) → vs[j]? ≠ some (Value.slice (some ⟨g, 0, none⟩) n' c')
theorem apart_nil : Apart [] := fun i j g n c n' c' _ h => by simp at h

/-- Rows of the call's own (from block B on), in a row of the call's own. -/
def OwnR (B : Nat) (w : World) (a : Option Addr) (n cap : Nat) (rows : List (List Int)) : Prop :=
  rows.length = n ∧ ∃ vs : List Value, w.ownsRow B 24 1 (.slice a n cap) n vs ∧ Apart vs ∧
    ∀ i, i < n → ∃ ai ci, vs[i]? = some (.slice ai (nthR rows i).length ci) ∧ OwnC B w ai (nthR rows i).length ci (nthR rows i)

theorem ownsRow_ext {B : Nat} {w w' : World} {e : TypeId} {v : Value} {n : Nat} {vs : List Value} (h : w.ownsRow B e 1 v n vs) (he : Ext w w') : w'.ownsRow B e 1 v n vs := by
  obtain ⟨h2, h3⟩ := h
  refine ⟨h2, ?_⟩
  rcases h3 with h3 | ⟨g, c, cur, hv, hb, hh, h5⟩
  · exact .inl h3
  · exact .inr ⟨g, c, cur, hv, hb, he.heap hh, h5⟩
theorem ownsRow_mono {B B' : Nat} {w : World} {e : TypeId} {v : Value} {n : Nat} {vs : List Value} (h : w.ownsRow B e 1 v n vs) (hb : B' ≤ B) : w.ownsRow B' e 1 v n vs := by
  obtain ⟨h2, h3⟩ := h
  refine ⟨h2, ?_⟩
  rcases h3 with h3 | ⟨g, c, cur, hv, hb1, h5⟩
  · exact .inl h3
  · exact .inr ⟨g, c, cur, hv, Nat.le_trans hb hb1, h5⟩

theorem OwnR.len {B : Nat} {w : World} {a : Option Addr} {n cap : Nat} {rows : List (List Int)} (h : OwnR B w a n cap rows) : rows.length = n := h.1
theorem OwnR.mono {B B' : Nat} {w : World} {a : Option Addr} {n cap : Nat} {rows : List (List Int)} (h : OwnR B w a n cap rows) (hb : B' ≤ B) : OwnR B' w a n cap rows := by
  obtain ⟨h1, vs, h2, h3, h4⟩ := h
  refine ⟨h1, vs, ownsRow_mono h2 hb, h3, fun i hi => ?_⟩
  obtain ⟨ai, ci, h5, h6⟩ := h4 i hi
  exact ⟨ai, ci, h5, h6.mono hb⟩
theorem OwnR.ext {B : Nat} {w w' : World} {a : Option Addr} {n cap : Nat} {rows : List (List Int)} (h : OwnR B w a n cap rows) (he : Ext w w') : OwnR B w' a n cap rows := by
  obtain ⟨h1, vs, h2, h3, h4⟩ := h
  refine ⟨h1, vs, ownsRow_ext h2 he, h3, fun i hi => ?_⟩
  obtain ⟨ai, ci, h5, h6⟩ := h4 i hi
  exact ⟨ai, ci, h5, h6.ext he⟩
theorem OwnR.nil (B : Nat) (w : World) : OwnR B w none 0 0 [] := ⟨rfl, [], World.ownsRow_nil _ _ _ _, apart_nil, fun i hi => by omega⟩
theorem OwnR.base_of {B : Nat} {w : World} {a : Option Addr} {n cap : Nat} {rows : List (List Int)} (h : OwnR B w a n cap rows) : ∀ g, a = some ⟨g, 0, none⟩ → B ≤ g ∧ g < w.heap.size := by
  rintro g rfl
  obtain ⟨_, vs, h2, _⟩ := h
  exact h2.lt g rfl

/-- The outer row, laid open. -/
theorem OwnR.row {B : Nat} {w : World} {a : Option Addr} {n cap : Nat} {rows : List (List Int)} (h : OwnR B w a n cap rows) (hn : 0 < n) :
    ∃ g cur, a = some ⟨g, 0, none⟩ ∧ B ≤ g ∧ g < w.heap.size ∧ w.heap[g]? = some (.cells cur 24 (0, 0)) ∧ ∀ i, i < n → ∃ ai ci, cur[i]? = some (.slice ai (nthR rows i).length ci) ∧ OwnC B w ai (nthR rows i).length ci (nthR rows i) := by
  obtain ⟨h1, vs, ⟨h2, h3⟩, _, h4⟩ := h
  rcases h3 with ⟨_, h3⟩ | ⟨g, c, cur, hv, hb, hh, hc1, hc2, hc3, hc4⟩
  · omega
  · simp only [Value.slice.injEq] at hv
    obtain ⟨rfl, _, rfl⟩ := hv
    have hlt : g < w.heap.size := by
      rcases Nat.lt_or_ge g w.heap.size with h | h
      · exact h
      · rw [Array.getElem?_eq_none h] at hh; cases hh
    refine ⟨g, cur, rfl, hb, hlt, hh, fun i hi => ?_⟩
    obtain ⟨ai, ci, h5, h6⟩ := h4 i hi
    refine ⟨ai, ci, ?_, h6⟩
    rw [← hc4, List.getElem?_take_of_lt (by omega), Array.getElem?_toList] at h5
    exact h5
theorem OwnR.rd {B : Nat} {w : World} {a : Option Addr} {n cap : Nat} {rows : List (List Int)} (h : OwnR B w a n cap rows) : RdR w a n rows := by
  refine ⟨h.1, fun i hi => ?_⟩
  obtain ⟨g, cur, ha, _, _, hh, hc⟩ := h.row (by omega)
  obtain ⟨ai, ci, h5, h6⟩ := hc i hi
  refine ⟨g, 0, ai, ci, ha, ?_, h6.rd⟩
  simp only [World.cell?, hh, Nat.zero_add]
  simpa using h5
/-- One row. -/
theorem OwnR.at {B : Nat} {w : World} {g n cap : Nat} {rows : List (List Int)} (h : OwnR B w (some ⟨g, 0, none⟩) n cap rows) {i : Nat} (hi : i < n) :
    ∃ ai ci, w.cell? ⟨g, i, none⟩ = some (.slice ai (nthR rows i).length ci) ∧ OwnC B w ai (nthR rows i).length ci (nthR rows i) := by
  obtain ⟨g', cur, ha, _, _, hh, hc⟩ := h.row (by omega)
  cases ha
  obtain ⟨ai, ci, h5, h6⟩ := hc i hi
  refine ⟨ai, ci, ?_, h6⟩
  simp only [World.cell?, hh]
  simpa using h5
theorem OwnR.frozen {B : Nat} {w : World} {g n cap : Nat} {rows : List (List Int)} (h : OwnR B w (some ⟨g, 0, none⟩) n cap rows) (j : Nat) : w.frozen? ⟨g, j, none⟩ = false := by
  obtain ⟨_, vs, h2, _⟩ := h
  exact h2.frozenAt j
theorem OwnR.blk {B : Nat} {w : World} {a : Option Addr} {n cap : Nat} {rows : List (List Int)} (h : OwnR B w a n cap rows) : ∀ k, (Value.slice a n cap).ownBlock = some k → B ≤ k := by
  intro k hk
  obtain ⟨_, vs, h2, _⟩ := h
  exact (h2.lt k hk).1
/-- The block of an owned row of numbers is not that of an owned row of rows. -/
theorem own_apart {B B' : Nat} {w : World} {v : Value} {b : Option Addr} {n m c : Nat} {vs : List Value} {xs : List Int} (h : w.ownsRow B 24 1 v n vs) (h' : OwnC B' w b m c xs) : ∀ g, b = some ⟨g, 0, none⟩ → v.ownBlock ≠ some g := by
  rintro g rfl hk
  obtain ⟨_, h3⟩ := h
  rcases h3 with ⟨h3, _⟩ | ⟨g1, c1, cur, hv, hb, hh, _⟩
  · rw [h3] at hk; simp [Value.ownBlock] at hk
  · rw [hv] at hk; simp only [Value.ownBlock, Option.some.injEq] at hk
    subst hk
    rcases h'.2.2 with ⟨h4, _⟩ | ⟨g2, c2, cur2, hv2, _, hh2, _⟩
    · cases h4
    · simp only [Value.slice.injEq, Option.some.injEq, Addr.mk.injEq] at hv2
      obtain ⟨⟨rfl, _⟩, _⟩ := hv2
      rw [hh] at hh2
      simp only [Option.some.injEq, Obj.cells.injEq] at hh2
      exact absurd hh2.2.1 (by decide)
theorem OwnC.setOuter {B B' : Nat} {w : World} {g n cap m c j : Nat} {vs : List Value} {b : Option Addr} {xs : List Int} (h : OwnC B w b m c xs) (ho : w.ownsRow B' 24 1 (.slice (some ⟨g, 0, none⟩) n cap) n vs) (v : Value) : OwnC B (w.setCell ⟨g, j, none⟩ v) b m c xs :=
  h.keep fun k hk => Below.heap_setCell _ _ _ _ (fun e => own_apart ho h k hk (by simp only [Value.ownBlock]; simp only at e; rw [e]))

/-- A store of a new row. -/
theorem OwnR.put {B : Nat} {w0 w : World} {g n cap : Nat} {rows : List (List Int)} {b : Option Addr} {m c : Nat} {xs : List Int} {j : Nat}
    (h : OwnR B w0 (some ⟨g, 0, none⟩) n cap rows) (he : Ext w0 w) (hB : B ≤ w0.heap.size) (hx : OwnC w0.heap.size w b m c xs) (hj : j < n) :
    OwnR B (w.setCell ⟨g, j, none⟩ (.slice b m c)) (some ⟨g, 0, none⟩) n cap (rows.set j xs) := by
  obtain ⟨h1, vs, h2, hap, h4⟩ := h
  have h2' := ownsRow_ext h2 he
  have hvl : vs.length = n := by have := h2.1; omega
  refine ⟨by simpa using h1, vs.set j (.slice b m c), (h2'.stored j _).1, ?_, fun i hi => ?_⟩
  · intro i k g' n1 c1 n2 c2 hik hi hk
    have old : ∀ l n3 c3, l < n → vs[l]? = some (.slice (some ⟨g', 0, none⟩) n3 c3) → g' < w0.heap.size := fun l n3 c3 hl e => by
      obtain ⟨ai, ci, h5, h6⟩ := h4 l hl
      rw [h5] at e
      simp only [Option.some.injEq, Value.slice.injEq] at e
      exact (h6.base_of g' e.1).2
    have lt : ∀ l n3 c3, (vs.set j (.slice b m c))[l]? = some (.slice (some ⟨g', 0, none⟩) n3 c3) → l < n := fun l n3 c3 e => by
      rcases Nat.lt_or_ge l n with h | h
      · exact h
      · rw [List.getElem?_eq_none (by simp; omega)] at e; cases e
    have li := lt _ _ _ hi
    have lk := lt _ _ _ hk
    by_cases hij : j = i
    · subst hij
      rw [List.getElem?_set_self (by omega)] at hi
      simp only [Option.some.injEq, Value.slice.injEq] at hi
      have := (hx.base_of g' hi.1).1
      rw [List.getElem?_set_ne hik] at hk
      have := old k _ _ lk hk
      omega
    · rw [List.getElem?_set_ne hij] at hi
      have h7 := old i _ _ li hi
      by_cases hjk : j = k
      · subst hjk
        rw [List.getElem?_set_self (by omega)] at hk
        simp only [Option.some.injEq, Value.slice.injEq] at hk
        have := (hx.base_of g' hk.1).1
        omega
      · rw [List.getElem?_set_ne hjk] at hk
        exact hap i k g' _ _ _ _ hik hi hk
  · rw [nthR_set (by omega)]
    by_cases hij : j = i
    · subst hij
      rw [if_pos rfl, List.getElem?_set_self (by omega)]
      exact ⟨b, c, by rw [hx.1], by rw [hx.1]; exact (hx.mono hB).setOuter h2' _⟩
    · rw [if_neg hij, List.getElem?_set_ne hij]
      obtain ⟨ai, ci, h5, h6⟩ := h4 i hi
      exact ⟨ai, ci, h5, (h6.ext he).setOuter h2' _⟩

/-- Two rows are exchanged. -/
theorem OwnR.swap {B : Nat} {w : World} {g n cap : Nat} {rows : List (List Int)} {i j : Nat} (h : OwnR B w (some ⟨g, 0, none⟩) n cap rows) (hi : i < n) (hj : j < n) :
    ∃ ai ci aj cj, w.cell? ⟨g, i, none⟩ = some (.slice ai (nthR rows i).length ci) ∧ w.cell? ⟨g, j, none⟩ = some (.slice aj (nthR rows j).length cj) ∧
      OwnC B w ai (nthR rows i).length ci (nthR rows i) ∧ OwnC B w aj (nthR rows j).length cj (nthR rows j) ∧
      OwnR B ((w.setCell ⟨g, i, none⟩ (.slice aj (nthR rows j).length cj)).setCell ⟨g, j, none⟩ (.slice ai (nthR rows i).length ci)) (some ⟨g, 0, none⟩) n cap ((rows.set i (nthR rows j)).set j (nthR rows i)) := by
  obtain ⟨ai, ci, hci, hoi⟩ := h.at hi
  obtain ⟨aj, cj, hcj, hoj⟩ := h.at hj
  refine ⟨ai, ci, aj, cj, hci, hcj, hoi, hoj, ?_⟩
  obtain ⟨h1, vs, h2, hap, h4⟩ := h
  have hvl : vs.length = n := by have := h2.1; omega
  have vi : vs[i]? = some (.slice ai (nthR rows i).length ci) := by rw [← h2.cellAt i (by omega)]; exact hci
  have vj : vs[j]? = some (.slice aj (nthR rows j).length cj) := by rw [← h2.cellAt j (by omega)]; exact hcj
  have h3 := (h2.stored i (.slice aj (nthR rows j).length cj)).1
  have h5 := (h3.stored j (.slice ai (nthR rows i).length ci)).1
  have get : ∀ k, k < n → ((vs.set i (.slice aj (nthR rows j).length cj)).set j (.slice ai (nthR rows i).length ci))[k]? = vs[if k = j then i else if k = i then j else k]? := fun k hk => by
    by_cases hkj : k = j
    · subst hkj; rw [List.getElem?_set_self (by simp; omega), if_pos rfl, vi]
    · rw [List.getElem?_set_ne (Ne.symm hkj), if_neg hkj]
      by_cases hki : k = i
      · subst hki; rw [List.getElem?_set_self (by omega), if_pos rfl, vj]
      · rw [List.getElem?_set_ne (Ne.symm hki), if_neg hki]
  refine ⟨by simpa using h1, _, h5, ?_, fun k hk => ?_⟩
  · intro k l g' n1 c1 n2 c2 hkl hk hl
    have lt : ∀ l n3 c3, ((vs.set i (.slice aj (nthR rows j).length cj)).set j (.slice ai (nthR rows i).length ci))[l]? = some (.slice (some ⟨g', 0, none⟩) n3 c3) → l < n := fun l n3 c3 e => by
      rcases Nat.lt_or_ge l n with h | h
      · exact h
      · rw [List.getElem?_eq_none (by simp; omega)] at e; cases e
    have hk' := lt _ _ _ hk
    have hl' := lt _ _ _ hl
    rw [get k hk'] at hk
    rw [get l hl'] at hl
    refine hap _ _ g' _ _ _ _ ?_ hk hl
    split <;> split <;> (try split) <;> (try split) <;> omega
  · rw [get k hk]
    have e : nthR ((rows.set i (nthR rows j)).set j (nthR rows i)) k = nthR rows (if k = j then i else if k = i then j else k) := by
      rw [nthR_set (by simp; omega)]
      by_cases hkj : k = j
      · subst hkj; simp
      · rw [if_neg (Ne.symm hkj), nthR_set (by omega), if_neg hkj]
        by_cases hki : k = i
        · subst hki; simp
        · rw [if_neg (Ne.symm hki), if_neg hki]
    rw [e]
    obtain ⟨al, cl, h6, h7⟩ := h4 (if k = j then i else if k = i then j else k) (by split <;> (try split) <;> omega)
    exact ⟨al, cl, h6, (h7.setOuter h2 _).setOuter h3 _⟩

/-- The first rows. -/
theorem OwnR.take {B : Nat} {w : World} {a : Option Addr} {n cap : Nat} {rows : List (List Int)} (h : OwnR B w a n cap rows) {k : Nat} (hk : k ≤ n) : OwnR B w a k cap (rows.take k) := by
  obtain ⟨h1, vs, ⟨h2, h3⟩, hap, h4⟩ := h
  refine ⟨by simp; omega, vs.take k, ⟨by simp; omega, ?_⟩, ?_, fun i hi => ?_⟩
  · rcases h3 with ⟨h3, h5⟩ | ⟨g, c, cur, hv, hb, hh, hc1, hc2, hc3, hc4⟩
    · simp only [Value.slice.injEq] at h3
      obtain ⟨rfl, rfl, rfl⟩ := h3
      exact .inl ⟨by rw [show k = 0 by omega], by omega⟩
    · simp only [Value.slice.injEq] at hv
      obtain ⟨rfl, _, rfl⟩ := hv
      refine .inr ⟨g, cap, cur, rfl, hb, hh, by omega, hc2, hc3, ?_⟩
      rw [← hc4, List.take_take, Nat.mul_one, Nat.mul_one, Nat.min_eq_left hk]
  · intro i j g n1 c1 n2 c2 hij hi hj
    rw [List.getElem?_take] at hi hj
    split at hi
    · split at hj
      · exact hap i j g _ _ _ _ hij hi hj
      · cases hj
    · cases hi
  · obtain ⟨ai, ci, h5, h6⟩ := h4 i (by omega)
    have e : nthR (rows.take k) i = nthR rows i := by simp [nthR, hi]
    rw [e]
    exact ⟨ai, ci, by rw [List.getElem?_take_of_lt hi]; exact h5, h6⟩

/-- append of one new row. -/
theorem run_pushR {B : Nat} {w0 w : World} {ra : Option Addr} {n cap : Nat} {rows : List (List Int)} {b : Option Addr} {m c : Nat} {xs : List Int} {g : Nat} (hown : OwnR B w0 ra n cap rows) (he : Ext w0 w) (hc : w.cell? ⟨g, 0, none⟩ = some (.slice b m c)) (hx : OwnC w0.heap.size w b m c xs) (hn : n ≤ 4194304) (hB : B ≤ w0.heap.size) (ty : TypeId) :
    ∃ g' cap' w', (Builtin.append_ #[50, 50] ty #[.slice ra n cap, .slice (some ⟨g, 0, none⟩) 1 1]).run Try.prog w = .ok (.slice (some ⟨g', 0, none⟩) (n + 1) cap') w' ∧
      OwnR B w' (some ⟨g', 0, none⟩) (n + 1) cap' (rows ++ [xs]) ∧ w.grownBy w' (Value.slice ra n cap).ownBlock ∧ (∀ W : World, W.heap.size ≤ B → Ext W w → Ext W w') := by
  obtain ⟨i0, hi, hz0, hz1, hz2⟩ := info_parts Try.infoR
  have hown0 := hown
  obtain ⟨h1, vs, h2, hap, h4⟩ := hown
  have h2' := ownsRow_ext h2 he
  have hvl : vs.length = n := by have := h2.1; omega
  obtain ⟨v', w', hr, h5, h6, _⟩ := run_append_own (P := Try.prog) w B 50 ty 24 i0 (.slice none 0 0) 1 24 Try.underlying50 hi hz0 hz1 hz2 rfl (by decide) (.slice ra n cap) n vs h2'
    ⟨g, 0, none⟩ 1 1 [.slice b m c] rfl (fun j u hj => by
      cases j with
      | zero => simp only [List.getElem?_cons_zero, Option.some.injEq] at hj; subst hj; simpa [Addr.add] using hc
      | succ j => simp at hj) (fun u hu => by simp only [List.mem_singleton] at hu; subst hu; rfl) (by unfold maxLen; omega) (by omega) (Nat.le_trans hB he.size)
  have form : ∃ g cap, v' = .slice (some ⟨g, 0, none⟩) (n + 1) cap := by
    rcases h5.2 with ⟨_, h3⟩ | ⟨g, c, cur, hv, _⟩
    · omega
    · exact ⟨g, c, hv⟩
  obtain ⟨g', cap', rfl⟩ := form
  refine ⟨g', cap', w', hr, ⟨by simp [h1], vs ++ [.slice b m c], h5, ?_, fun i hin => ?_⟩, h6, fun W hW hE => hE.grown h6 fun k hk => Nat.le_trans hW (hown0.blk k hk)⟩
  · intro i k g1 n1 c1 n2 c2 hik hi hk
    have old : ∀ l n3 c3, l < n → vs[l]? = some (.slice (some ⟨g1, 0, none⟩) n3 c3) → g1 < w0.heap.size := fun l n3 c3 hl e => by
      obtain ⟨ai, ci, h5, h6⟩ := h4 l hl
      rw [h5] at e
      simp only [Option.some.injEq, Value.slice.injEq] at e
      exact (h6.base_of g1 e.1).2
    have new : (some (Value.slice b m c)) = some (.slice (some ⟨g1, 0, none⟩) n1 c1) ∨ (some (Value.slice b m c)) = some (.slice (some ⟨g1, 0, none⟩) n2 c2) → w0.heap.size ≤ g1 := fun e => by
      rcases e with e | e
      all_goals
        simp only [Option.some.injEq, Value.slice.injEq] at e
        exact (hx.base_of g1 e.1).1
    rcases Nat.lt_trichotomy i n with li | li | li
    · rw [List.getElem?_append_left (by omega)] at hi
      rcases Nat.lt_trichotomy k n with lk | lk | lk
      · rw [List.getElem?_append_left (by omega)] at hk
        exact hap i k g1 _ _ _ _ hik hi hk
      · rw [lk, ← hvl, List.getElem?_concat_length] at hk
        have := new (.inr hk); have := old i _ _ li hi; omega
      · rw [List.getElem?_eq_none (by simp; omega)] at hk; cases hk
    · rw [li, ← hvl, List.getElem?_concat_length] at hi
      rcases Nat.lt_trichotomy k n with lk | lk | lk
      · rw [List.getElem?_append_left (by omega)] at hk
        have := new (.inl hi); have := old k _ _ lk hk; omega
      · omega
      · rw [List.getElem?_eq_none (by simp; omega)] at hk; cases hk
    · rw [List.getElem?_eq_none (by simp; omega)] at hi; cases hi
  · by_cases hlt : i < n
    · obtain ⟨ai, ci, h7, h8⟩ := h4 i hlt
      have e : nthR (rows ++ [xs]) i = nthR rows i := by simp [nthR, List.getElem?_append_left (show i < rows.length by omega)]
      rw [e]
      exact ⟨ai, ci, by rw [List.getElem?_append_left (by omega)]; exact h7, (h8.ext he).grown h6 (own_apart h2' (h8.ext he))⟩
    · obtain rfl : i = n := by omega
      have e : nthR (rows ++ [xs]) i = xs := by simp [nthR, ← h1]
      rw [e, hx.1]
      exact ⟨b, c, by rw [← hvl]; simp, (hx.mono hB).grown h6 (own_apart h2' hx)⟩

theorem wpList_pushR {ops : Array Oper} {rest : List Oper} {o : Oper} {a : Act} {Q : Exit → Act → World → Prop} {w0 w : World} (hgd : o.guard = none) (s x : Operand)
    (ho : o.op = .call { callee := .builtin .append, args := #[s, x], argTypes := #[50, 50] })
    {B : Nat} {ra : Option Addr} {n cap : Nat} {rows : List (List Int)} {b : Option Addr} {m c : Nat} {xs : List Int} {g : Nat} (hs : a.eval s = .slice ra n cap) (hx : a.eval x = .slice (some ⟨g, 0, none⟩) 1 1)
    (hown : OwnR B w0 ra n cap rows) (he : Ext w0 w) (hxs : OwnC w0.heap.size w b m c xs) (hc : w.cell? ⟨g, 0, none⟩ = some (.slice b m c)) (hn : n ≤ 4194304) (hB : B ≤ w0.heap.size)
    (h : ∀ g' cap' w', OwnR B w' (some ⟨g', 0, none⟩) (n + 1) cap' (rows ++ [xs]) → w.grownBy w' (Value.slice ra n cap).ownBlock → (∀ W : World, W.heap.size ≤ B → Ext W w → Ext W w') →
      wpList Try.prog ops Q rest (a.put o.dst (.slice (some ⟨g', 0, none⟩) (n + 1) cap')) w') : wpList Try.prog ops Q (o :: rest) a w := by
  refine wpList_plain hgd fun K hK => ?_
  obtain ⟨g', cap', w', hr, h1, h2, h3⟩ := run_pushR hown he hc hxs hn hB o.type
  unfold Oper.wp execOp
  simp only [ho, resolve, invoke, builtin, Sem.run_bind, Sem.run_pure, Result.andThen_ok, List.map_toArray, List.map_cons, List.map_nil, hs, hx, hr]
  exact hK _ _ (h g' cap' w' h1 h2 h3)

theorem ownR_empty (w : World) : OwnR w.heap.size (w.alloc (.cells #[] 24)) (some ⟨w.heap.size, 0, none⟩) 0 0 [] := by
  refine ⟨rfl, [], ⟨rfl, .inr ⟨w.heap.size, 0, #[], rfl, Nat.le_refl _, heap_alloc_new w _, Nat.le_refl _, by unfold maxLen; omega, by simp, by simp⟩⟩, apart_nil, fun i hi => by omega⟩

/-- New empty rows. -/
theorem make_rows (w : World) (n : Nat) (hn : n ≤ 4194304) :
    ∃ w', (Instr.makeSlice 50 (.int .i64 (n : Int)) (.int .i64 (n : Int))).run Try.prog w = .ok (.slice (some ⟨w.heap.size, 0, none⟩) n n) w' ∧
      OwnR w.heap.size w' (some ⟨w.heap.size, 0, none⟩) n n (List.replicate n []) ∧ Ext w w' := by
  obtain ⟨i0, hi, hz0, hz1, hz2⟩ := info_parts Try.infoR
  obtain ⟨w', h1, h2, h3⟩ := run_make_full (P := Try.prog) w w.heap.size 50 24 i0 (.slice none 0 0) 1 Try.underlying50 hi hz0 hz1 .i64 .i64 n (by rw [hz2]; omega) (by unfold maxLen; omega) (Nat.le_refl _)
  have e1 : (madeCells (Value.slice none 0 0).cells (n * 1)).toList = List.replicate n (Value.slice none 0 0) := by
    rw [Nat.mul_one]; exact toList_madeCells_one _ _
  rw [e1] at h2
  refine ⟨w', h1, ⟨by simp, _, h2, ?_, fun i hi => ?_⟩, (Ext.refl w).grown h3 (fun k hk => by cases hk)⟩
  · intro i j g n1 c1 n2 c2 _ h
    have := List.mem_of_getElem? h
    simp at this
  · have e : nthR (List.replicate n []) i = [] := by simp [nthR, hi]
    rw [e]
    exact ⟨none, 0, by simp [hi], own_nil _ _⟩

end Go.Proofs.Ytbgnfjckbjmgbaa
