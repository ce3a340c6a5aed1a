/-
  Contracts and plain laws, part 1: Rows2, LawR, LawB, Bits, SpecA, Fac, Prod, Blades, SProd.
  No condition.
-/
import Derived.Test.YtnabpmafcflljaaPart0
/-
  Rows of rows of the call's own, each row in a block of its own: read, extended, changed.
  No condition.
-/
namespace Go.Proofs.Ytnabpmafcflljaa
set_option maxRecDepth 100000
open Go.RowKit

/-- An owned row of numbers, whose block is one of numbers, does not feel a change of another block. -/
theorem OwnC.grown {B : Nat} {w w' : World} {a : Option Addr} {n cap : Nat} {xs : List Int} {row : Option Nat} (h : OwnC B w a n cap xs) (hg : w.grownBy w' row) (hne : ∀ g, a = some ⟨g, 0, none⟩ → row ≠ some g) : OwnC B w' a n cap xs :=
  h.keep fun g ha => hg.block g (h.base_of g ha).2 (fun e => hne g ha e.symm)

/-- Slices in blocks of their own. -/
def Apart (vs : List Value) : Prop := ∀ (i j g n c n' c' : Nat), i ≠ j → vs[i]? = some (Value.slice (some ⟨g, 0, none⟩) n c) → vs[j]? ≠ some (Value.slice (some ⟨g, 0, none⟩) n' c')
theorem apart_nil : Apart [] := fun i j g n c n' c' _ h => by simp at h

/-- Rows of the call's own (from block B on), in a row of the call's own. -/
def OwnR (B : Nat) (w : World) (a : Option Addr) (n cap : Nat) (rows : List (List Int)) : Prop :=
  rows.length = n ∧ ∃ vs : List Value, w.ownsRow B 22 1 (.slice a n cap) n vs ∧ Apart vs ∧
    ∀ i, i < n → ∃ ai ci, vs[i]? = some (.slice ai (nthR rows i).length ci) ∧ OwnC B w ai (nthR rows i).length ci (nthR rows i)

theorem ownsRow_ext {B : Nat} {w w' : World} {e : TypeId} {v : Value} {n : Nat} {vs : List Value} (h : w.ownsRow B e 1 v n vs) (he : Ext w w') : w'.ownsRow B e 1 v n vs := by
  obtain ⟨h2, h3⟩ := h
  refine ⟨h2, ?_⟩
  rcases h3 with h3 | ⟨g, c, cur, hv, hb, hh, h5⟩
  · exact .inl h3
  · exact .inr ⟨g, c, cur, hv, hb, he.heap hh, h5⟩
theorem ownsRow_mono {B B' : Nat} {w : World} {e : TypeId} {v : Value} {n : Nat} {vs : List Value} (h : w.ownsRow B e 1 v n vs) (hb : B' ≤ B) : w.ownsRow B' e 1 v n vs := by
  obtain ⟨h2, h3⟩ := h
  refine ⟨h2, ?_⟩
  rcases h3 with h3 | ⟨g, c, cur, hv, hb1, h5⟩
  · exact .inl h3
  · exact .inr ⟨g, c, cur, hv, Nat.le_trans hb hb1, h5⟩

theorem OwnR.len {B : Nat} {w : World} {a : Option Addr} {n cap : Nat} {rows : List (List Int)} (h : OwnR B w a n cap rows) : rows.length = n := h.1
theorem OwnR.mono {B B' : Nat} {w : World} {a : Option Addr} {n cap : Nat} {rows : List (List Int)} (h : OwnR B w a n cap rows) (hb : B' ≤ B) : OwnR B' w a n cap rows := by
  obtain ⟨h1, vs, h2, h3, h4⟩ := h
  refine ⟨h1, vs, ownsRow_mono h2 hb, h3, fun i hi => ?_⟩
  obtain ⟨ai, ci, h5, h6⟩ := h4 i hi
  exact ⟨ai, ci, h5, h6.mono hb⟩
theorem OwnR.ext {B : Nat} {w w' : World} {a : Option Addr} {n cap : Nat} {rows : List (List Int)} (h : OwnR B w a n cap rows) (he : Ext w w') : OwnR B w' a n cap rows := by
  obtain ⟨h1, vs, h2, h3, h4⟩ := h
  refine ⟨h1, vs, ownsRow_ext h2 he, h3, fun i hi => ?_⟩
  obtain ⟨ai, ci, h5, h6⟩ := h4 i hi
  exact ⟨ai, ci, h5, h6.ext he⟩
theorem OwnR.nil (B : Nat) (w : World) : OwnR B w none 0 0 [] := ⟨rfl, [], World.ownsRow_nil _ _ _ _, apart_nil, fun i hi => by omega⟩
theorem OwnR.base_of {B : Nat} {w : World} {a : Option Addr} {n cap : Nat} {rows : List (List Int)} (h : OwnR B w a n cap rows) : ∀ g, a = some ⟨g, 0, none⟩ → B ≤ g ∧ g < w.heap.size := by
  rintro g rfl
  obtain ⟨_, vs, h2, _⟩ := h
  exact h2.lt g rfl

/-- The outer row, laid open. -/
theorem OwnR.row {B : Nat} {w : World} {a : Option Addr} {n cap : Nat} {rows : List (List Int)} (h : OwnR B w a n cap rows) (hn : 0 < n) :
    ∃ g cur, a = some ⟨g, 0, none⟩ ∧ B ≤ g ∧ g < w.heap.size ∧ w.heap[g]? = some (.cells cur 22 (0, 0)) ∧ ∀ i, i < n → ∃ ai ci, cur[i]? = some (.slice ai (nthR rows i).length ci) ∧ OwnC B w ai (nthR rows i).length ci (nthR rows i) := by
  obtain ⟨h1, vs, ⟨h2, h3⟩, _, h4⟩ := h
  rcases h3 with ⟨_, h3⟩ | ⟨g, c, cur, hv, hb, hh, hc1, hc2, hc3, hc4⟩
  · omega
  · simp only [Value.slice.injEq] at hv
    obtain ⟨rfl, _, rfl⟩ := hv
    have hlt : g < w.heap.size := by
      rcases Nat.lt_or_ge g w.heap.size with h | h
      · exact h
      · rw [Array.getElem?_eq_none h] at hh; cases hh
    refine ⟨g, cur, rfl, hb, hlt, hh, fun i hi => ?_⟩
    obtain ⟨ai, ci, h5, h6⟩ := h4 i hi
    refine ⟨ai, ci, ?_, h6⟩
    rw [← hc4, List.getElem?_take_of_lt (by omega), Array.getElem?_toList] at h5
    exact h5
theorem OwnR.rd {B : Nat} {w : World} {a : Option Addr} {n cap : Nat} {rows : List (List Int)} (h : OwnR B w a n cap rows) : RdR w a n rows := by
  refine ⟨h.1, fun i hi => ?_⟩
  obtain ⟨g, cur, ha, _, _, hh, hc⟩ := h.row (by omega)
  obtain ⟨ai, ci, h5, h6⟩ := hc i hi
  refine ⟨g, 0, ai, ci, ha, ?_, h6.rd⟩
  simp only [World.cell?, hh, Nat.zero_add]
  simpa using h5
/-- One row. -/
theorem OwnR.at {B : Nat} {w : World} {g n cap : Nat} {rows : List (List Int)} (h : OwnR B w (some ⟨g, 0, none⟩) n cap rows) {i : Nat} (hi : i < n) :
    ∃ ai ci, w.cell? ⟨g, i, none⟩ = some (.slice ai (nthR rows i).length ci) ∧ OwnC B w ai (nthR rows i).length ci (nthR rows i) := by
  obtain ⟨g', cur, ha, _, _, hh, hc⟩ := h.row (by omega)
  cases ha
  obtain ⟨ai, ci, h5, h6⟩ := hc i hi
  refine ⟨ai, ci, ?_, h6⟩
  simp only [World.cell?, hh]
  simpa using h5
theorem OwnR.frozen {B : Nat} {w : World} {g n cap : Nat} {rows : List (List Int)} (h : OwnR B w (some ⟨g, 0, none⟩) n cap rows) (j : Nat) : w.frozen? ⟨g, j, none⟩ = false := by
  obtain ⟨_, vs, h2, _⟩ := h
  exact h2.frozenAt j
theorem OwnR.blk {B : Nat} {w : World} {a : Option Addr} {n cap : Nat} {rows : List (List Int)} (h : OwnR B w a n cap rows) : ∀ k, (Value.slice a n cap).ownBlock = some k → B ≤ k := by
  intro k hk
  obtain ⟨_, vs, h2, _⟩ := h
  exact (h2.lt k hk).1
/-- The block of an owned row of numbers is not that of an owned row of rows. -/
theorem own_apart {B B' : Nat} {w : World} {v : Value} {b : Option Addr} {n m c : Nat} {vs : List Value} {xs : List Int} (h : w.ownsRow B 22 1 v n vs) (h' : OwnC B' w b m c xs) : ∀ g, b = some ⟨g, 0, none⟩ → v.ownBlock ≠ some g := by
  rintro g rfl hk
  obtain ⟨_, h3⟩ := h
  rcases h3 with ⟨h3, _⟩ | ⟨g1, c1, cur, hv, hb, hh, _⟩
  · rw [h3] at hk; simp [Value.ownBlock] at hk
  · rw [hv] at hk; simp only [Value.ownBlock, Option.some.injEq] at hk
    subst hk
    rcases h'.2.2 with ⟨h4, _⟩ | ⟨g2, c2, cur2, hv2, _, hh2, _⟩
    · cases h4
    · simp only [Value.slice.injEq, Option.some.injEq, Addr.mk.injEq] at hv2
      obtain ⟨⟨rfl, _⟩, _⟩ := hv2
      rw [hh] at hh2
      simp only [Option.some.injEq, Obj.cells.injEq] at hh2
      exact absurd hh2.2.1 (by decide)
theorem OwnC.setOuter {B B' : Nat} {w : World} {g n cap m c j : Nat} {vs : List Value} {b : Option Addr} {xs : List Int} (h : OwnC B w b m c xs) (ho : w.ownsRow B' 22 1 (.slice (some ⟨g, 0, none⟩) n cap) n vs) (v : Value) : OwnC B (w.setCell ⟨g, j, none⟩ v) b m c xs :=
  h.keep fun k hk => Below.heap_setCell _ _ _ _ (fun e => own_apart ho h k hk (by simp only [Value.ownBlock]; simp only at e; rw [e]))

/-- A store of a new row. -/
theorem OwnR.put {B : Nat} {w0 w : World} {g n cap : Nat} {rows : List (List Int)} {b : Option Addr} {m c : Nat} {xs : List Int} {j : Nat}
    (h : OwnR B w0 (some ⟨g, 0, none⟩) n cap rows) (he : Ext w0 w) (hB : B ≤ w0.heap.size) (hx : OwnC w0.heap.size w b m c xs) (hj : j < n) :
    OwnR B (w.setCell ⟨g, j, none⟩ (.slice b m c)) (some ⟨g, 0, none⟩) n cap (rows.set j xs) := by
  obtain ⟨h1, vs, h2, hap, h4⟩ := h
  have h2' := ownsRow_ext h2 he
  have hvl : vs.length = n := by have := h2.1; omega
  refine ⟨by simpa using h1, vs.set j (.slice b m c), (h2'.stored j _).1, ?_, fun i hi => ?_⟩
  · intro i k g' n1 c1 n2 c2 hik hi hk
    have old : ∀ l n3 c3, l < n → vs[l]? = some (.slice (some ⟨g', 0, none⟩) n3 c3) → g' < w0.heap.size := fun l n3 c3 hl e => by
      obtain ⟨ai, ci, h5, h6⟩ := h4 l hl
      rw [h5] at e
      simp only [Option.some.injEq, Value.slice.injEq] at e
      exact (h6.base_of g' e.1).2
    have lt : ∀ l n3 c3, (vs.set j (.slice b m c))[l]? = some (.slice (some ⟨g', 0, none⟩) n3 c3) → l < n := fun l n3 c3 e => by
      rcases Nat.lt_or_ge l n with h | h
      · exact h
      · rw [List.getElem?_eq_none (by simp; omega)] at e; cases e
    have li := lt _ _ _ hi
    have lk := lt _ _ _ hk
    by_cases hij : j = i
    · subst hij
      rw [List.getElem?_set_self (by omega)] at hi
      simp only [Option.some.injEq, Value.slice.injEq] at hi
      have := (hx.base_of g' hi.1).1
      rw [List.getElem?_set_ne hik] at hk
      have := old k _ _ lk hk
      omega
    · rw [List.getElem?_set_ne hij] at hi
      have h7 := old i _ _ li hi
      by_cases hjk : j = k
      · subst hjk
        rw [List.getElem?_set_self (by omega)] at hk
        simp only [Option.some.injEq, Value.slice.injEq] at hk
        have := (hx.base_of g' hk.1).1
        omega
      · rw [List.getElem?_set_ne hjk] at hk
        exact hap i k g' _ _ _ _ hik hi hk
  · rw [nthR_set (by omega)]
    by_cases hij : j = i
    · subst hij
      rw [if_pos rfl, List.getElem?_set_self (by omega)]
      exact ⟨b, c, by rw [hx.1], by rw [hx.1]; exact (hx.mono hB).setOuter h2' _⟩
    · rw [if_neg hij, List.getElem?_set_ne hij]
      obtain ⟨ai, ci, h5, h6⟩ := h4 i hi
      exact ⟨ai, ci, h5, (h6.ext he).setOuter h2' _⟩

/-- Two rows are exchanged. -/
theorem OwnR.swap {B : Nat} {w : World} {g n cap : Nat} {rows : List (List Int)} {i j : Nat} (h : OwnR B w (some ⟨g, 0, none⟩) n cap rows) (hi : i < n) (hj : j < n) :
    ∃ ai ci aj cj, w.cell? ⟨g, i, none⟩ = some (.slice ai (nthR rows i).length ci) ∧ w.cell? ⟨g, j, none⟩ = some (.slice aj (nthR rows j).length cj) ∧
      OwnC B w ai (nthR rows i).length ci (nthR rows i) ∧ OwnC B w aj (nthR rows j).length cj (nthR rows j) ∧
      OwnR B ((w.setCell ⟨g, i, none⟩ (.slice aj (nthR rows j).length cj)).setCell ⟨g, j, none⟩ (.slice ai (nthR rows i).length ci)) (some ⟨g, 0, none⟩) n cap ((rows.set i (nthR rows j)).set j (nthR rows i)) := by
  obtain ⟨ai, ci, hci, hoi⟩ := h.at hi
  obtain ⟨aj, cj, hcj, hoj⟩ := h.at hj
  refine ⟨ai, ci, aj, cj, hci, hcj, hoi, hoj, ?_⟩
  obtain ⟨h1, vs, h2, hap, h4⟩ := h
  have hvl : vs.length = n := by have := h2.1; omega
  have vi : vs[i]? = some (.slice ai (nthR rows i).length ci) := by rw [← h2.cellAt i (by omega)]; exact hci
  have vj : vs[j]? = some (.slice aj (nthR rows j).length cj) := by rw [← h2.cellAt j (by omega)]; exact hcj
  have h3 := (h2.stored i (.slice aj (nthR rows j).length cj)).1
  have h5 := (h3.stored j (.slice ai (nthR rows i).length ci)).1
  have get : ∀ k, k < n → ((vs.set i (.slice aj (nthR rows j).length cj)).set j (.slice ai (nthR rows i).length ci))[k]? = vs[if k = j then i else if k = i then j else k]? := fun k hk => by
    by_cases hkj : k = j
    · subst hkj; rw [List.getElem?_set_self (by simp; omega), if_pos rfl, vi]
    · rw [List.getElem?_set_ne (Ne.symm hkj), if_neg hkj]
      by_cases hki : k = i
      · subst hki; rw [List.getElem?_set_self (by omega), if_pos rfl, vj]
      · rw [List.getElem?_set_ne (Ne.symm hki), if_neg hki]
  refine ⟨by simpa using h1, _, h5, ?_, fun k hk => ?_⟩
  · intro k l g' n1 c1 n2 c2 hkl hk hl
    have lt : ∀ l n3 c3, ((vs.set i (.slice aj (nthR rows j).length cj)).set j (.slice ai (nthR rows i).length ci))[l]? = some (.slice (some ⟨g', 0, none⟩) n3 c3) → l < n := fun l n3 c3 e => by
      rcases Nat.lt_or_ge l n with h | h
      · exact h
      · rw [List.getElem?_eq_none (by simp; omega)] at e; cases e
    have hk' := lt _ _ _ hk
    have hl' := lt _ _ _ hl
    rw [get k hk'] at hk
    rw [get l hl'] at hl
    refine hap _ _ g' _ _ _ _ ?_ hk hl
    split <;> split <;> (try split) <;> (try split) <;> omega
  · rw [get k hk]
    have e : nthR ((rows.set i (nthR rows j)).set j (nthR rows i)) k = nthR rows (if k = j then i else if k = i then j else k) := by
      rw [nthR_set (by simp; omega)]
      by_cases hkj : k = j
      · subst hkj; simp
      · rw [if_neg (Ne.symm hkj), nthR_set (by omega), if_neg hkj]
        by_cases hki : k = i
        · subst hki; simp
        · rw [if_neg (Ne.symm hki), if_neg hki]
    rw [e]
    obtain ⟨al, cl, h6, h7⟩ := h4 (if k = j then i else if k = i then j else k) (by split <;> (try split) <;> omega)
    exact ⟨al, cl, h6, (h7.setOuter h2 _).setOuter h3 _⟩

/-- The first rows. -/
theorem OwnR.take {B : Nat} {w : World} {a : Option Addr} {n cap : Nat} {rows : List (List Int)} (h : OwnR B w a n cap rows) {k : Nat} (hk : k ≤ n) : OwnR B w a k cap (rows.take k) := by
  obtain ⟨h1, vs, ⟨h2, h3⟩, hap, h4⟩ := h
  refine ⟨by simp; omega, vs.take k, ⟨by simp; omega, ?_⟩, ?_, fun i hi => ?_⟩
  · rcases h3 with ⟨h3, h5⟩ | ⟨g, c, cur, hv, hb, hh, hc1, hc2, hc3, hc4⟩
    · simp only [Value.slice.injEq] at h3
      obtain ⟨rfl, rfl, rfl⟩ := h3
      exact .inl ⟨by rw [show k = 0 by omega], by omega⟩
    · simp only [Value.slice.injEq] at hv
      obtain ⟨rfl, _, rfl⟩ := hv
      refine .inr ⟨g, cap, cur, rfl, hb, hh, by omega, hc2, hc3, ?_⟩
      rw [← hc4, List.take_take, Nat.mul_one, Nat.mul_one, Nat.min_eq_left hk]
  · intro i j g n1 c1 n2 c2 hij hi hj
    rw [List.getElem?_take] at hi hj
    split at hi
    · split at hj
      · exact hap i j g _ _ _ _ hij hi hj
      · cases hj
    · cases hi
  · obtain ⟨ai, ci, h5, h6⟩ := h4 i (by omega)
    have e : nthR (rows.take k) i = nthR rows i := by simp [nthR, hi]
    rw [e]
    exact ⟨ai, ci, by rw [List.getElem?_take_of_lt hi]; exact h5, h6⟩

/-- append of one new row. -/
theorem run_pushR {B : Nat} {w0 w : World} {ra : Option Addr} {n cap : Nat} {rows : List (List Int)} {b : Option Addr} {m c : Nat} {xs : List Int} {g : Nat} (hown : OwnR B w0 ra n cap rows) (he : Ext w0 w) (hc : w.cell? ⟨g, 0, none⟩ = some (.slice b m c)) (hx : OwnC w0.heap.size w b m c xs) (hn : n ≤ 4194304) (hB : B ≤ w0.heap.size) (ty : TypeId) :
    ∃ g' cap' w', (Builtin.append_ #[25, 25] ty #[.slice ra n cap, .slice (some ⟨g, 0, none⟩) 1 1]).run Try.prog w = .ok (.slice (some ⟨g', 0, none⟩) (n + 1) cap') w' ∧
      OwnR B w' (some ⟨g', 0, none⟩) (n + 1) cap' (rows ++ [xs]) ∧ w.grownBy w' (Value.slice ra n cap).ownBlock ∧ (∀ W : World, W.heap.size ≤ B → Ext W w → Ext W w') := by
  obtain ⟨i0, hi, hz0, hz1, hz2⟩ := info_parts Try.infoR
  have hown0 := hown
  obtain ⟨h1, vs, h2, hap, h4⟩ := hown
  have h2' := ownsRow_ext h2 he
  have hvl : vs.length = n := by have := h2.1; omega
  obtain ⟨v', w', hr, h5, h6, _⟩ := run_append_own (P := Try.prog) w B 25 ty 22 i0 (.slice none 0 0) 1 24 Try.underlying25 hi hz0 hz1 hz2 rfl (by decide) (.slice ra n cap) n vs h2'
    ⟨g, 0, none⟩ 1 1 [.slice b m c] rfl (fun j u hj => by
      cases j with
      | zero => simp only [List.getElem?_cons_zero, Option.some.injEq] at hj; subst hj; simpa [Addr.add] using hc
      | succ j => simp at hj) (fun u hu => by simp only [List.mem_singleton] at hu; subst hu; rfl) (by unfold maxLen; omega) (by omega) (Nat.le_trans hB he.size)
  have form : ∃ g cap, v' = .slice (some ⟨g, 0, none⟩) (n + 1) cap := by
    rcases h5.2 with ⟨_, h3⟩ | ⟨g, c, cur, hv, _⟩
    · omega
    · exact ⟨g, c, hv⟩
  obtain ⟨g', cap', rfl⟩ := form
  refine ⟨g', cap', w', hr, ⟨by simp [h1], vs ++ [.slice b m c], h5, ?_, fun i hin => ?_⟩, h6, fun W hW hE => hE.grown h6 fun k hk => Nat.le_trans hW (hown0.blk k hk)⟩
  · intro i k g1 n1 c1 n2 c2 hik hi hk
    have old : ∀ l n3 c3, l < n → vs[l]? = some (.slice (some ⟨g1, 0, none⟩) n3 c3) → g1 < w0.heap.size := fun l n3 c3 hl e => by
      obtain ⟨ai, ci, h5, h6⟩ := h4 l hl
      rw [h5] at e
      simp only [Option.some.injEq, Value.slice.injEq] at e
      exact (h6.base_of g1 e.1).2
    have new : (some (Value.slice b m c)) = some (.slice (some ⟨g1, 0, none⟩) n1 c1) ∨ (some (Value.slice b m c)) = some (.slice (some ⟨g1, 0, none⟩) n2 c2) → w0.heap.size ≤ g1 := fun e => by
      rcases e with e | e
      all_goals
        simp only [Option.some.injEq, Value.slice.injEq] at e
        exact (hx.base_of g1 e.1).1
    rcases Nat.lt_trichotomy i n with li | li | li
    · rw [List.getElem?_append_left (by omega)] at hi
      rcases Nat.lt_trichotomy k n with lk | lk | lk
      · rw [List.getElem?_append_left (by omega)] at hk
        exact hap i k g1 _ _ _ _ hik hi hk
      · rw [lk, ← hvl, List.getElem?_concat_length] at hk
        have := new (.inr hk); have := old i _ _ li hi; omega
      · rw [List.getElem?_eq_none (by simp; omega)] at hk; cases hk
    · rw [li, ← hvl, List.getElem?_concat_length] at hi
      rcases Nat.lt_trichotomy k n with lk | lk | lk
      · rw [List.getElem?_append_left (by omega)] at hk
        have := new (.inl hi); have := old k _ _ lk hk; omega
      · omega
      · rw [List.getElem?_eq_none (by simp; omega)] at hk; cases hk
    · rw [List.getElem?_eq_none (by simp; omega)] at hi; cases hi
  · by_cases hlt : i < n
    · obtain ⟨ai, ci, h7, h8⟩ := h4 i hlt
      have e : nthR (rows ++ [xs]) i = nthR rows i := by simp [nthR, List.getElem?_append_left (show i < rows.length by omega)]
      rw [e]
      exact ⟨ai, ci, by rw [List.getElem?_append_left (by omega)]; exact h7, (h8.ext he).grown h6 (own_apart h2' (h8.ext he))⟩
    · obtain rfl : i = n := by omega
      have e : nthR (rows ++ [xs]) i = xs := by simp [nthR, ← h1]
      rw [e, hx.1]
      exact ⟨b, c, by rw [← hvl]; simp, (hx.mono hB).grown h6 (own_apart h2' hx)⟩

theorem wpList_pushR {ops : Array Oper} {rest : List Oper} {o : Oper} {a : Act} {Q : Exit → Act → World → Prop} {w0 w : World} (hgd : o.guard = none) (s x : Operand)
    (ho : o.op = .call { callee := .builtin .append, args := #[s, x], argTypes := #[25, 25] })
    {B : Nat} {ra : Option Addr} {n cap : Nat} {rows : List (List Int)} {b : Option Addr} {m c : Nat} {xs : List Int} {g : Nat} (hs : a.eval s = .slice ra n cap) (hx : a.eval x = .slice (some ⟨g, 0, none⟩) 1 1)
    (hown : OwnR B w0 ra n cap rows) (he : Ext w0 w) (hxs : OwnC w0.heap.size w b m c xs) (hc : w.cell? ⟨g, 0, none⟩ = some (.slice b m c)) (hn : n ≤ 4194304) (hB : B ≤ w0.heap.size)
    (h : ∀ g' cap' w', OwnR B w' (some ⟨g', 0, none⟩) (n + 1) cap' (rows ++ [xs]) → w.grownBy w' (Value.slice ra n cap).ownBlock → (∀ W : World, W.heap.size ≤ B → Ext W w → Ext W w') →
      wpList Try.prog ops Q rest (a.put o.dst (.slice (some ⟨g', 0, none⟩) (n + 1) cap')) w') : wpList Try.prog ops Q (o :: rest) a w := by
  refine wpList_plain hgd fun K hK => ?_
  obtain ⟨g', cap', w', hr, h1, h2, h3⟩ := run_pushR hown he hc hxs hn hB o.type
  unfold Oper.wp execOp
  simp only [ho, resolve, invoke, builtin, Sem.run_bind, Sem.run_pure, Result.andThen_ok, List.map_toArray, List.map_cons, List.map_nil, hs, hx, hr]
  exact hK _ _ (h g' cap' w' h1 h2 h3)

theorem ownR_empty (w : World) : OwnR w.heap.size (w.alloc (.cells #[] 22)) (some ⟨w.heap.size, 0, none⟩) 0 0 [] := by
  refine ⟨rfl, [], ⟨rfl, .inr ⟨w.heap.size, 0, #[], rfl, Nat.le_refl _, heap_alloc_new w _, Nat.le_refl _, by unfold maxLen; omega, by simp, by simp⟩⟩, apart_nil, fun i hi => by omega⟩

/-- New empty rows. -/
theorem make_rows (w : World) (n : Nat) (hn : n ≤ 4194304) :
    ∃ w', (Instr.makeSlice 25 (.int .i64 (n : Int)) (.int .i64 (n : Int))).run Try.prog w = .ok (.slice (some ⟨w.heap.size, 0, none⟩) n n) w' ∧
      OwnR w.heap.size w' (some ⟨w.heap.size, 0, none⟩) n n (List.replicate n []) ∧ Ext w w' := by
  obtain ⟨i0, hi, hz0, hz1, hz2⟩ := info_parts Try.infoR
  obtain ⟨w', h1, h2, h3⟩ := run_make_full (P := Try.prog) w w.heap.size 25 22 i0 (.slice none 0 0) 1 Try.underlying25 hi hz0 hz1 .i64 .i64 n (by rw [hz2]; omega) (by unfold maxLen; omega) (Nat.le_refl _)
  have e1 : (madeCells (Value.slice none 0 0).cells (n * 1)).toList = List.replicate n (Value.slice none 0 0) := by
    rw [Nat.mul_one]; exact toList_madeCells_one _ _
  rw [e1] at h2
  refine ⟨w', h1, ⟨by simp, _, h2, ?_, fun i hi => ?_⟩, (Ext.refl w).grown h3 (fun k hk => by cases hk)⟩
  · intro i j g n1 c1 n2 c2 _ h
    have := List.mem_of_getElem? h
    simp at this
  · have e : nthR (List.replicate n []) i = [] := by simp [nthR, hi]
    rw [e]
    exact ⟨none, 0, by simp [hi], own_nil _ _⟩

end Go.Proofs.Ytnabpmafcflljaa

/-
  Objects of a law in memory: rows of rows in blocks of a range, and writes into a range.
  No condition.
-/
namespace Go.Proofs.Ytnabpmafcflljaa
set_option maxRecDepth 100000
open Go.RowKit

/-- Rows of rows, all in blocks from lo on and below hi. -/
def OwnRH (lo hi : Nat) (w : World) (a : Option Addr) (n cap : Nat) (rows : List (List Int)) : Prop :=
  rows.length = n ∧ (∀ g, a = some ⟨g, 0, none⟩ → g < hi) ∧ ∃ vs : List Value, w.ownsRow lo 22 1 (.slice a n cap) n vs ∧ Apart vs ∧
    ∀ i, i < n → ∃ ai ci, vs[i]? = some (.slice ai (nthR rows i).length ci) ∧ OwnC lo w ai (nthR rows i).length ci (nthR rows i) ∧ ∀ g, ai = some ⟨g, 0, none⟩ → g < hi
theorem OwnR.high {B : Nat} {w : World} {a : Option Addr} {n cap : Nat} {rows : List (List Int)} (h : OwnR B w a n cap rows) : OwnRH B w.heap.size w a n cap rows := by
  have hb := h.base_of
  obtain ⟨h1, vs, h2, h3, h4⟩ := h
  refine ⟨h1, fun g hg => (hb g hg).2, vs, h2, h3, fun i hi => ?_⟩
  obtain ⟨ai, ci, h5, h6⟩ := h4 i hi
  exact ⟨ai, ci, h5, h6, fun g hg => (h6.base_of g hg).2⟩
theorem OwnRH.low {lo hi : Nat} {w : World} {a : Option Addr} {n cap : Nat} {rows : List (List Int)} (h : OwnRH lo hi w a n cap rows) : OwnR lo w a n cap rows := by
  obtain ⟨h1, _, vs, h2, h3, h4⟩ := h
  refine ⟨h1, vs, h2, h3, fun i hi => ?_⟩
  obtain ⟨ai, ci, h5, h6, _⟩ := h4 i hi
  exact ⟨ai, ci, h5, h6⟩
theorem OwnRH.ext {lo hi : Nat} {w w' : World} {a : Option Addr} {n cap : Nat} {rows : List (List Int)} (h : OwnRH lo hi w a n cap rows) (he : Ext w w') : OwnRH lo hi w' a n cap rows := by
  obtain ⟨h1, h0, vs, h2, h3, h4⟩ := h
  refine ⟨h1, h0, vs, ownsRow_ext h2 he, h3, fun i hi => ?_⟩
  obtain ⟨ai, ci, h5, h6, h7⟩ := h4 i hi
  exact ⟨ai, ci, h5, h6.ext he, h7⟩

/-- The world has been extended, and blocks from lo on below hi may have been written. -/
structure WroteIn (lo hi : Nat) (w w' : World) : Prop where
  size : w.heap.size ≤ w'.heap.size
  os : w'.os = w.os
  tape : w'.tape = w.tape
  output : w'.output = w.output
  block : ∀ k, k < w.heap.size → (k < lo ∨ hi ≤ k) → w'.heap[k]? = w.heap[k]?
theorem WroteIn.refl (lo hi : Nat) (w : World) : WroteIn lo hi w w := ⟨Nat.le_refl _, rfl, rfl, rfl, fun _ _ _ => rfl⟩
theorem WroteIn.trans {lo hi : Nat} {a b c : World} (h : WroteIn lo hi a b) (k : WroteIn lo hi b c) : WroteIn lo hi a c :=
  ⟨Nat.le_trans h.size k.size, k.os.trans h.os, k.tape.trans h.tape, k.output.trans h.output, fun i hi hr => (k.block i (Nat.lt_of_lt_of_le hi h.size) hr).trans (h.block i hi hr)⟩
theorem WroteIn.ofExt {lo hi : Nat} {a b : World} (h : Ext a b) : WroteIn lo hi a b := ⟨h.size, h.os, h.tape, h.output, fun i hi _ => h.block i hi⟩
theorem Wrote.inR {lo hi : Nat} {w w' : World} {a : Option Addr} (h : Wrote w w' a) (hd : ∀ g, a = some ⟨g, 0, none⟩ → lo ≤ g ∧ g < hi) : WroteIn lo hi w w' :=
  ⟨h.1, h.2.1, h.2.2.1, h.2.2.2.1, fun k hk hr => h.2.2.2.2 k hk fun g hg e => by have := hd g hg; omega⟩
theorem WroteIn.ext {lo hi : Nat} {B w w' : World} (h : WroteIn lo hi w w') (hb : Ext B w) (hl : B.heap.size ≤ lo) : Ext B w' :=
  hb.trans' ⟨h.os, h.tape, h.output, h.size, fun k hk => h.block k (Nat.lt_of_lt_of_le hk hb.size) (.inl (by omega))⟩
theorem WroteIn.cell {lo hi : Nat} {w w' : World} (h : WroteIn lo hi w w') {p : Addr} {v : Value} (hc : w.cell? p = some v) (hn : p.block < lo ∨ hi ≤ p.block) : w'.cell? p = some v := by
  rw [World.cell?_of_block (w := w) (h.block p.block (lt_of_cell hc) hn)]
  exact hc
theorem WroteIn.own {lo hi B : Nat} {w w' : World} {b : Option Addr} {n cap : Nat} {xs : List Int} (h : WroteIn lo hi w w') (ho : OwnC B w b n cap xs) (hd : ∀ g, b = some ⟨g, 0, none⟩ → g < lo ∨ hi ≤ g) : OwnC B w' b n cap xs :=
  ho.keep fun g hg => h.block g (ho.base_of g hg).2 (hd g hg)
theorem WroteIn.ownR {lo hi lo' hi' : Nat} {w w' : World} {b : Option Addr} {n cap : Nat} {rows : List (List Int)} (h : WroteIn lo hi w w') (ho : OwnRH lo' hi' w b n cap rows) (hd : hi' ≤ lo ∨ hi ≤ lo') : OwnRH lo' hi' w' b n cap rows := by
  have hb := ho.low.base_of
  obtain ⟨h1, h0, vs, h2, h3, h4⟩ := ho
  have ow : w'.ownsRow lo' 22 1 (.slice b n cap) n vs := by
    obtain ⟨h5, h6⟩ := h2
    refine ⟨h5, ?_⟩
    rcases h6 with h6 | ⟨g, c, cur, hv, hg, hh, h7⟩
    · exact .inl h6
    · refine .inr ⟨g, c, cur, hv, hg, ?_, h7⟩
      simp only [Value.slice.injEq] at hv
      have := hb g hv.1
      have := h0 g hv.1
      rw [h.block g (by omega) (by omega)]; exact hh
  refine ⟨h1, h0, vs, ow, h3, fun i hi => ?_⟩
  obtain ⟨ai, ci, h5, h6, h7⟩ := h4 i hi
  refine ⟨ai, ci, h5, h.own h6 fun g hg => ?_, h7⟩
  have := h7 g hg
  have := (h6.base_of g hg).1
  omega

/-- One row of the rows is written in its place. -/
theorem OwnRH.atRow {lo hi : Nat} {w : World} {a : Option Addr} {n cap : Nat} {rows : List (List Int)} (h : OwnRH lo hi w a n cap rows) {i : Nat} (hi' : i < n) :
    ∃ b off ai ci, a = some ⟨b, off, none⟩ ∧ w.cell? ⟨b, off + i, none⟩ = some (.slice ai (nthR rows i).length ci) ∧ OwnC lo w ai (nthR rows i).length ci (nthR rows i) ∧ (∀ g, ai = some ⟨g, 0, none⟩ → lo ≤ g ∧ g < hi) ∧
      ∀ w' xs, xs.length = (nthR rows i).length → Wrote w w' ai → OwnC lo w' ai (nthR rows i).length ci xs → OwnRH lo hi w' a n cap (rows.set i xs) := by
  have hb := h.low.base_of
  obtain ⟨g, cur, rfl, _⟩ := h.low.row (by omega)
  obtain ⟨h1, h0, vs, h2, h3, h4⟩ := h
  obtain ⟨ai, ci, h5, h6, h7⟩ := h4 i hi'
  have hvl : vs.length = n := by have := h2.1; omega
  refine ⟨g, 0, ai, ci, rfl, ?_, h6, fun k hk => ⟨(h6.base_of k hk).1, h7 k hk⟩, fun w' xs hxl hw ho => ?_⟩
  · rw [Nat.zero_add, h2.cellAt i (by omega)]; exact h5
  · have hn : ∀ g', ai = some ⟨g', 0, none⟩ → g ≠ g' := fun g' hg' e => by
      subst e
      exact own_apart h2 h6 g hg' rfl
    have ow : w'.ownsRow lo 22 1 (.slice (some ⟨g, 0, none⟩) n cap) n vs := by
      obtain ⟨h8, h9⟩ := h2
      refine ⟨h8, ?_⟩
      rcases h9 with h9 | ⟨g', c, cur, hv, hg, hh, h10⟩
      · exact .inl h9
      · refine .inr ⟨g', c, cur, hv, hg, ?_, h10⟩
        simp only [Value.slice.injEq, Option.some.injEq, Addr.mk.injEq] at hv
        obtain ⟨⟨rfl, _⟩, _⟩ := hv
        have := hb g rfl
        rw [hw.2.2.2.2 g (by omega) (fun g' hg' => hn g' hg')]; exact hh
    refine ⟨by simpa using h1, h0, vs, ow, h3, fun j hj => ?_⟩
    rw [nthR_set (by omega)]
    by_cases hij : i = j
    · subst hij
      rw [if_pos rfl, hxl]
      exact ⟨ai, ci, h5, ho, h7⟩
    · rw [if_neg hij]
      obtain ⟨aj, cj, h8, h9, h10⟩ := h4 j hj
      refine ⟨aj, cj, h8, hw.own h9 fun g' hg' e => ?_, h10⟩
      subst hg'
      subst e
      exact h3 i j g' _ _ _ _ hij h5 h8

/-! ### Numbers of places, marks, sizes -/
def cntR (rows : List (List Int)) : Nat → Nat
  | 0 => 0
  | j + 1 => cntR rows j + (nthR rows j).length
theorem cntR_mono (rows : List (List Int)) (i : Nat) : ∀ j, cntR rows i ≤ cntR rows (i + j)
  | 0 => Nat.le_refl _
  | j + 1 => Nat.le_trans (cntR_mono rows i j) (Nat.le_add_right _ _)
theorem cntR_le (rows : List (List Int)) {i j : Nat} (h : i ≤ j) : cntR rows i ≤ cntR rows j := by
  have := cntR_mono rows i (j - i)
  rwa [Nat.add_sub_cancel' h] at this
theorem cntR_row (rows : List (List Int)) {i n : Nat} (h : i < n) : (nthR rows i).length ≤ cntR rows n := by
  have : cntR rows (i + 1) ≤ cntR rows n := cntR_le rows h
  have e : cntR rows (i + 1) = cntR rows i + (nthR rows i).length := rfl
  omega
/-- Marks in rows. -/
def markR (k : Int) (rows : List (List Int)) (n : Nat) : List (List Int) := (List.range n).map fun j => marks (k + cntR rows j) (nthR rows j).length
theorem markR_len (k : Int) (rows : List (List Int)) (n : Nat) : (markR k rows n).length = n := by simp [markR]
theorem markR_nth {k : Int} {rows : List (List Int)} {n j : Nat} (h : j < n) : nthR (markR k rows n) j = marks (k + cntR rows j) (nthR rows j).length := by
  unfold markR; rw [nthR_map (by simpa using h)]; simp
theorem markR_sum {k : Int} {rows : List (List Int)} {n : Nat} : ∀ j, j ≤ n → cntR (markR k rows n) j = cntR rows j
  | 0, _ => rfl
  | j + 1, h => by
    show cntR (markR k rows n) j + _ = cntR rows j + _
    rw [markR_sum j (by omega), markR_nth (by omega), marks_len]

def szK (left : Int) (rows : List (List Int)) (n j : Nat) : Int := left - (n : Int) - (cntR rows j : Int)
/-- What is left when rows have been counted, or -1. -/
def szR (left : Int) (rows : List (List Int)) : Int := if szK left rows rows.length rows.length < 0 then -1 else szK left rows rows.length rows.length
theorem szR_neg {left : Int} {rows : List (List Int)} {n j : Nat} (hn : rows.length = n) (hj : j ≤ n) (h : szK left rows n j < 0) : szR left rows = -1 := by
  unfold szR
  have : szK left rows rows.length rows.length ≤ szK left rows n j := by
    subst hn
    unfold szK
    have := cntR_le rows hj
    omega
  rw [if_pos (by omega)]
theorem szR_pos {left : Int} {rows : List (List Int)} {n : Nat} (hn : rows.length = n) (h : 0 ≤ szK left rows n n) : szR left rows = szK left rows n n := by
  subst hn
  unfold szR
  rw [if_neg (by omega)]
theorem szR_bd {left : Int} {rows : List (List Int)} (h : 0 ≤ szR left rows) : (rows.length : Int) + cntR rows rows.length ≤ left := by
  unfold szR at h
  split at h
  · omega
  · rename_i h'
    unfold szK at h'
    omega
theorem szR_le {left : Int} {rows : List (List Int)} (h : 0 ≤ szR left rows) : szR left rows ≤ left := by
  unfold szR at h ⊢
  split
  · rename_i h'
    rw [if_pos h'] at h; omega
  · unfold szK; omega
theorem szR_lt {left : Int} {rows : List (List Int)} (h : szR left rows < 0) : szR left rows = -1 := by
  unfold szR at h ⊢
  split
  · rfl
  · rename_i h'
    rw [if_neg h'] at h
    omega
def eqR (xs ys : List (List Int)) : Bool := decide (xs = ys)
theorem eqR_self (xs : List (List Int)) : eqR xs xs = true := by simp [eqR]
theorem eqR_len {xs ys : List (List Int)} (h : xs.length ≠ ys.length) : eqR xs ys = false := by
  simp only [eqR, decide_eq_false_iff_not]; intro he; exact h (by rw [he])
theorem eqR_nth {xs ys : List (List Int)} {k : Nat} (h : nthR xs k ≠ nthR ys k) : eqR xs ys = false := by
  simp only [eqR, decide_eq_false_iff_not]; intro he; exact h (by rw [he])
theorem eqR_all {xs ys : List (List Int)} {n : Nat} (hx : xs.length = n) (hy : ys.length = n) (h : ∀ j, j < n → nthR xs j = nthR ys j) : eqR xs ys = true := by
  simp only [eqR, decide_eq_true_eq]; exact ext_rows (by omega) (fun i hi => h i (by omega))

end Go.Proofs.Ytnabpmafcflljaa

/-
  Contracts: the helpers of the exact laws for slices of slices: sizes, copies, comparisons, marks.
  No condition.
-/
namespace Go.Proofs.Ytnabpmafcflljaa
set_option maxRecDepth 100000
open Go.RowKit

set_option maxHeartbeats 1000000 in
theorem l_szRows (a : Option Addr) (n cap : Nat) (rows : List (List Int)) (left : Int) (w : World) (h0 : 0 ≤ left) (h1 : left ≤ 1048576) (hm : n ≤ maxLen) (hmr : ∀ i, i < n → (nthR rows i).length ≤ maxLen) (hx : RdR w a n rows) :
    Calls Try.prog 9 #[.slice a n cap, .int .i64 left] w fun e w' => e = .returned (.int .i64 (szR left rows)) ∧ Ext w w' := by
  have HMR := Lib.hid hmr
  have HX := Lib.hid hx
  clear hmr hx
  by_cases hneg : left - (n : Int) < 0
  · have HS := Lib.hid (szR_neg (left := left) HX.out.1 (Nat.zero_le n) (by simpa [szK, cntR] using hneg))
    unfold maxLen at hm
    go_enter Try.func9, Try.ntmps9
    go_wp2_with (fail)
    go_ret
    exact ⟨ret_int HS.out.symm, Ext.refl _⟩
  · have hm' := hm
    unfold maxLen at hm'
    have hz0 : szK left rows n 0 = left - (n : Int) := by simp [szK, cntR]
    have HZ0 := Lib.hid hz0
    clear hz0
    go_enter Try.func9, Try.ntmps9
    go_wp2_with (fail)
    go_loopw [1, 5] (fun l i wr => ∃ (k : Nat) (z : Int), k ≤ n ∧ i = .int .i64 k ∧ l = .int .i64 z ∧ 0 ≤ z ∧ z ≤ 1048576 ∧ Hid (z = szK left rows n k) ∧ Ext w wr) (fun _ i _ => n - (intOf i).toNat)
    case atStart => exact ⟨0, _, Nat.zero_le _, rfl, rfl, by omega, by omega, Lib.hid HZ0.out.symm, Ext.refl _⟩
    case round =>
      obtain ⟨k, z, hk, rfl, rfl, hz, hz2, HZ, hext⟩ := hrel
      have HExt := Lib.hid hext
      clear hext
      by_cases hlt : k < n
      · obtain ⟨b, off, ai, ci, rfl, hc, hri⟩ := HX.out.2 k hlt
        have hml := HMR.out k hlt
        have hc' := HExt.out.cell hc
        have e1 : szK left rows n (k + 1) = z - ((nthR rows k).length : Int) := by
          rw [HZ.out]; unfold szK; simp only [cntR]; omega
        have E1 := Lib.hid e1
        clear hc hri e1
        by_cases hn2 : z - ((nthR rows k).length : Int) < 0
        · have HS := Lib.hid (szR_neg (left := left) HX.out.1 (show k + 1 ≤ n by omega) (by rw [E1.out]; exact hn2))
          have HN := Lib.hid (szN_neg hn2)
          go_wp2_with (go_at_call 30; refine (l_sz _ _ _ _ _ hz hz2 hml).mono ?_; rintro e w1 ⟨rfl, g1⟩; rw [HN.out])
          go_ret
          exact ⟨ret_int HS.out.symm, HExt.out.trans g1⟩
        · have HN := Lib.hid (szN_pos (left := z) (n := (nthR rows k).length) (by omega))
          go_wp2_with (go_at_call 30; refine (l_sz _ _ _ _ _ hz hz2 hml).mono ?_; rintro e w1 ⟨rfl, g1⟩; rw [HN.out])
          go_roundw
          case rel => exact ⟨k + 1, _, by omega, by go_num, rfl, by omega, by omega, Lib.hid E1.out.symm, HExt.out.trans g1⟩
          case measure => simp [intOf]; omega
      · have hkn : k = n := by omega
        subst hkn
        have HS := Lib.hid (szR_pos (left := left) HX.out.1 (by rw [← HZ.out]; exact hz))
        go_wp2_with (fail)
        go_ret
        exact ⟨ret_int (by rw [HS.out, HZ.out]), HExt.out⟩

set_option maxHeartbeats 1000000 in
theorem l_toRows (a : Option Addr) (n cap : Nat) (rows : List (List Int)) (w : World) (hl : n ≤ 4194304) (hr : ∀ i, i < n → (nthR rows i).length ≤ 4194304) (hx : RdR w a n rows) :
    Calls Try.prog 12 #[.slice a n cap] w fun e w' => ∃ g, e = .returned (.slice (some ⟨g, 0, none⟩) n n) ∧ OwnR w.heap.size w' (some ⟨g, 0, none⟩) n n rows ∧ Ext w w' := by
  obtain ⟨w0, hmk, hown0, hext0⟩ := make_rows w n hl
  have HX := Lib.hid hx.2
  have HN := Lib.hid hx.1
  have HR := Lib.hid hr
  clear hx hr
  obtain ⟨g, hg⟩ : ∃ g, g = w.heap.size := ⟨_, rfl⟩
  rw [← hg] at hmk
  have HOwn0 := Lib.hid hown0
  have HExt0 := Lib.hid hext0
  clear hown0 hext0
  have hge : w.heap.size ≤ g := by omega
  have HG := Lib.hid hg
  clear hg
  go_enter Try.func12, Try.ntmps12
  go_wp2_with (fail)
  go_loopw [4] (fun i wr => ∃ (k : Nat) (ys : List (List Int)), k ≤ n ∧ i = .int .i64 k ∧ OwnR w.heap.size wr (some ⟨g, 0, none⟩) n n ys ∧ Hid (∀ j, j < k → nthR ys j = nthR rows j) ∧ Ext w wr) (fun i _ => n - (intOf i).toNat)
  case atStart => exact ⟨0, List.replicate n [], Nat.zero_le _, rfl, by have := HOwn0.out; rw [← HG.out] at this ⊢; exact this, Lib.hid (fun j hj => by omega), HExt0.out⟩
  case round =>
    obtain ⟨k, ys, hk, rfl, hown, HT, hext⟩ := hrel
    have HOwn := Lib.hid hown
    have HExt := Lib.hid hext
    clear hown hext
    by_cases hlt : k < n
    · obtain ⟨b, off, ai, ci, rfl, hc, hri⟩ := HX.out k hlt
      have HRi := Lib.hid hri
      have hlen := HR.out k hlt
      have hc' := HExt.out.cell hc
      clear hc hri
      go_wp2_with (fail)
      refine (l_toInts ai _ ci _ _ hlen (HRi.out.ext HExt.out)).mono ?_
      rintro e w1 ⟨g1, rfl, ho, h1⟩
      have HO1 := Lib.hid ho
      have H1 := Lib.hid h1
      have ow1 := HOwn.out.ext h1
      obtain ⟨aj, cj, hcg, _⟩ := ow1.at hlt
      have hfz := ow1.frozen k
      clear ow1 ho h1
      go_wp2_with (fail)
      go_roundw
      case rel => exact ⟨k + 1, ys.set k (nthR rows k), by omega, by go_num, HOwn.out.put H1.out HExt.out.size HO1.out hlt, Lib.hid (fun j hj => by
          rw [nthR_set (by rw [HOwn.out.1]; exact hlt)]
          by_cases hjk : k = j
          · subst hjk; simp
          · rw [if_neg hjk]; exact HT.out j (by omega)), (HExt.out.trans H1.out).setCell hge _⟩
      case measure => simp [intOf]; omega
    · go_wp2_with (fail)
      go_ret
      refine ⟨g, rfl, ?_, HExt.out⟩
      have : ys = rows := ext_rows (by rw [HOwn.out.1, HN.out]) (fun i hi => HT.out i (by rw [HOwn.out.1] at hi; omega))
      rw [← this]; exact HOwn.out

set_option maxHeartbeats 1000000 in
theorem l_eqRows (a b : Option Addr) (n m ca cb : Nat) (xs ys : List (List Int)) (w : World) (hl : n ≤ 4194304) (_hm : m ≤ 4194304) (hxl : ∀ i, i < n → (nthR xs i).length ≤ 4194304) (hyl : ∀ i, i < m → (nthR ys i).length ≤ 4194304) (hx : RdR w a n xs) (hy : RdR w b m ys) :
    Calls Try.prog 16 #[.slice a n ca, .slice b m cb] w fun e w' => e = .returned (.bool (eqR xs ys)) ∧ Ext w w' := by
  have HXL := Lib.hid hxl
  have HYL := Lib.hid hyl
  clear hxl hyl
  by_cases hnm : n = m
  · subst hnm
    have hcb : ((n : Int) != (n : Int)) = false := by simp
    have HX := Lib.hid hx.2
    have HXN := Lib.hid hx.1
    have HY := Lib.hid hy.2
    have HYN := Lib.hid hy.1
    clear hx hy
    go_enter Try.func16, Try.ntmps16
    go_wp2_with (fail)
    go_loopw [5] (fun i wr => ∃ (k : Nat), k ≤ n ∧ i = .int .i64 k ∧ Hid (∀ j, j < k → nthR xs j = nthR ys j) ∧ Ext w wr) (fun i _ => n - (intOf i).toNat)
    case atStart => exact ⟨0, Nat.zero_le _, rfl, Lib.hid (fun j hj => by omega), Ext.refl _⟩
    case round =>
      obtain ⟨k, hk, rfl, HT, hext⟩ := hrel
      have HExt := Lib.hid hext
      clear hext
      by_cases hlt : k < n
      · obtain ⟨b1, off1, a1, c1, rfl, hc1, hr1⟩ := HX.out k hlt
        obtain ⟨b2, off2, a2, c2, rfl, hc2, hr2⟩ := HY.out k hlt
        have Hc1 := Lib.hid ((HExt.out.trans (ext_drew _)).cell hc1)
        have Hc2 := Lib.hid ((HExt.out.trans (ext_drew _)).cell hc2)
        have Hr1 := Lib.hid (hr1.ext (HExt.out.trans (ext_drew _)))
        have Hr2 := Lib.hid (hr2.ext (HExt.out.trans (ext_drew _)))
        have hl1 := HXL.out k hlt
        have hl2 := HYL.out k hlt
        clear hc1 hc2 hr1 hr2
        by_cases hb : nthR xs k = nthR ys k
        · have HB := Lib.hid hb
          have HE := Lib.hid (show eqB (nthR xs k) (nthR ys k) = true by simp [eqB, hb])
          clear hb
          go_wp2_with (fail)
          refine wp_region_lex [(8, .val (.bool true))] (by kernel_rfl) (by kernel_rfl) ?_
          repeat' first | (refine LexW.pure (v := ?_) rfl rfl (fun w1 he => ?_) ?_; rotate_left; ( have hc1 := he.cell Hc1.out; have hc2 := he.cell Hc2.out; go_simp; rfl); simp only [Act.put, List.setIfInBounds_toArray, List.set_cons_zero, List.set_cons_succ]) | (refine LexW.call (f := ?_) (args := ?_) rfl rfl (fun w1 => ?_) (fun w1 he hdep => ?_) ?_; rotate_left 2; (go_simp; refine ⟨?_, ?_⟩ <;> rfl); ( have H := l_eqInts a1 a2 _ _ c1 c2 _ _ w1 hl1 hl2 (Hr1.out.ext he) (Hr2.out.ext he); rw [HE.out] at H; exact H); simp only [Act.put, List.setIfInBounds_toArray, List.set_cons_zero, List.set_cons_succ])
          refine LexW.nil (fun w2 he hk => ?_)
          have G := Lib.hid (HExt.out.trans ((ext_drew _).trans he))
          clear he hk
          go_wp2_with (fail)
          go_roundw
          case rel => exact ⟨k + 1, by omega, by go_num, Lib.hid (fun j hj => by
            by_cases hjk : j = k
            · subst hjk; exact HB.out
            · exact HT.out j (by omega)), G.out⟩
          case measure => simp [intOf]; omega
        · have HB := Lib.hid (eqR_nth hb)
          have HE := Lib.hid (show eqB (nthR xs k) (nthR ys k) = false by simp [eqB, hb])
          clear hb
          go_wp2_with (fail)
          refine wp_region_lex [(8, .val (.bool false))] (by kernel_rfl) (by kernel_rfl) ?_
          repeat' first | (refine LexW.pure (v := ?_) rfl rfl (fun w1 he => ?_) ?_; rotate_left; ( have hc1 := he.cell Hc1.out; have hc2 := he.cell Hc2.out; go_simp; rfl); simp only [Act.put, List.setIfInBounds_toArray, List.set_cons_zero, List.set_cons_succ]) | (refine LexW.call (f := ?_) (args := ?_) rfl rfl (fun w1 => ?_) (fun w1 he hdep => ?_) ?_; rotate_left 2; (go_simp; refine ⟨?_, ?_⟩ <;> rfl); ( have H := l_eqInts a1 a2 _ _ c1 c2 _ _ w1 hl1 hl2 (Hr1.out.ext he) (Hr2.out.ext he); rw [HE.out] at H; exact H); simp only [Act.put, List.setIfInBounds_toArray, List.set_cons_zero, List.set_cons_succ])
          refine LexW.nil (fun w2 he hk => ?_)
          have G := Lib.hid (HExt.out.trans ((ext_drew _).trans he))
          clear he hk
          go_wp2_with (fail)
          go_ret
          exact ⟨ret_bool HB.out.symm, G.out⟩
      · go_wp2_with (fail)
        go_ret
        exact ⟨ret_bool (eqR_all HXN.out HYN.out (fun j hj => HT.out j (by omega))).symm, HExt.out⟩
  · have HF := Lib.hid (eqR_len (xs := xs) (ys := ys) (by rw [hx.1, hy.1]; exact hnm))
    have hcb : ((n : Int) != (m : Int)) = true := by simp; omega
    go_enter Try.func16, Try.ntmps16
    go_wp2_with (fail)
    go_ret
    exact ⟨ret_bool HF.out.symm, Ext.refl _⟩

set_option maxHeartbeats 1000000 in
theorem l_markRows (lo hi : Nat) (a : Option Addr) (n cap : Nat) (rows : List (List Int)) (k : Int) (w : World) (hl : n ≤ 1048576) (hT : cntR rows n ≤ 1048576) (hk0 : 0 ≤ k) (hk : k ≤ 50000000) (ho : OwnRH lo hi w a n cap rows) :
    Calls Try.prog 18 #[.slice a n cap, .int .i64 k] w fun e w' => e = .returned (.int .i64 (k + cntR rows n)) ∧ OwnRH lo hi w' a n cap (markR k rows n) ∧ WroteIn lo hi w w' := by
  have HO := Lib.hid ho
  clear ho
  go_enter Try.func18, Try.ntmps18
  go_wp2_with (fail)
  go_loopw [1, 5] (fun kk i wr => ∃ (j c : Nat) (ys : List (List Int)), j ≤ n ∧ i = .int .i64 j ∧ kk = .int .i64 (k + c) ∧ Hid (c = cntR rows j) ∧ OwnRH lo hi wr a n cap ys ∧ Hid (∀ t, t < j → nthR ys t = marks (k + cntR rows t) (nthR rows t).length) ∧ Hid (∀ t, j ≤ t → t < n → nthR ys t = nthR rows t) ∧ WroteIn lo hi w wr) (fun _ i _ => n - (intOf i).toNat)
  case atStart => exact ⟨0, 0, rows, Nat.zero_le _, rfl, by simp, Lib.hid rfl, HO.out, Lib.hid (fun j hj => by omega), Lib.hid (fun _ _ _ => rfl), WroteIn.refl _ _ _⟩
  case round =>
    obtain ⟨j, c, ys, hj, rfl, rfl, HC, hown, HT, HU, hwr⟩ := hrel
    have HOwn := Lib.hid hown
    have HW := Lib.hid hwr
    clear hown hwr
    by_cases hlt : j < n
    · obtain ⟨b, off, ai, ci, rfl, hc, hoi, hai, hput⟩ := HOwn.out.atRow hlt
      have hcT : c ≤ 1048576 := by rw [HC.out]; exact Nat.le_trans (cntR_le rows hj) hT
      have hll : (nthR ys j).length ≤ 4194304 := by rw [HU.out j (Nat.le_refl _) hlt]; exact Nat.le_trans (cntR_row rows hlt) (by omega)
      have hcl : c + (nthR ys j).length ≤ 1048576 := by
        rw [HU.out j (Nat.le_refl _) hlt, HC.out]
        exact Nat.le_trans (cntR_le rows (show j + 1 ≤ n by omega)) hT
      have HOi := Lib.hid hoi
      have HAi := Lib.hid hai
      have HPut := Lib.hid hput
      clear hoi hai hput
      go_wp2_with (fail)
      refine (l_mark lo ai _ ci _ (k + (c : Int)) _ hll (by omega) (by omega) HOi.out).mono ?_
      rintro e w1 ⟨rfl, g1, g2⟩
      have G1 := Lib.hid g1
      have G2 := Lib.hid g2
      clear g1 g2 hc
      go_wp2_with (fail)
      go_roundw
      case rel => exact ⟨j + 1, c + (nthR ys j).length, ys.set j (marks (k + (c : Int)) (nthR ys j).length), by omega, by go_num, by rw [Int.natCast_add, Int.add_assoc], Lib.hid (by rw [HC.out, HU.out j (Nat.le_refl _) hlt]; rfl), HPut.out w1 _ (marks_len _ _) G2.out G1.out, Lib.hid (fun t ht => by
          rw [nthR_set (by rw [HOwn.out.1]; exact hlt)]
          by_cases hjk : j = t
          · subst hjk; rw [if_pos rfl, HC.out, HU.out j (Nat.le_refl _) hlt]
          · rw [if_neg hjk]; exact HT.out t (by omega)), Lib.hid (fun t ht1 ht2 => by
          rw [nthR_set (by rw [HOwn.out.1]; exact hlt), if_neg (by omega)]; exact HU.out t (by omega) ht2), HW.out.trans (G2.out.inR HAi.out)⟩
      case measure => simp [intOf]; omega
    · go_wp2_with (fail)
      go_ret
      have hjn : j = n := by omega
      subst hjn
      refine ⟨ret_int (by rw [HC.out]), ?_, HW.out⟩
      have : ys = markR k rows j := ext_rows (by rw [HOwn.out.1, markR_len]) (fun i hi => by
        rw [HOwn.out.1] at hi
        rw [HT.out i hi, markR_nth hi])
      rw [← this]; exact HOwn.out

set_option maxHeartbeats 1000000 in
theorem l_heldRows (a : Option Addr) (n cap : Nat) (rows : List (List Int)) (k : Int) (w : World) (hl : n ≤ 1048576) (hT : cntR rows n ≤ 1048576) (hk0 : 0 ≤ k) (hk : k ≤ 50000000) (hx : RdR w a n (markR k rows n)) :
    Calls Try.prog 23 #[.slice a n cap, .int .i64 k] w fun e w' => e = .returned (.int .i64 (k + cntR rows n)) ∧ Ext w w' := by
  have HX := Lib.hid hx
  clear hx
  go_enter Try.func23, Try.ntmps23
  go_wp2_with (fail)
  go_loopw [1, 5] (fun kk i wr => ∃ (j c : Nat), j ≤ n ∧ i = .int .i64 j ∧ kk = .int .i64 (k + c) ∧ Hid (c = cntR rows j) ∧ Ext w wr) (fun _ i _ => n - (intOf i).toNat)
  case atStart => exact ⟨0, 0, Nat.zero_le _, rfl, by simp, Lib.hid rfl, Ext.refl _⟩
  case round =>
    obtain ⟨j, c, hj, rfl, rfl, HC, hext⟩ := hrel
    have HExt := Lib.hid hext
    clear hext
    by_cases hlt : j < n
    · obtain ⟨b, off, ai, ci, rfl, hc, hri⟩ := HX.out.2 j hlt
      rw [markR_nth hlt, marks_len] at hc hri
      have hcT : c ≤ 1048576 := by rw [HC.out]; exact Nat.le_trans (cntR_le rows hj) hT
      have hll : (nthR rows j).length ≤ 1048576 := Nat.le_trans (cntR_row rows hlt) hT
      have hc' := HExt.out.cell hc
      rw [← HC.out] at hri
      have HRi := Lib.hid (hri.ext HExt.out)
      clear hc hri
      go_wp2_with (fail)
      refine (l_held ai _ ci (k + (c : Int)) _ (by omega) (by omega) (by omega) HRi.out).mono ?_
      rintro e w1 ⟨rfl, g1⟩
      have G1 := Lib.hid g1
      have hnn : ¬ (k + (c : Int) + ((nthR rows j).length : Int)) < 0 := by omega
      clear g1 hc'
      go_wp2_with (fail)
      go_roundw
      case rel => exact ⟨j + 1, c + (nthR rows j).length, by omega, by go_num, by rw [Int.natCast_add, Int.add_assoc], Lib.hid (by rw [HC.out]; rfl), HExt.out.trans G1.out⟩
      case measure => simp [intOf]; omega
    · go_wp2_with (fail)
      go_ret
      have hjn : j = n := by omega
      subst hjn
      exact ⟨ret_int (by rw [HC.out]), HExt.out⟩

end Go.Proofs.Ytnabpmafcflljaa

/-
  Bits of masks below 64: the walk's words for them, and the contracts of the functions that count them.
  No condition.
-/
namespace Go.Proofs.Ytnabpmafcflljaa
set_option maxRecDepth 100000
open Go.RowKit

def popF : Nat → Nat → Nat
  | 0, _ => 0
  | f + 1, n => n % 2 + popF f (n / 2)
/-- The number of bits of a mask below 64. -/
def popc (n : Nat) : Nat := popF 6 n
theorem popc_le {n : Nat} (h : n < 64) : popc n ≤ 6 := by
  have : ∀ n, n < 64 → popc n ≤ 6 := by decide +kernel
  exact this n h

theorem bit_i (y k : Nat) (hy : y < 64) (hk : k < 6) : (bits BinOp.and IntKind.i64 ((y : Int) / 2 ^ k) 1 == 1) = y.testBit k := by
  have : ∀ y : Nat, y < 64 → ∀ k : Nat, k < 6 → (bits BinOp.and IntKind.i64 ((y : Int) / 2 ^ k) 1 == 1) = y.testBit k := by decide +kernel
  exact this y hy k hk
theorem bit_z (y k : Nat) (hy : y < 64) (hk : k < 6) : (bits BinOp.and IntKind.i64 ((y : Int) / 2 ^ k) 1 == 0) = !y.testBit k := by
  have : ∀ y : Nat, y < 64 → ∀ k : Nat, k < 6 → (bits BinOp.and IntKind.i64 ((y : Int) / 2 ^ k) 1 == 0) = !y.testBit k := by decide +kernel
  exact this y hy k hk
theorem shr_u (x k : Nat) (hx : x < 64) (hk : k < 6) : IntKind.u64.wrap ((x : Int) / 2 ^ (k + 1)) = ((x >>> (k + 1) : Nat) : Int) := by
  have : ∀ x : Nat, x < 64 → ∀ k : Nat, k < 6 → IntKind.u64.wrap ((x : Int) / 2 ^ (k + 1)) = ((x >>> (k + 1) : Nat) : Int) := by decide +kernel
  exact this x hx k hk
theorem shr_lt {x : Nat} (k : Nat) (hx : x < 64) : x >>> k < 64 := Nat.lt_of_le_of_lt (Nat.shiftRight_le x k) hx

set_option maxHeartbeats 400000 in
theorem c_ones64 (x : Nat) (w : World) (hx : x < 64) :
    Calls Try.prog 158 #[.int .u64 x] w fun e w' => e = .returned (.int .i64 (popc x)) ∧ Ext w w' := by
  go_enter Try.func158, Try.ntmps158
  go_wp2
  go_ret
  refine ⟨ret_int ?_, Ext.refl _⟩
  clear w
  revert hx
  revert x
  decide +kernel

set_option maxHeartbeats 400000 in
theorem c_ones (x : Nat) (w : World) (hx : x < 64) :
    Calls Try.prog 156 #[.int .u64 x] w fun e w' => e = .returned (.int .i64 (popc x)) ∧ Ext w w' := by
  go_enter Try.func156, Try.ntmps156
  go_wp2_with (go_at_call 158; refine (c_ones64 _ _ hx).mono ?_; rintro e w1 ⟨rfl, g1⟩)
  go_ret
  exact ⟨rfl, g1⟩

theorem conv_u (x : Nat) (hx : x < 64) : IntKind.u64.wrap (x : Int) = (x : Int) := by
  have : ∀ x : Nat, x < 64 → IntKind.u64.wrap (x : Int) = (x : Int) := by decide +kernel
  exact this x hx

theorem popF_step (f n : Nat) : popF (f + 1) n = n % 2 + popF f (n / 2) := rfl
theorem popF_zero (f : Nat) : popF f 0 = 0 := by
  induction f with
  | zero => rfl
  | succ f ih => simp [popF, ih]
theorem popF_le (f n : Nat) : popF f n ≤ f := by
  induction f generalizing n with
  | zero => simp [popF]
  | succ f ih => have := ih (n / 2); simp only [popF]; omega

set_option maxHeartbeats 400000 in
theorem s_grade (x : Nat) (w : World) (hx : x < 64) :
    Calls Try.prog 153 #[.int .i64 x] w fun e w' => e = .returned (.int .i64 (popc x)) ∧ Ext w w' := by
  go_enter Try.func153, Try.ntmps153
  go_wp2_with (fail)
  go_loopw [0, 3] (fun m n wr => ∃ (f y g : Nat), f ≤ 6 ∧ y < 2 ^ f ∧ y < 64 ∧ g ≤ 64 ∧ m = .int .i64 y ∧ n = .int .i64 g ∧ Hid (g + popF f y = popc x) ∧ Ext w wr) (fun m _ _ => (intOf m).toNat)
  case atStart => exact ⟨6, x, 0, Nat.le_refl _, hx, hx, by omega, rfl, rfl, Lib.hid (by simp [popc]), Ext.refl _⟩
  case round =>
    obtain ⟨f, y, g, hf, hy, hy64, hg, rfl, rfl, HG, hext⟩ := hrel
    have HY := Lib.hid hy
    clear hy
    by_cases h0 : 0 < y
    · have hgl : g ≤ 6 := by have := HG.out; have := popc_le hx; omega
      go_wp2_with (fail)
      go_roundw
      case rel =>
        cases f with
        | zero => have := HY.out; simp at this; omega
        | succ f =>
          refine ⟨f, y / 2, g + y % 2, by omega, ?_, by omega, by omega, by go_num, by go_num, Lib.hid ?_, hext⟩
          · have := HY.out; rw [Nat.pow_succ] at this; omega
          · have := HG.out; rw [popF_step] at this; omega
      case measure => simp [intOf]; omega
    · obtain rfl : y = 0 := by omega
      go_wp2_with (fail)
      go_ret
      refine ⟨ret_int ?_, hext⟩
      have := HG.out
      rw [popF_zero] at this
      have h2 : g = popc x := by simpa using this
      rw [h2]

end Go.Proofs.Ytnabpmafcflljaa

/-
  Contracts: checks of spaces and multivectors in the reference.
  No condition.
-/
namespace Go.Proofs.Ytnabpmafcflljaa
set_option maxRecDepth 100000
open Go.RowKit

set_option maxHeartbeats 400000 in
theorem s_prime (p : Int) (w : World) :
    Calls Try.prog 127 #[.int .i64 p] w fun e w' => e = .returned (.bool (primeB p)) ∧ Ext w w' := by
  go_enter Try.func127, Try.ntmps127
  go_wp2
  all_goals go_ret
  all_goals refine ⟨?_, Ext.refl _⟩
  all_goals simp_all [primeB]

set_option maxHeartbeats 400000 in
theorem s_in (n l h : Int) (w : World) :
    Calls Try.prog 128 #[.int .i64 n, .int .i64 l, .int .i64 h] w fun e w' => e = .returned (.bool (inB n l h)) ∧ Ext w w' := by
  go_enter Try.func128, Try.ntmps128
  go_wp2
  all_goals go_ret
  all_goals refine ⟨?_, Ext.refl _⟩
  all_goals simp [inB]; omega

set_option maxHeartbeats 400000 in
theorem s_numbers (p : Int) (a : Option Addr) (n cap : Nat) (xs : List Int) (w : World) (hp1 : 1 ≤ p) (hp2 : p ≤ 1000) (hl : n ≤ 4194304) (hx : RdC w a n xs) :
    Calls Try.prog 129 #[.int .i64 p, .slice a n cap] w fun e w' => e = .returned (.bool (isB p xs)) ∧ Ext w w' := by
  obtain ⟨hn, hx⟩ := hx
  have HX := Lib.hid hx
  have HN := Lib.hid hn
  clear hx hn
  go_enter Try.func129, Try.ntmps129
  go_wp2_with (fail)
  go_loopw [5] (fun i wr => ∃ k : Nat, k ≤ n ∧ i = .int .i64 k ∧ isB p (xs.take k) = true ∧ Ext w wr) (fun i _ => n - (intOf i).toNat)
  case atStart => exact ⟨0, Nat.zero_le _, rfl, rfl, Ext.refl _⟩
  case round =>
    obtain ⟨k, hk, rfl, ht, hext⟩ := hrel
    have HT := Lib.hid ht; clear ht
    by_cases hlt : k < n
    · obtain ⟨b, off, rfl, hc⟩ := HX.out k hlt
      have hc' := hext.cell hc
      clear hc
      have HS := Lib.hid (take_snoc xs k (by rw [HN.out]; omega))
      cases hb : inB (nth xs k) 0 (p - 1)
      · have HB := Lib.hid hb
        go_wp2_with (go_at_call 128; refine (s_in _ _ _ _).mono ?_; rintro e w1 ⟨rfl, h1⟩)
        go_ret
        exact ⟨ret_bool (isB_false (by rw [HN.out]; exact hlt) HB.out).symm, hext.trans h1⟩
      · have HB := Lib.hid hb
        go_wp2_with (go_at_call 128; refine (s_in _ _ _ _).mono ?_; rintro e w1 ⟨rfl, h1⟩)
        go_roundw
        case rel => exact ⟨k + 1, by omega, by go_num, by rw [HS.out, isB_snoc, HT.out, HB.out]; rfl, hext.trans h1⟩
        case measure => simp [intOf]; omega
    · go_wp2_with (fail)
      go_ret
      have hh := HT.out
      rw [List.take_of_length_le (by rw [HN.out]; omega)] at hh
      exact ⟨ret_bool hh.symm, hext⟩

set_option maxHeartbeats 400000 in
theorem s_is (p : Int) (a : Option Addr) (d cap : Nat) (qs : List Int) (w : World) (hl : d ≤ 4194304) (hq : RdC w a d qs) :
    Calls Try.prog 87 #[.agg #[.int .i64 p, .slice a d cap]] w fun e w' => e = .returned (.bool (spaceB p qs)) ∧ Ext w w' := by
  cases h1 : primeB p
  · have HF := Lib.hid (show spaceB p qs = false by simp [spaceB, h1])
    have H1 := Lib.hid h1
    clear h1
    go_enter Try.func87, Try.ntmps87
    go_wp2_with (go_at_call 127; refine (s_prime _ _).mono ?_; rintro e w1 ⟨rfl, g1⟩; rw [H1.out]; have hcc := Ext.cells g1)
    go_ret
    exact ⟨ret_bool HF.out.symm, (ext_alloc _ _).trans g1⟩
  · have H1 := Lib.hid h1
    have hp := prime_bd h1
    clear h1
    cases h2 : inB (d : Int) 1 6
    · have HF := Lib.hid (show spaceB p qs = false by simp [spaceB, hq.1, h2])
      have H2 := Lib.hid h2
      clear h2
      go_enter Try.func87, Try.ntmps87
      go_wp2_with (first | (go_at_call 127; refine (s_prime _ _).mono ?_; rintro e w1 ⟨rfl, g1⟩; rw [H1.out]; have hcc := Ext.cells g1) | (go_at_call 128; refine (s_in _ _ _ _).mono ?_; rintro e w2 ⟨rfl, g2⟩; rw [H2.out]; have hcc2 := Ext.cells (g1.trans g2)))
      go_ret
      exact ⟨ret_bool HF.out.symm, (ext_alloc _ _).trans (g1.trans g2)⟩
    · have HF := Lib.hid (show spaceB p qs = isB p qs by simp [spaceB, hq.1, h2, H1.out])
      have H2 := Lib.hid h2
      clear h2
      go_enter Try.func87, Try.ntmps87
      go_wp2_with (first | (go_at_call 127; refine (s_prime _ _).mono ?_; rintro e w1 ⟨rfl, g1⟩; rw [H1.out]; have hcc := Ext.cells g1) | (go_at_call 128; refine (s_in _ _ _ _).mono ?_; rintro e w2 ⟨rfl, g2⟩; rw [H2.out]; have hcc2 := Ext.cells (g1.trans g2)) | (go_at_call 129; refine (s_numbers _ _ _ _ _ _ (by omega) (by omega) hl (hq.ext ((ext_alloc _ _).trans (g1.trans g2)))).mono ?_; rintro e w3 ⟨rfl, g3⟩))
      go_ret
      exact ⟨ret_bool HF.out.symm, (ext_alloc _ _).trans (g1.trans (g2.trans g3))⟩

set_option maxHeartbeats 400000 in
theorem s_size (p : Int) (a : Option Addr) (d cap : Nat) (w : World) (hd : d ≤ 6) :
    Calls Try.prog 152 #[.agg #[.int .i64 p, .slice a d cap]] w fun e w' => e = .returned (.int .i64 ((2 ^ d : Nat) : Int)) ∧ Ext w w' := by
  have HW := Lib.hid (pow_wrap hd)
  go_enter Try.func152, Try.ntmps152
  go_wp2
  go_ret
  refine ⟨ret_int ?_, ext_alloc _ _⟩
  rw [← HW.out]

theorem all_false {p : Int} {d n k : Nat} {rows : List (List Int)} (hn : rows.length = n) (hk : k < n) (h : multiB p d (nthR rows k) = false) : rows.all (multiB p d) = false := by
  rw [List.all_eq_false]
  subst hn
  exact ⟨rows[k], List.getElem_mem hk, by rw [nthR_eq hk] at h; simp [h]⟩
theorem all_true {p : Int} {d n : Nat} {rows : List (List Int)} (hn : rows.length = n) (h : ∀ j, j < n → multiB p d (nthR rows j) = true) : rows.all (multiB p d) = true := by
  rw [List.all_eq_true]
  intro x hx
  obtain ⟨i, hi, rfl⟩ := List.getElem_of_mem hx
  have := h i (by omega)
  rwa [nthR_eq hi] at this

end Go.Proofs.Ytnabpmafcflljaa

/-
  The factor of a product of two blades, in plain numbers; the contracts of the two functions that compute it.
  No condition.
-/
namespace Go.Proofs.Ytnabpmafcflljaa
set_option maxRecDepth 100000
open Go.RowKit

/-- How many swaps, and the product of the common squares, behind k places. -/
def facS (p : Int) (qs : List Int) (a b : Nat) : Nat → Nat × Int
  | 0 => (0, 1)
  | k + 1 => if b.testBit k then ((facS p qs a b k).1 + popc (a >>> (k + 1)), if a.testBit k then (facS p qs a b k).2 * nth qs k % p else (facS p qs a b k).2) else facS p qs a b k
def sgn (p : Int) (s : Nat) (o : Int) : Int := if s % 2 = 1 then (-o) % p else o
/-- The factor of the product of the blades a and b. -/
def fac (p : Int) (qs : List Int) (a b : Nat) : Int := sgn p (facS p qs a b qs.length).1 (facS p qs a b qs.length).2

theorem facS_bd {p : Int} {qs : List Int} {a b : Nat} (hp : 3 ≤ p) (ha : a < 64) (k : Nat) : (facS p qs a b k).1 ≤ 6 * k ∧ 0 ≤ (facS p qs a b k).2 ∧ (facS p qs a b k).2 < p := by
  induction k with
  | zero => simp [facS]; omega
  | succ k ih =>
    unfold facS
    have h1 := popc_le (shr_lt (k + 1) ha)
    have h2 := Int.emod_nonneg ((facS p qs a b k).2 * nth qs k) (show p ≠ 0 by omega)
    have h3 := Int.emod_lt_of_pos ((facS p qs a b k).2 * nth qs k) (show 0 < p by omega)
    split
    · refine ⟨by dsimp only; omega, ?_⟩
      dsimp only
      split <;> omega
    · omega
theorem sgn_bd {p o : Int} {s : Nat} (hp : 3 ≤ p) (h0 : 0 ≤ o) (h1 : o < p) : 0 ≤ sgn p s o ∧ sgn p s o < p := by
  unfold sgn
  split
  · exact ⟨Int.emod_nonneg _ (by omega), Int.emod_lt_of_pos _ (by omega)⟩
  · exact ⟨h0, h1⟩
theorem fac_bd {p : Int} {qs : List Int} {a b : Nat} (hp : 3 ≤ p) (ha : a < 64) : 0 ≤ fac p qs a b ∧ fac p qs a b < p := by
  have := facS_bd (qs := qs) (b := b) hp ha qs.length
  exact sgn_bd hp this.2.1 this.2.2

theorem facS_no {p : Int} {qs : List Int} {a b k : Nat} (h : b.testBit k = false) : facS p qs a b (k + 1) = facS p qs a b k := by simp [facS, h]
theorem facS_one {p : Int} {qs : List Int} {a b k : Nat} (h : b.testBit k = true) (h' : a.testBit k = false) : facS p qs a b (k + 1) = ((facS p qs a b k).1 + popc (a >>> (k + 1)), (facS p qs a b k).2) := by simp [facS, h, h']
theorem facS_two {p : Int} {qs : List Int} {a b k : Nat} (h : b.testBit k = true) (h' : a.testBit k = true) : facS p qs a b (k + 1) = ((facS p qs a b k).1 + popc (a >>> (k + 1)), (facS p qs a b k).2 * nth qs k % p) := by simp [facS, h, h']

theorem mul_bd {p x y : Int} (hp : p ≤ 1000) (hx0 : 0 ≤ x) (hx : x < p) (hy0 : 0 ≤ y) (hy : y < p) : 0 ≤ x * y ∧ x * y ≤ 1000000 := by
  refine ⟨Int.mul_nonneg hx0 hy0, ?_⟩
  have h1 : x * y ≤ 1000 * y := Int.mul_le_mul_of_nonneg_right (by omega) hy0
  omega

set_option maxHeartbeats 1000000 in
theorem c_factor (p : Int) (a : Option Addr) (d cap : Nat) (qs : List Int) (x y : Nat) (w : World) (hd : d ≤ 6) (hp1 : 3 ≤ p) (hp2 : p ≤ 1000) (hx : x < 64) (hy : y < 64) (hq : RdC w a d qs) (hqb : isB p qs = true) :
    Calls Try.prog 154 #[.agg #[.int .i64 p, .slice a d cap], .int .i64 x, .int .i64 y] w fun e w' => e = .returned (.int .i64 (fac p qs x y)) ∧ Ext w w' := by
  have HQ := Lib.hid hq.2
  have HN := Lib.hid hq.1
  have HB := Lib.hid hqb
  clear hq hqb
  go_enter Try.func154, Try.ntmps154
  go_wp2_with (go_at_call 49; refine (c_dim _ _ _ _ _).mono ?_; rintro e w1 ⟨rfl, g1⟩)
  have hs0 : w1.cell? ⟨w.heap.size, 0, none⟩ = some (.int .i64 p) := g1.cell (by simp)
  have hs1 : w1.cell? ⟨w.heap.size, 1, none⟩ = some (.slice a d cap) := g1.cell (by simp)
  have HS0 := Lib.hid hs0
  have HS1 := Lib.hid hs1
  have G1 := Lib.hid ((ext_alloc w (.cells #[.int .i64 p, .slice a d cap] 30)).trans g1)
  clear g1 hs0 hs1
  go_loopw [7, 8, 9, 12] (fun s o _ i wr => ∃ k : Nat, k ≤ d ∧ i = .int .i64 k ∧ s = .int .i64 (facS p qs x y k).1 ∧ o = .int .i64 (facS p qs x y k).2 ∧ Ext w1 wr) (fun _ _ _ i _ => d - (intOf i).toNat)
  case atStart => exact ⟨0, Nat.zero_le _, rfl, rfl, rfl, Ext.refl _⟩
  case round =>
    obtain ⟨k, hk, rfl, rfl, rfl, hext⟩ := hrel
    obtain ⟨hf1, hf2, hf3⟩ := facS_bd (qs := qs) (b := y) hp1 hx k
    obtain ⟨S, hS⟩ : ∃ S, S = (facS p qs x y k).1 := ⟨_, rfl⟩
    obtain ⟨O, hO⟩ : ∃ O, O = (facS p qs x y k).2 := ⟨_, rfl⟩
    rw [← hS] at hf1 ⊢
    rw [← hO] at hf2 hf3 ⊢
    have HS := Lib.hid hS
    have HO := Lib.hid hO
    clear hS hO
    by_cases hlt : k < d
    · have hy1 := bit_i y k hy (by omega)
      have hx1 := bit_i x k hx (by omega)
      have hsh := shr_u x k hx (by omega)
      have hpl := popc_le (shr_lt (k + 1) hx)
      obtain ⟨b, off, ha, hc⟩ := HQ.out k hlt
      have Hc := Lib.hid ((G1.out.trans (hext)).cell hc)
      have hqk := isB_nth HB.out (i := k) (by rw [HN.out]; exact hlt)
      clear hc
      have hmul := mul_bd (x := O) (y := nth qs k) hp2 hf2 hf3 hqk.1 hqk.2
      cases hyb : y.testBit k
      · have HYB := Lib.hid hyb
        rw [hyb] at hy1
        clear hyb hx1 hsh ha
        go_wp2_with (fail)
        go_roundw
        case rel => exact ⟨k + 1, by omega, by go_num, by rw [facS_no HYB.out, HS.out], by rw [facS_no HYB.out, HO.out], hext⟩
        case measure => simp [intOf]; omega
      · have HYB := Lib.hid hyb
        rw [hyb] at hy1
        clear hyb
        cases hxb : x.testBit k
        · have HXB := Lib.hid hxb
          rw [hxb] at hx1
          clear hxb ha
          go_wp2_with (go_at_call 156; refine (c_ones (x >>> (k + 1)) _ (shr_lt _ hx)).mono ?_; rintro e w2 ⟨rfl, g2⟩)
          go_roundw
          case rel => exact ⟨k + 1, by omega, by go_num, by rw [facS_one HYB.out HXB.out, HS.out]; go_num, by rw [facS_one HYB.out HXB.out, HO.out], hext.trans g2⟩
          case measure => simp [intOf]; omega
        · have HXB := Lib.hid hxb
          rw [hxb] at hx1
          clear hxb
          subst ha
          go_wp2_with (go_at_call 156; refine (c_ones (x >>> (k + 1)) _ (shr_lt _ hx)).mono ?_; rintro e w2 ⟨rfl, g2⟩)
          refine wp_region_lex [(1, .val (.int .i64 p)), (9, .val (.int .i64 (O * nth qs k % p)))] (by kernel_rfl) (by kernel_rfl) ?_
          have X2 := Lib.hid (g2.trans (ext_drew _))
          have Y2 := Lib.hid (hext.trans X2.out)
          have hw : IntKind.i64.wrap (O * nth qs k) = O * nth qs k := IntWalk.i64_in _ (by omega)
          repeat' first | (refine LexW.pure (v := ?_) rfl rfl (fun w1 he => ?_) ?_; rotate_left; ( have e1 := (Y2.out.trans he).cell HS0.out; have e2 := (Y2.out.trans he).cell HS1.out; have e3 := (X2.out.trans he).cell Hc.out; go_simp; rfl); simp only [Act.put, List.setIfInBounds_toArray, List.set_cons_zero, List.set_cons_succ]) | (refine LexW.call (f := ?_) (args := ?_) rfl rfl (fun w1 => ?_) (fun w1 he hdep => ?_) ?_; rotate_left 2; (go_simp; refine ⟨?_, ?_⟩ <;> rfl); ( first | (go_at_call 45; exact c_field _ _ _) | (go_at_call 86; exact c_num _ _ _ (by omega) hp2)); simp only [Act.put, List.setIfInBounds_toArray, List.set_cons_zero, List.set_cons_succ])
          refine LexW.nil (fun w3 he hk => ?_)
          go_wp2_with (fail)
          go_roundw
          case rel => exact ⟨k + 1, by omega, by go_num, by rw [facS_two HYB.out HXB.out, HS.out]; go_num, by rw [facS_two HYB.out HXB.out, HO.out], Y2.out.trans he⟩
          case measure => simp [intOf]; omega
    · have hkd : k = d := by omega
      have e1 := hext.cell HS0.out
      have e2 := hext.cell HS1.out
      by_cases hodd : S % 2 = 1
      · have ht : (((S : Int) % 2) == 1) = true := by simp; omega
        have HF := Lib.hid (show fac p qs x y = (-O) % p by simp only [fac, sgn]; rw [HN.out, ← hkd, ← HS.out, if_pos hodd, ← HO.out])
        clear hkd hodd
        go_wp2_with (first | (go_at_call 45; refine (c_field _ _ _).mono ?_; rintro e w2 ⟨rfl, g2⟩) | (go_at_call 86; refine (c_num _ _ _ (by omega) hp2).mono ?_; rintro e w3 ⟨rfl, g3⟩))
        go_ret
        exact ⟨ret_int HF.out.symm, G1.out.trans (hext.trans (g2.trans g3))⟩
      · have ht : (((S : Int) % 2) == 1) = false := by simp; omega
        have HF := Lib.hid (show fac p qs x y = O by simp only [fac, sgn]; rw [HN.out, ← hkd, ← HS.out, if_neg hodd, ← HO.out])
        clear hkd hodd
        go_wp2_with (fail)
        go_ret
        exact ⟨ret_int HF.out.symm, G1.out.trans hext⟩

/-! ### The reference's way: it turns the first mask as it goes -/
def aS (a b : Nat) : Nat → Nat
  | 0 => a
  | k + 1 => if b.testBit k then aS a b k ^^^ (1 <<< k) else aS a b k
theorem aS_all (a b k : Nat) (ha : a < 64) (hb : b < 64) (hk : k < 6) : aS a b k < 64 ∧ aS a b k >>> (k + 1) = a >>> (k + 1) ∧ (aS a b k).testBit k = a.testBit k := by
  have : ∀ a : Nat, a < 64 → ∀ b : Nat, b < 64 → ∀ k : Nat, k < 6 → aS a b k < 64 ∧ aS a b k >>> (k + 1) = a >>> (k + 1) ∧ (aS a b k).testBit k = a.testBit k := by decide +kernel
  exact this a ha b hb k hk

theorem aS_no {a b k : Nat} (h : b.testBit k = false) : aS a b (k + 1) = aS a b k := by simp [aS, h]
theorem aS_yes {a b k : Nat} (h : b.testBit k = true) : aS a b (k + 1) = aS a b k ^^^ (1 <<< k) := by simp [aS, h]
theorem xor_i (A k : Nat) (hA : A < 64) (hk : k < 6) : bits BinOp.xor IntKind.i64 (A : Int) (IntKind.i64.wrap (2 ^ k)) = ((A ^^^ (1 <<< k) : Nat) : Int) := by
  have : ∀ A : Nat, A < 64 → ∀ k : Nat, k < 6 → bits BinOp.xor IntKind.i64 (A : Int) (IntKind.i64.wrap (2 ^ k)) = ((A ^^^ (1 <<< k) : Nat) : Int) := by decide +kernel
  exact this A hA k hk
theorem xor_i' (A k : Nat) (hA : A < 64) (hk : k < 6) : bits BinOp.xor IntKind.i64 (A : Int) (wrap64 (2 ^ k)) = ((A ^^^ (1 <<< k) : Nat) : Int) := by
  have : ∀ A : Nat, A < 64 → ∀ k : Nat, k < 6 → bits BinOp.xor IntKind.i64 (A : Int) (wrap64 (2 ^ k)) = ((A ^^^ (1 <<< k) : Nat) : Int) := by decide +kernel
  exact this A hA k hk
theorem shr_i (A k : Nat) : (A : Int) / 2 ^ (k + 1) = ((A >>> (k + 1) : Nat) : Int) := by
  rw [Nat.shiftRight_eq_div_pow]; simp
theorem sgn_odd {p o : Int} {s g : Nat} (hg : g % 2 = 1) (h0 : 0 ≤ o) (h1 : o < p) : sgn p (s + g) o = (p - sgn p s o) % p := by
  unfold sgn
  by_cases hs : s % 2 = 1
  · rw [if_neg (by omega), if_pos hs, Int.sub_emod_emod, Int.sub_neg, Int.add_emod_left, Int.emod_eq_of_lt h0 h1]
  · rw [if_pos (by omega), if_neg hs, Int.sub_eq_add_neg, Int.add_emod_left]
theorem sgn_even {p o : Int} {s g : Nat} (hg : ¬ g % 2 = 1) : sgn p (s + g) o = sgn p s o := by
  unfold sgn
  by_cases hs : s % 2 = 1
  · rw [if_pos (by omega), if_pos hs]
  · rw [if_neg (by omega), if_neg hs]
theorem sgn_mul {p o q : Int} {s : Nat} : sgn p s (o * q % p) = sgn p s o * q % p := by
  unfold sgn
  by_cases hs : s % 2 = 1
  · rw [if_pos hs, if_pos hs]
    rw [Int.mul_emod ((-o) % p), Int.emod_emod, ← Int.mul_emod, Int.neg_mul]
    have := Int.sub_emod_emod 0 (o * q) p
    simpa using this
  · rw [if_neg hs, if_neg hs]

end Go.Proofs.Ytnabpmafcflljaa

/-
  The products of multivectors in plain numbers; the contract of the program's product with a choice of pairs.
  No condition.
-/
namespace Go.Proofs.Ytnabpmafcflljaa
set_option maxRecDepth 100000
open Go.RowKit

/-- One pair of blades is taken into a product. -/
def stepP (p : Int) (f : Nat → Nat → Int) (tk : Nat → Nat → Bool) (x y : List Int) (a b : Nat) (out : List Int) : List Int :=
  if tk a b then out.set (a ^^^ b) ((nth out (a ^^^ b) + nth x a * nth y b * f a b) % p) else out
def inP (p : Int) (f : Nat → Nat → Int) (tk : Nat → Nat → Bool) (x y : List Int) (a : Nat) : Nat → List Int → List Int
  | 0, out => out
  | b + 1, out => stepP p f tk x y a b (inP p f tk x y a b out)
def outP (p : Int) (f : Nat → Nat → Int) (tk : Nat → Nat → Bool) (x y : List Int) (N : Nat) : Nat → List Int
  | 0 => List.replicate N 0
  | a + 1 => inP p f tk x y a N (outP p f tk x y N a)
/-- The product of two multivectors, of the pairs that are taken. -/
def prodL (p : Int) (qs : List Int) (tk : Nat → Nat → Bool) (x y : List Int) : List Int := outP p (fac p qs) tk x y (2 ^ qs.length) (2 ^ qs.length)

/-- N numbers from 0 to p - 1. -/
def Good (p : Int) (N : Nat) (xs : List Int) : Prop := xs.length = N ∧ ∀ i, i < N → 0 ≤ nth xs i ∧ nth xs i < p
theorem good_zero {p : Int} {N : Nat} (hp : 1 ≤ p) : Good p N (List.replicate N 0) := ⟨by simp, fun i hi => by rw [nth_replicate hi]; omega⟩
theorem good_set {p : Int} {N c : Nat} {xs : List Int} {v : Int} (h : Good p N xs) (h0 : 0 ≤ v) (h1 : v < p) : Good p N (xs.set c v) := by
  refine ⟨by simpa using h.1, fun i hi => ?_⟩
  by_cases hc : c < xs.length
  · rw [nth_set hc]
    split
    · exact ⟨h0, h1⟩
    · exact h.2 i hi
  · rw [List.set_eq_of_length_le (by omega)]; exact h.2 i hi
theorem good_isB {p : Int} {N : Nat} {xs : List Int} (h : xs.length = N) (hb : isB p xs = true) : Good p N xs := ⟨h, fun i hi => isB_nth hb (by omega)⟩
theorem Good.isB {p : Int} {N : Nat} {xs : List Int} (h : Good p N xs) : isB p xs = true := by
  unfold Go.Proofs.Ytnabpmafcflljaa.isB
  rw [List.all_eq_true]
  intro v hv
  obtain ⟨i, hi, rfl⟩ := List.getElem_of_mem hv
  have := h.2 i (by rw [← h.1]; exact hi)
  rw [nth_eq hi] at this
  simp [inB]; omega

section
variable {p : Int} {f : Nat → Nat → Int} {tk : Nat → Nat → Bool} {x y : List Int} {a b N : Nat} {out : List Int}
theorem stepP_good (hp : 1 ≤ p) (h : Good p N out) : Good p N (stepP p f tk x y a b out) := by
  unfold stepP
  split
  · exact good_set h (Int.emod_nonneg _ (by omega)) (Int.emod_lt_of_pos _ (by omega))
  · exact h
theorem inP_good (hp : 1 ≤ p) (h : Good p N out) : ∀ b, Good p N (inP p f tk x y a b out)
  | 0 => h
  | b + 1 => stepP_good hp (inP_good hp h b)
theorem outP_good (hp : 1 ≤ p) : ∀ a, Good p N (outP p f tk x y N a)
  | 0 => good_zero hp
  | a + 1 => inP_good hp (outP_good hp a) N
theorem stepP_not (h : tk a b = false) : stepP p f tk x y a b out = out := by simp [stepP, h]
theorem stepP_zero (h : Good p N out) (hc : a ^^^ b < N) (hz : nth x a = 0 ∨ nth y b = 0) : stepP p f tk x y a b out = out := by
  unfold stepP
  split
  · have e : nth x a * nth y b * f a b = 0 := by rcases hz with hz | hz <;> simp [hz]
    have hb := h.2 _ hc
    rw [e, Int.add_zero, Int.emod_eq_of_lt hb.1 hb.2, nth_eq (by rw [h.1]; exact hc)]
    exact List.set_getElem_self _
  · rfl
theorem stepP_yes (h : tk a b = true) : stepP p f tk x y a b out = out.set (a ^^^ b) ((nth out (a ^^^ b) + nth x a * nth y b * f a b) % p) := by simp [stepP, h]
theorem inP_zero {d : Nat} (hp : 1 ≤ p) (hN : N = 2 ^ d) (ha : a < N) (h : Good p N out) (hz : nth x a = 0) : ∀ b, b ≤ N → inP p f tk x y a b out = out
  | 0, _ => rfl
  | b + 1, hb => by
    have ih := inP_zero (d := d) hp hN ha h hz b (by omega)
    unfold inP
    rw [ih]
    exact stepP_zero h (by subst hN; exact Nat.xor_lt_two_pow ha (by omega)) (.inl hz)
end

theorem xor_ab (a b : Nat) (ha : a < 64) (hb : b < 64) : bits BinOp.xor IntKind.i64 (a : Int) (b : Int) = ((a ^^^ b : Nat) : Int) := by
  have : ∀ a : Nat, a < 64 → ∀ b : Nat, b < 64 → bits BinOp.xor IntKind.i64 (a : Int) (b : Int) = ((a ^^^ b : Nat) : Int) := by decide +kernel
  exact this a ha b hb
theorem mul3_bd {p x y z : Int} (hp : p ≤ 1000) (hx0 : 0 ≤ x) (hx : x < p) (hy0 : 0 ≤ y) (hy : y < p) (hz0 : 0 ≤ z) (hz : z < p) : 0 ≤ x * y * z ∧ x * y * z ≤ 1000000000 := by
  obtain ⟨h1, h2⟩ := mul_bd hp hx0 hx hy0 hy
  refine ⟨Int.mul_nonneg h1 hz0, ?_⟩
  have h3 : x * y * z ≤ 1000000 * z := Int.mul_le_mul_of_nonneg_right h2 hz0
  omega

set_option maxHeartbeats 400000 in
theorem c_nothing (p : Int) (a : Option Addr) (d cap : Nat) (w : World) (hd : d ≤ 6) :
    Calls Try.prog 140 #[.agg #[.int .i64 p, .slice a d cap]] w fun e w' => ∃ g, e = .returned (.slice (some ⟨g, 0, none⟩) (2 ^ d) (2 ^ d)) ∧ OwnC w.heap.size w' (some ⟨g, 0, none⟩) (2 ^ d) (2 ^ d) (List.replicate (2 ^ d) 0) ∧ Ext w w' := by
  have hpw := pow_wrap hd
  have hN := pow_le64 hd
  obtain ⟨N, hN'⟩ : ∃ N, N = 2 ^ d := ⟨_, rfl⟩
  rw [← hN'] at hpw hN ⊢
  clear hN'
  go_enter Try.func140, Try.ntmps140
  go_wp2_with (go_at_call 49; refine (c_dim _ _ _ _ _).mono ?_; rintro e w1 ⟨rfl, g1⟩)
  obtain ⟨w2, hmk, ho, he⟩ := make_ints w1 N (by omega)
  have HO := Lib.hid ho
  have HE := Lib.hid ((ext_alloc _ _).trans (g1.trans he))
  have hz := g1.size'
  simp only [World.size_alloc] at hz
  clear ho he g1
  rw [hmk]
  go_wp2_with (fail)
  go_ret
  exact ⟨w1.heap.size, rfl, HO.out.mono (by omega), HE.out⟩

set_option maxHeartbeats 2000000 in
set_option maxRecDepth 100000 in
theorem c_product (p : Int) (a : Option Addr) (d cap : Nat) (qs : List Int) (ax ay : Option Addr) (cx cy : Nat) (x y : List Int) (F : Nat) (tk : Nat → Nat → Bool) (w : World) (hd : d ≤ 6) (hp1 : 3 ≤ p) (hp2 : p ≤ 1000) (hq : RdC w a d qs) (hqb : isB p qs = true)
    (hx : RdC w ax (2 ^ d) x) (hy : RdC w ay (2 ^ d) y) (hxb : isB p x = true) (hyb : isB p y = true)
    (hcf : ∀ args w, (callFunc F args).run Try.prog w = .ok (.enter F args) w)
    (htk : ∀ (i j : Nat) (w : World), i < 64 → j < 64 → Calls Try.prog F #[.int .i64 i, .int .i64 j] w fun e w' => e = .returned (.bool (tk i j)) ∧ Ext w w') :
    Calls Try.prog 138 #[.agg #[.int .i64 p, .slice a d cap], .slice ax (2 ^ d) cx, .slice ay (2 ^ d) cy, .func (.func F) #[] #[]] w fun e w' =>
      ∃ g, e = .returned (.slice (some ⟨g, 0, none⟩) (2 ^ d) (2 ^ d)) ∧ OwnC w.heap.size w' (some ⟨g, 0, none⟩) (2 ^ d) (2 ^ d) (prodL p qs tk x y) ∧ Ext w w' := by
  have hN := pow_le64 hd
  obtain ⟨N, hN'⟩ : ∃ N, N = 2 ^ d := ⟨_, rfl⟩
  have HPr := Lib.hid (show prodL p qs tk x y = outP p (fac p qs) tk x y N N by unfold prodL; rw [hq.1, hN'])
  have HN := Lib.hid hN'
  rw [← hN'] at hN hx hy ⊢
  clear hN'
  have HX := Lib.hid hx
  have HY := Lib.hid hy
  have HXB := Lib.hid hxb
  have HYB := Lib.hid hyb
  have HT := Lib.hid htk
  have HQB := Lib.hid hqb
  have HQ := Lib.hid hq
  clear hx hy hxb hyb htk hqb hq
  obtain ⟨W, hW⟩ : ∃ W, W = w.alloc (.cells #[.int .i64 p, .slice a d cap] 30) := ⟨_, rfl⟩
  have gW : Ext w W := by rw [hW]; exact ext_alloc _ _
  have hs0 : W.cell? ⟨w.heap.size, 0, none⟩ = some (.int .i64 p) := by rw [hW]; simp
  have hs1 : W.cell? ⟨w.heap.size, 1, none⟩ = some (.slice a d cap) := by rw [hW]; simp
  have HS0 := Lib.hid hs0
  have HS1 := Lib.hid hs1
  have GW := Lib.hid gW
  have HW := Lib.hid hW
  go_enter Try.func138, Try.ntmps138
  go_wp2_with (fail)
  rw [← HW.out]
  have Hno := c_nothing p a d cap W hd
  rw [← HN.out] at Hno
  refine Hno.mono ?_
  rintro e w1 ⟨g, rfl, ho, g1⟩
  have HO := Lib.hid ho
  have G1 := Lib.hid g1
  clear Hno ho g1 hW gW hs0 hs1
  go_wp2_with (fail)
  go_loopw [18] (fun i wr => ∃ k : Nat, k ≤ N ∧ i = .int .i64 k ∧ OwnC W.heap.size wr (some ⟨g, 0, none⟩) N N (outP p (fac p qs) tk x y N k) ∧ Ext W wr) (fun i _ => N - (intOf i).toNat)
  case atStart => exact ⟨0, Nat.zero_le _, rfl, HO.out, G1.out⟩
  case round =>
    obtain ⟨k, hk, rfl, hown, hext⟩ := hrel
    have HOwn := Lib.hid hown
    have HExt := Lib.hid hext
    clear hown hext
    by_cases hlt : k < N
    · obtain ⟨bx, ox, rfl, hcx⟩ := HX.out.2 k hlt
      have hcx' := (GW.out.trans HExt.out).cell hcx
      clear hcx
      have hgood := Lib.hid (outP_good (f := fac p qs) (tk := tk) (x := x) (y := y) (N := N) (show 1 ≤ p by omega) k)
      have hxk := isB_nth HXB.out (i := k) (by rw [HX.out.1]; exact hlt)
      by_cases hz : nth x k = 0
      · have hzb : (nth x k == 0) = true := by simp [hz]
        have HZ := Lib.hid (inP_zero (f := fac p qs) (tk := tk) (y := y) (d := d) (show 1 ≤ p by omega) HN.out hlt hgood.out hz N (Nat.le_refl _))
        clear hz
        go_wp2_with (fail)
        go_roundw
        case rel => exact ⟨k + 1, by omega, by go_num, by unfold outP; rw [HZ.out]; exact HOwn.out, HExt.out⟩
        case measure => simp [intOf]; omega
      · have hzb : (nth x k == 0) = false := by simp [hz]
        clear hz
        go_wp2_with (fail)
        obtain ⟨wo, hwo⟩ : ∃ wo : World, wo = wr := ⟨_, rfl⟩
        clear hwo
        go_loopw [27] (fun i wr => ∃ j : Nat, j ≤ N ∧ i = .int .i64 j ∧ OwnC W.heap.size wr (some ⟨g, 0, none⟩) N N (inP p (fac p qs) tk x y k j (outP p (fac p qs) tk x y N k)) ∧ Ext W wr) (fun i _ => N - (intOf i).toNat)
        case atStart => exact ⟨0, Nat.zero_le _, rfl, HOwn.out, HExt.out⟩
        case round =>
          obtain ⟨j, hj, rfl, hown, hext⟩ := hrel
          have HOwn2 := Lib.hid hown
          have HExt2 := Lib.hid hext
          clear hown hext
          by_cases hlj : j < N
          · obtain ⟨by', oy, rfl, hcy⟩ := HY.out.2 j hlj
            have hcy' := (GW.out.trans HExt2.out).cell hcy
            clear hcy hcx'
            have hin := Lib.hid (inP_good (f := fac p qs) (tk := tk) (x := x) (y := y) (a := k) (show 1 ≤ p by omega) hgood.out j)
            have hc : k ^^^ j < N := by rw [HN.out] at hlt hlj ⊢; exact Nat.xor_lt_two_pow hlt hlj
            by_cases hzj : nth y j = 0
            · have hzb2 : (nth y j != 0) = false := by simp [hzj]
              have HZ := Lib.hid (stepP_zero (f := fac p qs) (tk := tk) (x := x) (y := y) (a := k) (b := j) hin.out hc (.inr hzj))
              clear hzj
              go_wp2_with (fail)
              go_roundw
              case rel => exact ⟨j + 1, by omega, by go_num, by unfold inP; rw [HZ.out]; exact HOwn2.out, HExt2.out⟩
              case measure => simp [intOf]; omega
            · have hzb2 : (nth y j != 0) = true := by simp [hzj]
              have htk := Lib.hid (HT.out k j wr (by omega) (by omega))
              clear hzj
              cases ht : tk k j
              · have HTK := Lib.hid ht
                have HZ := Lib.hid (stepP_not (p := p) (f := fac p qs) (x := x) (y := y) (out := inP p (fac p qs) tk x y k j (outP p (fac p qs) tk x y N k)) ht)
                clear ht
                go_wp2_with ((with_reducible refine (htk.out).mono ?_); rintro e w2 ⟨rfl, g2⟩; rw [HTK.out])
                go_roundw
                case rel => exact ⟨j + 1, by omega, by go_num, by unfold inP; rw [HZ.out]; exact HOwn2.out.ext g2, HExt2.out.trans g2⟩
                case measure => simp [intOf]; omega
              · have HTK := Lib.hid ht
                have HZ := Lib.hid (stepP_yes (p := p) (f := fac p qs) (x := x) (y := y) (out := inP p (fac p qs) tk x y k j (outP p (fac p qs) tk x y N k)) ht)
                clear ht
                go_wp2_with ((with_reducible refine (htk.out).mono ?_); rintro e w2 ⟨rfl, g2⟩; rw [HTK.out])
                obtain ⟨Z, hZ⟩ : ∃ Z, Z = inP p (fac p qs) tk x y k j (outP p (fac p qs) tk x y N k) := ⟨_, rfl⟩
                rw [← hZ] at hin HOwn2 HZ
                have HZZ := Lib.hid hZ
                clear hZ
                have X2 := Lib.hid (g2.trans (ext_drew _))
                have Y2 := Lib.hid (HExt2.out.trans X2.out)
                have HO2 := Lib.hid (HOwn2.out.ext X2.out)
                have Hc := Lib.hid (HO2.out.cell hc)
                have hzc := hin.out.2 _ hc
                have hyj := isB_nth HYB.out (i := j) (by rw [HY.out.1]; exact hlj)
                have hfb := fac_bd (qs := qs) (b := j) hp1 (show k < 64 by omega)
                have hxor := xor_ab k j (by omega) (by omega)
                obtain ⟨Fk, hFk⟩ : ∃ Fk, Fk = fac p qs k j := ⟨_, rfl⟩
                rw [← hFk] at hfb HZ
                obtain ⟨c, hcc⟩ : ∃ c, c = k ^^^ j := ⟨_, rfl⟩
                rw [← hcc] at hc HZ hzc hxor
                rw [← hcc] at Hc
                obtain ⟨zc, hzc'⟩ : ∃ zc, zc = nth Z c := ⟨_, rfl⟩
                rw [← hzc'] at hzc HZ
                rw [← hzc'] at Hc
                obtain ⟨hm1, hm2⟩ := mul_bd hp2 hxk.1 hxk.2 hyj.1 hyj.2
                obtain ⟨hm3, hm4⟩ := mul3_bd hp2 hxk.1 hxk.2 hyj.1 hyj.2 hfb.1 hfb.2
                have hw1 : IntKind.i64.wrap (nth x k * nth y j) = nth x k * nth y j := IntWalk.i64_in _ (by omega)
                have hw2 : IntKind.i64.wrap (nth x k * nth y j * Fk) = nth x k * nth y j * Fk := IntWalk.i64_in _ (by omega)
                have hw3 : IntKind.i64.wrap (zc + nth x k * nth y j * Fk) = zc + nth x k * nth y j * Fk := IntWalk.i64_in _ (by omega)
                have hcn : (c : Int) < N := by omega
                have hc0 : (0 : Int) ≤ c := by omega
                have HFk := Lib.hid hFk
                have Hcc := Lib.hid hcc
                have Hzc := Lib.hid hzc'
                clear hFk hcc hzc' hzc
                refine wp_region_lex_tail 23 [(5, .val (.int .i64 p)), (18, .val (.int .i64 Fk)), (21, .val (.int .i64 ((zc + nth x k * nth y j * Fk) % p)))] (by kernel_rfl) (by kernel_rfl) ?_
                simp only [List.take, List.drop]
                repeat' first | (refine LexW.pure (v := ?_) rfl rfl (fun w1 he => ?_) ?_; rotate_left; ( have e1 := (Y2.out.trans he).cell HS0.out; have e2 := (Y2.out.trans he).cell HS1.out; have e3 := he.cell Hc.out; go_simp; rfl); simp only [Act.put, List.setIfInBounds_toArray, List.set_cons_zero, List.set_cons_succ]) | (refine LexW.call (f := ?_) (args := ?_) rfl rfl (fun w1 => ?_) (fun w1 he hdep => ?_) ?_; rotate_left 2; (go_simp; refine ⟨?_, ?_⟩ <;> rfl); ( first | (go_at_call 45; exact c_field _ _ _) | (go_at_call 154; rw [HFk.out]; exact c_factor _ _ _ _ _ _ _ _ hd hp1 hp2 (by omega) (by omega) (HQ.out.ext (GW.out.trans (Y2.out.trans he))) HQB.out) | (go_at_call 86; exact c_num _ _ _ (by omega) hp2)); simp only [Act.put, List.setIfInBounds_toArray, List.set_cons_zero, List.set_cons_succ])
                refine LexW.nil (fun w3 he hk => ?_)
                have HO3 := Lib.hid (HO2.out.ext he)
                have ec := HO3.out.cell hc
                have ef := HO3.out.frozen c
                have hgb := HO3.out.base_le
                go_wp2_with (fail)
                go_roundw
                case rel => exact ⟨j + 1, by omega, by go_num, by unfold inP; rw [← HZZ.out, HZ.out]; exact HO3.out.store hc _, (Y2.out.trans he).setCell hgb.1 _⟩
                case measure => simp [intOf]; omega
          · clear hcx'
            go_wp2_with (fail)
            go_roundw
            case rel => exact ⟨k + 1, by omega, by go_num, by
              have hjn : j = N := by omega
              unfold outP; rw [← hjn]; rw [hjn]; have := HOwn2.out; rw [hjn] at this; exact this, HExt2.out⟩
            case measure => simp [intOf]; omega
    · go_wp2_with (fail)
      go_ret
      have hkn : k = N := by omega
      refine ⟨g, rfl, ?_, GW.out.trans HExt.out⟩
      rw [HPr.out]
      have := HOwn.out
      rw [hkn] at this
      exact this.mono GW.out.size

end Go.Proofs.Ytnabpmafcflljaa

/-
  Contract of the reference's function that computes the factor of a product of two blades.
  No condition.
-/
namespace Go.Proofs.Ytnabpmafcflljaa
set_option maxRecDepth 100000
open Go.RowKit

set_option maxHeartbeats 2000000 in
theorem s_blades (p : Int) (a : Option Addr) (d cap : Nat) (qs : List Int) (x y : Nat) (w : World) (hd : d ≤ 6) (hp1 : 3 ≤ p) (hp2 : p ≤ 1000) (hx : x < 64) (hy : y < 64) (hq : RdC w a d qs) (hqb : isB p qs = true) :
    Calls Try.prog 135 #[.agg #[.int .i64 p, .slice a d cap], .int .i64 x, .int .i64 y] w fun e w' => e = .returned (.int .i64 (fac p qs x y)) ∧ Ext w w' := by
  have HQ := Lib.hid hq.2
  have HN := Lib.hid hq.1
  have HB := Lib.hid hqb
  have hpz : ¬ p = 0 := by omega
  clear hq hqb
  go_enter Try.func135, Try.ntmps135
  go_wp2_with (fail)
  obtain ⟨w1, hw1⟩ : ∃ w1, w1 = w.alloc (.cells #[.int .i64 p, .slice a d cap] 30) := ⟨_, rfl⟩
  have g1 : Ext w w1 := by rw [hw1]; exact ext_alloc _ _
  have hs0 : w1.cell? ⟨w.heap.size, 0, none⟩ = some (.int .i64 p) := by rw [hw1]; simp
  have hs1 : w1.cell? ⟨w.heap.size, 1, none⟩ = some (.slice a d cap) := by rw [hw1]; simp
  rw [← hw1]
  have HS0 := Lib.hid hs0
  have HS1 := Lib.hid hs1
  have G1 := Lib.hid g1
  clear g1 hs0 hs1 hw1
  go_loopw [1, 7, 8] (fun m o i wr => ∃ k : Nat, k ≤ d ∧ i = .int .i64 k ∧ m = .int .i64 (aS x y k) ∧ o = .int .i64 (sgn p (facS p qs x y k).1 (facS p qs x y k).2) ∧ Ext w1 wr) (fun _ _ i _ => d - (intOf i).toNat)
  case atStart => exact ⟨0, Nat.zero_le _, rfl, rfl, rfl, Ext.refl _⟩
  case round =>
    obtain ⟨k, hk, rfl, rfl, rfl, hext⟩ := hrel
    have e1 := hext.cell HS0.out
    have e2 := hext.cell HS1.out
    obtain ⟨hf1, hf2, hf3⟩ := facS_bd (qs := qs) (b := y) hp1 hx k
    have HF2 := Lib.hid hf2
    have HF3 := Lib.hid hf3
    obtain ⟨hr2, hr3⟩ := sgn_bd (s := (facS p qs x y k).1) hp1 hf2 hf3
    obtain ⟨R, hR⟩ : ∃ R, R = sgn p (facS p qs x y k).1 (facS p qs x y k).2 := ⟨_, rfl⟩
    rw [← hR] at hr2 hr3 ⊢
    have HR := Lib.hid hR
    clear hR hf1 hf2 hf3
    by_cases hlt : k < d
    · have hy1 := bit_z y k hy (by omega)
      obtain ⟨hA1, hA2, hA3⟩ := aS_all x y k hx hy (by omega)
      obtain ⟨A, hA⟩ : ∃ A, A = aS x y k := ⟨_, rfl⟩
      rw [← hA] at hA1 hA2 hA3 ⊢
      have hx1 := bit_i A k hA1 (by omega)
      have hsh := shr_i A k
      have hxor := xor_i A k hA1 (by omega)
      have hxor' := xor_i' A k hA1 (by omega)
      rw [hA2] at hsh
      rw [hA3] at hx1
      have HA := Lib.hid hA
      clear hA hA2 hA3
      have hpl := popc_le (shr_lt (k + 1) hx)
      obtain ⟨G, hG⟩ : ∃ G, G = popc (x >>> (k + 1)) := ⟨_, rfl⟩
      rw [← hG] at hpl
      have HG := Lib.hid hG
      clear hG
      obtain ⟨b, off, ha, hc⟩ := HQ.out k hlt
      have Hc := Lib.hid ((G1.out.trans (hext)).cell hc)
      have hqk := isB_nth HB.out (i := k) (by rw [HN.out]; exact hlt)
      clear hc
      subst ha
      cases hyb : y.testBit k
      · have HYB := Lib.hid hyb
        rw [hyb] at hy1
        clear hyb hx1 hsh hxor hxor'
        go_wp2_with (fail)
        go_roundw
        case rel => exact ⟨k + 1, by omega, by go_num, by rw [aS_no HYB.out, HA.out], by rw [facS_no HYB.out, HR.out], hext⟩
        case measure => simp [intOf]; omega
      · have HYB := Lib.hid hyb
        rw [hyb] at hy1
        clear hyb
        have haa := aS_yes (a := x) HYB.out
        rw [← HA.out] at haa
        have HAA := Lib.hid haa
        clear haa
        obtain ⟨R1, hR1⟩ : ∃ R1, (p - R) % p = R1 := ⟨_, rfl⟩
        have hR2 : -R % p = R1 := by rw [← hR1, Int.sub_eq_add_neg, Int.add_emod_left]
        have h0 := Int.emod_nonneg (p - R) (show p ≠ 0 by omega)
        have h1 := Int.emod_lt_of_pos (p - R) (show 0 < p by omega)
        rw [hR1] at h0 h1
        have HR1 := Lib.hid hR1
        by_cases hodd : G % 2 = 1
        · have ht : (((G : Int) % 2) == 1) = true := by simp; omega
          obtain ⟨hm0, hm1⟩ := mul_bd (x := R1) (y := nth qs k) hp2 h0 h1 hqk.1 hqk.2
          have hw : IntKind.i64.wrap (R1 * nth qs k) = R1 * nth qs k := IntWalk.i64_in _ (by omega)
          have hmd : (R1 * nth qs k).tmod p = R1 * nth qs k % p := Int.tmod_eq_emod_of_nonneg hm0
          have HS : Hid (R1 = sgn p ((facS p qs x y k).1 + popc (x >>> (k + 1))) (facS p qs x y k).2) := by
            show R1 = _
            rw [sgn_odd (by rw [← HG.out]; exact hodd) HF2.out HF3.out, ← HR.out, HR1.out]
          clear hodd
          cases hxb : x.testBit k
          · have HXB := Lib.hid hxb
            rw [hxb] at hx1
            clear hxb hm0 hm1 hw hmd
            go_wp2_with (go_at_call 153; refine (s_grade (x >>> (k + 1)) _ (shr_lt _ hx)).mono ?_; rintro e w2 ⟨rfl, g2⟩; rw [← HG.out]; have e3 := (hext.trans g2).cell HS0.out; have e4 := (hext.trans g2).cell HS1.out)
            go_roundw
            case rel => exact ⟨k + 1, by omega, by go_num, by rw [HAA.out], by have e := HR1.out; rw [facS_one HYB.out HXB.out, ← HS.out]; try rw [e], hext.trans g2⟩
            case measure => simp [intOf]; omega
          · have HXB := Lib.hid hxb
            rw [hxb] at hx1
            clear hxb
            go_wp2_with (go_at_call 153; refine (s_grade (x >>> (k + 1)) _ (shr_lt _ hx)).mono ?_; rintro e w2 ⟨rfl, g2⟩; rw [← HG.out]; have e3 := (hext.trans g2).cell HS0.out; have e4 := (hext.trans g2).cell HS1.out)
            have X2 := Lib.hid (g2.trans (ext_drew _))
            have Y2 := Lib.hid (hext.trans X2.out)
            refine wp_region_lex [] (by kernel_rfl) (by kernel_rfl) ?_
            repeat' first | (refine LexW.pure (v := ?_) rfl rfl (fun w1 he => ?_) ?_; rotate_left; ( have e1 := (Y2.out.trans he).cell HS0.out; have e2 := (Y2.out.trans he).cell HS1.out; have e3 := (X2.out.trans he).cell Hc.out; go_simp; rfl); simp only [Act.put, List.setIfInBounds_toArray, List.set_cons_zero, List.set_cons_succ])
            refine LexW.nil (fun w3 he hk => ?_)
            have e5 := (Y2.out.trans he).cell HS0.out
            go_wp2_with (fail)
            go_roundw
            case rel => exact ⟨k + 1, by omega, by go_num, by rw [HAA.out], by have e := HR1.out; rw [facS_two HYB.out HXB.out, sgn_mul, ← HS.out]; try rw [e], Y2.out.trans he⟩
            case measure => simp [intOf]; omega
        · have ht : (((G : Int) % 2) == 1) = false := by simp; omega
          obtain ⟨hm0, hm1⟩ := mul_bd (x := R) (y := nth qs k) hp2 hr2 hr3 hqk.1 hqk.2
          have hw : IntKind.i64.wrap (R * nth qs k) = R * nth qs k := IntWalk.i64_in _ (by omega)
          have hmd : (R * nth qs k).tmod p = R * nth qs k % p := Int.tmod_eq_emod_of_nonneg hm0
          have HS : Hid (R = sgn p ((facS p qs x y k).1 + popc (x >>> (k + 1))) (facS p qs x y k).2) := by
            show R = _
            rw [sgn_even (by rw [← HG.out]; exact hodd), ← HR.out]
          clear hodd
          cases hxb : x.testBit k
          · have HXB := Lib.hid hxb
            rw [hxb] at hx1
            clear hxb hm0 hm1 hw hmd
            go_wp2_with (go_at_call 153; refine (s_grade (x >>> (k + 1)) _ (shr_lt _ hx)).mono ?_; rintro e w2 ⟨rfl, g2⟩; rw [← HG.out]; have e3 := (hext.trans g2).cell HS0.out; have e4 := (hext.trans g2).cell HS1.out)
            go_roundw
            case rel => exact ⟨k + 1, by omega, by go_num, by rw [HAA.out], by have e := HR1.out; rw [facS_one HYB.out HXB.out, ← HS.out]; try rw [e], hext.trans g2⟩
            case measure => simp [intOf]; omega
          · have HXB := Lib.hid hxb
            rw [hxb] at hx1
            clear hxb
            go_wp2_with (go_at_call 153; refine (s_grade (x >>> (k + 1)) _ (shr_lt _ hx)).mono ?_; rintro e w2 ⟨rfl, g2⟩; rw [← HG.out]; have e3 := (hext.trans g2).cell HS0.out; have e4 := (hext.trans g2).cell HS1.out)
            have X2 := Lib.hid (g2.trans (ext_drew _))
            have Y2 := Lib.hid (hext.trans X2.out)
            refine wp_region_lex [] (by kernel_rfl) (by kernel_rfl) ?_
            repeat' first | (refine LexW.pure (v := ?_) rfl rfl (fun w1 he => ?_) ?_; rotate_left; ( have e1 := (Y2.out.trans he).cell HS0.out; have e2 := (Y2.out.trans he).cell HS1.out; have e3 := (X2.out.trans he).cell Hc.out; go_simp; rfl); simp only [Act.put, List.setIfInBounds_toArray, List.set_cons_zero, List.set_cons_succ])
            refine LexW.nil (fun w3 he hk => ?_)
            have e5 := (Y2.out.trans he).cell HS0.out
            go_wp2_with (fail)
            go_roundw
            case rel => exact ⟨k + 1, by omega, by go_num, by rw [HAA.out], by have e := HR1.out; rw [facS_two HYB.out HXB.out, sgn_mul, ← HS.out]; try rw [e], Y2.out.trans he⟩
            case measure => simp [intOf]; omega
    · have hkd : k = d := by omega
      have HF := Lib.hid (show fac p qs x y = R by simp only [fac]; rw [HN.out, ← hkd, ← HR.out])
      go_wp2_with (fail)
      go_ret
      exact ⟨ret_int HF.out.symm, G1.out.trans hext⟩

end Go.Proofs.Ytnabpmafcflljaa

/-
  Contracts of the reference's products of multivectors.
  No condition.
-/
namespace Go.Proofs.Ytnabpmafcflljaa
set_option maxRecDepth 100000
open Go.RowKit

def tkA (_ _ : Nat) : Bool := true
def tkW (i j : Nat) : Bool := i &&& j == 0
def tkL (i j : Nat) : Bool := i &&& j == i
def tkR (i j : Nat) : Bool := i &&& j == j
theorem and_ab (a b : Nat) (ha : a < 64) (hb : b < 64) : bits BinOp.and IntKind.i64 (a : Int) (b : Int) = ((a &&& b : Nat) : Int) := by
  have : ∀ a : Nat, a < 64 → ∀ b : Nat, b < 64 → bits BinOp.and IntKind.i64 (a : Int) (b : Int) = ((a &&& b : Nat) : Int) := by decide +kernel
  exact this a ha b hb
theorem ne_nat (a b : Nat) : ((a : Int) != (b : Int)) = !(a == b) := by
  rw [Bool.eq_iff_iff]; simp; omega
theorem ne_zero' (a : Nat) : ((a : Int) != 0) = !(a == 0) := by
  rw [Bool.eq_iff_iff]; simp
theorem step_ref {p o m f : Int} : (o + m % p * f) % p = (o + m * f) % p := by
  rw [Int.add_emod, Int.mul_emod (m % p), Int.emod_emod, ← Int.mul_emod, ← Int.add_emod]
theorem ref_bd {p m f : Int} (hp : 3 ≤ p) (hp2 : p ≤ 1000) (hf0 : 0 ≤ f) (hf1 : f < p) : 0 ≤ m % p * f ∧ m % p * f ≤ 1000000 :=
  mul_bd hp2 (Int.emod_nonneg _ (by omega)) (Int.emod_lt_of_pos _ (by omega)) hf0 hf1




set_option maxHeartbeats 4000000 in
set_option maxRecDepth 100000 in
theorem s_times (p : Int) (a : Option Addr) (d cap : Nat) (qs : List Int) (ax ay : Option Addr) (cx cy : Nat) (x y : List Int) (w : World) (hd : d ≤ 6) (hp1 : 3 ≤ p) (hp2 : p ≤ 1000) (hq : RdC w a d qs) (hqb : isB p qs = true)
    (hx : RdC w ax (2 ^ d) x) (hy : RdC w ay (2 ^ d) y) (hxb : isB p x = true) (hyb : isB p y = true) :
    Calls Try.prog 104 #[.agg #[.int .i64 p, .slice a d cap], .slice ax (2 ^ d) cx, .slice ay (2 ^ d) cy] w fun e w' =>
      ∃ g, e = .returned (.slice (some ⟨g, 0, none⟩) (2 ^ d) (2 ^ d)) ∧ OwnC w.heap.size w' (some ⟨g, 0, none⟩) (2 ^ d) (2 ^ d) (prodL p qs tkA x y) ∧ Ext w w' := by
  have hN := pow_le64 hd
  have hpz : ¬ p = 0 := by omega
  obtain ⟨N, hN'⟩ : ∃ N, N = 2 ^ d := ⟨_, rfl⟩
  have HPr := Lib.hid (show prodL p qs tkA x y = outP p (fac p qs) tkA x y N N by unfold prodL; rw [hq.1, hN'])
  have HN := Lib.hid hN'
  rw [← hN'] at hN hx hy ⊢
  clear hN'
  have HX := Lib.hid hx
  have HY := Lib.hid hy
  have HXB := Lib.hid hxb
  have HYB := Lib.hid hyb
  have HQB := Lib.hid hqb
  have HQ := Lib.hid hq
  clear hx hy hxb hyb hqb hq
  obtain ⟨W, hW⟩ : ∃ W, W = w.alloc (.cells #[.int .i64 p, .slice a d cap] 30) := ⟨_, rfl⟩
  have gW : Ext w W := by rw [hW]; exact ext_alloc _ _
  have hs0 : W.cell? ⟨w.heap.size, 0, none⟩ = some (.int .i64 p) := by rw [hW]; simp
  have hs1 : W.cell? ⟨w.heap.size, 1, none⟩ = some (.slice a d cap) := by rw [hW]; simp
  have HS0 := Lib.hid hs0
  have HS1 := Lib.hid hs1
  have GW := Lib.hid gW
  obtain ⟨w1, hmk, ho, g1⟩ := make_ints W N (by omega)
  obtain ⟨g, hg⟩ : ∃ g, g = W.heap.size := ⟨_, rfl⟩
  rw [← hg] at hmk
  have HO : Hid (OwnC W.heap.size w1 (some ⟨g, 0, none⟩) N N (List.replicate N 0)) := by rw [← hg] at ho ⊢; exact ho
  have G1 := Lib.hid g1
  rw [hW] at hmk
  clear ho g1 gW hs0 hs1 hg hW
  go_enter Try.func104, Try.ntmps104
  go_wp2_with (fail)
  go_loopw [8] (fun i wr => ∃ k : Nat, k ≤ N ∧ i = .int .i64 k ∧ OwnC W.heap.size wr (some ⟨g, 0, none⟩) N N (outP p (fac p qs) tkA x y N k) ∧ Ext W wr) (fun i _ => N - (intOf i).toNat)
  case atStart => exact ⟨0, Nat.zero_le _, rfl, HO.out, G1.out⟩
  case round =>
    obtain ⟨k, hk, rfl, hown, hext⟩ := hrel
    have HOwn := Lib.hid hown
    have HExt := Lib.hid hext
    clear hown hext hmk
    by_cases hlt : k < N
    · obtain ⟨bx, ox, rfl, hcx⟩ := HX.out.2 k hlt
      have Hcx := Lib.hid (GW.out.cell hcx)
      clear hcx
      have hgood := Lib.hid (outP_good (f := fac p qs) (tk := tkA) (x := x) (y := y) (N := N) (show 1 ≤ p by omega) k)
      have hxk := isB_nth HXB.out (i := k) (by rw [HX.out.1]; exact hlt)
      go_wp2_with (fail)
      obtain ⟨wo, hwo⟩ : ∃ wo : World, wo = wr := ⟨_, rfl⟩
      clear hwo
      go_loopw [9] (fun i wr => ∃ j : Nat, j ≤ N ∧ i = .int .i64 j ∧ OwnC W.heap.size wr (some ⟨g, 0, none⟩) N N (inP p (fac p qs) tkA x y k j (outP p (fac p qs) tkA x y N k)) ∧ Ext W wr) (fun i _ => N - (intOf i).toNat)
      case atStart => exact ⟨0, Nat.zero_le _, rfl, HOwn.out, HExt.out⟩
      case round =>
        obtain ⟨j, hj, rfl, hown, hext⟩ := hrel
        have HOwn2 := Lib.hid hown
        have HExt2 := Lib.hid hext
        clear hown hext
        by_cases hlj : j < N
        · obtain ⟨by', oy, rfl, hcy⟩ := HY.out.2 j hlj
          have Hcy := Lib.hid (GW.out.cell hcy)
          clear hcy
          have hin := Lib.hid (inP_good (f := fac p qs) (tk := tkA) (x := x) (y := y) (a := k) (show 1 ≤ p by omega) hgood.out j)
          have hc : k ^^^ j < N := by rw [HN.out] at hlt hlj ⊢; exact Nat.xor_lt_two_pow hlt hlj
          have hcx' := HExt2.out.cell Hcx.out
          have hcy' := HExt2.out.cell Hcy.out
          by_cases hzx : nth x k = 0
          · have hzb : (nth x k != 0) = false := by simp [hzx]
            have HZ := Lib.hid (inP_zero (f := fac p qs) (tk := tkA) (y := y) (d := d) (show 1 ≤ p by omega) HN.out hlt hgood.out hzx)
            clear hzx
            go_wp2_with (fail)
            go_roundw
            case rel => exact ⟨k + 1, by omega, by go_num, by unfold outP; rw [HZ.out N (Nat.le_refl _)]; have := HOwn2.out; rw [HZ.out j hj] at this; exact this, HExt2.out⟩
            case measure => simp [intOf]; omega
          · have hzb : (nth x k != 0) = true := by simp [hzx]
            clear hzx
            by_cases hzj : nth y j = 0
            · have hzb2 : (nth y j != 0) = false := by simp [hzj]
              have HZ := Lib.hid (stepP_zero (f := fac p qs) (tk := tkA) (x := x) (y := y) (a := k) (b := j) hin.out hc (.inr hzj))
              clear hzj
              go_wp2_with (fail)
              go_roundw
              case rel => exact ⟨j + 1, by omega, by go_num, by unfold inP; rw [HZ.out]; exact HOwn2.out, HExt2.out⟩
              case measure => simp [intOf]; omega
            · have hzb2 : (nth y j != 0) = true := by simp [hzj]
              have HZ := Lib.hid (stepP_yes (p := p) (f := fac p qs) (tk := tkA) (x := x) (y := y) (a := k) (b := j) (out := inP p (fac p qs) tkA x y k j (outP p (fac p qs) tkA x y N k)) rfl)
              clear hzj
              go_wp2_with (fail)
              clear hcx' hcy'
              have X2 := Lib.hid (ext_drew wr)
              have Y2 := Lib.hid (HExt2.out.trans X2.out)
              obtain ⟨Z, hZ⟩ : ∃ Z, Z = inP p (fac p qs) tkA x y k j (outP p (fac p qs) tkA x y N k) := ⟨_, rfl⟩
              rw [← hZ] at hin HOwn2 HZ
              have HZZ := Lib.hid hZ
              clear hZ
              have HO2 := Lib.hid (HOwn2.out.ext X2.out)
              have Hc := Lib.hid (HO2.out.cell hc)
              have hzc := hin.out.2 _ hc
              have hyj := isB_nth HYB.out (i := j) (by rw [HY.out.1]; exact hlj)
              have hfb := fac_bd (qs := qs) (b := j) hp1 (show k < 64 by omega)
              have hxor := xor_ab k j (by omega) (by omega)
              obtain ⟨Fk, hFk⟩ : ∃ Fk, Fk = fac p qs k j := ⟨_, rfl⟩
              rw [← hFk] at hfb HZ
              obtain ⟨c, hcc⟩ : ∃ c, c = k ^^^ j := ⟨_, rfl⟩
              rw [← hcc] at hc HZ hzc hxor
              rw [← hcc] at Hc
              obtain ⟨zc, hzc'⟩ : ∃ zc, zc = nth Z c := ⟨_, rfl⟩
              rw [← hzc'] at hzc HZ
              rw [← hzc'] at Hc
              obtain ⟨hm1, hm2⟩ := mul_bd hp2 hxk.1 hxk.2 hyj.1 hyj.2
              obtain ⟨hm3, hm4⟩ := ref_bd (m := nth x k * nth y j) hp1 hp2 hfb.1 hfb.2
              have hw1 : IntKind.i64.wrap (nth x k * nth y j) = nth x k * nth y j := IntWalk.i64_in _ (by omega)
              have hw1t : (nth x k * nth y j).tmod p = nth x k * nth y j % p := Int.tmod_eq_emod_of_nonneg hm1
              obtain ⟨MM, hMM⟩ : ∃ MM, nth x k * nth y j % p = MM := ⟨_, rfl⟩
              have hST := step_ref (p := p) (o := zc) (m := nth x k * nth y j) (f := Fk)
              rw [hMM] at hw1t hm3 hm4 hST
              have hw2 : IntKind.i64.wrap (MM * Fk) = MM * Fk := IntWalk.i64_in _ (by omega)
              have hw3 : IntKind.i64.wrap (zc + MM * Fk) = zc + MM * Fk := IntWalk.i64_in _ (by omega)
              have hw4 : (zc + MM * Fk).tmod p = (zc + MM * Fk) % p := Int.tmod_eq_emod_of_nonneg (by omega)
              obtain ⟨RR, hRR⟩ : ∃ RR, (zc + MM * Fk) % p = RR := ⟨_, rfl⟩
              rw [hRR] at hw4 hST
              have HST := Lib.hid hST
              have hcn : (c : Int) < N := by omega
              have hc0 : (0 : Int) ≤ c := by omega
              have HFk := Lib.hid hFk
              have Hcc := Lib.hid hcc
              have Hzc := Lib.hid hzc'
              clear hFk hcc hzc' hzc hMM hRR hST
              refine wp_region_lex_tail 32 [(25, .val (.int .i64 Fk))] (by kernel_rfl) (by kernel_rfl) ?_
              simp only [List.take, List.drop]
              repeat' first | (refine LexW.pure (v := ?_) rfl rfl (fun w1 he => ?_) ?_; rotate_left; ( have e1 := (Y2.out.trans he).cell HS0.out; have e2 := (Y2.out.trans he).cell HS1.out; have e3 := he.cell Hc.out; have e4 := (Y2.out.trans he).cell Hcx.out; have e5 := (Y2.out.trans he).cell Hcy.out; go_simp; rfl); simp only [Act.put, List.setIfInBounds_toArray, List.set_cons_zero, List.set_cons_succ]) | (refine LexW.call (f := ?_) (args := ?_) rfl rfl (fun w1 => ?_) (fun w1 he hdep => ?_) ?_; rotate_left 2; (go_simp; refine ⟨?_, ?_⟩ <;> rfl); ( rw [HFk.out]; exact s_blades _ _ _ _ _ _ _ _ hd hp1 hp2 (by omega) (by omega) (HQ.out.ext (GW.out.trans (Y2.out.trans he))) HQB.out); simp only [Act.put, List.setIfInBounds_toArray, List.set_cons_zero, List.set_cons_succ])
              refine LexW.nil (fun w3 he hk => ?_)
              have HO3 := Lib.hid (HO2.out.ext he)
              have ec := HO3.out.cell hc
              have ef := HO3.out.frozen c
              have hgb := HO3.out.base_le
              go_wp2_with (fail)
              go_roundw
              case rel => exact ⟨j + 1, by omega, by go_num, by unfold inP; rw [← HZZ.out, HZ.out, ← HST.out]; exact HO3.out.store hc _, (Y2.out.trans he).setCell hgb.1 _⟩
              case measure => simp [intOf]; omega
        · go_wp2_with (fail)
          go_roundw
          case rel => exact ⟨k + 1, by omega, by go_num, by
            have hjn : j = N := by omega
            have := HOwn2.out; rw [hjn] at this; exact this, HExt2.out⟩
          case measure => simp [intOf]; omega
    · go_wp2_with (fail)
      go_ret
      have hkn : k = N := by omega
      refine ⟨g, rfl, ?_, GW.out.trans HExt.out⟩
      rw [HPr.out]
      have := HOwn.out
      rw [hkn] at this
      exact this.mono GW.out.size

end Go.Proofs.Ytnabpmafcflljaa
