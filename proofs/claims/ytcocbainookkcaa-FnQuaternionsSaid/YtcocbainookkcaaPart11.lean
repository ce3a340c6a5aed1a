/-
  Contracts and plain laws, part 11: AppR, AppV, RedW, KernelS, RedK, WedgeP, Sph, DblN, QuatN, Conj, DrawV, DrawP, Elem9, CntP, Power, CntV, CntN.
  No condition.
-/
import Derived.Test.YtcocbainookkcaaPart3
import Derived.Test.YtcocbainookkcaaPart1
import Derived.Test.YtcocbainookkcaaPart0
import Derived.Test.YtcocbainookkcaaPart2
import Derived.Maps.AppendAt
import Derived.Test.YtcocbainookkcaaPart10
import Derived.Test.YtcocbainookkcaaPart9
import Derived.Test.YtcocbainookkcaaPart6
import Derived.Test.YtcocbainookkcaaPart5
/-
  append of rows to rows; sums of matrices.
  No condition.
-/
namespace Go.Proofs.Ytcocbainookkcaa
set_option maxRecDepth 100000
open Go.RowKit

/-- append of rows of the call's own. -/
theorem run_appendRows {B : Nat} {w0 w : World} {ra : Option Addr} {n cap : Nat} {rows : List (List Int)} {g2 m c2 : Nat} {rows2 : List (List Int)} (hown : OwnR B w0 ra n cap rows) (he : Ext w0 w) (hx : OwnR w0.heap.size w (some ⟨g2, 0, none⟩) m c2 rows2) (hm : 0 < m) (hn : n ≤ 4194304) (hml : m ≤ 4194304) (hB : B ≤ w0.heap.size) (ty : TypeId) :
    ∃ g' cap' w', (Builtin.append_ #[63, 63] ty #[.slice ra n cap, .slice (some ⟨g2, 0, none⟩) m c2]).run Try.prog w = .ok (.slice (some ⟨g', 0, none⟩) (n + m) cap') w' ∧
      OwnR B w' (some ⟨g', 0, none⟩) (n + m) cap' (rows ++ rows2) ∧ (∀ W : World, W.heap.size ≤ B → Ext W w → Ext W w') := by
  obtain ⟨i0, hi, hz0, hz1, hz2⟩ := info_parts Try.infoR
  have hown0 := hown
  obtain ⟨h1, vs, h2, hap, h4⟩ := hown
  obtain ⟨x1, us, x2, xap, x4⟩ := hx
  have h2' := ownsRow_ext h2 he
  have hvl : vs.length = n := by have := h2.1; omega
  have hul : us.length = m := by have := x2.1; omega
  have hcell : ∀ j u, us[j]? = some u → w.cell? ⟨g2, j, none⟩ = some u := fun j u hj => by
    have hjl : j < m := by
      rcases Nat.lt_or_ge j m with h | h
      · exact h
      · rw [List.getElem?_eq_none (by omega)] at hj; cases hj
    rcases x2.2 with ⟨_, h3⟩ | ⟨g, c, cur, hv, hb, hh, hc1, hc2, hc3, hc4⟩
    · omega
    · simp only [Value.slice.injEq] at hv
      obtain ⟨hv1, _, _⟩ := hv
      cases hv1
      rw [← hc4, List.getElem?_take_of_lt (by omega), Array.getElem?_toList] at hj
      simp only [World.cell?, hh]
      simpa using hj
  obtain ⟨v', w', hr, h5, h6, _⟩ := run_append_own (P := Try.prog) w B 63 ty 24 i0 (.slice none 0 0) 1 24 Try.underlying63 hi hz0 hz1 hz2 rfl (by decide) (.slice ra n cap) n vs h2'
    ⟨g2, 0, none⟩ m c2 us (by omega) (fun j u hj => by
      have := hcell j u hj
      by_cases hj0 : j = 0
      · subst hj0; simpa [Addr.add] using this
      · simpa [Addr.add, hj0] using this) (fun u hu => by
        obtain ⟨j, hj, rfl⟩ := List.getElem_of_mem hu
        obtain ⟨ai, ci, h7, _⟩ := x4 j (by omega)
        rw [List.getElem?_eq_getElem hj] at h7
        rw [Option.some.inj h7]; rfl) (by unfold maxLen; omega) (by omega) (Nat.le_trans hB he.size)
  have form : ∃ g cap, v' = .slice (some ⟨g, 0, none⟩) (n + m) cap := by
    rcases h5.2 with ⟨_, h3⟩ | ⟨g, c, cur, hv, _⟩
    · omega
    · exact ⟨g, c, hv⟩
  obtain ⟨g', cap', rfl⟩ := form
  refine ⟨g', cap', w', hr, ⟨by simp [h1, x1], vs ++ us, h5, ?_, fun i hin => ?_⟩, fun W hW hE => hE.grown h6 fun k hk => Nat.le_trans hW (hown0.blk k hk)⟩
  · intro i k g1 n1 c1 n2 c2 hik hi hk
    have old : ∀ l n3 c3, l < n → vs[l]? = some (Value.slice (some ⟨g1, 0, none⟩) n3 c3) → g1 < w0.heap.size := fun l n3 c3 hl e => by
      obtain ⟨ai, ci, h5, h6⟩ := h4 l hl
      rw [h5] at e
      simp only [Option.some.injEq, Value.slice.injEq] at e
      exact (h6.base_of g1 e.1).2
    have new : ∀ l n3 c3, us[l]? = some (Value.slice (some ⟨g1, 0, none⟩) n3 c3) → w0.heap.size ≤ g1 := fun l n3 c3 e => by
      have hl : l < m := by
        rcases Nat.lt_or_ge l m with h | h
        · exact h
        · rw [List.getElem?_eq_none (by omega)] at e; cases e
      obtain ⟨ai, ci, h5, h6⟩ := x4 l hl
      rw [h5] at e
      simp only [Option.some.injEq, Value.slice.injEq] at e
      exact (h6.base_of g1 e.1).1
    by_cases li : i < n
    · rw [List.getElem?_append_left (by omega)] at hi
      by_cases lk : k < n
      · rw [List.getElem?_append_left (by omega)] at hk
        exact hap i k g1 _ _ _ _ hik hi hk
      · rw [List.getElem?_append_right (by omega)] at hk
        have := new _ _ _ hk; have := old i _ _ li hi; omega
    · rw [List.getElem?_append_right (by omega)] at hi
      by_cases lk : k < n
      · rw [List.getElem?_append_left (by omega)] at hk
        have := new _ _ _ hi; have := old k _ _ lk hk; omega
      · rw [List.getElem?_append_right (by omega)] at hk
        exact xap _ _ g1 _ _ _ _ (by omega) hi hk
  · by_cases hlt : i < n
    · obtain ⟨ai, ci, h7, h8⟩ := h4 i hlt
      have e : nthR (rows ++ rows2) i = nthR rows i := by simp [nthR, List.getElem?_append_left (show i < rows.length by omega)]
      rw [e]
      exact ⟨ai, ci, by rw [List.getElem?_append_left (by omega)]; exact h7, (h8.ext he).grown h6 (own_apart h2' (h8.ext he))⟩
    · obtain ⟨ai, ci, h7, h8⟩ := x4 (i - n) (by omega)
      have e : nthR (rows ++ rows2) i = nthR rows2 (i - n) := by
        unfold nthR
        rw [List.getD_eq_getElem?_getD, List.getD_eq_getElem?_getD, List.getElem?_append_right (by omega), h1]
      rw [e]
      exact ⟨ai, ci, by rw [List.getElem?_append_right (by omega), hvl]; exact h7, (h8.mono hB).grown h6 (own_apart h2' h8)⟩

theorem append_emptyN (w : World) (b t : Addr) (m c : Nat) (us : List Value) (ty : TypeId) (hul : us.length = m) (hn : ∀ j u, us[j]? = some u → w.cell? (t.add j) = some u) (hm : 0 < m) (hml : m ≤ 4194304) :
    (Builtin.append_ #[63, 63] ty #[.slice (some b) 0 0, .slice (some t) m c]).run Try.prog w =
    (Builtin.append_ #[63, 63] ty #[.slice none 0 0, .slice (some t) m c]).run Try.prog w := by
  obtain ⟨i0, hi, hz0, hz1, hz2⟩ := info_parts Try.infoR
  have e : Builtin.nextslicecap (0 + m) 0 * i0.bytes ≤ 281474976710656 := by
    rw [hz2]; unfold Builtin.nextslicecap; rw [if_pos (by omega)]; omega
  rw [run_append_grow (P := Try.prog) w 63 ty 24 i0 (.slice none 0 0) Try.underlying63 hi hz0 b 0 0 [] (by simp) (fun j u hj => by simp at hj) t m c us (by simp [hz1, hul]) hn (by omega) (by omega) e,
    run_append_nil (P := Try.prog) w 63 ty 24 i0 (.slice none 0 0) Try.underlying63 hi hz0 t m c us (by simp [hz1, hul]) hn (by omega) (by omega) (by rw [hz2]; omega)]
  simp

/-- The cells of owned rows. -/
theorem ownR_cells {B : Nat} {w : World} {g m c : Nat} {rows : List (List Int)} (h : OwnR B w (some ⟨g, 0, none⟩) m c rows) (hm : 0 < m) : ∃ us : List Value, us.length = m ∧ ∀ j u, us[j]? = some u → w.cell? ((⟨g, 0, none⟩ : Addr).add j) = some u := by
  obtain ⟨x1, us, x2, xap, x4⟩ := h
  have hul : us.length = m := by have := x2.1; omega
  refine ⟨us, hul, fun j u hj => ?_⟩
  have hjl : j < m := by
    rcases Nat.lt_or_ge j m with h | h
    · exact h
    · rw [List.getElem?_eq_none (by omega)] at hj; cases hj
  have hc : w.cell? ⟨g, j, none⟩ = some u := by
    rcases x2.2 with ⟨_, h3⟩ | ⟨g, c, cur, hv, hb, hh, hc1, hc2, hc3, hc4⟩
    · omega
    · simp only [Value.slice.injEq] at hv
      obtain ⟨hv1, _, _⟩ := hv
      cases hv1
      rw [← hc4, List.getElem?_take_of_lt (by omega), Array.getElem?_toList] at hj
      simp only [World.cell?, hh]
      simpa using hj
  by_cases hj0 : j = 0
  · subst hj0; simpa [Addr.add] using hc
  · simpa [Addr.add, hj0] using hc

theorem run_appendRowsW {B : Nat} {w0 w : World} {ra : Option Addr} {n cap : Nat} {rows : List (List Int)} {g2 m c2 : Nat} {rows2 : List (List Int)} (hown : OwnW B w0 ra n cap rows) (he : Ext w0 w) (hx : OwnR w0.heap.size w (some ⟨g2, 0, none⟩) m c2 rows2) (hm : 0 < m) (hn : n ≤ 4194304) (hml : m ≤ 4194304) (hB : B ≤ w0.heap.size) (ty : TypeId) :
    ∃ g' cap' w', (Builtin.append_ #[63, 63] ty #[.slice ra n cap, .slice (some ⟨g2, 0, none⟩) m c2]).run Try.prog w = .ok (.slice (some ⟨g', 0, none⟩) (n + m) cap') w' ∧
      OwnR B w' (some ⟨g', 0, none⟩) (n + m) cap' (rows ++ rows2) ∧ (∀ W : World, W.heap.size ≤ B → Ext W w → Ext W w') := by
  rcases hown with ⟨rfl, rfl, rfl, g0, rfl⟩ | hown
  · obtain ⟨us, hul, hcs⟩ := ownR_cells hx hm
    obtain ⟨g', cap', w', h1, h2, h4⟩ := run_appendRows (OwnR.nil B w0) he hx hm hn hml hB ty
    exact ⟨g', cap', w', by rw [append_emptyN w _ _ m c2 us ty hul hcs hm hml]; exact h1, h2, h4⟩
  · exact run_appendRows hown he hx hm hn hml hB ty

theorem wpList_appendRowsW {ops : Array Oper} {rest : List Oper} {o : Oper} {a : Act} {Q : Exit → Act → World → Prop} {w0 w : World} (hgd : o.guard = none) (s x : Operand)
    (ho : o.op = .call { callee := .builtin .append, args := #[s, x], argTypes := #[63, 63] })
    {B : Nat} {ra : Option Addr} {n cap : Nat} {rows : List (List Int)} {g2 m c2 : Nat} {rows2 : List (List Int)} (hs : a.eval s = .slice ra n cap) (hx : a.eval x = .slice (some ⟨g2, 0, none⟩) m c2)
    (hown : OwnW B w0 ra n cap rows) (he : Ext w0 w) (hxs : OwnR w0.heap.size w (some ⟨g2, 0, none⟩) m c2 rows2) (hm : 0 < m) (hn : n ≤ 4194304) (hml : m ≤ 4194304) (hB : B ≤ w0.heap.size)
    (h : ∀ g' cap' w', OwnR B w' (some ⟨g', 0, none⟩) (n + m) cap' (rows ++ rows2) → (∀ W : World, W.heap.size ≤ B → Ext W w → Ext W w') →
      wpList Try.prog ops Q rest (a.put o.dst (.slice (some ⟨g', 0, none⟩) (n + m) cap')) w') : wpList Try.prog ops Q (o :: rest) a w := by
  refine wpList_plain hgd fun K hK => ?_
  obtain ⟨g', cap', w', hr, h1, h3⟩ := run_appendRowsW hown he hxs hm hn hml hB o.type
  unfold Oper.wp execOp
  simp only [ho, resolve, invoke, builtin, Sem.run_bind, Sem.run_pure, Result.andThen_ok, List.map_toArray, List.map_cons, List.map_nil, hs, hx, hr]
  exact hK _ _ (h g' cap' w' h1 h3)

theorem run_pushR_at {B : Nat} {w0 w : World} {ra : Option Addr} {n cap : Nat} {rows : List (List Int)} {b : Option Addr} {m c : Nat} {xs : List Int} {g : Nat} (hown : OwnR B w0 ra n cap rows) (he : Ext w0 w) (hc : w.cell? ⟨g, 0, none⟩ = some (.slice b m c)) (hx : OwnC w0.heap.size w b m c xs) (hn : n ≤ 4194304) (hB : B ≤ w0.heap.size) (ty : TypeId) :
    ∃ g' cap' w', (Builtin.append_ #[63, 63] ty #[.slice ra n cap, .slice (some ⟨g, 0, none⟩) 1 1]).run Try.prog w = .ok (.slice (some ⟨g', 0, none⟩) (n + 1) cap') w' ∧
      OwnR B w' (some ⟨g', 0, none⟩) (n + 1) cap' (rows ++ [xs]) ∧ w.grownBy w' (Value.slice ra n cap).ownBlock ∧ (g' = w.heap.size ∨ (Value.slice ra n cap).ownBlock = some g') ∧ (∀ W : World, W.heap.size ≤ B → Ext W w → Ext W w') := by
  obtain ⟨i0, hi, hz0, hz1, hz2⟩ := info_parts Try.infoR
  have hown0 := hown
  obtain ⟨h1, vs, h2, hap, h4⟩ := hown
  have h2' := ownsRow_ext h2 he
  have hvl : vs.length = n := by have := h2.1; omega
  obtain ⟨v', w', hr, h5, h6, _, hbk⟩ := run_append_own_at (P := Try.prog) w B 63 ty 24 i0 (.slice none 0 0) 1 24 Try.underlying63 hi hz0 hz1 hz2 rfl (by decide) (.slice ra n cap) n vs h2'
    ⟨g, 0, none⟩ 1 1 [.slice b m c] rfl (fun j u hj => by
      cases j with
      | zero => simp only [List.getElem?_cons_zero, Option.some.injEq] at hj; subst hj; simpa [Addr.add] using hc
      | succ j => simp at hj) (fun u hu => by simp only [List.mem_singleton] at hu; subst hu; rfl) (by unfold maxLen; omega) (by omega) (Nat.le_trans hB he.size)
  have form : ∃ g cap, v' = .slice (some ⟨g, 0, none⟩) (n + 1) cap := by
    rcases h5.2 with ⟨_, h3⟩ | ⟨g, c, cur, hv, _⟩
    · omega
    · exact ⟨g, c, hv⟩
  obtain ⟨g', cap', rfl⟩ := form
  refine ⟨g', cap', w', hr, ⟨by simp [h1], vs ++ [.slice b m c], h5, ?_, fun i hin => ?_⟩, h6, hbk.elim (fun h => .inr h.symm) (fun h => .inl (Option.some.inj h)), fun W hW hE => hE.grown h6 fun k hk => Nat.le_trans hW (hown0.blk k hk)⟩
  · intro i k g1 n1 c1 n2 c2 hik hi hk
    have old : ∀ l n3 c3, l < n → vs[l]? = some (.slice (some ⟨g1, 0, none⟩) n3 c3) → g1 < w0.heap.size := fun l n3 c3 hl e => by
      obtain ⟨ai, ci, h5, h6⟩ := h4 l hl
      rw [h5] at e
      simp only [Option.some.injEq, Value.slice.injEq] at e
      exact (h6.base_of g1 e.1).2
    have new : (some (Value.slice b m c)) = some (.slice (some ⟨g1, 0, none⟩) n1 c1) ∨ (some (Value.slice b m c)) = some (.slice (some ⟨g1, 0, none⟩) n2 c2) → w0.heap.size ≤ g1 := fun e => by
      rcases e with e | e
      all_goals
        simp only [Option.some.injEq, Value.slice.injEq] at e
        exact (hx.base_of g1 e.1).1
    rcases Nat.lt_trichotomy i n with li | li | li
    · rw [List.getElem?_append_left (by omega)] at hi
      rcases Nat.lt_trichotomy k n with lk | lk | lk
      · rw [List.getElem?_append_left (by omega)] at hk
        exact hap i k g1 _ _ _ _ hik hi hk
      · rw [lk, ← hvl, List.getElem?_concat_length] at hk
        have := new (.inr hk); have := old i _ _ li hi; omega
      · rw [List.getElem?_eq_none (by simp; omega)] at hk; cases hk
    · rw [li, ← hvl, List.getElem?_concat_length] at hi
      rcases Nat.lt_trichotomy k n with lk | lk | lk
      · rw [List.getElem?_append_left (by omega)] at hk
        have := new (.inl hi); have := old k _ _ lk hk; omega
      · omega
      · rw [List.getElem?_eq_none (by simp; omega)] at hk; cases hk
    · rw [List.getElem?_eq_none (by simp; omega)] at hi; cases hi
  · by_cases hlt : i < n
    · obtain ⟨ai, ci, h7, h8⟩ := h4 i hlt
      have e : nthR (rows ++ [xs]) i = nthR rows i := by simp [nthR, List.getElem?_append_left (show i < rows.length by omega)]
      rw [e]
      exact ⟨ai, ci, by rw [List.getElem?_append_left (by omega)]; exact h7, (h8.ext he).grown h6 (own_apart h2' (h8.ext he))⟩
    · obtain rfl : i = n := by omega
      have e : nthR (rows ++ [xs]) i = xs := by simp [nthR, ← h1]
      rw [e, hx.1]
      exact ⟨b, c, by rw [← hvl]; simp, (hx.mono hB).grown h6 (own_apart h2' hx)⟩

theorem wpList_pushR_at {ops : Array Oper} {rest : List Oper} {o : Oper} {a : Act} {Q : Exit → Act → World → Prop} {w0 w : World} (hgd : o.guard = none) (s x : Operand)
    (ho : o.op = .call { callee := .builtin .append, args := #[s, x], argTypes := #[63, 63] })
    {B : Nat} {ra : Option Addr} {n cap : Nat} {rows : List (List Int)} {b : Option Addr} {m c : Nat} {xs : List Int} {g : Nat} (hs : a.eval s = .slice ra n cap) (hx : a.eval x = .slice (some ⟨g, 0, none⟩) 1 1)
    (hown : OwnR B w0 ra n cap rows) (he : Ext w0 w) (hxs : OwnC w0.heap.size w b m c xs) (hc : w.cell? ⟨g, 0, none⟩ = some (.slice b m c)) (hn : n ≤ 4194304) (hB : B ≤ w0.heap.size)
    (h : ∀ g' cap' w', OwnR B w' (some ⟨g', 0, none⟩) (n + 1) cap' (rows ++ [xs]) → w.grownBy w' (Value.slice ra n cap).ownBlock → (g' = w.heap.size ∨ (Value.slice ra n cap).ownBlock = some g') → (∀ W : World, W.heap.size ≤ B → Ext W w → Ext W w') →
      wpList Try.prog ops Q rest (a.put o.dst (.slice (some ⟨g', 0, none⟩) (n + 1) cap')) w') : wpList Try.prog ops Q (o :: rest) a w := by
  refine wpList_plain hgd fun K hK => ?_
  obtain ⟨g', cap', w', hr, h1, h2, h2b, h3⟩ := run_pushR_at hown he hc hxs hn hB o.type
  unfold Oper.wp execOp
  simp only [ho, resolve, invoke, builtin, Sem.run_bind, Sem.run_pure, Result.andThen_ok, List.map_toArray, List.map_cons, List.map_nil, hs, hx, hr]
  exact hK _ _ (h g' cap' w' h1 h2 h2b h3)

/-- Owned rows stay, where another list of rows is grown. -/
theorem OwnR.grown2 {B B2 : Nat} {w w' : World} {a ra : Option Addr} {n cap m c : Nat} {rows rows2 : List (List Int)} (h : OwnR B w a n cap rows) (h2 : OwnR B2 w ra m c rows2) (hg : w.grownBy w' (Value.slice ra m c).ownBlock) (hne : ∀ g, a = some ⟨g, 0, none⟩ → (Value.slice ra m c).ownBlock ≠ some g) : OwnR B w' a n cap rows := by
  have hlt := h.base_of
  obtain ⟨h1, vs, hv, hap, h4⟩ := h
  obtain ⟨_, us, hu, _⟩ := h2
  refine ⟨h1, vs, ⟨hv.1, ?_⟩, hap, fun i hi => ?_⟩
  · rcases hv.2 with h3 | ⟨g, c, cur, hv, hb, hh, h4⟩
    · exact .inl h3
    · refine .inr ⟨g, c, cur, hv, hb, ?_, h4⟩
      simp only [Value.slice.injEq] at hv
      rw [hg.block g (hlt g hv.1).2 (fun e => hne g hv.1 e.symm)]; exact hh
  · obtain ⟨ai, ci, h5, h6⟩ := h4 i hi
    exact ⟨ai, ci, h5, h6.grown hg (own_apart hu h6)⟩

/-! ### Sums of matrices -/
def sumM (p : Int) (A B : List (List Int)) (k : Int) (m n : Nat) : List (List Int) := (List.range n).map fun i => plusL p (nthR A i) (nthR B i) k m
theorem sumM_succ (p : Int) (A B : List (List Int)) (k : Int) (m n : Nat) : sumM p A B k m (n + 1) = sumM p A B k m n ++ [plusL p (nthR A n) (nthR B n) k m] := by simp [sumM, List.range_succ]
theorem sumM_len (p : Int) (A B : List (List Int)) (k : Int) (m n : Nat) : (sumM p A B k m n).length = n := by simp [sumM]
theorem sumM_nth {p : Int} {A B : List (List Int)} {k : Int} {m n i : Nat} (h : i < n) : nthR (sumM p A B k m n) i = plusL p (nthR A i) (nthR B i) k m := by
  unfold sumM; rw [nthR_map (by simpa using h)]; simp
theorem sumM_good {p : Int} {A B : List (List Int)} {k : Int} {m n : Nat} (hp : 1 ≤ p) : RowsG p m (sumM p A B k m n) := fun i hi => by
  rw [sumM_len] at hi
  rw [sumM_nth hi]
  exact plus_good hp

end Go.Proofs.Ytcocbainookkcaa

/-
  A list of the call's own whose rows are only read; appends to it.
  No condition.
-/
namespace Go.Proofs.Ytcocbainookkcaa
set_option maxRecDepth 100000
open Go.RowKit

/-- A list of the call's own (from block B on); its rows are rows of numbers in blocks of numbers. -/
def OwnVC (C B : Nat) (w : World) (a : Option Addr) (n cap : Nat) (rows : List (List Int)) : Prop :=
  rows.length = n ∧ ∃ vs : List Value, w.ownsRow B 24 1 (.slice a n cap) n vs ∧
    ∀ i, i < n → ∃ ai ci, vs[i]? = some (.slice ai (nthR rows i).length ci) ∧ OwnC C w ai (nthR rows i).length ci (nthR rows i)
abbrev OwnV (B : Nat) := OwnVC 0 B
theorem OwnR.toV {C B : Nat} {w : World} {a : Option Addr} {n cap : Nat} {rows : List (List Int)} (h : OwnR B w a n cap rows) (hC : C ≤ B) : OwnVC C B w a n cap rows := by
  obtain ⟨h1, vs, h2, _, h4⟩ := h
  exact ⟨h1, vs, h2, fun i hi => by
    obtain ⟨ai, ci, h5, h6⟩ := h4 i hi
    exact ⟨ai, ci, h5, h6.mono hC⟩⟩
theorem OwnVC.ext {C B : Nat} {w w' : World} {a : Option Addr} {n cap : Nat} {rows : List (List Int)} (h : OwnVC C B w a n cap rows) (he : Ext w w') : OwnVC C B w' a n cap rows := by
  obtain ⟨h1, vs, h2, h4⟩ := h
  refine ⟨h1, vs, ownsRow_ext h2 he, fun i hi => ?_⟩
  obtain ⟨ai, ci, h5, h6⟩ := h4 i hi
  exact ⟨ai, ci, h5, h6.ext he⟩
theorem OwnVC.blk {C B : Nat} {w : World} {a : Option Addr} {n cap : Nat} {rows : List (List Int)} (h : OwnVC C B w a n cap rows) : ∀ k, (Value.slice a n cap).ownBlock = some k → B ≤ k ∧ k < w.heap.size := by
  intro k hk
  obtain ⟨_, vs, h2, _⟩ := h
  exact h2.lt k hk
theorem OwnVC.rd {C B : Nat} {w : World} {a : Option Addr} {n cap : Nat} {rows : List (List Int)} (h : OwnVC C B w a n cap rows) : RdR w a n rows := by
  obtain ⟨h1, vs, ⟨h2, h3⟩, h4⟩ := h
  refine ⟨h1, fun i hi => ?_⟩
  rcases h3 with ⟨_, h3⟩ | ⟨g, c, cur, hv, hb, hh, hc1, hc2, hc3, hc4⟩
  · omega
  · simp only [Value.slice.injEq] at hv
    obtain ⟨hv1, _, _⟩ := hv
    obtain ⟨ai, ci, h5, h6⟩ := h4 i hi
    refine ⟨g, 0, ai, ci, hv1, ?_, h6.rd⟩
    rw [← hc4, List.getElem?_take_of_lt (by omega), Array.getElem?_toList] at h5
    simp only [World.cell?, hh]
    simpa using h5
/-- The same, or the empty list that was made at the start. -/
def OwnXC (C B : Nat) (w : World) (a : Option Addr) (n cap : Nat) (rows : List (List Int)) : Prop :=
  (n = 0 ∧ cap = 0 ∧ rows = [] ∧ ∃ g, a = some ⟨g, 0, none⟩ ∧ g < w.heap.size) ∨ OwnVC C B w a n cap rows
abbrev OwnX (B : Nat) := OwnXC 0 B
theorem OwnXC.rd {C B : Nat} {w : World} {a : Option Addr} {n cap : Nat} {rows : List (List Int)} (h : OwnXC C B w a n cap rows) : RdR w a n rows := by
  rcases h with ⟨rfl, _, rfl, _⟩ | h
  · exact ⟨rfl, fun i hi => by omega⟩
  · exact h.rd
theorem OwnXC.ext {C B : Nat} {w w' : World} {a : Option Addr} {n cap : Nat} {rows : List (List Int)} (h : OwnXC C B w a n cap rows) (he : Ext w w') : OwnXC C B w' a n cap rows := by
  rcases h with ⟨h1, h2, h3, g, h4, h5⟩ | h
  · exact .inl ⟨h1, h2, h3, g, h4, Nat.lt_of_lt_of_le h5 he.size⟩
  · exact .inr (h.ext he)

theorem run_appendV {C B : Nat} {w : World} {ra : Option Addr} {n cap : Nat} {rows : List (List Int)} {g2 m c2 : Nat} {rows2 : List (List Int)} {us : List Value} (hown : OwnVC C B w ra n cap rows) (hul : us.length = m) (h2l : rows2.length = m) (hcell : ∀ j u, us[j]? = some u → w.cell? ⟨g2, j, none⟩ = some u) (x4 : ∀ i, i < m → ∃ ai ci, us[i]? = some (.slice ai (nthR rows2 i).length ci) ∧ OwnC C w ai (nthR rows2 i).length ci (nthR rows2 i)) (hm : 0 < m) (hn : n ≤ 4194304) (hml : m ≤ 4194304) (hB : B ≤ w.heap.size) (ty : TypeId) :
    ∃ g' cap' w', (Builtin.append_ #[63, 63] ty #[.slice ra n cap, .slice (some ⟨g2, 0, none⟩) m c2]).run Try.prog w = .ok (.slice (some ⟨g', 0, none⟩) (n + m) cap') w' ∧
      OwnVC C B w' (some ⟨g', 0, none⟩) (n + m) cap' (rows ++ rows2) ∧ w.grownBy w' (Value.slice ra n cap).ownBlock ∧ (g' = w.heap.size ∨ (Value.slice ra n cap).ownBlock = some g') ∧ (∀ W : World, W.heap.size ≤ B → Ext W w → Ext W w') := by
  obtain ⟨i0, hi, hz0, hz1, hz2⟩ := info_parts Try.infoR
  have hown0 := hown
  obtain ⟨h1, vs, h2, h4⟩ := hown
  have hvl : vs.length = n := by have := h2.1; omega
  obtain ⟨v', w', hr, h5, h6, _, hbk⟩ := run_append_own_at (P := Try.prog) w B 63 ty 24 i0 (.slice none 0 0) 1 24 Try.underlying63 hi hz0 hz1 hz2 rfl (by decide) (.slice ra n cap) n vs h2
    ⟨g2, 0, none⟩ m c2 us (by omega) (fun j u hj => by
      have := hcell j u hj
      by_cases hj0 : j = 0
      · subst hj0; simpa [Addr.add] using this
      · simpa [Addr.add, hj0] using this) (fun u hu => by
        obtain ⟨j, hj, rfl⟩ := List.getElem_of_mem hu
        obtain ⟨ai, ci, h7, _⟩ := x4 j (by omega)
        rw [List.getElem?_eq_getElem hj] at h7
        rw [Option.some.inj h7]; rfl) (by unfold maxLen; omega) (by omega) hB
  have form : ∃ g cap, v' = .slice (some ⟨g, 0, none⟩) (n + m) cap := by
    rcases h5.2 with ⟨_, h3⟩ | ⟨g, c, cur, hv, _⟩
    · omega
    · exact ⟨g, c, hv⟩
  obtain ⟨g', cap', rfl⟩ := form
  refine ⟨g', cap', w', hr, ⟨by simp [h1, h2l], vs ++ us, h5, fun i hin => ?_⟩, h6, hbk.elim (fun h => .inr h.symm) (fun h => .inl (Option.some.inj h)), fun W hW hE => hE.grown h6 fun k hk => Nat.le_trans hW (hown0.blk k hk).1⟩
  by_cases hlt : i < n
  · obtain ⟨ai, ci, h7, h8⟩ := h4 i hlt
    have e : nthR (rows ++ rows2) i = nthR rows i := by simp [nthR, List.getElem?_append_left (show i < rows.length by omega)]
    rw [e]
    exact ⟨ai, ci, by rw [List.getElem?_append_left (by omega)]; exact h7, h8.grown h6 (own_apart h2 h8)⟩
  · obtain ⟨ai, ci, h7, h8⟩ := x4 (i - n) (by omega)
    have e : nthR (rows ++ rows2) i = nthR rows2 (i - n) := by
      unfold nthR
      rw [List.getD_eq_getElem?_getD, List.getD_eq_getElem?_getD, List.getElem?_append_right (by omega), h1]
    rw [e]
    exact ⟨ai, ci, by rw [List.getElem?_append_right (by omega), hvl]; exact h7, h8.grown h6 (own_apart h2 h8)⟩
theorem OwnVC.nil (C B : Nat) (w : World) : OwnVC C B w none 0 0 [] := by
  obtain ⟨h1, vs, h2, _⟩ := OwnR.nil B w
  exact ⟨h1, vs, h2, fun i hi => absurd hi (Nat.not_lt_zero _)⟩

theorem run_appendX {C B : Nat} {w : World} {ra : Option Addr} {n cap : Nat} {rows : List (List Int)} {g2 m c2 : Nat} {rows2 : List (List Int)} {us : List Value} (hown : OwnXC C B w ra n cap rows) (hul : us.length = m) (h2l : rows2.length = m) (hcell : ∀ j u, us[j]? = some u → w.cell? ⟨g2, j, none⟩ = some u) (x4 : ∀ i, i < m → ∃ ai ci, us[i]? = some (.slice ai (nthR rows2 i).length ci) ∧ OwnC C w ai (nthR rows2 i).length ci (nthR rows2 i)) (hm : 0 < m) (hn : n ≤ 4194304) (hml : m ≤ 4194304) (hB : B ≤ w.heap.size) (ty : TypeId) :
    ∃ g' cap' w' row, (Builtin.append_ #[63, 63] ty #[.slice ra n cap, .slice (some ⟨g2, 0, none⟩) m c2]).run Try.prog w = .ok (.slice (some ⟨g', 0, none⟩) (n + m) cap') w' ∧
      OwnVC C B w' (some ⟨g', 0, none⟩) (n + m) cap' (rows ++ rows2) ∧ w.grownBy w' row ∧ (row = none ∨ OwnVC C B w ra n cap rows ∧ row = (Value.slice ra n cap).ownBlock) ∧ (g' = w.heap.size ∨ row = some g') ∧ (∀ W : World, W.heap.size ≤ B → Ext W w → Ext W w') := by
  rcases hown with ⟨rfl, rfl, rfl, g0, rfl, _⟩ | hown
  · obtain ⟨g', cap', w', h1, h2, h3, h4, h5⟩ := run_appendV (OwnVC.nil C B w) hul h2l hcell x4 hm hn hml hB ty
    refine ⟨g', cap', w', none, ?_, h2, h3, .inl rfl, ?_, h5⟩
    · rw [append_emptyN w _ _ m c2 us ty hul (fun j u hj => by
        have := hcell j u hj
        by_cases hj0 : j = 0
        · subst hj0; simpa [Addr.add] using this
        · simpa [Addr.add, hj0] using this) hm hml]; exact h1
    · rcases h4 with h | h
      · exact .inl h
      · simp [Value.ownBlock] at h
  · obtain ⟨g', cap', w', h1, h2, h3, h4, h5⟩ := run_appendV hown hul h2l hcell x4 hm hn hml hB ty
    exact ⟨g', cap', w', _, h1, h2, h3, .inr ⟨hown, rfl⟩, h4, h5⟩

theorem wpList_appendX {ops : Array Oper} {rest : List Oper} {o : Oper} {a : Act} {Q : Exit → Act → World → Prop} {w : World} (hgd : o.guard = none) (s x : Operand)
    (ho : o.op = .call { callee := .builtin .append, args := #[s, x], argTypes := #[63, 63] })
    {C B : Nat} {ra : Option Addr} {n cap : Nat} {rows : List (List Int)} {g2 m c2 : Nat} {rows2 : List (List Int)} {us : List Value} (hs : a.eval s = .slice ra n cap) (hx : a.eval x = .slice (some ⟨g2, 0, none⟩) m c2)
    (hown : OwnXC C B w ra n cap rows) (hul : us.length = m) (h2l : rows2.length = m) (hcell : ∀ j u, us[j]? = some u → w.cell? ⟨g2, j, none⟩ = some u) (x4 : ∀ i, i < m → ∃ ai ci, us[i]? = some (.slice ai (nthR rows2 i).length ci) ∧ OwnC C w ai (nthR rows2 i).length ci (nthR rows2 i)) (hm : 0 < m) (hn : n ≤ 4194304) (hml : m ≤ 4194304) (hB : B ≤ w.heap.size)
    (h : ∀ g' cap' w' row, OwnVC C B w' (some ⟨g', 0, none⟩) (n + m) cap' (rows ++ rows2) → w.grownBy w' row → (row = none ∨ OwnVC C B w ra n cap rows ∧ row = (Value.slice ra n cap).ownBlock) → (g' = w.heap.size ∨ row = some g') → (∀ W : World, W.heap.size ≤ B → Ext W w → Ext W w') →
      wpList Try.prog ops Q rest (a.put o.dst (.slice (some ⟨g', 0, none⟩) (n + m) cap')) w') : wpList Try.prog ops Q (o :: rest) a w := by
  refine wpList_plain hgd fun K hK => ?_
  obtain ⟨g', cap', w', row, hr, h1, h2, h3, h4, h5⟩ := run_appendX (c2 := c2) hown hul h2l hcell x4 hm hn hml hB o.type
  unfold Oper.wp execOp
  simp only [ho, resolve, invoke, builtin, Sem.run_bind, Sem.run_pure, Result.andThen_ok, List.map_toArray, List.map_cons, List.map_nil, hs, hx, hr]
  exact hK _ _ (h g' cap' w' row h1 h2 h3 h4 h5)

/-- Owned rows stay, where another block is grown. -/
theorem OwnR.grown3 {B : Nat} {w w' : World} {g n cap : Nat} {rows : List (List Int)} {row : Option Nat} (h : OwnR B w (some ⟨g, 0, none⟩) n cap rows) (hg : w.grownBy w' row) (hne : row ≠ some g) (hin : ∀ i ai ci, i < n → OwnC B w ai (nthR rows i).length ci (nthR rows i) → ∀ k, ai = some ⟨k, 0, none⟩ → row ≠ some k) : OwnR B w' (some ⟨g, 0, none⟩) n cap rows := by
  have hlt := h.base_of g rfl
  obtain ⟨h1, vs, hv, hap, h4⟩ := h
  refine ⟨h1, vs, ⟨hv.1, ?_⟩, hap, fun i hi => ?_⟩
  · rcases hv.2 with h3 | ⟨g1, c, cur, hv, hb, hh, h4⟩
    · exact .inl h3
    · refine .inr ⟨g1, c, cur, hv, hb, ?_, h4⟩
      simp only [Value.slice.injEq, Option.some.injEq, Addr.mk.injEq] at hv
      obtain ⟨⟨rfl, _⟩, _⟩ := hv
      rw [hg.block g hlt.2 (fun e => hne e.symm)]; exact hh
  · obtain ⟨ai, ci, h5, h6⟩ := h4 i hi
    exact ⟨ai, ci, h5, h6.grown hg (hin i ai ci hi h6)⟩

/-- A matrix from before a world, or one of the call's own in another block than g. -/
def MatX (W w : World) (g : Nat) (a : Option Addr) (d cap : Nat) (rows : List (List Int)) : Prop :=
  RdR W a d rows ∨ ∃ gm, a = some ⟨gm, 0, none⟩ ∧ gm ≠ g ∧ OwnR W.heap.size w (some ⟨gm, 0, none⟩) d cap rows
theorem MatX.rd {W w : World} {g : Nat} {a : Option Addr} {d cap : Nat} {rows : List (List Int)} (h : MatX W w g a d cap rows) (he : Ext W w) : RdR w a d rows := by
  rcases h with h | ⟨gm, rfl, _, h⟩
  · exact h.ext he
  · exact h.rd
theorem MatX.ext {W w w' : World} {g : Nat} {a : Option Addr} {d cap : Nat} {rows : List (List Int)} (h : MatX W w g a d cap rows) (he : Ext w w') : MatX W w' g a d cap rows := by
  rcases h with h | ⟨gm, h1, h2, h⟩
  · exact .inl h
  · exact .inr ⟨gm, h1, h2, h.ext he⟩
theorem MatX.app {W w w' : World} {g g' n c : Nat} {a : Option Addr} {d cap : Nat} {rows out : List (List Int)} {row : Option Nat} {C B : Nat} (h : MatX W w g a d cap rows) (hg : w.grownBy w' row) (hr : row = none ∨ OwnVC C B w (some ⟨g, 0, none⟩) n c out ∧ row = (Value.slice (some ⟨g, 0, none⟩) n c).ownBlock) (hn : g' = w.heap.size ∨ row = some g') : MatX W w' g' a d cap rows := by
  rcases h with h | ⟨gm, rfl, h2, h⟩
  · exact .inl h
  · have hb := (h.base_of gm rfl).2
    have hrow : row = none ∨ row = some g := by
      rcases hr with hr | ⟨hv, hr⟩
      · exact .inl hr
      · right; rw [hr]
        by_cases hc : c = 0
        · obtain ⟨_, vs, h3, _⟩ := hv
          rcases h3.2 with ⟨h3, _⟩ | ⟨g1, c1, cur, h3, _⟩
          · cases h3
          · rfl
        · rfl
    refine .inr ⟨gm, rfl, ?_, h.grown3 hg ?_ ?_⟩
    · rcases hn with hn | hn
      · omega
      · rcases hrow with e | e
        · rw [e] at hn; cases hn
        · rw [e] at hn; cases hn; exact h2
    · rcases hrow with e | e
      · rw [e]; exact fun h => by cases h
      · rw [e]; exact fun h => h2 (Option.some.inj h).symm
    · intro i ai ci _ hi k hk
      rcases hr with hr | ⟨hv, hr⟩
      · rw [hr]; exact fun h => by cases h
      · obtain ⟨_, vs, h3, _⟩ := hv
        rw [hr]; exact own_apart h3 hi k hk

/-- A list that can be read, whose rows are of the call's own. -/
def RdO (B : Nat) (w : World) (a : Option Addr) (n : Nat) (rows : List (List Int)) : Prop :=
  rows.length = n ∧ ∀ i, i < n → ∃ b off ai ci, a = some ⟨b, off, none⟩ ∧ w.cell? ⟨b, off + i, none⟩ = some (.slice ai (nthR rows i).length ci) ∧ OwnC B w ai (nthR rows i).length ci (nthR rows i)
theorem RdO.ext {B : Nat} {w w' : World} {a : Option Addr} {n : Nat} {rows : List (List Int)} (h : RdO B w a n rows) (he : Ext w w') : RdO B w' a n rows :=
  ⟨h.1, fun i hi => let ⟨b, off, ai, ci, ha, hc, hr⟩ := h.2 i hi; ⟨b, off, ai, ci, ha, he.cell hc, hr.ext he⟩⟩
theorem RdO.rd {B : Nat} {w : World} {a : Option Addr} {n : Nat} {rows : List (List Int)} (h : RdO B w a n rows) : RdR w a n rows :=
  ⟨h.1, fun i hi => let ⟨b, off, ai, ci, ha, hc, hr⟩ := h.2 i hi; ⟨b, off, ai, ci, ha, hc, hr.rd⟩⟩
theorem RdO.nil (B : Nat) (w : World) (a : Option Addr) : RdO B w a 0 [] := ⟨rfl, fun _ hi => absurd hi (Nat.not_lt_zero _)⟩
theorem OwnVC.ro {C B : Nat} {w : World} {a : Option Addr} {n cap : Nat} {rows : List (List Int)} (h : OwnVC C B w a n cap rows) : RdO C w a n rows := by
  obtain ⟨h1, vs, ⟨h2, h3⟩, h4⟩ := h
  refine ⟨h1, fun i hi => ?_⟩
  rcases h3 with ⟨_, h3⟩ | ⟨g, c, cur, hv, hb, hh, hc1, hc2, hc3, hc4⟩
  · omega
  · simp only [Value.slice.injEq] at hv
    obtain ⟨hv1, _, _⟩ := hv
    obtain ⟨ai, ci, h5, h6⟩ := h4 i hi
    refine ⟨g, 0, ai, ci, hv1, ?_, h6⟩
    rw [← hc4, List.getElem?_take_of_lt (by omega), Array.getElem?_toList] at h5
    simp only [World.cell?, hh]
    simpa using h5
theorem OwnXC.ro {C B : Nat} {w : World} {a : Option Addr} {n cap : Nat} {rows : List (List Int)} (h : OwnXC C B w a n cap rows) : RdO C w a n rows := by
  rcases h with ⟨rfl, _, rfl, _⟩ | h
  · exact RdO.nil _ _ _
  · exact h.ro
end Go.Proofs.Ytcocbainookkcaa

/-
  Reduced bases with one more list, in the reference.
  No condition.
-/
namespace Go.Proofs.Ytcocbainookkcaa
set_option maxRecDepth 100000
open Go.RowKit

theorem plus_scale_neg {p : Int} {x y : List Int} {k : Int} {n : Nat} : plusL p x (scaleL p y k n) (-1) n = plusL p x y (-k) n := by
  unfold plusL
  refine List.map_congr_left fun i hi => ?_
  have hi' : i < n := by simpa using hi
  unfold plusN
  rw [scaleL_nth hi', scaleN, Int.add_emod, Int.mul_emod, Int.emod_emod, ← Int.mul_emod, ← Int.add_emod]
  congr 1
  grind
end Go.Proofs.Ytcocbainookkcaa

/-
  Kernels: contract of the reference.
  No condition.
-/
namespace Go.Proofs.Ytcocbainookkcaa
set_option maxRecDepth 100000
open Go.RowKit

/-- The places of the first numbers of the first k rows. -/
def pivL (red : List (List Int)) (k : Nat) : List Int := (List.range k).map fun i => ((leadN (nthR red i) : Nat) : Int)
theorem pivL_len (red : List (List Int)) (k : Nat) : (pivL red k).length = k := by simp [pivL]
theorem pivL_succ (red : List (List Int)) (k : Nat) : pivL red (k + 1) = pivL red k ++ [((leadN (nthR red k) : Nat) : Int)] := by simp [pivL, List.range_succ]
theorem pivL_nth {red : List (List Int)} {k i : Nat} (h : i < k) : nth (pivL red k) i = ((leadN (nthR red i) : Nat) : Int) := by
  unfold pivL; rw [nth_map (by simpa using h)]; simp
def inL (xs : List Int) (v : Int) : Bool := (List.range xs.length).any fun i => nth xs i == v
theorem inL_at {xs : List Int} {v : Int} {k : Nat} (hk : k < xs.length) (h : nth xs k = v) : inL xs v = true := by
  unfold inL
  rw [List.any_eq_true]
  exact ⟨k, List.mem_range.2 hk, by simp [h]⟩
theorem inL_none {xs : List Int} {v : Int} (h : ∀ k, k < xs.length → nth xs k ≠ v) : inL xs v = false := by
  unfold inL
  rw [List.any_eq_false]
  intro k hk
  simpa using h k (List.mem_range.1 hk)
theorem inL_piv {red : List (List Int)} {t : Nat} : inL (pivL red red.length) t = (pivIx red t).isSome := by
  cases h : pivIx red t with
  | none => exact inL_none (fun k hk => by rw [pivL_len] at hk; rw [pivL_nth hk]; have := pivIx_none h k hk; omega)
  | some i =>
    obtain ⟨h1, h2⟩ := pivIx_some h
    exact inL_at (k := i) (by rw [pivL_len]; exact h1) (by rw [pivL_nth h1]; omega)
/-- The vector when the first i rows have been gone through. -/
def kerF (p : Int) (red : List (List Int)) (f i t : Nat) : Int := if t = f then 1 else match pivIx red t with | some j => if j < i then (-(nth (nthR red j) f)) % p else 0 | none => 0
def kerI (p : Int) (n : Nat) (red : List (List Int)) (f i : Nat) : List Int := (List.range n).map (kerF p red f i)
theorem kerI_len (p : Int) (n : Nat) (red : List (List Int)) (f i : Nat) : (kerI p n red f i).length = n := by simp [kerI]
theorem kerI_nth {p : Int} {n : Nat} {red : List (List Int)} {f i t : Nat} (h : t < n) : nth (kerI p n red f i) t = kerF p red f i t := by
  unfold kerI; rw [nth_map (by simpa using h)]; simp
theorem kerI_zero {p : Int} {n : Nat} {red : List (List Int)} {f : Nat} (hf : f < n) : kerI p n red f 0 = bladeL n f := by
  refine ext_nth (by rw [kerI_len, bladeL_len]) (fun t ht => ?_)
  rw [kerI_len] at ht
  rw [kerI_nth ht, bladeL_nth hf ht]
  unfold kerF
  by_cases h : t = f
  · rw [if_pos h, if_pos h.symm]
  · rw [if_neg h, if_neg (fun e => h e.symm)]
    cases hp : pivIx red t with
    | none => rfl
    | some i => simp only [Nat.not_lt_zero, if_false]
theorem kerI_all {p : Int} {n : Nat} {red : List (List Int)} {f : Nat} : kerI p n red f red.length = kerV p n red f := by
  unfold kerI kerV
  refine List.map_congr_left fun t _ => ?_
  unfold kerF kerN
  cases hp : pivIx red t with
  | none => rfl
  | some i => simp only [(pivIx_some hp).1, if_true]
theorem kerI_step {p : Int} {m n : Nat} {red : List (List Int)} {c : Nat → Nat} (hb : Basis p m red c) {f i : Nat} (hi : i < red.length) (hx : leadN (nthR red i) < n) (hf : pivIx red f = none) :
    kerI p n red f (i + 1) = (kerI p n red f i).set (leadN (nthR red i)) ((-(nth (nthR red i) f)) % p) := by
  have hpi : pivIx red (leadN (nthR red i)) = some i := by rw [hb.leadN hi]; exact hb.piv hi
  have hne : leadN (nthR red i) ≠ f := fun e => by rw [e, hf] at hpi; cases hpi
  refine ext_nth (by rw [kerI_len, List.length_set, kerI_len]) (fun t ht => ?_)
  rw [kerI_len] at ht
  rw [kerI_nth ht, nth_set (by rw [kerI_len]; exact hx)]
  by_cases h : t = leadN (nthR red i)
  · subst h
    rw [if_pos rfl]
    unfold kerF
    rw [if_neg hne, hpi]
    simp only [Nat.lt_succ_self, if_true]
  · rw [if_neg (fun e => h e.symm), kerI_nth ht]
    unfold kerF
    by_cases htf : t = f
    · rw [if_pos htf, if_pos htf]
    · rw [if_neg htf, if_neg htf]
      cases hp : pivIx red t with
      | none => rfl
      | some j =>
        obtain ⟨h1, h2⟩ := pivIx_some hp
        have hji : j ≠ i := fun e => h (by rw [← h2, e])
        by_cases hlt : j < i
        · simp only [hlt, show j < i + 1 by omega, if_true]
        · simp only [hlt, show ¬ j < i + 1 by omega, if_false]
theorem neg_mod (p x : Int) : (p - x) % p = (-x) % p := by rw [show p - x = -x + p by omega, Int.add_emod_right]


end Go.Proofs.Ytcocbainookkcaa

/-
  Kernels by reduced bases with one more list, in the reference.
  No condition.
-/
namespace Go.Proofs.Ytcocbainookkcaa
set_option maxRecDepth 100000
open Go.RowKit

theorem RdO.mono {B B' : Nat} {w : World} {a : Option Addr} {n : Nat} {rows : List (List Int)} (h : RdO B w a n rows) (hb : B' ≤ B) : RdO B' w a n rows :=
  ⟨h.1, fun i hi => let ⟨b, off, ai, ci, ha, hc, hr⟩ := h.2 i hi; ⟨b, off, ai, ci, ha, hc, hr.mono hb⟩⟩
end Go.Proofs.Ytcocbainookkcaa

/-
  The listed function WedgeOfPoints.
  No condition.
-/
namespace Go.Proofs.Ytcocbainookkcaa
set_option maxRecDepth 100000
open Go.RowKit

def pointsL (p : Int) (qs : List Int) (vs : List (List Int)) (k : Nat) : List (List Int) := (List.range k).map fun i => pointL p qs (nthR vs i)
theorem pointsL_succ (p : Int) (qs : List Int) (vs : List (List Int)) (k : Nat) : pointsL p qs vs (k + 1) = pointsL p qs vs k ++ [pointL p qs (nthR vs k)] := by simp [pointsL, List.range_succ]
theorem pointsL_len (p : Int) (qs : List Int) (vs : List (List Int)) (k : Nat) : (pointsL p qs vs k).length = k := by simp [pointsL]
theorem pointsL_nth {p : Int} {qs : List Int} {vs : List (List Int)} {k i : Nat} (h : i < k) : nthR (pointsL p qs vs k) i = pointL p qs (nthR vs i) := by
  unfold pointsL; rw [nthR_map (by simpa using h)]; simp
theorem pointsL_good {p : Int} {qs : List Int} {vs : List (List Int)} {k d : Nat} (hp : 1 ≤ p) (hd : qs.length = d) : RowsG p (d + 2) (pointsL p qs vs k) := fun i hi => by
  rw [pointsL_len] at hi
  rw [pointsL_nth hi]
  exact pointL_good hp hd
def wpL (p : Int) (qs : List Int) (vs : List (List Int)) (n : Nat) : List Int := prodS p (extL p qs) tkW (pointsL p qs vs n) n
theorem prodS_cut {p : Int} {qs : List Int} {tk : Nat → Nat → Bool} {r1 r2 : List (List Int)} : ∀ k, (∀ i, i < k → nthR r1 i = nthR r2 i) → prodS p qs tk r1 k = prodS p qs tk r2 k
  | 0, _ => rfl
  | k + 1, h => by
    unfold prodS
    rw [prodS_cut k (fun i hi => h i (by omega)), h k (by omega)]
theorem wpL_succ (p : Int) (qs : List Int) (vs : List (List Int)) (k : Nat) : wpL p qs vs (k + 1) = prodL p (extL p qs) tkW (wpL p qs vs k) (vecL (2 ^ (extL p qs).length) (pointL p qs (nthR vs k))) := by
  unfold wpL
  show prodL p (extL p qs) tkW (prodS p (extL p qs) tkW (pointsL p qs vs (k + 1)) k) (vecL _ (nthR (pointsL p qs vs (k + 1)) k)) = _
  rw [pointsL_nth (by omega), prodS_cut k (fun i hi => (pointsL_nth (show i < k + 1 by omega)).trans (pointsL_nth hi).symm)]



end Go.Proofs.Ytcocbainookkcaa

/-
  The listed function SphereThrough.
  No condition.
-/
namespace Go.Proofs.Ytcocbainookkcaa
set_option maxRecDepth 100000
open Go.RowKit

/-- The vectors of the extension that are orthogonal to the points. -/
def sphK (p : Int) (qs : List Int) (vs : List (List Int)) : List (List Int) := kernL p (qs.length + 2) (wtsL p (extL p qs) (pointsL p qs vs vs.length) (qs.length + 2) vs.length)
def codeSp (p : Int) (qs : List Int) (vs : List (List Int)) : Int := if code18L p qs vs = 0 then (if (sphK p qs vs).length = 1 then 0 else 5) else code18L p qs vs
def sphL (p : Int) (qs : List Int) (vs : List (List Int)) : List Int := nthR (sphK p qs vs) 0
theorem sp_code {p : Int} {qs : List Int} {vs : List (List Int)} (h : code18L p qs vs ≠ 0) : codeSp p qs vs = code18L p qs vs := by unfold codeSp; rw [if_neg h]
theorem sp_many {p : Int} {qs : List Int} {vs : List (List Int)} (h : code18L p qs vs = 0) (h1 : (sphK p qs vs).length ≠ 1) : codeSp p qs vs = 5 := by unfold codeSp; rw [if_pos h, if_neg h1]
theorem sp_ok {p : Int} {qs : List Int} {vs : List (List Int)} (h : code18L p qs vs = 0) (h1 : (sphK p qs vs).length = 1) : codeSp p qs vs = 0 := by unfold codeSp; rw [if_pos h, if_pos h1]
theorem sp_zero {p : Int} {qs : List Int} {vs : List (List Int)} (h : codeSp p qs vs = 0) : code18L p qs vs = 0 ∧ (sphK p qs vs).length = 1 := by
  by_cases h0 : code18L p qs vs = 0
  · by_cases h1 : (sphK p qs vs).length = 1
    · exact ⟨h0, h1⟩
    · rw [sp_many h0 h1] at h; cases h
  · rw [sp_code h0] at h; exact absurd h h0
theorem sphL_good {p : Int} {qs : List Int} {vs : List (List Int)} (hp : primeB p = true) (h : (sphK p qs vs).length = 1) : Good p (qs.length + 2) (sphL p qs vs) :=
  (kernL_cnt (n := qs.length + 2) (rows := wtsL p (extL p qs) (pointsL p qs vs vs.length) (qs.length + 2) vs.length) hp).2 0 (by unfold sphK at h; omega)

theorem ret_pairS {x y : Int} (h : x = y) : Ending.returned (.tuple #[.slice none 0 0, .int .i64 x]) = .returned (.tuple #[.slice none 0 0, .int .i64 y]) := by rw [h]
/-- An empty slice. -/
def SPred.emptyI : SPred := ⟨fun v _ => ∃ g, v = .slice (some ⟨g, 0, none⟩) 0 0, fun _ _ _ h _ => h⟩
theorem append_emptyI (w : World) (b : Addr) (t : Addr) (v : Value) (c : Nat) (ty : TypeId) (hc : w.cell? (t.add 0) = some v) :
    (Builtin.append_ #[24, 24] ty #[.slice (some b) 0 0, .slice (some t) 1 c]).run Try.prog w =
    (Builtin.append_ #[24, 24] ty #[.slice none 0 0, .slice (some t) 1 c]).run Try.prog w := by
  obtain ⟨i0, hi, hz0, hz1, hz2⟩ := info_parts Try.infoI
  have hn : ∀ j u, [v][j]? = some u → w.cell? (t.add j) = some u := fun j u hj => by
    cases j with
    | zero => simp only [List.getElem?_cons_zero, Option.some.injEq] at hj; subst hj; exact hc
    | succ j => simp at hj
  have e : Builtin.nextslicecap (0 + 1) 0 * i0.bytes ≤ 281474976710656 := by
    rw [hz2]; decide
  rw [run_append_grow (P := Try.prog) w 24 ty 2 i0 (.int .i64 0) Try.underlying24 hi hz0 b 0 0 [] (by simp) (fun j u hj => by simp at hj) t 1 c [v] (by simp [hz1]) hn (by omega) (by omega) e,
    run_append_nil (P := Try.prog) w 24 ty 2 i0 (.int .i64 0) Try.underlying24 hi hz0 t 1 c [v] (by simp [hz1]) hn (by omega) (by omega) (by rw [hz2]; omega)]
  simp
/-- An own row, or the empty one that was made at the start. -/
def OwnCW (B : Nat) (w : World) (a : Option Addr) (n cap : Nat) (xs : List Int) : Prop :=
  (n = 0 ∧ cap = 0 ∧ xs = [] ∧ ∃ g, a = some ⟨g, 0, none⟩) ∨ OwnC B w a n cap xs
theorem OwnCW.ext {B : Nat} {w w' : World} {a : Option Addr} {n cap : Nat} {xs : List Int} (h : OwnCW B w a n cap xs) (he : Ext w w') : OwnCW B w' a n cap xs := by
  rcases h with h | h
  · exact .inl h
  · exact .inr (h.ext he)
theorem wpList_pushCW {ops : Array Oper} {rest : List Oper} {o : Oper} {a : Act} {Q : Exit → Act → World → Prop} {w : World} (hgd : o.guard = none) (s x : Operand)
    (ho : o.op = .call { callee := .builtin .append, args := #[s, x], argTypes := #[24, 24] })
    {B : Nat} {ra : Option Addr} {n cap : Nat} {xs : List Int} {v : Int} {g : Nat} (hs : a.eval s = .slice ra n cap) (hx : a.eval x = .slice (some ⟨g, 0, none⟩) 1 1)
    (hown : OwnCW B w ra n cap xs) (hc : w.cell? ⟨g, 0, none⟩ = some (.int .i64 v)) (hn : n ≤ 4194304) (hB : B ≤ w.heap.size)
    (h : ∀ g' cap' w', OwnC B w' (some ⟨g', 0, none⟩) (n + 1) cap' (xs ++ [v]) → (∀ W : World, W.heap.size ≤ B → Ext W w → Ext W w') →
      wpList Try.prog ops Q rest (a.put o.dst (.slice (some ⟨g', 0, none⟩) (n + 1) cap')) w') : wpList Try.prog ops Q (o :: rest) a w := by
  refine wpList_plain hgd fun K hK => ?_
  have hrun : ∃ g' cap' w', (Builtin.append_ #[24, 24] o.type #[.slice ra n cap, .slice (some ⟨g, 0, none⟩) 1 1]).run Try.prog w = .ok (.slice (some ⟨g', 0, none⟩) (n + 1) cap') w' ∧
      OwnC B w' (some ⟨g', 0, none⟩) (n + 1) cap' (xs ++ [v]) ∧ (∀ W : World, W.heap.size ≤ B → Ext W w → Ext W w') := by
    rcases hown with ⟨rfl, rfl, rfl, g0, rfl⟩ | hown
    · obtain ⟨g', cap', w', h1, h2, _, h4⟩ := run_push (own_nil B w) hc hn hB o.type
      exact ⟨g', cap', w', by rw [append_emptyI w _ _ (.int .i64 v) 1 o.type (by simpa [Addr.add] using hc)]; exact h1, h2, h4⟩
    · obtain ⟨g', cap', w', h1, h2, _, h4⟩ := run_push hown hc hn hB o.type
      exact ⟨g', cap', w', h1, h2, h4⟩
  obtain ⟨g', cap', w', hr, h1, h3⟩ := hrun
  unfold Oper.wp execOp
  simp only [ho, resolve, invoke, builtin, Sem.run_bind, Sem.run_pure, Result.andThen_ok, List.map_toArray, List.map_cons, List.map_nil, hs, hx, hr]
  exact hK _ _ (h g' cap' w' h1 h3)
end Go.Proofs.Ytcocbainookkcaa

/-
  Norms of elements and the diagonal of the norm.
  No condition.
-/
namespace Go.Proofs.Ytcocbainookkcaa
set_option maxRecDepth 100000
open Go.RowKit

/-- The norm of an element. -/
def normD (p : Int) (st : List Int) (d : Nat) (x : List Int) : Int := nth (dblL p st d x (conjL p x)) 0
def diagL (p : Int) (st : List Int) (d N k : Nat) : List Int := (List.range k).map fun i => normD p st d (bladeL N i)
theorem diagL_succ (p : Int) (st : List Int) (d N k : Nat) : diagL p st d N (k + 1) = diagL p st d N k ++ [normD p st d (bladeL N k)] := by simp [diagL, List.range_succ]
theorem diagL_len (p : Int) (st : List Int) (d N k : Nat) : (diagL p st d N k).length = k := by simp [diagL]
theorem diagL_nth {p : Int} {st : List Int} {d N k i : Nat} (h : i < k) : nth (diagL p st d N k) i = normD p st d (bladeL N i) := by
  unfold diagL; rw [nth_map (by simpa using h)]; simp
set_option maxHeartbeats 4000000 in
set_option maxRecDepth 100000 in
theorem c_dnorm (p : Int) (a : Option Addr) (d cap N : Nat) (st : List Int) (ax : Option Addr) (cx : Nat) (x : List Int) (w : World) (hs : doubB p st = true) (hN : N = 2 ^ d) (hcs : d ≤ cap) (hq : RdC w a d st) (hcx : N ≤ cx) (hx : RdC w ax N x) (hgx : Good p N x) :
    Calls Try.prog 90 #[.agg #[.int .i64 p, .slice a d cap], .slice ax N cx] w fun e w' => e = .returned (.int .i64 (normD p st d x)) ∧ Ext w w' := by
  obtain ⟨hpr, hd4, hib, _⟩ := doub_of hs
  have hpb := prime_bd hpr
  have hdl := hq.1
  have hd4' : d ≤ 4 := by omega
  have HGS := Lib.hid (show Good p d st from good_isB hdl hib)
  have HNE := Lib.hid hN
  have hN16 : N ≤ 16 ∧ 1 ≤ N := by
    rw [hN]
    have : d = 0 ∨ d = 1 ∨ d = 2 ∨ d = 3 ∨ d = 4 := by omega
    rcases this with rfl | rfl | rfl | rfl | rfl <;> decide
  have HGX := Lib.hid hgx
  have HGK := Lib.hid (conj_good (p := p) (by omega) hgx)
  have hN0 : 0 < N := by omega
  obtain ⟨V, hV⟩ : ∃ V, V = normD p st d x := ⟨_, rfl⟩
  have HV : Hid (nth (dblL p st d x (conjL p x)) 0 = V) := Lib.hid (by rw [hV]; rfl)
  have HVE := Lib.hid hV
  rw [← hV]
  clear hs hpr hd4 hib hdl hN hgx hV
  obtain ⟨W, hW⟩ : ∃ W, W = w.alloc (.cells #[.int .i64 p, .slice a d cap] 52) := ⟨_, rfl⟩
  have E : Hid (Ext w W) := Lib.hid (by rw [hW]; exact ext_alloc _ _)
  have C0 : Hid (W.cell? ⟨w.heap.size, 0, none⟩ = some (.int .i64 p)) := Lib.hid (by rw [hW]; simp)
  have C1 : Hid (W.cell? ⟨w.heap.size, 1, none⟩ = some (.slice a d cap)) := Lib.hid (by rw [hW]; simp)
  have HZ : Hid (W.heap.size = w.heap.size + 1) := Lib.hid (by rw [hW]; simp)
  have HW := Lib.hid hW
  clear hW
  have HQ := Lib.hid (hq.ext E.out)
  have HX := Lib.hid (hx.ext E.out)
  clear hq hx
  go_enter Try.func90, Try.ntmps90
  have x00 := C0.out
  have x01 := C1.out
  go_wp2_with (fail)
  clear x00 x01
  rw [← HW.out]
  clear HW
  replace E := Lib.hid (E.out.trans (ext_drew W))
  replace HQ := Lib.hid (HQ.out.ext (ext_drew W))
  replace HX := Lib.hid (HX.out.ext (ext_drew W))
  replace C0 := Lib.hid ((ext_drew W).cell (p := ⟨w.heap.size, 0, none⟩) C0.out)
  replace C1 := Lib.hid ((ext_drew W).cell (p := ⟨w.heap.size, 1, none⟩) C1.out)
  refine wp_region_lex [(3, .val (.int .i64 p)), (5, .ownS w.heap.size N (conjL p x)), (6, .ownS w.heap.size N (dblL p st d x (conjL p x))), (7, .cell (V)), (8, .val (.int .i64 (V)))] (by kernel_rfl) (by kernel_rfl) ?_
  (refine LexW.pure (v := ?_) rfl rfl (fun w1 he => ?_) ?_; rotate_left; ( have x00 := (he.cell (p := ⟨w.heap.size, 0, none⟩) C0.out); have x01 := (he.cell (p := ⟨w.heap.size, 1, none⟩) C1.out); go_simp; rfl); simp only [Act.put, List.setIfInBounds_toArray, List.set_cons_zero, List.set_cons_succ])
  (refine LexW.pure (v := ?_) rfl rfl (fun w1 he => ?_) ?_; rotate_left; ( have x00 := (he.cell (p := ⟨w.heap.size, 0, none⟩) C0.out); have x01 := (he.cell (p := ⟨w.heap.size, 1, none⟩) C1.out); go_simp; rfl); simp only [Act.put, List.setIfInBounds_toArray, List.set_cons_zero, List.set_cons_succ])
  (refine LexW.pure (v := ?_) rfl rfl (fun w1 he => ?_) ?_; rotate_left; ( have x00 := (he.cell (p := ⟨w.heap.size, 0, none⟩) C0.out); have x01 := (he.cell (p := ⟨w.heap.size, 1, none⟩) C1.out); go_simp; rfl); simp only [Act.put, List.setIfInBounds_toArray, List.set_cons_zero, List.set_cons_succ])
  (refine LexW.call (f := ?_) (args := ?_) rfl rfl (fun w1 => ?_) (fun w1 he hdep => ?_) ?_; rotate_left 2; (go_simp; refine ⟨?_, ?_⟩ <;> rfl); ( exact c_dfield p (.slice a d cap) w1); simp only [Act.put, List.setIfInBounds_toArray, List.set_cons_zero, List.set_cons_succ])
  (refine LexW.pure (v := ?_) rfl rfl (fun w1 he => ?_) ?_; rotate_left; ( have x00 := (he.cell (p := ⟨w.heap.size, 0, none⟩) C0.out); have x01 := (he.cell (p := ⟨w.heap.size, 1, none⟩) C1.out); go_simp; rfl); simp only [Act.put, List.setIfInBounds_toArray, List.set_cons_zero, List.set_cons_succ])
  (refine LexW.callR (f := ?_) (args := ?_) rfl rfl (fun w1 => ?_) (fun w1 he hdep => ?_) (fun v hv => ?_); rotate_left 2; (go_simp; refine ⟨?_, ?_⟩ <;> rfl); ( refine (c_conj p ax N cx x w1 (by omega) (by omega) (by omega) (by omega) (HX.out.ext he) HGX.out).mono ?_; rintro e w2 ⟨g, rc, rfl, ho, g2⟩; exact ⟨_, rfl, g2, g, rc, rfl, ho.mono (Nat.le_trans E.out.size he.size)⟩); simp only [Act.put, List.setIfInBounds_toArray, List.set_cons_zero, List.set_cons_succ])
  obtain ⟨_, g10, c10, rfl, _⟩ := hv
  (refine LexW.callR (f := ?_) (args := ?_) rfl rfl (fun w1 => ?_) (fun w1 he hdep => ?_) (fun v hv => ?_); rotate_left 2; (go_simp; refine ⟨?_, ?_⟩ <;> rfl); ( obtain ⟨_, _, q10, r10⟩ : (SPred.ownS w.heap.size N (conjL p x)).holds (.slice (some ⟨g10, 0, none⟩) N c10) w1 := hdep (5, 10) (by decide +kernel); cases q10; refine (c_dtimes p a d cap st N ax cx x _ _ (conjL p x) w1 (by omega) (by omega) hd4' HNE.out hcs hcx (r10.capLe hN0) (HQ.out.ext he) HGS.out (HX.out.ext he) HGX.out r10.rd HGK.out).mono ?_; rintro e w2 ⟨g, rc, rfl, ho, g2⟩; exact ⟨_, rfl, g2, g, rc, rfl, ho.mono (Nat.le_trans E.out.size he.size)⟩); simp only [Act.put, List.setIfInBounds_toArray, List.set_cons_zero, List.set_cons_succ])
  obtain ⟨_, g11, c11, rfl, _⟩ := hv
  (refine LexW.rel rfl rfl (fun w1 he hdep => ?_) (fun v hv => ?_); ( obtain ⟨_, _, q11, r11⟩ : (SPred.ownS w.heap.size N (dblL p st d x (conjL p x))).holds (.slice (some ⟨g11, 0, none⟩) N c11) w1 := hdep (6, 11) (by decide +kernel); cases q11; exact ⟨.pointer (some ⟨g11, 0, none⟩), w1, (by go_simp), Ext.refl _, g11, 0, rfl, ((r11.cell hN0).trans (by rw [HV.out]))⟩); simp only [Act.put, List.setIfInBounds_toArray, List.set_cons_zero, List.set_cons_succ])
  obtain ⟨_, b12, o12, rfl, _⟩ := hv
  (refine LexW.relV rfl rfl (fun w1 he hdep => ?_) ?_; ( obtain ⟨_, _, q12, r12⟩ : (SPred.cell (V)).holds (.pointer (some ⟨b12, o12, none⟩)) w1 := hdep (7, 12) (by decide +kernel); cases q12; exact ⟨w1, (by go_simp), Ext.refl _⟩); simp only [Act.put, List.setIfInBounds_toArray, List.set_cons_zero, List.set_cons_succ])
  (refine LexW.pure (v := ?_) rfl rfl (fun w1 he => ?_) ?_; rotate_left; ( have x00 := (he.cell (p := ⟨w.heap.size, 0, none⟩) C0.out); have x01 := (he.cell (p := ⟨w.heap.size, 1, none⟩) C1.out); go_simp; rfl); simp only [Act.put, List.setIfInBounds_toArray, List.set_cons_zero, List.set_cons_succ])
  refine LexW.nil (fun w3 he hkn => ?_)
  have HE := Lib.hid he
  clear he hkn 
  rename World => v1
  replace E := Lib.hid (E.out.trans HE.out)
  replace HQ := Lib.hid (HQ.out.ext HE.out)
  replace HX := Lib.hid (HX.out.ext HE.out)
  replace C0 := Lib.hid (HE.out.cell (p := ⟨w.heap.size, 0, none⟩) C0.out)
  replace C1 := Lib.hid (HE.out.cell (p := ⟨w.heap.size, 1, none⟩) C1.out)
  clear HE
  go_wp2_with (fail)
  go_ret
  exact ⟨rfl, E.out⟩
set_option maxHeartbeats 4000000 in
set_option maxRecDepth 100000 in
theorem c_DoubleNorm_ok (p : Int) (a : Option Addr) (d cap N : Nat) (st : List Int) (ax : Option Addr) (cx : Nat) (x : List Int) (w : World) (hs : doubB p st = true) (hN : N = 2 ^ d) (hcs : d ≤ cap) (hq : RdC w a d st) (hcx : N ≤ cx) (hx : RdC w ax N x) (hgx : Good p N x) :
    Calls Try.prog 35 #[.agg #[.int .i64 p, .slice a d cap], .slice ax N cx] w fun e w' => e = .returned (.tuple #[.int .i64 (normD p st d x), .int .i64 0]) ∧ Ext w w' := by
  obtain ⟨hpr, hd4, hib, _⟩ := doub_of hs
  have hpb := prime_bd hpr
  have hdl := hq.1
  have hd4' : d ≤ 4 := by omega
  have HGS := Lib.hid (show Good p d st from good_isB hdl hib)
  have HNE := Lib.hid hN
  have hN16 : N ≤ 16 ∧ 1 ≤ N := by
    rw [hN]
    have : d = 0 ∨ d = 1 ∨ d = 2 ∨ d = 3 ∨ d = 4 := by omega
    rcases this with rfl | rfl | rfl | rfl | rfl <;> decide
  have HSB := Lib.hid hs
  have HC := Lib.hid (codeE_one hs hN hdl hgx)
  have HGX := Lib.hid hgx
  have HXL := Lib.hid hgx.1
  clear hs hpr hd4 hib hdl hN hgx
  obtain ⟨W, hW⟩ : ∃ W, W = w.alloc (.cells #[.int .i64 p, .slice a d cap] 52) := ⟨_, rfl⟩
  have E : Hid (Ext w W) := Lib.hid (by rw [hW]; exact ext_alloc _ _)
  have C0 : Hid (W.cell? ⟨w.heap.size, 0, none⟩ = some (.int .i64 p)) := Lib.hid (by rw [hW]; simp)
  have C1 : Hid (W.cell? ⟨w.heap.size, 1, none⟩ = some (.slice a d cap)) := Lib.hid (by rw [hW]; simp)
  have HZ : Hid (W.heap.size = w.heap.size + 1) := Lib.hid (by rw [hW]; simp)
  have HW := Lib.hid hW
  clear hW
  have HQ := Lib.hid (hq.ext E.out)
  have HX := Lib.hid (hx.ext E.out)
  clear hq hx
  go_enter Try.func35, Try.ntmps35
  have x00 := C0.out
  have x01 := C1.out
  go_wp2_with (fail)
  clear x00 x01
  rw [← HW.out]
  clear HW
  refine Calls.mono (c_checkElements p a d cap st _ 1 _ [x] _ (by omega) (by omega) (len_one (by rw [HXL.out]; omega)) (HQ.out.ext (ext_alloc _ _)) (rdR_one (a := ax) (n := N) (cap := cx) (by rw [← HZ.out]; simp) (HX.out.ext (ext_alloc _ _)))) ?_
  rintro e v1 ⟨rfl, gg⟩
  replace gg := (ext_alloc _ _).trans gg
  rw [HC.out]
  replace E := Lib.hid (E.out.trans gg)
  replace HQ := Lib.hid (HQ.out.ext gg)
  replace HX := Lib.hid (HX.out.ext gg)
  replace C0 := Lib.hid (gg.cell (p := ⟨w.heap.size, 0, none⟩) C0.out)
  replace C1 := Lib.hid (gg.cell (p := ⟨w.heap.size, 1, none⟩) C1.out)
  clear gg
  have x00 := C0.out
  have x01 := C1.out
  go_wp2_with (fail)
  clear x00 x01
  refine Calls.mono (c_dnorm p a d cap N st ax cx x v1 HSB.out HNE.out hcs HQ.out hcx HX.out HGX.out) ?_
  rintro e v2 ⟨rfl, gg⟩
  replace E := Lib.hid (E.out.trans gg)
  replace HQ := Lib.hid (HQ.out.ext gg)
  replace HX := Lib.hid (HX.out.ext gg)
  replace C0 := Lib.hid (gg.cell (p := ⟨w.heap.size, 0, none⟩) C0.out)
  replace C1 := Lib.hid (gg.cell (p := ⟨w.heap.size, 1, none⟩) C1.out)
  clear gg
  go_wp2_with (fail)
  go_ret2
  exact ⟨rfl, E.out⟩
set_option maxHeartbeats 4000000 in
theorem c_diagonal (p : Int) (a : Option Addr) (d cap N : Nat) (st : List Int) (w : World) (hs : doubB p st = true) (hN : N = 2 ^ d) (hcs : d ≤ cap) (hq : RdC w a d st) :
    Calls Try.prog 89 #[.agg #[.int .i64 p, .slice a d cap]] w fun e w' => ∃ g rc, e = .returned (.slice (some ⟨g, 0, none⟩) N rc) ∧ OwnC w.heap.size w' (some ⟨g, 0, none⟩) N rc (diagL p st d N N) ∧ Ext w w' := by
  obtain ⟨hpr, hd4, hib, _⟩ := doub_of hs
  have hpb := prime_bd hpr
  have hdl := hq.1
  have hd4' : d ≤ 4 := by omega
  have hN64 : N ≤ 64 := by rw [hN]; exact pow_le64 (by omega)
  have hN1 : 0 < N := by rw [hN]; exact pow_pos' d
  have HN := Lib.hid hN
  have HSB := Lib.hid hs
  have HQ := Lib.hid hq
  clear hN hs hpr hib hdl hd4 hq
  obtain ⟨W, hW⟩ : ∃ W, W = w.alloc (.cells #[.int .i64 p, .slice a d cap] 52) := ⟨_, rfl⟩
  have gW : Ext w W := by rw [hW]; exact ext_alloc _ _
  have HS0 := Lib.hid (show W.cell? ⟨w.heap.size, 0, none⟩ = some (.int .i64 p) by rw [hW]; simp)
  have HS1 := Lib.hid (show W.cell? ⟨w.heap.size, 1, none⟩ = some (.slice a d cap) by rw [hW]; simp)
  have GW := Lib.hid gW
  have HW := Lib.hid hW
  clear gW hW
  go_enter Try.func89, Try.ntmps89
  go_wp2_with (fail)
  rw [← HW.out]
  have hs0 := (ext_alloc W (.cells #[] 2)).cell HS0.out
  have hs1 := (ext_alloc W (.cells #[] 2)).cell HS1.out
  go_wp2_with (fail)
  refine (c_dsize p a d cap N _ (by omega) HN.out).mono ?_
  rintro e w0 ⟨rfl, h0⟩
  have G0 := Lib.hid ((ext_alloc W (.cells #[] 2)).trans h0)
  clear h0 hs0 hs1
  go_wp2_with (fail)
  refine (c_unit N _ (by omega)).mono ?_
  rintro e w1 ⟨gu, ru, rfl, hu, h1⟩
  have HU := Lib.hid hu
  have G1 := Lib.hid (G0.out.trans h1)
  clear hu h1 G0
  go_wp2_with (fail)
  go_loopw [3, 11] (fun v i wr => ∃ (k g rc : Nat), k ≤ N ∧ i = .int .i64 k ∧ v = .slice (some ⟨g, 0, none⟩) k rc ∧ Hid (OwnCW w1.heap.size wr (some ⟨g, 0, none⟩) k rc (diagL p st d N k)) ∧ Hid (Ext w1 wr)) (fun _ i _ => N - (intOf i).toNat)
  case atStart => exact ⟨0, _, _, Nat.zero_le _, rfl, rfl, Lib.hid (.inl ⟨rfl, rfl, rfl, _, rfl⟩), Lib.hid (Ext.refl _)⟩
  case round =>
    obtain ⟨k, g, rc, hk, rfl, rfl, HOwn, HExt⟩ := hrel
    by_cases hlt : k < N
    · obtain ⟨ak, ck, hck, hok⟩ := HU.out.at hlt
      rw [unitL_nth hlt, bladeL_len] at hck hok
      have hck' := HExt.out.cell hck
      have hck0 : N ≤ ck := hok.capLe hN1
      have hs0 := (G1.out.trans HExt.out).cell HS0.out
      have hs1 := (G1.out.trans HExt.out).cell HS1.out
      have HRk := Lib.hid hok.rd
      have HGB := Lib.hid (show Good p N (bladeL N k) from blade_good (by omega))
      clear hck hok
      go_wp2_with (fail)
      clear hs0 hs1 hck'
      refine (c_dnorm p a d cap N st ak ck (bladeL N k) wr HSB.out HN.out hcs (HQ.out.ext (GW.out.trans (G1.out.trans HExt.out))) hck0 (HRk.out.ext HExt.out) HGB.out).mono ?_
      rintro e w4 ⟨rfl, x4⟩
      have X4 := Lib.hid x4
      clear x4
      obtain ⟨V, hV⟩ : ∃ V, V = normD p st d (bladeL N k) := ⟨_, rfl⟩
      have HV := Lib.hid hV
      rw [← hV]
      clear hV
      go_wp2_with (at_builtin; refine wpList_pushCW rfl (.tmp 15) (.tmp 19) rfl rfl rfl (v := V) (HOwn.out.ext (X4.out.trans (ext_alloc _ _))) ?hc (by omega) ?hB ?hk)
      case hc => simp
      case hB => exact ((HExt.out.trans X4.out).alloc _).size
      case hk =>
        intro g' cap' w3 ho3 he3
        have HO3 := Lib.hid ho3
        have HE4 := Lib.hid (he3 w1 (Nat.le_refl _) ((HExt.out.trans X4.out).alloc _))
        clear ho3 he3
        go_wp2_with (fail)
        go_roundw
        case rel => exact ⟨k + 1, g', cap', by omega, by go_num, rfl, Lib.hid (by rw [diagL_succ, ← HV.out]; exact .inr HO3.out), HE4⟩
        case measure => simp [intOf]; omega
    · obtain rfl : k = N := by omega
      have HO : Hid (OwnC w1.heap.size wr (some ⟨g, 0, none⟩) k rc (diagL p st d k k)) := Lib.hid (by
        rcases HOwn.out with ⟨h, _⟩ | h
        · omega
        · exact h)
      go_wp2_with (fail)
      go_ret
      exact ⟨_, _, rfl, HO.out.mono (GW.out.trans G1.out).size, GW.out.trans (G1.out.trans HExt.out)⟩
set_option maxHeartbeats 4000000 in
set_option maxRecDepth 100000 in
theorem c_NormDiagonal_ok (p : Int) (a : Option Addr) (d cap N : Nat) (st : List Int) (w : World) (hs : doubB p st = true) (hN : N = 2 ^ d) (hcs : d ≤ cap) (hq : RdC w a d st) :
    Calls Try.prog 34 #[.agg #[.int .i64 p, .slice a d cap]] w fun e w' => ∃ g rc, e = .returned (.tuple #[.slice (some ⟨g, 0, none⟩) N rc, .int .i64 0]) ∧ OwnC w.heap.size w' (some ⟨g, 0, none⟩) N rc (diagL p st d N N) ∧ Ext w w' := by
  obtain ⟨hpr, hd4, hib, _⟩ := doub_of hs
  have hpb := prime_bd hpr
  have hdl := hq.1
  have hd4' : d ≤ 4 := by omega
  have HGS := Lib.hid (show Good p d st from good_isB hdl hib)
  have HNE := Lib.hid hN
  have hN16 : N ≤ 16 ∧ 1 ≤ N := by
    rw [hN]
    have : d = 0 ∨ d = 1 ∨ d = 2 ∨ d = 3 ∨ d = 4 := by omega
    rcases this with rfl | rfl | rfl | rfl | rfl <;> decide
  have HSB := Lib.hid hs
  clear hpr hd4 hib hdl hN hs
  obtain ⟨W, hW⟩ : ∃ W, W = w.alloc (.cells #[.int .i64 p, .slice a d cap] 52) := ⟨_, rfl⟩
  have E : Hid (Ext w W) := Lib.hid (by rw [hW]; exact ext_alloc _ _)
  have C0 : Hid (W.cell? ⟨w.heap.size, 0, none⟩ = some (.int .i64 p)) := Lib.hid (by rw [hW]; simp)
  have C1 : Hid (W.cell? ⟨w.heap.size, 1, none⟩ = some (.slice a d cap)) := Lib.hid (by rw [hW]; simp)
  have HZ : Hid (W.heap.size = w.heap.size + 1) := Lib.hid (by rw [hW]; simp)
  have HW := Lib.hid hW
  clear hW
  have HQ := Lib.hid (hq.ext E.out)
  clear hq
  go_enter Try.func34, Try.ntmps34
  have x00 := C0.out
  have x01 := C1.out
  go_wp2_with (fail)
  clear x00 x01
  rw [← HW.out]
  clear HW
  refine Calls.mono (c_isDoubling p a d cap st W (by omega) HQ.out) ?_
  rintro e v1 ⟨rfl, gg⟩
  rw [HSB.out]
  replace E := Lib.hid (E.out.trans gg)
  replace HQ := Lib.hid (HQ.out.ext gg)
  replace C0 := Lib.hid (gg.cell (p := ⟨w.heap.size, 0, none⟩) C0.out)
  replace C1 := Lib.hid (gg.cell (p := ⟨w.heap.size, 1, none⟩) C1.out)
  clear gg
  have x00 := C0.out
  have x01 := C1.out
  go_wp2_with (fail)
  clear x00 x01
  refine Calls.mono (c_diagonal p a d cap N st v1 HSB.out HNE.out hcs HQ.out) ?_
  rintro e v2 ⟨g, rc, rfl, ho, gg⟩
  have RO := Lib.hid (ho.mono E.out.size)
  clear ho
  replace E := Lib.hid (E.out.trans gg)
  replace HQ := Lib.hid (HQ.out.ext gg)
  replace C0 := Lib.hid (gg.cell (p := ⟨w.heap.size, 0, none⟩) C0.out)
  replace C1 := Lib.hid (gg.cell (p := ⟨w.heap.size, 1, none⟩) C1.out)
  clear gg
  go_wp2_with (fail)
  go_ret2
  exact ⟨g, rc, rfl, RO.out, E.out⟩
end Go.Proofs.Ytcocbainookkcaa

/-
  The norm of elements of two steps is the form of its diagonal.
  No condition. No program in sight.
-/
namespace Go.Proofs.Ytcocbainookkcaa
set_option maxRecDepth 100000
open Go.RowKit

section
variable {p : Int} {st x : List Int}
theorem normD_bd (hp : 1 ≤ p) {d : Nat} : 0 ≤ normD p st d x ∧ normD p st d x < p := (dbl_good hp d x (conjL p x)).2 0 (Nat.two_pow_pos d)
theorem normD_two (hx : x.length = 4) : cg p (normD p st 2 x) (nth x 0 * nth x 0 - nth st 0 * (nth x 1 * nth x 1) - nth st 1 * (nth x 2 * nth x 2) + nth st 0 * nth st 1 * (nth x 3 * nth x 3)) := quat_norm hx
theorem bl4 (m i : Nat) (hm : m < 4) (hi : i < 4) : nth (bladeL 4 m) i = if m = i then 1 else 0 := bladeL_nth hm hi
theorem diag4 : cg p (nth (diagL p st 2 4 4) 0) 1 ∧ cg p (nth (diagL p st 2 4 4) 1) (-(nth st 0)) ∧ cg p (nth (diagL p st 2 4 4) 2) (-(nth st 1)) ∧ cg p (nth (diagL p st 2 4 4) 3) (nth st 0 * nth st 1) := by
  refine ⟨?_, ?_, ?_, ?_⟩
  all_goals
    rw [diagL_nth (by decide)]
    refine (normD_two (bladeL_len ..)).trans ?_
    rw [bl4 _ 0 (by decide) (by decide), bl4 _ 1 (by decide) (by decide), bl4 _ 2 (by decide) (by decide), bl4 _ 3 (by decide) (by decide)]
    simp
    exact ⟨0, by grind⟩
theorem diag_good (hp : 1 ≤ p) {d N k : Nat} : Good p k (diagL p st d N k) := ⟨diagL_len .., fun i hi => by rw [diagL_nth hi]; exact normD_bd hp⟩
theorem diag_space (hp : primeB p = true) : spaceB p (diagL p st 2 4 4) = true := by
  have hb := prime_bd hp
  have hg := diag_good (p := p) (st := st) (d := 2) (N := 4) (k := 4) (by omega)
  unfold spaceB
  rw [hp, diagL_len]
  have : isB p (diagL p st 2 4 4) = true := by
    have := good_multi (d := 2) (p := p) (xs := diagL p st 2 4 4) hg
    unfold multiB at this
    simp only [Bool.and_eq_true] at this
    exact this.2
  rw [this]
  decide
/-- The norm is the form. -/
theorem norm_form (hp : 1 ≤ p) (hx : x.length = 4) : normD p st 2 x = pairL p (diagL p st 2 4 4) x x 4 := by
  have hl : (diagL p st 2 4 4).length = 4 := diagL_len ..
  have h1 := normD_bd (p := p) (st := st) (x := x) (d := 2) hp
  have h2 := pairL_bd (p := p) (qs := diagL p st 2 4 4) (v := x) (w := x) (n := 4) hp
  have hc : cg p (normD p st 2 x) (pairL p (diagL p st 2 4 4) x x 4) := by
    refine (normD_two hx).trans (cg.symm ((pl_cg hl).trans ?_))
    obtain ⟨⟨a, ha⟩, ⟨b, hb⟩, ⟨c, hc⟩, ⟨d, hd⟩⟩ := diag4 (p := p) (st := st)
    unfold pairZ
    rw [hl]
    show cg p (0 + nth x 0 * nth x 0 * nth (diagL p st 2 4 4) 0 + nth x 1 * nth x 1 * nth (diagL p st 2 4 4) 1 + nth x 2 * nth x 2 * nth (diagL p st 2 4 4) 2 + nth x 3 * nth x 3 * nth (diagL p st 2 4 4) 3) _
    rw [ha, hb, hc, hd]
    exact ⟨nth x 0 * nth x 0 * a + nth x 1 * nth x 1 * b + nth x 2 * nth x 2 * c + nth x 3 * nth x 3 * d, by grind⟩
  obtain ⟨s, hs⟩ := hc
  have e : normD p st 2 x % p = pairL p (diagL p st 2 4 4) x x 4 % p := by rw [hs, Int.add_mul_emod_self_left]
  rw [Int.emod_eq_of_lt h1.1 h1.2, Int.emod_eq_of_lt h2.1 h2.2] at e
  exact e
end
end Go.Proofs.Ytcocbainookkcaa

/-
  ConjugateOf.
  No condition.
-/
namespace Go.Proofs.Ytcocbainookkcaa
set_option maxRecDepth 100000
open Go.RowKit

def oddB (g : Nat) : Bool := g % 2 == 1
theorem odd_i (g : Nat) (hg : g ≤ 6) : ((g : Int).tmod 2 == 1) = oddB g := by
  have : ∀ g : Nat, g < 7 → ((g : Int).tmod 2 == 1) = oddB g := by decide +kernel
  exact this g (by omega)
set_option maxHeartbeats 400000 in
theorem c_involute1 (g : Nat) (w : World) (hg : g ≤ 6) :
    Calls Try.prog 129 #[.int .i64 g] w fun e w' => e = .returned (.bool (oddB g)) ∧ Ext w w' := by
  go_enter Try.func129, Try.ntmps129
  go_wp2
  go_ret
  exact ⟨ret_bool (odd_i g hg), Ext.refl _⟩
set_option maxHeartbeats 1000000 in
theorem c_involute (p : Int) (a : Option Addr) (d cap : Nat) (b off n cx : Nat) (x : List Int) (w : World) (hp1 : 3 ≤ p) (hp2 : p ≤ 1000) (hn : 0 < n) (hn6 : n ≤ 64) (hx : RdC w (some ⟨b, off, none⟩) n x) (hgx : Good p n x) :
    Calls Try.prog 87 #[.agg #[.int .i64 p, .slice a d cap], .slice (some ⟨b, off, none⟩) n cx] w fun e w' => ∃ g rc, e = .returned (.slice (some ⟨g, 0, none⟩) n rc) ∧ OwnC w.heap.size w' (some ⟨g, 0, none⟩) n rc (signL p oddB x n) ∧ Ext w w' := by
  go_enter Try.func87, Try.ntmps87
  go_wp2_with (fail)
  refine (c_signed p a d cap b off n cx x 129 oddB _ hp1 hp2 hn hn6 (hx.ext (ext_alloc _ _)) hgx ?_ (fun g w hg => c_involute1 g w hg)).mono ?_
  · intro args w; go_simp
  rintro e w1 ⟨g, rc, rfl, ho, g1⟩
  have HO := Lib.hid ho
  have G1 := Lib.hid g1
  clear ho g1
  go_wp2_with (fail)
  go_ret
  exact ⟨g, rc, rfl, HO.out.mono (by simp), (ext_alloc _ _).trans G1.out⟩
theorem sign_good9 {p : Int} {odd : Nat → Bool} {x : List Int} {n : Nat} (hp : 1 ≤ p) (h : Good p n x) : Good p n (signL p odd x n) :=
  ⟨signL_len .., fun i hi => by rw [signL_nth hi]; exact signN_bd hp h hi⟩
/-- The conjugate of a multivector of a plane has the opposite numbers but the first. -/
theorem conj_two {p : Int} {x : List Int} (hp : 1 ≤ p) (h : Good p 4 x) : signL p revB (signL p oddB x 4) 4 = conjL p x := by
  refine good_eq (sign_good9 hp (sign_good9 hp h)) (conj_good hp h) fun i hi => ?_
  have hi4 : i = 0 ∨ i = 1 ∨ i = 2 ∨ i = 3 := by omega
  have r1 : revB 0 = false := by decide
  have r2 : revB 1 = false := by decide
  have r3 : revB 2 = true := by decide
  have o1 : oddB 0 = false := by decide
  have o2 : oddB 1 = true := by decide
  have o3 : oddB 2 = false := by decide
  have p0 : popc 0 = 0 := by decide
  have p1 : popc 1 = 1 := by decide
  have p2 : popc 2 = 1 := by decide
  have p3 : popc 3 = 2 := by decide
  rw [signL_nth hi]
  unfold signN
  rw [signL_nth hi]
  unfold signN
  rcases hi4 with rfl | rfl | rfl | rfl
  · rw [p0, r1, o1, conj_cg0 (by rw [h.1]; decide)]; exact cg.refl _ _
  · rw [p1, r2, o2]; exact (cg_emod _ _).trans (conj_cg (by rw [h.1]; decide) (by decide)).symm
  · rw [p2, r2, o2]; exact (cg_emod _ _).trans (conj_cg (by rw [h.1]; decide) (by decide)).symm
  · rw [p3, r3, o3]; exact (cg_emod _ _).trans (conj_cg (by rw [h.1]; decide) (by decide)).symm
set_option maxHeartbeats 4000000 in
set_option maxRecDepth 100000 in
theorem c_ConjugateOf_ok {N : Nat} (p : Int) (a : Option Addr) (d cap : Nat) (qs : List Int) (bx ox cx : Nat) (x : List Int) (w : World) (hN : N = 2 ^ d) (hs : spaceB p qs = true) (hq : RdC w a d qs) (hx : RdC w (some ⟨bx, ox, none⟩) N x) (hgx : Good p N x) :
    Calls Try.prog 33 #[.agg #[.int .i64 p, .slice a d cap], .slice (some ⟨bx, ox, none⟩) N cx] w fun e w' => ∃ g rc, e = .returned (.tuple #[.slice (some ⟨g, 0, none⟩) N rc, .int .i64 0]) ∧ OwnC w.heap.size w' (some ⟨g, 0, none⟩) N rc (signL p revB (signL p oddB x N) N) ∧ Ext w w' := by
  obtain ⟨hpr, hd1, hd6, hqb⟩ := space_of hs
  have hpb := prime_bd hpr
  rw [hq.1] at hd6
  have hN6 : N ≤ 64 := by rw [hN]; exact pow_le64 hd6
  have hN1 : 0 < N := by rw [hN]; exact pow_pos' d
  have HC := Lib.hid (show codeM p qs [x] = 0 from codeM_one0 hs (by rw [hq.1, ← hN]; exact hgx))
  have HXL := Lib.hid hgx.1
  have HGX := Lib.hid hgx
  have HGI := Lib.hid (sign_good9 (p := p) (odd := oddB) (by omega) hgx)
  clear hN hqb hs hpr hgx hd1
  obtain ⟨W, hW⟩ : ∃ W, W = w.alloc (.cells #[.int .i64 p, .slice a d cap] 26) := ⟨_, rfl⟩
  have E : Hid (Ext w W) := Lib.hid (by rw [hW]; exact ext_alloc _ _)
  have C0 : Hid (W.cell? ⟨w.heap.size, 0, none⟩ = some (.int .i64 p)) := Lib.hid (by rw [hW]; simp)
  have C1 : Hid (W.cell? ⟨w.heap.size, 1, none⟩ = some (.slice a d cap)) := Lib.hid (by rw [hW]; simp)
  have HZ : Hid (W.heap.size = w.heap.size + 1) := Lib.hid (by rw [hW]; simp)
  have HW := Lib.hid hW
  clear hW
  have HQ := Lib.hid (hq.ext E.out)
  have HX := Lib.hid (hx.ext E.out)
  clear hq hx
  go_enter Try.func33, Try.ntmps33
  have x00 := C0.out
  have x01 := C1.out
  go_wp2_with (fail)
  clear x00 x01
  rw [← HW.out]
  clear HW
  refine Calls.mono (c_checkMultis p a d cap qs _ 1 _ [x] _ (by omega) (by omega) (len_one (by rw [HXL.out]; omega)) (HQ.out.ext (ext_alloc _ _)) (rdR_one (a := some ⟨bx, ox, none⟩) (n := N) (cap := cx) (by rw [← HZ.out]; simp) (HX.out.ext (ext_alloc _ _)))) ?_
  rintro e v1 ⟨rfl, gg⟩
  replace gg := (ext_alloc _ _).trans gg
  rw [HC.out]
  replace E := Lib.hid (E.out.trans gg)
  replace HQ := Lib.hid (HQ.out.ext gg)
  replace HX := Lib.hid (HX.out.ext gg)
  replace C0 := Lib.hid (gg.cell (p := ⟨w.heap.size, 0, none⟩) C0.out)
  replace C1 := Lib.hid (gg.cell (p := ⟨w.heap.size, 1, none⟩) C1.out)
  clear gg
  have x00 := C0.out
  have x01 := C1.out
  go_wp2_with (fail)
  clear x00 x01
  replace E := Lib.hid (E.out.trans (ext_drew v1))
  replace HQ := Lib.hid (HQ.out.ext (ext_drew v1))
  replace HX := Lib.hid (HX.out.ext (ext_drew v1))
  replace C0 := Lib.hid ((ext_drew v1).cell (p := ⟨w.heap.size, 0, none⟩) C0.out)
  replace C1 := Lib.hid ((ext_drew v1).cell (p := ⟨w.heap.size, 1, none⟩) C1.out)
  refine wp_region_lex [(3, .ownS w.heap.size N (signL p oddB x N)), (4, .ownS w.heap.size N (signL p revB (signL p oddB x N) N))] (by kernel_rfl) (by kernel_rfl) ?_
  (refine LexW.pure (v := ?_) rfl rfl (fun w1 he => ?_) ?_; rotate_left; ( have x00 := (he.cell (p := ⟨w.heap.size, 0, none⟩) C0.out); have x01 := (he.cell (p := ⟨w.heap.size, 1, none⟩) C1.out); go_simp; rfl); simp only [Act.put, List.setIfInBounds_toArray, List.set_cons_zero, List.set_cons_succ])
  (refine LexW.pure (v := ?_) rfl rfl (fun w1 he => ?_) ?_; rotate_left; ( have x00 := (he.cell (p := ⟨w.heap.size, 0, none⟩) C0.out); have x01 := (he.cell (p := ⟨w.heap.size, 1, none⟩) C1.out); go_simp; rfl); simp only [Act.put, List.setIfInBounds_toArray, List.set_cons_zero, List.set_cons_succ])
  (refine LexW.pure (v := ?_) rfl rfl (fun w1 he => ?_) ?_; rotate_left; ( have x00 := (he.cell (p := ⟨w.heap.size, 0, none⟩) C0.out); have x01 := (he.cell (p := ⟨w.heap.size, 1, none⟩) C1.out); go_simp; rfl); simp only [Act.put, List.setIfInBounds_toArray, List.set_cons_zero, List.set_cons_succ])
  (refine LexW.callR (f := ?_) (args := ?_) rfl rfl (fun w1 => ?_) (fun w1 he hdep => ?_) (fun v hv => ?_); rotate_left 2; (go_simp; refine ⟨?_, ?_⟩ <;> rfl); ( refine (c_involute p a d cap bx ox N cx x w1 hpb.1 (by omega) hN1 hN6 (HX.out.ext he) HGX.out).mono ?_; rintro e w2 ⟨g, rc, rfl, ho, g2⟩; exact ⟨_, rfl, g2, g, rc, rfl, ho.mono (Nat.le_trans E.out.size he.size)⟩); simp only [Act.put, List.setIfInBounds_toArray, List.set_cons_zero, List.set_cons_succ])
  obtain ⟨_, g17, c17, rfl, _⟩ := hv
  (refine LexW.callR (f := ?_) (args := ?_) rfl rfl (fun w1 => ?_) (fun w1 he hdep => ?_) (fun v hv => ?_); rotate_left 2; (go_simp; refine ⟨?_, ?_⟩ <;> rfl); ( obtain ⟨_, _, q17, r17⟩ : (SPred.ownS w.heap.size N (signL p oddB x N)).holds (.slice (some ⟨g17, 0, none⟩) N c17) w1 := hdep (3, 17) (by decide +kernel); cases q17; refine (c_reverse p a d cap _ 0 N _ (signL p oddB x N) w1 hpb.1 (by omega) hN1 hN6 r17.rd HGI.out).mono ?_; rintro e w2 ⟨g, rc, rfl, ho, g2⟩; exact ⟨_, rfl, g2, g, rc, rfl, ho.mono (Nat.le_trans E.out.size he.size)⟩); simp only [Act.put, List.setIfInBounds_toArray, List.set_cons_zero, List.set_cons_succ])
  obtain ⟨_, g18, c18, rfl, _⟩ := hv
  (refine LexW.pure (v := ?_) rfl rfl (fun w1 he => ?_) ?_; rotate_left; ( have x00 := (he.cell (p := ⟨w.heap.size, 0, none⟩) C0.out); have x01 := (he.cell (p := ⟨w.heap.size, 1, none⟩) C1.out); go_simp; rfl); simp only [Act.put, List.setIfInBounds_toArray, List.set_cons_zero, List.set_cons_succ])
  (refine LexW.pure (v := ?_) rfl rfl (fun w1 he => ?_) ?_; rotate_left; ( have x00 := (he.cell (p := ⟨w.heap.size, 0, none⟩) C0.out); have x01 := (he.cell (p := ⟨w.heap.size, 1, none⟩) C1.out); go_simp; rfl); simp only [Act.put, List.setIfInBounds_toArray, List.set_cons_zero, List.set_cons_succ])
  refine LexW.nil (fun w3 he hkn => ?_)
  obtain ⟨_, _, q18, r18⟩ : (SPred.ownS w.heap.size N (signL p revB (signL p oddB x N) N)).holds (.slice (some ⟨g18, 0, none⟩) N c18) w3 := hkn (4, _) (by simp)
  cases q18
  have R18 := Lib.hid r18
  have HE := Lib.hid he
  clear he hkn r18
  rename World => v2
  replace E := Lib.hid (E.out.trans HE.out)
  replace HQ := Lib.hid (HQ.out.ext HE.out)
  replace HX := Lib.hid (HX.out.ext HE.out)
  replace C0 := Lib.hid (HE.out.cell (p := ⟨w.heap.size, 0, none⟩) C0.out)
  replace C1 := Lib.hid (HE.out.cell (p := ⟨w.heap.size, 1, none⟩) C1.out)
  clear HE
  have RO := Lib.hid (R18.out.mono (Nat.le_refl _))
  go_wp2_with (fail)
  go_ret2
  exact ⟨_, _, rfl, RO.out, E.out⟩
end Go.Proofs.Ytcocbainookkcaa

/-
  Draws of vectors.
  No condition.
-/
namespace Go.Proofs.Ytcocbainookkcaa
set_option maxRecDepth 100000
open Go.RowKit

end Go.Proofs.Ytcocbainookkcaa

/-
  Draws of a space and two lists.
  No condition.
-/
namespace Go.Proofs.Ytcocbainookkcaa
set_option maxRecDepth 100000
open Go.RowKit

/-- A row of the call's own, behind the source. -/
def Chg.SPred.own (S : SrcP) (B M : Nat) (hB : S.g < B) : Chg.SPred (Drw.rel S) :=
  ⟨fun v w => ∃ a m cap xs, v = .slice a m cap ∧ m ≤ M ∧ OwnC B w a m cap xs, fun _ _ _ ⟨a, m, cap, xs, h1, h2, h3⟩ he => ⟨a, m, cap, xs, h1, h2, Drw.own he h3 hB⟩⟩

end Go.Proofs.Ytcocbainookkcaa

/-
  element9: a drawn element of two steps.
  No condition.
-/
namespace Go.Proofs.Ytcocbainookkcaa
set_option maxRecDepth 100000
open Go.RowKit

theorem isB_pushE {p r : Int} {xs : List Int} (h : isB p xs = true) (h1 : 0 ≤ r) (h2 : r < p) : isB p (xs ++ [r]) = true := by
  unfold isB at h ⊢
  rw [List.all_append, h]
  simp [inB]; omega
set_option maxHeartbeats 4000000 in
theorem l_element9 (S : SrcP) (p : Int) (a : Option Addr) (cap : Nat) (w : World) (hS : Src S w) (hp0 : 1 ≤ p) (hp : p ≤ 1000) :
    Calls Try.prog 28 #[.pointer (some ⟨S.g, 0, none⟩), .agg #[.int .i64 p, .slice a 2 cap]] w fun e w' => ∃ g rc xs, e = .returned (.slice (some ⟨g, 0, none⟩) 4 rc) ∧ OwnC w.heap.size w' (some ⟨g, 0, none⟩) 4 rc xs ∧ Good p 4 xs ∧ Drw S w w' := by
  have hlt := hS.lt
  obtain ⟨O, hO⟩ : ∃ O, O = w.heap.size := ⟨_, rfl⟩
  have hgO : O ≠ S.g := by omega
  obtain ⟨W, hW⟩ : ∃ W, W = w.alloc (.cells #[.int .i64 p, .slice a 2 cap] 52) := ⟨_, rfl⟩
  have gW : Ext w W := by rw [hW]; exact ext_alloc _ _
  have C0 := Lib.hid (show W.cell? ⟨O, 0, none⟩ = some (.int .i64 p) by rw [hW, hO]; simp)
  have C1 := Lib.hid (show W.cell? ⟨O, 1, none⟩ = some (.slice a 2 cap) by rw [hW, hO]; simp)
  have HS := Lib.hid hS
  have GW := Lib.hid (Drw.of_ext (S := S) gW)
  have HZ := Lib.hid (show W.heap.size = w.heap.size + 1 by rw [hW]; simp)
  clear gW hS
  have HHO := Lib.hid hO
  go_enter Try.func28, Try.ntmps28
  go_wp2_with (fail)
  rw [← hW]
  rw [← HHO.out]
  clear hW hO
  obtain ⟨W0, hW0⟩ : ∃ W0, W0 = W.alloc (.cells #[] 2) := ⟨_, rfl⟩
  have HE0 := Lib.hid (show Ext W W0 by rw [hW0]; exact ext_alloc _ _)
  have hz : W.heap.size = O + 1 := by have := HZ.out; have := HHO.out; omega
  have HOE := Lib.hid (show OwnC (O + 1) W0 (some ⟨O + 1, 0, none⟩) 0 0 [] by rw [hW0, ← hz]; exact own_empty W)
  rw [← hW0]
  have HL0 := Lib.hid (show O + 1 ≤ W0.heap.size by rw [hW0]; simp; omega)
  clear hW0
  have hSB : S.g < O + 1 := by have := HHO.out; omega
  have HSW := Lib.hid (GW.out.src HS.out)
  have G0 := Lib.hid (Drw.of_ext (S := S) HE0.out)
  have HWB : Hid (w.heap.size ≤ O + 1) := Lib.hid (by have := HHO.out; omega)
  have HBW : Hid (W.heap.size ≤ O + 1) := Lib.hid (by omega)
  clear HE0 HZ hz HS
  go_loopw [5, 6] (fun v i wr => ∃ (k g cb : Nat) (xs : List Int), k ≤ 4 ∧ i = .int .i64 k ∧ v = .slice (some ⟨g, 0, none⟩) k cb ∧ Hid (OwnC (O + 1) wr (some ⟨g, 0, none⟩) k cb xs) ∧ Hid (isB p xs = true) ∧ Hid (Drw S W wr) ∧ Hid (O + 1 ≤ wr.heap.size)) (fun _ i _ => 4 - (intOf i).toNat)
  case atStart => exact ⟨0, _, 0, [], Nat.zero_le _, rfl, rfl, HOE, Lib.hid (by simp [isB]), G0, HL0⟩
  case round =>
    rename World => wr
    obtain ⟨k, gb, cb, xs, hk, rfl, rfl, HO, HI, HD, HL⟩ := hrel
    clear G0 HOE HL0
    have c0 := HD.out.cell (p := ⟨O, 0, none⟩) hgO C0.out
    have c1 := HD.out.cell (p := ⟨O, 1, none⟩) hgO C1.out
    by_cases hkn : k < 4
    · have hkd : (k : Int) < 4 := by omega
      go_wp2_with (fail)
      all_goals
        refine Calls.mono (l_below S p wr (HD.out.src HSW.out) (by omega)) ?_
        rintro e w1 ⟨r, rfl, hr, g1⟩
        have hrb := hr.2 (by omega)
        have HI1 := Lib.hid (isB_pushE HI.out hrb.1 hrb.2)
        have HO1 := Lib.hid (g1.own HO.out hSB)
        have HD1 := Lib.hid (HD.out.trans g1)
        have HL1 := Lib.hid (Nat.le_trans HL.out g1.size)
        clear g1 c0 c1 hr hrb
        go_wp2_with (at_builtin; refine wpList_push rfl (.tmp 17) (.tmp 22) rfl rfl rfl (v := r) (HO1.out.ext (ext_alloc _ _)) ?hc ?hn ?hB ?hk)
        case hc => simp
        case hn => omega
        case hB => have := HL1.out; simp; omega
        case hk =>
          intro g' cap' w3 ho3 hg3 he3
          have HO3 := Lib.hid ho3
          have HD3 := Lib.hid ((HD1.out.alloc _).grown hg3 (fun k hk => Nat.le_trans HBW.out (HO1.out.blk k hk)))
          have HL3 := Lib.hid (show O + 1 ≤ w3.heap.size by have h8 := HO3.out.base_of g' rfl; omega)
          clear ho3 hg3 he3
          go_wp2_with (fail)
          go_roundw
          case rel => exact ⟨k + 1, g', cap', _, by omega, by go_num, rfl, HO3, HI1, HD3, HL3⟩
          case measure => simp [intOf]; omega
    · obtain rfl : k = 4 := by omega
      go_wp2_with (fail)
      go_ret
      exact ⟨_, _, xs, rfl, HO.out.mono HWB.out, good_isB HO.out.1 HI.out, GW.out.trans HD.out⟩
end Go.Proofs.Ytcocbainookkcaa

/-
  Counting the values of a diagonal form: the steps commute.
  No condition. No program in sight.
-/
namespace Go.Proofs.Ytcocbainookkcaa
set_option maxRecDepth 100000
open Go.RowKit

/-- How many ways lead to j: a number n with its ways, and a square x * x times s. -/
def ctN (P : Nat) (s : Int) (row : List Int) (j : Nat) : Int := sumN P fun n => sumN P fun x => if ((n : Int) + s * ((x : Int) * x)) % (P : Int) = (j : Int) then nth row n else 0
def ctL (P : Nat) (s : Int) (row : List Int) : List Int := (List.range P).map (ctN P s row)
theorem ctL_len (P : Nat) (s : Int) (row : List Int) : (ctL P s row).length = P := by simp [ctL]
theorem ctL_nth {P : Nat} {s : Int} {row : List Int} {j : Nat} (h : j < P) : nth (ctL P s row) j = ctN P s row j := by
  unfold ctL; rw [nth_map (by simpa using h)]; simp
theorem sum_hit {P : Nat} (hP : 0 < P) (e : Int) (g : Nat → Int) : (sumN P fun n => if e % (P : Int) = (n : Int) then g n else 0) = g (e % (P : Int)).toNat := by
  have h0 : 0 ≤ e % (P : Int) := Int.emod_nonneg _ (by omega)
  have h1 : e % (P : Int) < P := Int.emod_lt_of_pos _ (by omega)
  rw [sumN_single (k := (e % (P : Int)).toNat) (by omega) (fun i _ hne => by rw [if_neg (by omega)])]
  rw [if_pos (by omega)]
theorem if_sum {c : Prop} [Decidable c] {n : Nat} {f : Nat → Int} : (if c then sumN n f else 0) = sumN n fun i => if c then f i else 0 := by
  by_cases h : c
  · rw [if_pos h]; exact sumN_congr fun i _ => by rw [if_pos h]
  · rw [if_neg h]; exact (sumN_zero fun i _ => by rw [if_neg h]).symm
def triN (P : Nat) (s t : Int) (row : List Int) (j : Nat) : Int :=
  sumN P fun x => sumN P fun m => sumN P fun y => if ((m : Int) + s * ((y : Int) * y) + t * ((x : Int) * x)) % (P : Int) = (j : Int) then nth row m else 0
theorem ct_tri {P : Nat} (hP : 0 < P) {s t : Int} {row : List Int} {j : Nat} : ctN P t (ctL P s row) j = triN P s t row j := by
  unfold ctN
  rw [sumN_swap]
  unfold triN
  refine sumN_congr fun x _ => ?_
  have e1 : (sumN P fun n => if ((n : Int) + t * ((x : Int) * x)) % (P : Int) = (j : Int) then nth (ctL P s row) n else 0) =
      sumN P fun n => sumN P fun m => sumN P fun y => if ((m : Int) + s * ((y : Int) * y)) % (P : Int) = (n : Int) then (if ((n : Int) + t * ((x : Int) * x)) % (P : Int) = (j : Int) then nth row m else 0) else 0 := by
    refine sumN_congr fun n hn => ?_
    rw [ctL_nth hn]
    unfold ctN
    rw [if_sum]
    refine sumN_congr fun m _ => ?_
    rw [if_sum]
    refine sumN_congr fun y _ => ?_
    by_cases h1 : ((n : Int) + t * ((x : Int) * x)) % (P : Int) = (j : Int)
    · simp only [if_pos h1]
    · simp only [if_neg h1]; split <;> rfl
  rw [e1, sumN_swap]
  refine sumN_congr fun m _ => ?_
  rw [sumN_swap]
  refine sumN_congr fun y _ => ?_
  rw [sum_hit hP ((m : Int) + s * ((y : Int) * y)) (fun n => if ((n : Int) + t * ((x : Int) * x)) % (P : Int) = (j : Int) then nth row m else 0)]
  have h0 : 0 ≤ ((m : Int) + s * ((y : Int) * y)) % (P : Int) := Int.emod_nonneg _ (by omega)
  rw [Int.toNat_of_nonneg h0, Int.emod_add_emod]
theorem tri_comm {P : Nat} {s t : Int} {row : List Int} {j : Nat} : triN P s t row j = triN P t s row j := by
  unfold triN
  rw [sumN_swap]
  have e : ∀ m : Nat, (sumN P fun x => sumN P fun y => if ((m : Int) + s * ((y : Int) * y) + t * ((x : Int) * x)) % (P : Int) = (j : Int) then nth row m else 0) =
      sumN P fun y => sumN P fun x => if ((m : Int) + t * ((x : Int) * x) + s * ((y : Int) * y)) % (P : Int) = (j : Int) then nth row m else 0 := fun m => by
    rw [sumN_swap]
    refine sumN_congr fun y _ => sumN_congr fun x _ => ?_
    rw [Int.add_right_comm]
  rw [sumN_congr fun m _ => e m, sumN_swap]
theorem ct_comm {P : Nat} (hP : 0 < P) {s t : Int} {row : List Int} : ctL P t (ctL P s row) = ctL P s (ctL P t row) := by
  refine ext_nth (by rw [ctL_len, ctL_len]) fun j hj => ?_
  rw [ctL_len] at hj
  rw [ctL_nth hj, ctL_nth hj, ct_tri hP, ct_tri hP, tri_comm]
/-- From the first number on; from the last one on. -/
def ctF (P : Nat) (row : List Int) : List Int → List Int
  | [] => row
  | s :: l => ctF P (ctL P s row) l
def ctB (P : Nat) (row : List Int) : List Int → List Int
  | [] => row
  | s :: l => ctL P s (ctB P row l)
theorem ctF_push {P : Nat} (hP : 0 < P) (s : Int) : ∀ (l row : List Int), ctF P (ctL P s row) l = ctL P s (ctF P row l)
  | [], _ => rfl
  | t :: l, row => by
    show ctF P (ctL P t (ctL P s row)) l = ctL P s (ctF P (ctL P t row) l)
    rw [ct_comm hP, ctF_push hP s l]
theorem ct_same {P : Nat} (hP : 0 < P) : ∀ (l row : List Int), ctF P row l = ctB P row l
  | [], _ => rfl
  | s :: l, row => by
    show ctF P (ctL P s row) l = ctL P s (ctB P row l)
    rw [ctF_push hP s l, ct_same hP l]

/-! ### A step, number by number -/
/-- After the numbers below i and, of i, the squares of the numbers below k. -/
def ptN (P : Nat) (s : Int) (row : List Int) (i k j : Nat) : Int :=
  (sumN i fun n => sumN P fun x => if ((n : Int) + s * ((x : Int) * x)) % (P : Int) = (j : Int) then nth row n else 0) + sumN k fun x => if ((i : Int) + s * ((x : Int) * x)) % (P : Int) = (j : Int) then nth row i else 0
def ptL (P : Nat) (s : Int) (row : List Int) (i k : Nat) : List Int := (List.range P).map (ptN P s row i k)
theorem ptL_len (P : Nat) (s : Int) (row : List Int) (i k : Nat) : (ptL P s row i k).length = P := by simp [ptL]
theorem ptL_nth {P : Nat} {s : Int} {row : List Int} {i k j : Nat} (h : j < P) : nth (ptL P s row i k) j = ptN P s row i k j := by
  unfold ptL; rw [nth_map (by simpa using h)]; simp
theorem ptL_start {P : Nat} {s : Int} {row : List Int} : ptL P s row 0 0 = List.replicate P 0 := by
  refine ext_nth (by rw [ptL_len, List.length_replicate]) fun j hj => ?_
  rw [ptL_len] at hj
  rw [ptL_nth hj, nth_replicate hj]
  rfl
theorem ptL_end {P : Nat} {s : Int} {row : List Int} : ptL P s row P 0 = ctL P s row := by
  refine ext_nth (by rw [ptL_len, ctL_len]) fun j hj => ?_
  rw [ptL_len] at hj
  rw [ptL_nth hj, ctL_nth hj]
  unfold ptN ctN
  exact Int.add_zero _
theorem ptL_row {P : Nat} {s : Int} {row : List Int} {i : Nat} : ptL P s row i P = ptL P s row (i + 1) 0 := by
  refine ext_nth (by rw [ptL_len, ptL_len]) fun j hj => ?_
  rw [ptL_len] at hj
  rw [ptL_nth hj, ptL_nth hj]
  unfold ptN
  show _ = (_ + _) + 0
  rw [Int.add_zero]
theorem ptL_step {P : Nat} {s : Int} {row : List Int} {i k t : Nat} (ht : t < P) (h : ((i : Int) + s * ((k : Int) * k)) % (P : Int) = (t : Int)) :
    (ptL P s row i k).set t (nth (ptL P s row i k) t + nth row i) = ptL P s row i (k + 1) := by
  refine ext_nth (by rw [List.length_set, ptL_len, ptL_len]) fun j hj => ?_
  rw [List.length_set, ptL_len] at hj
  rw [nth_set (by rw [ptL_len]; exact ht), ptL_nth hj, ptL_nth hj, ptL_nth ht]
  unfold ptN
  by_cases hjt : t = j
  · subst hjt
    rw [if_pos rfl]
    show _ = _ + (_ + (if ((i : Int) + s * ((k : Int) * k)) % (P : Int) = (t : Int) then nth row i else 0))
    rw [if_pos h, Int.add_assoc]
  · rw [if_neg hjt]
    show _ = _ + (_ + (if ((i : Int) + s * ((k : Int) * k)) % (P : Int) = (j : Int) then nth row i else 0))
    rw [if_neg (by rw [h]; omega), Int.add_zero]
end Go.Proofs.Ytcocbainookkcaa

/-
  The listed function PowerOf.
  No condition.
-/
namespace Go.Proofs.Ytcocbainookkcaa
set_option maxRecDepth 100000
open Go.RowKit

def codeP (p : Int) (qs : List Int) (rows : List (List Int)) (v : Int) : Int := if codeM p qs rows = 0 then (if inB v 0 100 = true then 0 else 2) else codeM p qs rows
theorem codeP_zero {p : Int} {qs : List Int} {rows : List (List Int)} {v : Int} (h : codeP p qs rows v = 0) : codeM p qs rows = 0 ∧ inB v 0 100 = true := by
  unfold codeP at h
  split at h
  · rename_i hm
    split at h
    · rename_i hr; exact ⟨hm, hr⟩
    · omega
  · rename_i hm; exact absurd h hm
theorem pow_odd {u t k K : Nat} (h : u + t * k = K) (ho : k % 2 = 1) : u + t + (t + t) * (k / 2) = K := by
  obtain ⟨m, hm⟩ : ∃ m, k = 2 * m + 1 := ⟨k / 2, by omega⟩
  subst hm
  rw [show (2 * m + 1) / 2 = m by omega, Nat.add_mul, ← h, Nat.mul_add, Nat.mul_one, Nat.mul_left_comm]
  omega
theorem pow_even {u t k K : Nat} (h : u + t * k = K) (ho : ¬ k % 2 = 1) : u + (t + t) * (k / 2) = K := by
  obtain ⟨m, hm⟩ : ∃ m, k = 2 * m := ⟨k / 2, by omega⟩
  subst hm
  rw [show 2 * m / 2 = m by omega, Nat.add_mul, ← h, Nat.mul_left_comm]
  omega
theorem in_bd {v l h : Int} (hh : inB v l h = true) : l ≤ v ∧ v ≤ h := by simpa [inB] using hh





end Go.Proofs.Ytcocbainookkcaa

/-
  CountVectors: counting from the first square on.
  No condition.
-/
namespace Go.Proofs.Ytcocbainookkcaa
set_option maxRecDepth 100000
open Go.RowKit

theorem ctF_snoc (P : Nat) (s : Int) : ∀ (l row : List Int), ctF P row (l ++ [s]) = ctL P s (ctF P row l)
  | [], _ => rfl
  | t :: l, row => ctF_snoc P s l (ctL P t row)
theorem ctF_take {P k : Nat} {row qs : List Int} (h : k < qs.length) : ctF P row (qs.take (k + 1)) = ctL P (nth qs k) (ctF P row (qs.take k)) := by
  rw [← ctF_snoc]
  congr 1
  rw [List.take_add_one]
  congr 1
  simp [nth, h]
theorem sumN_bd {n : Nat} {f : Nat → Int} {B : Int} (h : ∀ i, i < n → 0 ≤ f i ∧ f i ≤ B) : 0 ≤ sumN n f ∧ sumN n f ≤ n * B := by
  induction n with
  | zero => show (0 : Int) ≤ 0 ∧ (0 : Int) ≤ ((0 : Nat) : Int) * B; simp
  | succ n ih =>
    have h1 := ih fun i hi => h i (by omega)
    have h2 := h n (by omega)
    show 0 ≤ sumN n f + f n ∧ sumN n f + f n ≤ ((n + 1 : Nat) : Int) * B
    rw [show ((n + 1 : Nat) : Int) * B = (n : Int) * B + B by rw [Int.natCast_add, Int.add_mul]; simp]
    omega
theorem ptN_bd {P : Nat} {s : Int} {row : List Int} {B : Int} (hB : 0 ≤ B) (h : ∀ n, n < P → 0 ≤ nth row n ∧ nth row n ≤ B) {i k j : Nat} (hi : i ≤ P) (hik : k = 0 ∨ i < P) :
    0 ≤ ptN P s row i k j ∧ ptN P s row i k j ≤ ((i * P + k : Nat) : Int) * B := by
  unfold ptN
  have h1 : 0 ≤ (sumN i fun n => sumN P fun x => if ((n : Int) + s * ((x : Int) * x)) % (P : Int) = (j : Int) then nth row n else 0) ∧ (sumN i fun n => sumN P fun x => if ((n : Int) + s * ((x : Int) * x)) % (P : Int) = (j : Int) then nth row n else 0) ≤ i * (P * B) := by
    refine sumN_bd fun n hn => sumN_bd fun x _ => ?_
    have := h n (by omega)
    split <;> omega
  have h2 : 0 ≤ (sumN k fun x => if ((i : Int) + s * ((x : Int) * x)) % (P : Int) = (j : Int) then nth row i else 0) ∧ (sumN k fun x => if ((i : Int) + s * ((x : Int) * x)) % (P : Int) = (j : Int) then nth row i else 0) ≤ k * B := by
    refine sumN_bd fun x hx => ?_
    have := h i (by omega)
    split <;> omega
  rw [show ((i * P + k : Nat) : Int) * B = (i : Int) * (P * B) + k * B by rw [Int.natCast_add, Int.natCast_mul, Int.add_mul, Int.mul_assoc]]
  omega

theorem rdC_one9 {w : World} {g : Nat} {x : Int} (h : w.cell? ⟨g, 0, none⟩ = some (.int .i64 x)) : RdC w (some ⟨g, 0, none⟩) 1 [x] :=
  ⟨rfl, fun j hj => by obtain rfl : j = 0 := by omega
                       exact ⟨g, 0, rfl, h⟩⟩
set_option maxHeartbeats 8000000 in
theorem c_CountVectors_ok (P : Nat) (a : Option Addr) (d cap : Nat) (qs : List Int) (c : Nat) (w : World) (hs : spaceB (P : Int) qs = true) (hq : RdC w a d qs) (hc : c < P) :
    Calls Try.prog 37 #[.agg #[.int .i64 (P : Int), .slice a d cap], .int .i64 (c : Int)] w fun e w' => e = .returned (.tuple #[.int .i64 (nth (ctF P ((List.replicate P 0).set 0 1) qs) c), .int .i64 0]) ∧ Ext w w' := by
  obtain ⟨hpr, hd1, hd6, hqb⟩ := space_of hs
  have hpb := prime_bd hpr
  have hP : 3 ≤ P ∧ P ≤ 13 := by omega
  have hdl := hq.1
  have hd : d ≤ 6 := by omega
  have HSB := Lib.hid hs
  have HQ := Lib.hid hq
  have HGQ := Lib.hid (show Good (P : Int) d qs from good_isB hdl hqb)
  have HC1 := Lib.hid (show isB (P : Int) [(c : Int)] = true by simp [isB, inB]; omega)
  clear hpr hd1 hd6 hqb hpb hs hq
  obtain ⟨W, hW⟩ : ∃ W, W = w.alloc (.cells #[.int .i64 (P : Int), .slice a d cap] 26) := ⟨_, rfl⟩
  have gW : Ext w W := by rw [hW]; exact ext_alloc _ _
  have HS0 := Lib.hid (show W.cell? ⟨w.heap.size, 0, none⟩ = some (.int .i64 (P : Int)) by rw [hW]; simp)
  have HS1 := Lib.hid (show W.cell? ⟨w.heap.size, 1, none⟩ = some (.slice a d cap) by rw [hW]; simp)
  have GW := Lib.hid gW
  have HW := Lib.hid hW
  clear gW hW
  go_enter Try.func37, Try.ntmps37
  go_wp2_with (fail)
  rw [← HW.out]
  have hs0 := HS0.out
  have hs1 := HS1.out
  go_wp2_with (fail)
  refine Calls.mono (c_isSpace (P : Int) a d cap qs W (by omega) (HQ.out.ext GW.out)) ?_
  rintro e w1 ⟨rfl, g1⟩
  rw [HSB.out]
  have G1 := Lib.hid g1
  clear hs0 hs1 g1
  have hs0 := G1.out.cell HS0.out
  have hs1 := G1.out.cell HS1.out
  go_wp2_with (fail)
  refine Calls.mono (c_field (P : Int) (.slice a d cap) w1) ?_
  rintro e w2 ⟨rfl, g2⟩
  have G2 := Lib.hid (G1.out.trans g2)
  clear hs0 hs1 g2
  go_wp2_with (fail)
  refine Calls.mono (c_is (P : Int) _ 1 _ [(c : Int)] _ (by omega) (by omega) (by omega) (rdC_one9 (by simp))) ?_
  rintro e w3 ⟨rfl, g3⟩
  rw [HC1.out]
  have G3 := Lib.hid (G2.out.trans ((ext_alloc _ _).trans g3))
  clear g3
  obtain ⟨wm, hmk, hom, hem⟩ := make_ints w3 P (by omega)
  obtain ⟨zm, hzm⟩ : ∃ z, z = w3.heap.size := ⟨_, rfl⟩
  have hb3 : w3.heap.size ≤ zm := by omega
  rw [← hzm] at hmk hom
  have HO0 := Lib.hid hom
  have HE0 := Lib.hid hem
  have hs0 := G3.out.cell HS0.out
  have hs1 := G3.out.cell HS1.out
  have hs0' := hem.cell hs0
  have hs1' := hem.cell hs1
  have hcz := hom.cell (j := 0) (by omega)
  have hfz := hom.frozen 0
  have hne : ¬ w.heap.size = zm := by have := lt_of_cell hs0; dsimp only at this; omega
  have hne' : ¬ zm = w.heap.size := fun h => hne h.symm
  have hP0 : (0 : Int) < (P : Int) := by omega
  clear hzm hom hem
  go_wp2_with (fail)
  clear hs0 hs1 hs0' hs1' hcz hfz
  obtain ⟨e0, he0⟩ : ∃ e, e = (List.replicate P (0 : Int)).set 0 1 := ⟨_, rfl⟩
  obtain ⟨wm1, hwm1⟩ : ∃ x, x = wm.setCell ⟨zm, 0, none⟩ (.int .i64 1) := ⟨_, rfl⟩
  have HOM := Lib.hid (show OwnC W.heap.size wm1 (some ⟨zm, 0, none⟩) P P e0 by rw [hwm1, he0]; exact (HO0.out.store (j := 0) (by omega) 1).mono (Nat.le_trans G3.out.size hb3))
  have HEM := Lib.hid (show Ext W wm1 by rw [hwm1]; exact G3.out.trans (HE0.out.setCell (p := ⟨zm, 0, none⟩) hb3 (.int .i64 1)))
  have HB0 := Lib.hid (show ∀ j, j < P → 0 ≤ nth e0 j ∧ nth e0 j ≤ 1 by
    intro j hj
    rw [he0, nth_set (by simpa using hP0), nth_replicate hj]
    split <;> omega)
  have HEE := Lib.hid he0
  rw [← hwm1]
  clear hwm1 he0 hb3 HO0 HE0 hne hne' hmk
  clear G1 G2 G3
  go_loopw [6, 30] (fun m i wr => ∃ (k g : Nat), k ≤ d ∧ i = .int .i64 k ∧ m = .slice (some ⟨g, 0, none⟩) P P ∧ Hid (OwnC W.heap.size wr (some ⟨g, 0, none⟩) P P (ctF P e0 (qs.take k))) ∧ Hid (∀ j, j < P → 0 ≤ nth (ctF P e0 (qs.take k)) j ∧ nth (ctF P e0 (qs.take k)) j ≤ 169 ^ k) ∧ Hid (Ext W wr)) (fun _ i _ => d - (intOf i).toNat)
  case atStart => exact ⟨0, zm, Nat.zero_le _, rfl, rfl, Lib.hid HOM.out, Lib.hid (fun j hj => by have := HB0.out j hj; simpa [ctF] using this), HEM⟩
  case round =>
    rename World => wr
    clear HOM HEM HB0
    obtain ⟨k, g, hk, rfl, rfl, HO, HB, HE⟩ := hrel
    by_cases hlt : k < d
    · obtain ⟨bq, oq, rfl, hcq⟩ := HQ.out.2 k hlt
      obtain ⟨row, hrow⟩ : ∃ r, r = ctF P e0 (qs.take k) := ⟨_, rfl⟩
      obtain ⟨sq, hsq⟩ : ∃ s, s = nth qs k := ⟨_, rfl⟩
      have hsb : 0 ≤ sq ∧ sq < (P : Int) := by rw [hsq]; exact HGQ.out.2 k hlt
      obtain ⟨B, hBe⟩ : ∃ B : Int, B = 169 ^ k := ⟨_, rfl⟩
      have hBb : 1 ≤ B ∧ B ≤ 137858491849 := by
        rw [hBe]
        have : k = 0 ∨ k = 1 ∨ k = 2 ∨ k = 3 ∨ k = 4 ∨ k = 5 := by omega
        rcases this with rfl | rfl | rfl | rfl | rfl | rfl <;> decide
      have HNX := Lib.hid (show ctF P e0 (qs.take (k + 1)) = ctL P sq row by rw [ctF_take (by omega), ← hsq, ← hrow])
      have HBE := Lib.hid hBe
      rw [← hrow] at HO HB
      rw [← hBe] at HB
      rw [← hsq] at hcq
      have hcq' := (GW.out.trans HE.out).cell hcq
      obtain ⟨wz, hmk, hom, hem⟩ := make_ints wr P (by omega)
      obtain ⟨z, hz⟩ : ∃ z, z = wr.heap.size := ⟨_, rfl⟩
      have hbz : wr.heap.size ≤ z := by omega
      have hgz : g < z := by rw [hz]; exact (HO.out.base_of g rfl).2
      rw [← hz] at hmk hom
      have HOZ := Lib.hid (hom.mono (B' := wr.heap.size) hbz)
      have HEZ := Lib.hid hem
      clear hcq hom hem hz hrow hsq hBe
      have hs0 := HE.out.cell HS0.out
      have hs1 := HE.out.cell HS1.out
      go_wp2_with (fail)
      clear hs0 hs1 hcq' hmk
      go_loopw [39] (fun i wy => ∃ (n : Nat), n ≤ P ∧ i = .int .i64 n ∧ Hid (OwnC wr.heap.size wy (some ⟨z, 0, none⟩) P P (ptL P sq row n 0)) ∧ Hid (Ext wr wy)) (fun i _ => P - (intOf i).toNat)
      case atStart => exact ⟨0, Nat.zero_le _, rfl, Lib.hid (by rw [ptL_start]; exact HOZ.out), HEZ⟩
      case round =>
        rename World => wy
        obtain ⟨n, hn, rfl, HO1, HE1⟩ := hrel
        by_cases hnp : n < P
        · have hmc := (HO.out.ext HE1.out).cell (j := n) hnp
          obtain ⟨r, hr⟩ : ∃ r, r = nth row n := ⟨_, rfl⟩
          have hrb : 0 ≤ r ∧ r ≤ B := by rw [hr]; exact HB.out n hnp
          have HR := Lib.hid hr
          rw [← hr] at hmc
          clear hr
          have hs0 := (HE.out.trans HE1.out).cell HS0.out
          have hs1 := (HE.out.trans HE1.out).cell HS1.out
          have hnp' : (n : Int) < (P : Int) := by omega
          go_wp2_with (fail)
          clear hs0 hs1 hmc
          go_loopw [46] (fun x wx => ∃ (q : Nat), q ≤ P ∧ x = .int .i64 q ∧ Hid (OwnC wr.heap.size wx (some ⟨z, 0, none⟩) P P (ptL P sq row n q)) ∧ Hid (Ext wr wx)) (fun x _ => P - (intOf x).toNat)
          case atStart => exact ⟨0, Nat.zero_le _, rfl, HO1, HE1⟩
          case round =>
            rename World => wx
            clear HO1 HE1
            obtain ⟨q, hq, rfl, HO2, HE2⟩ := hrel
            by_cases hqp : q < P
            · have hqp' : (q : Int) < (P : Int) := by omega
              have hm0 : 0 ≤ (q : Int) * q := Int.mul_nonneg (by omega) (by omega)
              have hm1 : (q : Int) * q ≤ 13 * 13 := Int.mul_le_mul (by omega) (by omega) (by omega) (by omega)
              have hm2 : 0 ≤ (q : Int) * q * sq := Int.mul_nonneg hm0 hsb.1
              have hm3 : (q : Int) * q * sq ≤ 13 * 13 * 13 := Int.mul_le_mul hm1 (by omega) hsb.1 (by omega)
              obtain ⟨m1, hm1e⟩ : ∃ m, m = (q : Int) * q := ⟨_, rfl⟩
              obtain ⟨m2, hm2e⟩ : ∃ m, m = m1 * sq := ⟨_, rfl⟩
              obtain ⟨m3, hm3e⟩ : ∃ m, m = (n : Int) + m2 := ⟨_, rfl⟩
              have hw1 : IntKind.i64.wrap ((q : Int) * q) = m1 := by rw [hm1e]; exact IntWalk.i64_in _ (by omega)
              rw [← hm1e] at hm2 hm3
              have hw2 : IntKind.i64.wrap (m1 * sq) = m2 := by rw [hm2e]; exact IntWalk.i64_in _ (by omega)
              rw [← hm2e] at hm2 hm3
              have hw3 : IntKind.i64.wrap ((n : Int) + m2) = m3 := by rw [hm3e]; exact IntWalk.i64_in _ (by omega)
              obtain ⟨t, ht⟩ : ∃ t : Nat, (t : Int) = m3 % (P : Int) := ⟨(m3 % (P : Int)).toNat, by rw [Int.toNat_of_nonneg (Int.emod_nonneg _ (by omega))]⟩
              have htP : t < P := by have := Int.emod_lt_of_pos m3 hP0; omega
              have HT := Lib.hid (show ((n : Int) + sq * ((q : Int) * q)) % (P : Int) = (t : Int) by rw [ht, hm3e, hm2e, hm1e, Int.mul_comm sq])
              have HTT := Lib.hid ht
              obtain ⟨v, hv⟩ : ∃ v, v = nth (ptL P sq row n q) t := ⟨_, rfl⟩
              have hvb : 0 ≤ v ∧ v ≤ 169 * B := by
                rw [hv, ptL_nth htP]
                have h := ptN_bd (P := P) (s := sq) (row := row) (B := B) (by omega) HB.out (i := n) (k := q) (j := t) (by omega) (.inr hnp)
                have h1 : ((n * P + q : Nat) : Int) ≤ 169 := by
                  have : n * P + q ≤ 12 * 13 + 13 := Nat.add_le_add (Nat.mul_le_mul (by omega) (by omega)) (by omega)
                  omega
                have h2 : ((n * P + q : Nat) : Int) * B ≤ 169 * B := Int.mul_le_mul_of_nonneg_right h1 (by omega)
                omega
              have hw4 : IntKind.i64.wrap (v + r) = v + r := IntWalk.i64_in _ (by omega)
              have HV := Lib.hid hv
              clear hm0 hm1 hm2 hm3 hm1e hm2e hm3e ht hv
              have hs0 := (HE.out.trans HE2.out).cell HS0.out
              have hs1 := (HE.out.trans HE2.out).cell HS1.out
              go_wp2_with (fail)
              refine Calls.mono (c_field (P : Int) (.slice (some ⟨bq, oq, none⟩) d cap) wx) ?_
              rintro e w5 ⟨rfl, g5⟩
              go_wp2_with (fail)
              refine Calls.mono (c_num (P : Int) m3 w5 (by omega) (by omega)) ?_
              rintro e w6 ⟨rfl, g6⟩
              rw [← HTT.out]
              have HO3 := Lib.hid (HO2.out.ext (g5.trans g6))
              have HE3 := Lib.hid (HE2.out.trans (g5.trans g6))
              clear hs0 hs1 g5 g6 hw1 hw2 hw3
              have hcz := HO3.out.cell htP
              rw [← HV.out] at hcz
              have hfz := HO3.out.frozen t
              have htP' : (t : Int) < (P : Int) := by omega
              have ht0 : (0 : Int) ≤ (t : Int) := by omega
              go_wp2_with (fail)
              go_roundw
              case rel =>
                refine ⟨q + 1, by omega, by go_num, ?_, Lib.hid (HE3.out.setCell hbz _)⟩
                refine Lib.hid ?_
                rw [← ptL_step htP HT.out, ← HV.out, ← HR.out]
                exact HO3.out.store htP _
              case measure => simp [intOf]; omega
            · obtain rfl : q = P := by omega
              go_wp2_with (fail)
              go_roundw
              case rel => exact ⟨n + 1, by omega, by go_num, Lib.hid (by rw [← ptL_row]; exact HO2.out), HE2⟩
              case measure => simp [intOf]; omega
        · obtain rfl : n = P := by omega
          go_wp2_with (fail)
          go_roundw
          case rel =>
            refine ⟨k + 1, z, by omega, by go_num, rfl, ?_, ?_, Lib.hid (HE.out.trans HE1.out)⟩
            · exact Lib.hid (by rw [HNX.out, ← ptL_end]; exact HO1.out.mono HE.out.size)
            · refine Lib.hid fun j hj => ?_
              rw [HNX.out, ← ptL_end, ptL_nth hj]
              have h := ptN_bd (P := n) (s := sq) (row := row) (B := B) (by omega) HB.out (i := n) (k := 0) (j := j) (Nat.le_refl _) (.inl rfl)
              have h1 : ((n * n + 0 : Nat) : Int) ≤ 169 := by
                have : n * n ≤ 13 * 13 := Nat.mul_le_mul (by omega) (by omega)
                omega
              have h2 : ((n * n + 0 : Nat) : Int) * B ≤ 169 * B := Int.mul_le_mul_of_nonneg_right h1 (by omega)
              have h3 : (169 : Int) ^ (k + 1) = 169 * B := by rw [HBE.out, Int.pow_succ, Int.mul_comm]
              omega
          case measure => simp [intOf]; omega
    · obtain rfl : k = d := by omega
      have hcz := HO.out.cell hc
      have HTK := Lib.hid (show ctF P e0 (qs.take k) = ctF P ((List.replicate P 0).set 0 1) qs by rw [HEE.out, List.take_of_length_le (by omega)])
      rw [HTK.out] at hcz
      have hcP : (c : Int) < (P : Int) := by omega
      go_wp2_with (fail)
      go_ret2
      exact ⟨rfl, GW.out.trans HE.out⟩
end Go.Proofs.Ytcocbainookkcaa

/-
  checkNorm.
  No condition.
-/
namespace Go.Proofs.Ytcocbainookkcaa
set_option maxRecDepth 100000
open Go.RowKit

set_option maxHeartbeats 4000000 in
set_option maxRecDepth 100000 in
theorem c_checkNorm_ok (p : Int) (a : Option Addr) (d cap : Nat) (st : List Int) (c : Int) (w : World) (hs : doubB p st = true) (hq : RdC w a d st) (hc0 : 0 ≤ c) (hc1 : c < p) :
    Calls Try.prog 91 #[.agg #[.int .i64 p, .slice a d cap], .int .i64 c] w fun e w' => e = .returned (.int .i64 0) ∧ Ext w w' := by
  obtain ⟨hpr, hd4, _, _⟩ := doub_of hs
  have hpb := prime_bd hpr
  rw [hq.1] at hd4
  have HSB := Lib.hid hs
  have HCB := Lib.hid (show isB p [c] = true by simp [isB, inB]; omega)
  clear hpr hs
  obtain ⟨W, hW⟩ : ∃ W, W = w.alloc (.cells #[.int .i64 p, .slice a d cap] 52) := ⟨_, rfl⟩
  have E : Hid (Ext w W) := Lib.hid (by rw [hW]; exact ext_alloc _ _)
  have C0 : Hid (W.cell? ⟨w.heap.size, 0, none⟩ = some (.int .i64 p)) := Lib.hid (by rw [hW]; simp)
  have C1 : Hid (W.cell? ⟨w.heap.size, 1, none⟩ = some (.slice a d cap)) := Lib.hid (by rw [hW]; simp)
  have HZ : Hid (W.heap.size = w.heap.size + 1) := Lib.hid (by rw [hW]; simp)
  have HW := Lib.hid hW
  clear hW
  have HQ := Lib.hid (hq.ext E.out)
  clear hq
  go_enter Try.func91, Try.ntmps91
  have x00 := C0.out
  have x01 := C1.out
  go_wp2_with (fail)
  clear x00 x01
  rw [← HW.out]
  clear HW
  refine Calls.mono (c_isDoubling p a d cap st W (by omega) HQ.out) ?_
  rintro e v1 ⟨rfl, gg⟩
  rw [HSB.out]
  replace E := Lib.hid (E.out.trans gg)
  replace HQ := Lib.hid (HQ.out.ext gg)
  replace C0 := Lib.hid (gg.cell (p := ⟨w.heap.size, 0, none⟩) C0.out)
  replace C1 := Lib.hid (gg.cell (p := ⟨w.heap.size, 1, none⟩) C1.out)
  clear gg
  have x00 := C0.out
  have x01 := C1.out
  go_wp2_with (fail)
  clear x00 x01
  refine Calls.mono (c_dfield p (.slice a d cap) v1) ?_
  rintro e v2 ⟨rfl, gg⟩
  replace E := Lib.hid (E.out.trans gg)
  replace HQ := Lib.hid (HQ.out.ext gg)
  replace C0 := Lib.hid (gg.cell (p := ⟨w.heap.size, 0, none⟩) C0.out)
  replace C1 := Lib.hid (gg.cell (p := ⟨w.heap.size, 1, none⟩) C1.out)
  clear gg
  have x00 := C0.out
  have x01 := C1.out
  go_wp2_with (fail)
  clear x00 x01
  refine Calls.mono (c_is p _ 1 _ [c] _ (by omega) (by omega) (by omega) (rdC_one9 (by simp))) ?_
  rintro e v3 ⟨rfl, gg⟩
  rw [HCB.out]
  replace gg := (ext_alloc _ _).trans gg
  replace E := Lib.hid (E.out.trans gg)
  replace HQ := Lib.hid (HQ.out.ext gg)
  replace C0 := Lib.hid (gg.cell (p := ⟨w.heap.size, 0, none⟩) C0.out)
  replace C1 := Lib.hid (gg.cell (p := ⟨w.heap.size, 1, none⟩) C1.out)
  clear gg
  go_wp2_with (fail)
  go_ret
  exact ⟨rfl, E.out⟩
end Go.Proofs.Ytcocbainookkcaa
