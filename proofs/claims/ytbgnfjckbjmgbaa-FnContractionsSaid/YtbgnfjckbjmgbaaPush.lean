/-
  append of one number to a row of the call's own.
  No condition.
-/
import Derived.Test.YtbgnfjckbjmgbaaMem
import Derived.OwnWalk
namespace Go.Proofs.Ytbgnfjckbjmgbaa
set_option maxRecDepth 100000
open Go.RowKit

theorem OwnC.form {B : Nat} {w : World} {v : Value} {n : Nat} {xs : List Int} (h : w.ownsRow B 2 1 v n (xs.map (.int .i64))) (hn : 0 < n) : ∃ g cap, v = .slice (some ⟨g, 0, none⟩) n cap := by
  rcases h.2 with ⟨_, h3⟩ | ⟨g, c, cur, hv, _⟩
  · omega
  · exact ⟨g, c, hv⟩
theorem OwnC.blk {B : Nat} {w : World} {a : Option Addr} {n cap : Nat} {xs : List Int} (h : OwnC B w a n cap xs) : ∀ k, (Value.slice a n cap).ownBlock = some k → B ≤ k := by
  intro k hk
  rcases h.2.2 with ⟨h3, _⟩ | ⟨g, c, cur, hv, hb, _⟩
  · rw [h3] at hk; simp [Value.ownBlock] at hk
  · rw [hv] at hk; simp only [Value.ownBlock, Option.some.injEq] at hk; omega

theorem run_push {B : Nat} {w : World} {ra : Option Addr} {n cap : Nat} {xs : List Int} {v : Int} {g : Nat} (hown : OwnC B w ra n cap xs) (hc : w.cell? ⟨g, 0, none⟩ = some (.int .i64 v)) (hn : n ≤ 4194304) (hB : B ≤ w.heap.size) (ty : TypeId) :
    ∃ g' cap' w', (Builtin.append_ #[24, 24] ty #[.slice ra n cap, .slice (some ⟨g, 0, none⟩) 1 1]).run Try.prog w = .ok (.slice (some ⟨g', 0, none⟩) (n + 1) cap') w' ∧
      OwnC B w' (some ⟨g', 0, none⟩) (n + 1) cap' (xs ++ [v]) ∧ w.grownBy w' (Value.slice ra n cap).ownBlock ∧ (∀ W : World, W.heap.size ≤ B → Ext W w → Ext W w') := by
  obtain ⟨i0, hi, hz0, hz1, hz2⟩ := info_parts Try.infoI
  obtain ⟨v', w', hr, h2, h3, _⟩ := run_append_own (P := Try.prog) w B 24 ty 2 i0 (.int .i64 0) 1 8 Try.underlying24 hi hz0 hz1 hz2 rfl (by decide) (.slice ra n cap) n (xs.map (.int .i64)) hown.2
    ⟨g, 0, none⟩ 1 1 [.int .i64 v] rfl (fun j u hj => by
      cases j with
      | zero => simp only [List.getElem?_cons_zero, Option.some.injEq] at hj; subst hj; simpa [Addr.add] using hc
      | succ j => simp at hj) (fun u hu => by simp only [List.mem_singleton] at hu; subst hu; rfl) (by unfold maxLen; omega) (by omega) hB
  have h2' : w'.ownsRow B 2 1 v' (n + 1) ((xs ++ [v]).map (.int .i64)) := by rw [List.map_append]; exact h2
  obtain ⟨g', cap', rfl⟩ := OwnC.form h2' (by omega)
  exact ⟨g', cap', w', hr, ⟨by simp [hown.1], h2'⟩, h3, fun W hW hE => hE.grown h3 fun k hk => Nat.le_trans hW (hown.blk k hk)⟩

theorem wpList_push {ops : Array Oper} {rest : List Oper} {o : Oper} {a : Act} {Q : Exit → Act → World → Prop} {w : World} (hgd : o.guard = none) (s x : Operand)
    (ho : o.op = .call { callee := .builtin .append, args := #[s, x], argTypes := #[24, 24] })
    {B : Nat} {ra : Option Addr} {n cap : Nat} {xs : List Int} {v : Int} {g : Nat} (hs : a.eval s = .slice ra n cap) (hx : a.eval x = .slice (some ⟨g, 0, none⟩) 1 1)
    (hown : OwnC B w ra n cap xs) (hc : w.cell? ⟨g, 0, none⟩ = some (.int .i64 v)) (hn : n ≤ 4194304) (hB : B ≤ w.heap.size)
    (h : ∀ g' cap' w', OwnC B w' (some ⟨g', 0, none⟩) (n + 1) cap' (xs ++ [v]) → w.grownBy w' (Value.slice ra n cap).ownBlock → (∀ W : World, W.heap.size ≤ B → Ext W w → Ext W w') →
      wpList Try.prog ops Q rest (a.put o.dst (.slice (some ⟨g', 0, none⟩) (n + 1) cap')) w') : wpList Try.prog ops Q (o :: rest) a w := by
  refine wpList_plain hgd fun K hK => ?_
  obtain ⟨g', cap', w', hr, h1, h2, h3⟩ := run_push hown hc hn hB o.type
  unfold Oper.wp execOp
  simp only [ho, resolve, invoke, builtin, Sem.run_bind, Sem.run_pure, Result.andThen_ok, List.map_toArray, List.map_cons, List.map_nil, hs, hx, hr]
  exact hK _ _ (h g' cap' w' h1 h2 h3)


/-- append of a whole slice. -/
theorem run_appendAll {B : Nat} {w : World} {ra : Option Addr} {n cap : Nat} {xs : List Int} {b off m c : Nat} {ys : List Int} (hown : OwnC B w ra n cap xs) (hy : RdC w (some ⟨b, off, none⟩) m ys) (hm : 0 < m) (hn : n ≤ 4194304) (hml : m ≤ 4194304) (hB : B ≤ w.heap.size) (ty : TypeId) :
    ∃ g' cap' w', (Builtin.append_ #[24, 24] ty #[.slice ra n cap, .slice (some ⟨b, off, none⟩) m c]).run Try.prog w = .ok (.slice (some ⟨g', 0, none⟩) (n + m) cap') w' ∧
      OwnC B w' (some ⟨g', 0, none⟩) (n + m) cap' (xs ++ ys) ∧ w.grownBy w' (Value.slice ra n cap).ownBlock ∧ (∀ W : World, W.heap.size ≤ B → Ext W w → Ext W w') := by
  obtain ⟨i0, hi, hz0, hz1, hz2⟩ := info_parts Try.infoI
  obtain ⟨v', w', hr, h2, h3, _⟩ := run_append_own (P := Try.prog) w B 24 ty 2 i0 (.int .i64 0) 1 8 Try.underlying24 hi hz0 hz1 hz2 rfl (by decide) (.slice ra n cap) n (xs.map (.int .i64)) hown.2
    ⟨b, off, none⟩ m c (ys.map (.int .i64)) (by simp [hy.1]) (fun j u hj => by
      have hjl : j < m := by
        rcases Nat.lt_or_ge j m with h | h
        · exact h
        · rw [List.getElem?_eq_none (by simp [hy.1]; exact h)] at hj; cases hj
      obtain ⟨b', o', hab, hc⟩ := hy.2 j hjl
      cases hab
      have hu : u = .int .i64 (nth ys j) := by
        rw [List.getElem?_map, List.getElem?_eq_getElem (by rw [hy.1]; exact hjl)] at hj
        simp only [Option.map_some, Option.some.injEq] at hj
        rw [← hj, nth_eq]
      rw [hu]; by_cases hj0 : j = 0
      · subst hj0; simpa [Addr.add] using hc
      · simpa [Addr.add, hj0] using hc) (fun u hu => by
        obtain ⟨v, _, rfl⟩ := List.mem_map.1 hu; rfl) (by unfold maxLen; omega) (by omega) hB
  have h2' : w'.ownsRow B 2 1 v' (n + m) ((xs ++ ys).map (.int .i64)) := by rw [List.map_append]; exact h2
  obtain ⟨g', cap', rfl⟩ := OwnC.form h2' (by omega)
  exact ⟨g', cap', w', hr, ⟨by simp [hown.1, hy.1], h2'⟩, h3, fun W hW hE => hE.grown h3 fun k hk => Nat.le_trans hW (hown.blk k hk)⟩

theorem wpList_appendAll {ops : Array Oper} {rest : List Oper} {o : Oper} {a : Act} {Q : Exit → Act → World → Prop} {w : World} (hgd : o.guard = none) (s x : Operand)
    (ho : o.op = .call { callee := .builtin .append, args := #[s, x], argTypes := #[24, 24] })
    {B : Nat} {ra : Option Addr} {n cap : Nat} {xs : List Int} {b off m c : Nat} {ys : List Int} (hs : a.eval s = .slice ra n cap) (hx : a.eval x = .slice (some ⟨b, off, none⟩) m c)
    (hown : OwnC B w ra n cap xs) (hy : RdC w (some ⟨b, off, none⟩) m ys) (hm : 0 < m) (hn : n ≤ 4194304) (hml : m ≤ 4194304) (hB : B ≤ w.heap.size)
    (h : ∀ g' cap' w', OwnC B w' (some ⟨g', 0, none⟩) (n + m) cap' (xs ++ ys) → w.grownBy w' (Value.slice ra n cap).ownBlock → (∀ W : World, W.heap.size ≤ B → Ext W w → Ext W w') →
      wpList Try.prog ops Q rest (a.put o.dst (.slice (some ⟨g', 0, none⟩) (n + m) cap')) w') : wpList Try.prog ops Q (o :: rest) a w := by
  refine wpList_plain hgd fun K hK => ?_
  obtain ⟨g', cap', w', hr, h1, h2, h3⟩ := run_appendAll hown hy hm hn hml hB o.type (c := c)
  unfold Oper.wp execOp
  simp only [ho, resolve, invoke, builtin, Sem.run_bind, Sem.run_pure, Result.andThen_ok, List.map_toArray, List.map_cons, List.map_nil, hs, hx, hr]
  exact hK _ _ (h g' cap' w' h1 h2 h3)

/-- A new empty row. -/
theorem own_empty (w : World) : OwnC w.heap.size (w.alloc (.cells #[] 2)) (some ⟨w.heap.size, 0, none⟩) 0 0 [] := by
  refine ⟨rfl, ⟨rfl, .inr ⟨w.heap.size, 0, #[], rfl, Nat.le_refl _, heap_alloc_new w _, Nat.le_refl _, by unfold maxLen; omega, by simp, by simp⟩⟩⟩

end Go.Proofs.Ytbgnfjckbjmgbaa
