/-
  append of a row to rows that may be the empty ones made at the start.
  No condition.
-/
import Derived.Test.YtlchmkaaogokiaaRows2
namespace Go.Proofs.Ytlchmkaaogokiaa
set_option maxRecDepth 100000
open Go.RowKit

/-- Rows of the call's own, as a value. -/
def SPred.ownR (B n : Nat) (rows : List (List Int)) : SPred := ⟨fun v w => ∃ g cap, v = .slice (some ⟨g, 0, none⟩) n cap ∧ OwnR B w (some ⟨g, 0, none⟩) n cap rows, fun _ _ _ ⟨g, cap, hv, h⟩ he => ⟨g, cap, hv, h.ext he⟩⟩
/-- Rows of the call's own from block B on, or the empty rows that were made at the start. -/
def OwnW (B : Nat) (w : World) (a : Option Addr) (n cap : Nat) (rows : List (List Int)) : Prop :=
  (n = 0 ∧ cap = 0 ∧ rows = [] ∧ ∃ g, a = some ⟨g, 0, none⟩) ∨ OwnR B w a n cap rows
theorem OwnW.start (B g : Nat) (w : World) : OwnW B w (some ⟨g, 0, none⟩) 0 0 [] := .inl ⟨rfl, rfl, rfl, g, rfl⟩
theorem OwnW.strong {B : Nat} {w : World} {a : Option Addr} {n cap : Nat} {rows : List (List Int)} (h : OwnW B w a n cap rows) (hn : 0 < n) : OwnR B w a n cap rows := by
  rcases h with ⟨h, _⟩ | h
  · omega
  · exact h
theorem OwnW.rd {B : Nat} {w : World} {a : Option Addr} {n cap : Nat} {rows : List (List Int)} (h : OwnW B w a n cap rows) : RdR w a n rows := by
  rcases h with ⟨rfl, _, rfl, _⟩ | h
  · exact ⟨rfl, fun i hi => by omega⟩
  · exact h.rd
theorem OwnW.len {B : Nat} {w : World} {a : Option Addr} {n cap : Nat} {rows : List (List Int)} (h : OwnW B w a n cap rows) : rows.length = n := by
  rcases h with ⟨rfl, _, rfl, _⟩ | h
  · rfl
  · exact h.1
/-- The rows of a call that began in a world whose blocks are all below. -/
theorem OwnW.own {B B' : Nat} {w : World} {a : Option Addr} {n cap : Nat} {rows : List (List Int)} (h : OwnW B w a n cap rows) (hb : B' ≤ B) (h0 : OwnR B' w a 0 0 [] ∨ 0 < n) : OwnR B' w a n cap rows := by
  rcases h with ⟨rfl, rfl, rfl, _⟩ | h
  · rcases h0 with h0 | h0
    · exact h0
    · omega
  · exact h.mono hb

theorem append_empty (w : World) (b : Addr) (t : Addr) (v : Value) (c : Nat) (ty : TypeId) (hc : w.cell? (t.add 0) = some v) :
    (Builtin.append_ #[49, 49] ty #[.slice (some b) 0 0, .slice (some t) 1 c]).run Try.prog w =
    (Builtin.append_ #[49, 49] ty #[.slice none 0 0, .slice (some t) 1 c]).run Try.prog w := by
  obtain ⟨i0, hi, hz0, hz1, hz2⟩ := info_parts Try.infoR
  have hn : ∀ j u, [v][j]? = some u → w.cell? (t.add j) = some u := fun j u hj => by
    cases j with
    | zero => simp only [List.getElem?_cons_zero, Option.some.injEq] at hj; subst hj; exact hc
    | succ j => simp at hj
  have e : Builtin.nextslicecap (0 + 1) 0 * i0.bytes ≤ 281474976710656 := by
    rw [hz2]; decide
  rw [run_append_grow (P := Try.prog) w 49 ty 22 i0 (.slice none 0 0) Try.underlying49 hi hz0 b 0 0 [] (by simp) (fun j u hj => by simp at hj) t 1 c [v] (by simp [hz1]) hn (by omega) (by omega) e,
    run_append_nil (P := Try.prog) w 49 ty 22 i0 (.slice none 0 0) Try.underlying49 hi hz0 t 1 c [v] (by simp [hz1]) hn (by omega) (by omega) (by rw [hz2]; omega)]
  simp

theorem run_pushRW {B : Nat} {w0 w : World} {ra : Option Addr} {n cap : Nat} {rows : List (List Int)} {b : Option Addr} {m c : Nat} {xs : List Int} {g : Nat} (hown : OwnW B w0 ra n cap rows) (he : Ext w0 w) (hc : w.cell? ⟨g, 0, none⟩ = some (.slice b m c)) (hx : OwnC w0.heap.size w b m c xs) (hn : n ≤ 4194304) (hB : B ≤ w0.heap.size) (ty : TypeId) :
    ∃ g' cap' w', (Builtin.append_ #[49, 49] ty #[.slice ra n cap, .slice (some ⟨g, 0, none⟩) 1 1]).run Try.prog w = .ok (.slice (some ⟨g', 0, none⟩) (n + 1) cap') w' ∧
      OwnR B w' (some ⟨g', 0, none⟩) (n + 1) cap' (rows ++ [xs]) ∧ (∀ W : World, W.heap.size ≤ B → Ext W w → Ext W w') := by
  rcases hown with ⟨rfl, rfl, rfl, g0, rfl⟩ | hown
  · obtain ⟨g', cap', w', h1, h2, _, h4⟩ := run_pushR (OwnR.nil B w0) he hc hx hn hB ty
    exact ⟨g', cap', w', by rw [append_empty w _ _ (.slice b m c) 1 ty (by simpa [Addr.add] using hc)]; exact h1, h2, h4⟩
  · obtain ⟨g', cap', w', h1, h2, _, h4⟩ := run_pushR hown he hc hx hn hB ty
    exact ⟨g', cap', w', h1, h2, h4⟩

theorem wpList_pushRW {ops : Array Oper} {rest : List Oper} {o : Oper} {a : Act} {Q : Exit → Act → World → Prop} {w0 w : World} (hgd : o.guard = none) (s x : Operand)
    (ho : o.op = .call { callee := .builtin .append, args := #[s, x], argTypes := #[49, 49] })
    {B : Nat} {ra : Option Addr} {n cap : Nat} {rows : List (List Int)} {b : Option Addr} {m c : Nat} {xs : List Int} {g : Nat} (hs : a.eval s = .slice ra n cap) (hx : a.eval x = .slice (some ⟨g, 0, none⟩) 1 1)
    (hown : OwnW B w0 ra n cap rows) (he : Ext w0 w) (hxs : OwnC w0.heap.size w b m c xs) (hc : w.cell? ⟨g, 0, none⟩ = some (.slice b m c)) (hn : n ≤ 4194304) (hB : B ≤ w0.heap.size)
    (h : ∀ g' cap' w', OwnR B w' (some ⟨g', 0, none⟩) (n + 1) cap' (rows ++ [xs]) → (∀ W : World, W.heap.size ≤ B → Ext W w → Ext W w') →
      wpList Try.prog ops Q rest (a.put o.dst (.slice (some ⟨g', 0, none⟩) (n + 1) cap')) w') : wpList Try.prog ops Q (o :: rest) a w := by
  refine wpList_plain hgd fun K hK => ?_
  obtain ⟨g', cap', w', hr, h1, h3⟩ := run_pushRW hown he hc hxs hn hB o.type
  unfold Oper.wp execOp
  simp only [ho, resolve, invoke, builtin, Sem.run_bind, Sem.run_pure, Result.andThen_ok, List.map_toArray, List.map_cons, List.map_nil, hs, hx, hr]
  exact hK _ _ (h g' cap' w' h1 h3)

end Go.Proofs.Ytlchmkaaogokiaa
