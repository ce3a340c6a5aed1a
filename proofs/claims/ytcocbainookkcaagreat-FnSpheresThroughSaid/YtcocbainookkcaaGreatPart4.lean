/-
  Contracts and plain laws, part 4: FloatN, Rows3, Shift, LawA, LawR, Law5, Top5, StabE, Src.
  No condition.
-/
import Derived.Test.YtcocbainookkcaaGreatPart0
import Derived.Test.YtcocbainookkcaaGreatPart2
import Derived.Test.YtcocbainookkcaaGreatPart3
import Derived.Test.YtcocbainookkcaaGreatPart1
import Derived.Laws.Bits64b
/-
  A region of which some operations may be carried out at any time while an invariant of the worlds holds: they are carried out first; all others go one after another and may write.
  No condition. General over every program.
-/
namespace Go.Proofs.YtcocbainookkcaaGreat
set_option maxRecDepth 100000
open Go.RowKit

def Region.floatsB (md : Region.Mode) (ops : Array Oper) : List Nat → Array Bool → Bool
  | [], _ => true
  | i :: l, listed => (Region.ready md ops listed).contains i && Region.free md ops listed i && Region.floatsB md ops l (listed.setIfInBounds i true)
def Region.marked : List Nat → Array Bool → Array Bool
  | [], listed => listed
  | i :: l, listed => Region.marked l (listed.setIfInBounds i true)
def Region.seqL (md : Region.Mode) (ops : Array Oper) : List Nat → Array Bool → Bool
  | [], listed => decide (Region.ready md ops listed = [])
  | i :: l, listed => decide (Region.ready md ops listed = [i]) && Region.seqL md ops l (listed.setIfInBounds i true)
def Region.floatN (ops : Array Oper) (fl rest : List Nat) : Bool :=
  Region.noSelect ops && Region.floatsB .any ops fl (Array.replicate ops.size false) && Region.seqL .any ops rest (Region.marked fl (Array.replicate ops.size false)) && decide (fl.length + rest.length = ops.size)

section
variable {P : Program} {ops : Array Oper} {md : Region.Mode} {Q : Exit → Act → World → Prop} {I : World → Prop}

variable (P ops I) in
/-- The floating operations yield these values, one after another, wherever the invariant holds. -/
def FloatW : List (Nat × Value) → Act → (Act → Prop) → Prop
  | [], a, K => K a
  | (i, v) :: l, a, K => ∃ o, ops[i]? = some o ∧ YieldsI P ops I o v a ∧ FloatW l (a.put o.dst v) K
theorem FloatW.cons {i : Nat} {v : Value} {l : List (Nat × Value)} {a : Act} {K : Act → Prop} {o : Oper} (t : Option Tmp) (ho : ops[i]? = some o) (ht : o.dst = t) (hw : Region.wanted o (yielded ops a.tmps) = true) (hy : ∀ w, I w → (execOp a.eval o).run P w = .ok (.value v) w) (h : FloatW P ops I l (a.put t v) K) : FloatW P ops I ((i, v) :: l) a K := ⟨o, ho, ⟨hw, hy⟩, by rw [ht]; exact h⟩

variable (P ops Q I) in
/-- These operations one after another. -/
def wpSeqI : List Nat → Act → World → Prop
  | [], a, w => I w ∧ Q .normal a w
  | i :: l, a, w => I w ∧ ∃ o, ops[i]? = some o ∧ Region.wanted o (yielded ops a.tmps) = true ∧ o.wp P a w (wpSeqI l) Q
theorem wpSeqI.value {i : Nat} {o : Oper} {l : List Nat} {a : Act} {w w' : World} {v : Value} (t : Option Tmp) (hI : I w) (ho : ops[i]? = some o) (ht : o.dst = t) (hw : Region.wanted o (yielded ops a.tmps) = true) (hr : (execOp a.eval o).run P w = .ok (.value v) w') (h : wpSeqI P ops Q I l (a.put t v) w') : wpSeqI P ops Q I (i :: l) a w :=
  ⟨hI, o, ho, hw, by unfold Oper.wp; rw [hr]; subst ht; exact h⟩
theorem wpSeqI.skip {i : Nat} {o : Oper} {l : List Nat} {a : Act} {w w' : World} (hI : I w) (ho : ops[i]? = some o) (hw : Region.wanted o (yielded ops a.tmps) = true) (hr : (execOp a.eval o).run P w = .ok .skip w') (h : wpSeqI P ops Q I l (a.put o.dst undef) w') : wpSeqI P ops Q I (i :: l) a w :=
  ⟨hI, o, ho, hw, by unfold Oper.wp; rw [hr]; exact h⟩
theorem wpSeqI.call {i f : Nat} {args : Array Value} {o : Oper} {l : List Nat} {a : Act} {w : World} {R : Value → World → Prop} (t : Option Tmp) (hI : I w) (ho : ops[i]? = some o) (ht : o.dst = t) (hw : Region.wanted o (yielded ops a.tmps) = true) (hr : (execOp a.eval o).run P w = .ok (.enter f args) w)
    (hc : Calls P f args w fun e w' => ∃ v, e = .returned v ∧ R v w') (h : ∀ v w', R v w' → wpSeqI P ops Q I l (a.put t v) w') : wpSeqI P ops Q I (i :: l) a w :=
  ⟨hI, o, ho, hw, wp_of_wpS (R := R) (by unfold wpS; rw [hr]; exact hc) (by subst ht; exact h)⟩

theorem wpAnyI_of_seqL : ∀ (l : List Nat) (listed : Array Bool) (a : Act) (w : World), Region.seqL md ops l listed = true → wpSeqI P ops Q I l a w → wpAnyI P ops md Q I l.length listed a w
  | [], _, _, _, hB, h => ⟨h.1, by simpa [Region.seqL] using hB, h.2⟩
  | i :: l, listed, a, w, hB, h => by
    obtain ⟨hI, o, ho, hw, h⟩ := h
    simp only [Region.seqL, Bool.and_eq_true, decide_eq_true_eq] at hB
    refine ⟨hI, fun h1 => (by rw [hB.1] at h1; cases h1), fun j hj => ?_⟩
    rw [hB.1] at hj
    have hik : j = i := by simpa using hj
    subst hik
    have hw' : wpOp P ops Q j (wpSeqI P ops Q I l) a w := by unfold wpOp; simp only [ho, hw, if_true]; exact .inl h
    exact wpOp_mono (fun a' w' h' => wpAnyI_of_seqL l _ a' w' hB.2 h') hw'

theorem wpAnyI_floats (hsel : Region.noSelect ops = true) (hQ : ∀ c a w, ¬ Q (.panic c) a w) {w : World} : ∀ (fl : List (Nat × Value)) (f : Nat) (listed : Array Bool) (a : Act) {K : Act → Prop}, Region.floatsB md ops (fl.map (·.1)) listed = true → FloatW P ops I fl a K →
    (∀ a', K a' → wpAnyI P ops md Q I f (Region.marked (fl.map (·.1)) listed) a' w) → wpAnyI P ops md Q I (f + fl.length) listed a w
  | [], _, _, _, _, _, h, hk => hk _ h
  | (i, v) :: fl, f, listed, a, K, hB, h, hk => by
    obtain ⟨o, ho, hy, h⟩ := h
    simp only [List.map_cons, Region.floatsB, Bool.and_eq_true] at hB
    have T := wpAnyI_floats hsel hQ fl f (listed.setIfInBounds i true) _ hB.2 h hk
    have T1 := wpAnyI_first (md := md) (Q := Q) (I := I) ho (Region.noSelect_spec hsel) (fun c a w hq => absurd hq (hQ _ _ _)) _ listed a w (Region.free_spec ho hB.1.2) (by simpa using hB.1.1) hy T
    simpa [Nat.add_assoc] using T1
end

/-- The operations fl float (they yield their values wherever the invariant holds); the operations rest go one after another. -/
theorem wp_region_floatN {P : Program} {id : Nat} {Q : Exit → Act → World → Prop} {a : Act} {w : World} {ops : Array Oper} (fl : List (Nat × Value)) (rest : List Nat) (I : World → Prop) (hm : P.follows .mixedOrders = true)
    (hB : Region.floatN ops (fl.map (·.1)) rest = true) (h : FloatW P ops I fl a fun a' => wpSeqI P ops (strictQ Q) I rest a' w.drew) : (Code.region id ops true).wp P Q a w := by
  simp only [Region.floatN, Bool.and_eq_true, decide_eq_true_eq] at hB
  obtain ⟨⟨⟨hsel, hf⟩, hs⟩, hl⟩ := hB
  refine wp_region_any hm ?_
  have T := wpAnyI_floats (md := .any) (Q := strictQ Q) (w := w.drew) hsel (fun c a w hq => absurd hq.1 (by simp)) fl rest.length (Array.replicate ops.size false) a hf h (fun a' h' => wpAnyI_of_seqL rest _ a' w.drew hs h')
  rw [show rest.length + fl.length = ops.size by simpa [Nat.add_comm] using hl] at T
  exact wpAny_strict _ _ _ _ (wpAnyI.plain _ _ _ _ T)

def Region.seqP (md : Region.Mode) (ops : Array Oper) (i j : Nat) (rest : List Nat) (listed : Array Bool) : Bool :=
  decide (Region.ready md ops listed = [i, j]) && Region.seqL md ops (j :: rest) (listed.setIfInBounds i true) && Region.seqL md ops (i :: rest) (listed.setIfInBounds j true)
def Region.floatP (ops : Array Oper) (fl : List Nat) (i j : Nat) (rest : List Nat) : Bool :=
  Region.noSelect ops && Region.floatsB .any ops fl (Array.replicate ops.size false) && Region.seqP .any ops i j rest (Region.marked fl (Array.replicate ops.size false)) && decide (fl.length + (rest.length + 2) = ops.size)

section
variable {P : Program} {ops : Array Oper} {md : Region.Mode} {Q : Exit → Act → World → Prop} {I : World → Prop}
theorem wpAnyI_of_seqP {i j : Nat} {rest : List Nat} {listed : Array Bool} {a : Act} {w : World} (hB : Region.seqP md ops i j rest listed = true) (h1 : wpSeqI P ops Q I (i :: j :: rest) a w) (h2 : wpSeqI P ops Q I (j :: i :: rest) a w) : wpAnyI P ops md Q I (rest.length + 2) listed a w := by
  simp only [Region.seqP, Bool.and_eq_true, decide_eq_true_eq] at hB
  obtain ⟨⟨hr, hB1⟩, hB2⟩ := hB
  obtain ⟨hI, o1, ho1, hw1, h1⟩ := h1
  obtain ⟨_, o2, ho2, hw2, h2⟩ := h2
  refine ⟨hI, fun h1 => (by rw [hr] at h1; cases h1), fun k hk => ?_⟩
  rw [hr] at hk
  simp only [List.mem_cons, List.not_mem_nil, or_false] at hk
  rcases hk with rfl | rfl
  · have hw' : wpOp P ops Q k (wpSeqI P ops Q I (j :: rest)) a w := by unfold wpOp; simp only [ho1, hw1, if_true]; exact .inl h1
    exact wpOp_mono (fun a' w' h' => wpAnyI_of_seqL (j :: rest) _ a' w' hB1 h') hw'
  · have hw' : wpOp P ops Q k (wpSeqI P ops Q I (i :: rest)) a w := by unfold wpOp; simp only [ho2, hw2, if_true]; exact .inl h2
    exact wpOp_mono (fun a' w' h' => wpAnyI_of_seqL (i :: rest) _ a' w' hB2 h') hw'
end

/-- The operations fl float; i and j come in either order, then the operations rest one after another. -/
theorem wp_region_floatP {P : Program} {id : Nat} {Q : Exit → Act → World → Prop} {a : Act} {w : World} {ops : Array Oper} (fl : List (Nat × Value)) (i j : Nat) (rest : List Nat) (I : World → Prop) (hm : P.follows .mixedOrders = true)
    (hB : Region.floatP ops (fl.map (·.1)) i j rest = true) (h : FloatW P ops I fl a fun a' => wpSeqI P ops (strictQ Q) I (i :: j :: rest) a' w.drew ∧ wpSeqI P ops (strictQ Q) I (j :: i :: rest) a' w.drew) : (Code.region id ops true).wp P Q a w := by
  simp only [Region.floatP, Bool.and_eq_true, decide_eq_true_eq] at hB
  obtain ⟨⟨⟨hsel, hf⟩, hs⟩, hl⟩ := hB
  refine wp_region_any hm ?_
  have T := wpAnyI_floats (md := .any) (Q := strictQ Q) (w := w.drew) hsel (fun c a w hq => absurd hq.1 (by simp)) fl (rest.length + 2) (Array.replicate ops.size false) a hf h (fun a' h' => wpAnyI_of_seqP hs h'.1 h'.2)
  rw [show rest.length + 2 + fl.length = ops.size by simpa [Nat.add_comm] using hl] at T
  exact wpAny_strict _ _ _ _ (wpAnyI.plain _ _ _ _ T)

section
variable {P : Program} {ops : Array Oper} {Q : Exit → Act → World → Prop} {I : World → Prop}
variable (P ops Q I) in
/-- Two operations, one after the other, hand on to M. -/
def wpTwo (M : Act → World → Prop) (i j : Nat) (a : Act) (w : World) : Prop :=
  I w ∧ ∃ o1, ops[i]? = some o1 ∧ Region.wanted o1 (yielded ops a.tmps) = true ∧ o1.wp P a w (fun a w => I w ∧ ∃ o2, ops[j]? = some o2 ∧ Region.wanted o2 (yielded ops a.tmps) = true ∧ o2.wp P a w M Q) Q
theorem wpSeqI.both {i j : Nat} {rest : List Nat} {a : Act} {w : World} (M : Act → Act → World → Prop) (h1 : wpTwo P ops Q I (M a) i j a w) (h2 : wpTwo P ops Q I (M a) j i a w) (h : ∀ a' w', M a a' w' → wpSeqI P ops Q I rest a' w') :
    wpSeqI P ops Q I (i :: j :: rest) a w ∧ wpSeqI P ops Q I (j :: i :: rest) a w := by
  have one : ∀ i j, wpTwo P ops Q I (M a) i j a w → wpSeqI P ops Q I (i :: j :: rest) a w := fun i j h1 => by
    obtain ⟨hI, o1, ho1, hw1, h1⟩ := h1
    refine ⟨hI, o1, ho1, hw1, Oper.wp_mono (fun a1 w1 h2 => ?_) h1⟩
    obtain ⟨hI, o2, ho2, hw2, h2⟩ := h2
    exact ⟨hI, o2, ho2, hw2, Oper.wp_mono (fun a' w' hm => h a' w' hm) h2⟩
  exact ⟨one _ _ h1, one _ _ h2⟩
end

end Go.Proofs.YtcocbainookkcaaGreat

/-
  append of a row to rows that may be the empty ones made at the start.
  No condition.
-/
namespace Go.Proofs.YtcocbainookkcaaGreat
set_option maxRecDepth 100000
open Go.RowKit

/-- Rows of the call's own, as a value. -/
def SPred.ownR (B n : Nat) (rows : List (List Int)) : SPred := ⟨fun v w => ∃ g cap, v = .slice (some ⟨g, 0, none⟩) n cap ∧ OwnR B w (some ⟨g, 0, none⟩) n cap rows, fun _ _ _ ⟨g, cap, hv, h⟩ he => ⟨g, cap, hv, h.ext he⟩⟩
/-- Rows of the call's own from block B on, or the empty rows that were made at the start. -/
def OwnW (B : Nat) (w : World) (a : Option Addr) (n cap : Nat) (rows : List (List Int)) : Prop :=
  (n = 0 ∧ cap = 0 ∧ rows = [] ∧ ∃ g, a = some ⟨g, 0, none⟩) ∨ OwnR B w a n cap rows
theorem OwnW.start (B g : Nat) (w : World) : OwnW B w (some ⟨g, 0, none⟩) 0 0 [] := .inl ⟨rfl, rfl, rfl, g, rfl⟩
theorem OwnW.strong {B : Nat} {w : World} {a : Option Addr} {n cap : Nat} {rows : List (List Int)} (h : OwnW B w a n cap rows) (hn : 0 < n) : OwnR B w a n cap rows := by
  rcases h with ⟨h, _⟩ | h
  · omega
  · exact h
theorem OwnW.rd {B : Nat} {w : World} {a : Option Addr} {n cap : Nat} {rows : List (List Int)} (h : OwnW B w a n cap rows) : RdR w a n rows := by
  rcases h with ⟨rfl, _, rfl, _⟩ | h
  · exact ⟨rfl, fun i hi => by omega⟩
  · exact h.rd
theorem OwnW.len {B : Nat} {w : World} {a : Option Addr} {n cap : Nat} {rows : List (List Int)} (h : OwnW B w a n cap rows) : rows.length = n := by
  rcases h with ⟨rfl, _, rfl, _⟩ | h
  · rfl
  · exact h.1
/-- The rows of a call that began in a world whose blocks are all below. -/
theorem OwnW.own {B B' : Nat} {w : World} {a : Option Addr} {n cap : Nat} {rows : List (List Int)} (h : OwnW B w a n cap rows) (hb : B' ≤ B) (h0 : OwnR B' w a 0 0 [] ∨ 0 < n) : OwnR B' w a n cap rows := by
  rcases h with ⟨rfl, rfl, rfl, _⟩ | h
  · rcases h0 with h0 | h0
    · exact h0
    · omega
  · exact h.mono hb

theorem append_empty (w : World) (b : Addr) (t : Addr) (v : Value) (c : Nat) (ty : TypeId) (hc : w.cell? (t.add 0) = some v) :
    (Builtin.append_ #[27, 27] ty #[.slice (some b) 0 0, .slice (some t) 1 c]).run Tryz.prog w =
    (Builtin.append_ #[27, 27] ty #[.slice none 0 0, .slice (some t) 1 c]).run Tryz.prog w := by
  obtain ⟨i0, hi, hz0, hz1, hz2⟩ := info_parts Tryz.infoR
  have hn : ∀ j u, [v][j]? = some u → w.cell? (t.add j) = some u := fun j u hj => by
    cases j with
    | zero => simp only [List.getElem?_cons_zero, Option.some.injEq] at hj; subst hj; exact hc
    | succ j => simp at hj
  have e : Builtin.nextslicecap (0 + 1) 0 * i0.bytes ≤ 281474976710656 := by
    rw [hz2]; decide
  rw [run_append_grow (P := Tryz.prog) w 27 ty 24 i0 (.slice none 0 0) Tryz.underlying27 hi hz0 b 0 0 [] (by simp) (fun j u hj => by simp at hj) t 1 c [v] (by simp [hz1]) hn (by omega) (by omega) e,
    run_append_nil (P := Tryz.prog) w 27 ty 24 i0 (.slice none 0 0) Tryz.underlying27 hi hz0 t 1 c [v] (by simp [hz1]) hn (by omega) (by omega) (by rw [hz2]; omega)]
  simp

theorem run_pushRW {B : Nat} {w0 w : World} {ra : Option Addr} {n cap : Nat} {rows : List (List Int)} {b : Option Addr} {m c : Nat} {xs : List Int} {g : Nat} (hown : OwnW B w0 ra n cap rows) (he : Ext w0 w) (hc : w.cell? ⟨g, 0, none⟩ = some (.slice b m c)) (hx : OwnC w0.heap.size w b m c xs) (hn : n ≤ 4194304) (hB : B ≤ w0.heap.size) (ty : TypeId) :
    ∃ g' cap' w', (Builtin.append_ #[27, 27] ty #[.slice ra n cap, .slice (some ⟨g, 0, none⟩) 1 1]).run Tryz.prog w = .ok (.slice (some ⟨g', 0, none⟩) (n + 1) cap') w' ∧
      OwnR B w' (some ⟨g', 0, none⟩) (n + 1) cap' (rows ++ [xs]) ∧ (∀ W : World, W.heap.size ≤ B → Ext W w → Ext W w') := by
  rcases hown with ⟨rfl, rfl, rfl, g0, rfl⟩ | hown
  · obtain ⟨g', cap', w', h1, h2, _, h4⟩ := run_pushR (OwnR.nil B w0) he hc hx hn hB ty
    exact ⟨g', cap', w', by rw [append_empty w _ _ (.slice b m c) 1 ty (by simpa [Addr.add] using hc)]; exact h1, h2, h4⟩
  · obtain ⟨g', cap', w', h1, h2, _, h4⟩ := run_pushR hown he hc hx hn hB ty
    exact ⟨g', cap', w', h1, h2, h4⟩

theorem wpList_pushRW {ops : Array Oper} {rest : List Oper} {o : Oper} {a : Act} {Q : Exit → Act → World → Prop} {w0 w : World} (hgd : o.guard = none) (s x : Operand)
    (ho : o.op = .call { callee := .builtin .append, args := #[s, x], argTypes := #[27, 27] })
    {B : Nat} {ra : Option Addr} {n cap : Nat} {rows : List (List Int)} {b : Option Addr} {m c : Nat} {xs : List Int} {g : Nat} (hs : a.eval s = .slice ra n cap) (hx : a.eval x = .slice (some ⟨g, 0, none⟩) 1 1)
    (hown : OwnW B w0 ra n cap rows) (he : Ext w0 w) (hxs : OwnC w0.heap.size w b m c xs) (hc : w.cell? ⟨g, 0, none⟩ = some (.slice b m c)) (hn : n ≤ 4194304) (hB : B ≤ w0.heap.size)
    (h : ∀ g' cap' w', OwnR B w' (some ⟨g', 0, none⟩) (n + 1) cap' (rows ++ [xs]) → (∀ W : World, W.heap.size ≤ B → Ext W w → Ext W w') →
      wpList Tryz.prog ops Q rest (a.put o.dst (.slice (some ⟨g', 0, none⟩) (n + 1) cap')) w') : wpList Tryz.prog ops Q (o :: rest) a w := by
  refine wpList_plain hgd fun K hK => ?_
  obtain ⟨g', cap', w', hr, h1, h3⟩ := run_pushRW hown he hc hxs hn hB o.type
  unfold Oper.wp execOp
  simp only [ho, resolve, invoke, builtin, Sem.run_bind, Sem.run_pure, Result.andThen_ok, List.map_toArray, List.map_cons, List.map_nil, hs, hx, hr]
  exact hK _ _ (h g' cap' w' h1 h3)

end Go.Proofs.YtcocbainookkcaaGreat

/-
  The listed function ShiftVersor.
  No condition.
-/
namespace Go.Proofs.YtcocbainookkcaaGreat
set_option maxRecDepth 100000
open Go.RowKit

theorem wpSeqI_appendAll {ops : Array Oper} {i : Nat} {rest : List Nat} {o : Oper} {a : Act} {Q : Exit → Act → World → Prop} {I : World → Prop} {w : World} (t : Option Tmp) (hI : I w) (hoi : ops[i]? = some o) (ht : o.dst = t) (hwd : Region.wanted o (yielded ops a.tmps) = true) (s x : Operand)
    (ho : o.op = .call { callee := .builtin .append, args := #[s, x], argTypes := #[24, 24] })
    {B : Nat} {ra : Option Addr} {n cap : Nat} {xs : List Int} {b off m c : Nat} {ys : List Int} (hs : a.eval s = .slice ra n cap) (hx : a.eval x = .slice (some ⟨b, off, none⟩) m c)
    (hown : OwnC B w ra n cap xs) (hy : RdC w (some ⟨b, off, none⟩) m ys) (hm : 0 < m) (hn : n ≤ 4194304) (hml : m ≤ 4194304) (hB : B ≤ w.heap.size)
    (h : ∀ g' cap' w', OwnC B w' (some ⟨g', 0, none⟩) (n + m) cap' (xs ++ ys) → (∀ W : World, W.heap.size ≤ B → Ext W w → Ext W w') →
      wpSeqI Tryz.prog ops Q I rest (a.put t (.slice (some ⟨g', 0, none⟩) (n + m) cap')) w') : wpSeqI Tryz.prog ops Q I (i :: rest) a w := by
  obtain ⟨g', cap', w', hr, h1, h2, h3⟩ := run_appendAll hown hy hm hn hml hB o.type (c := c)
  refine wpSeqI.value (v := .slice (some ⟨g', 0, none⟩) (n + m) cap') t hI hoi ht hwd ?_ (h g' cap' w' h1 h3)
  unfold execOp
  simp only [ho, resolve, invoke, builtin, Sem.run_bind, Sem.run_pure, Result.andThen_ok, List.map_toArray, List.map_cons, List.map_nil, hs, hx, hr]
theorem good_ext0 {p : Int} {d : Nat} {x : List Int} (hp : 3 ≤ p) (h : Good p d x) : Good p (d + 2) (x ++ [0, 0]) := by
  refine ⟨by rw [List.length_append, h.1]; rfl, fun i hi => ?_⟩
  unfold nth
  rw [List.getD_eq_getElem?_getD]
  by_cases hlt : i < d
  · rw [List.getElem?_append_left (by rw [h.1]; exact hlt), ← List.getD_eq_getElem?_getD]; exact h.2 i hlt
  · rw [List.getElem?_append_right (by rw [h.1]; omega), h.1]
    have : i = d ∨ i = d + 1 := by omega
    rcases this with rfl | rfl
    · simp; omega
    · simp [Nat.add_sub_cancel_left]; omega
theorem good_inf {p : Int} {d : Nat} (hp : 3 ≤ p) : Good p (d + 2) (infL d) := by
  refine ⟨by simp [infL], fun i hi => ?_⟩
  unfold nth infL
  rw [List.getD_eq_getElem?_getD]
  by_cases hlt : i < d
  · rw [List.getElem?_append_left (by simpa using hlt), List.getElem?_replicate, if_pos hlt]; simp; omega
  · rw [List.getElem?_append_right (by simp; omega), List.length_replicate]
    have : i = d ∨ i = d + 1 := by omega
    rcases this with rfl | rfl
    · simp; omega
    · simp [Nat.add_sub_cancel_left]; omega
def shPr (p : Int) (qs x : List Int) : List Int := prodL p (extL p qs) tkA (vecL (2 ^ (qs.length + 2)) (x ++ [0, 0])) (vecL (2 ^ (qs.length + 2)) (infL qs.length))
def shL (p : Int) (qs x : List Int) : List Int := plusL p (bladeL (2 ^ (qs.length + 2)) 0) (shPr p qs x) (-(invN p 2)) (2 ^ (qs.length + 2))
/-- Scaled by k and taken off. -/
theorem plus_scaleS {p : Int} {x y : List Int} {k : Int} {n : Nat} : plusL p x (scaleL p y k n) (-1) n = plusL p x y (-k) n := by
  unfold plusL
  refine List.map_congr_left fun i hi => ?_
  have hin : i < n := List.mem_range.1 hi
  have e : nth (scaleL p y k n) i = scaleN p y k i := by
    unfold scaleL nth
    rw [List.getD_eq_getElem?_getD, List.getElem?_map, List.getElem?_range hin]; rfl
  unfold plusN
  rw [e]
  unfold scaleN
  have h1 : -k * nth y i = -(nth y i * k) := by rw [Int.neg_mul, Int.mul_comm]
  rw [Int.emod_def (nth y i * k) p, show nth x i + -1 * (nth y i * k - p * (nth y i * k / p)) = (nth x i + -k * nth y i) + p * (nth y i * k / p) by rw [h1]; omega, Int.add_mul_emod_self_left]
theorem c_plusq (p : Int) (ax ay : Option Addr) (n cx cy : Nat) (x y : List Int) (k : Int) (w : World) (hp1 : 3 ≤ p) (hp2 : p ≤ 1000) (hk : -1000 ≤ k ∧ k ≤ 1000) (hn : n ≤ 4194303) (hx : RdC w ax n x) (hy : RdC w ay n y) (hgx : Good p n x) (hgy : Good p n y) (q : Int) (hq : q = k) :
    Calls Tryz.prog 48 #[.int .i64 p, .slice ax n cx, .slice ay n cy, .int .i64 q] w fun e w' => ∃ g rc, e = .returned (.slice (some ⟨g, 0, none⟩) n rc) ∧ OwnC w.heap.size w' (some ⟨g, 0, none⟩) n rc (plusL p x y k n) ∧ Ext w w' := by
  rw [hq]; exact c_plus p ax ay n cx cy x y k w hp1 hp2 hk hn hx hy hgx hgy
theorem two_new (w : World) : RdC (w.alloc (.cells #[.int .i64 0, .int .i64 0] 2)) (some ⟨w.heap.size, 0, none⟩) 2 [0, 0] := rdC_two (by simp) (by simp)
theorem wpS_call {P : Program} {o : Oper} {a : Act} {w : World} {f : Nat} {args : Array Value} {R : Value → World → Prop} (hr : (execOp a.eval o).run P w = .ok (.enter f args) w) (hc : Calls P f args w fun e w' => ∃ v, e = .returned v ∧ R v w') : wpS P o a w R := by
  unfold wpS; rw [hr]; exact hc
theorem wpS_val {P : Program} {o : Oper} {a : Act} {w w' : World} {v : Value} {R : Value → World → Prop} (hr : (execOp a.eval o).run P w = .ok (.value v) w') (h : R v w') : wpS P o a w R := by
  unfold wpS; rw [hr]; exact h



end Go.Proofs.YtcocbainookkcaaGreat

/-
  Contracts: the helpers of the exact laws: sizes, copies, comparisons, marks.
  No condition.
-/
namespace Go.Proofs.YtcocbainookkcaaGreat
set_option maxRecDepth 100000
open Go.RowKit

def szN (left : Int) (n : Nat) : Int := if left - n < 0 then -1 else left - n
theorem szN_neg {left : Int} {n : Nat} (h : left - n < 0) : szN left n = -1 := by simp [szN, h]
theorem szN_pos {left : Int} {n : Nat} (h : 0 ≤ left - n) : szN left n = left - n := by
  unfold szN; rw [if_neg (by omega)]



def eqB (xs ys : List Int) : Bool := decide (xs = ys)
theorem eqB_self (xs : List Int) : eqB xs xs = true := by simp [eqB]
theorem eqB_len {xs ys : List Int} (h : xs.length ≠ ys.length) : eqB xs ys = false := by
  simp only [eqB, decide_eq_false_iff_not]; intro he; exact h (by rw [he])
theorem eqB_nth {xs ys : List Int} {k : Nat} (h : nth xs k ≠ nth ys k) : eqB xs ys = false := by
  simp only [eqB, decide_eq_false_iff_not]; intro he; exact h (by rw [he])
theorem eqB_all {xs ys : List Int} {n : Nat} (hx : xs.length = n) (hy : ys.length = n) (h : ∀ j, j < n → nth xs j = nth ys j) : eqB xs ys = true := by
  simp only [eqB, decide_eq_true_eq]; exact ext_nth (by omega) (fun i hi => h i (by omega))


/-! ### Marks -/
def marks (k : Int) (n : Nat) : List Int := (List.range n).map fun (i : Nat) => k + (i : Int)
theorem marks_len (k : Int) (n : Nat) : (marks k n).length = n := by simp [marks]
theorem marks_nth {k : Int} {n i : Nat} (h : i < n) : nth (marks k n) i = k + i := by
  unfold marks
  rw [nth_map (by simpa using h)]
  simp

/-- The world has been extended, and the row of a slice may have been written. -/
def Wrote (w w' : World) (a : Option Addr) : Prop := w.heap.size ≤ w'.heap.size ∧ w'.os = w.os ∧ w'.tape = w.tape ∧ w'.output = w.output ∧ ∀ k, k < w.heap.size → (∀ g, a = some ⟨g, 0, none⟩ → k ≠ g) → w'.heap[k]? = w.heap[k]?
theorem Wrote.refl (w : World) (a : Option Addr) : Wrote w w a := ⟨Nat.le_refl _, rfl, rfl, rfl, fun _ _ _ => rfl⟩
theorem Wrote.below {B : Nat} {w w' : World} {a : Option Addr} (h : Wrote w w' a) (hB : B ≤ w.heap.size) (ha : ∀ g, a = some ⟨g, 0, none⟩ → B ≤ g) : Below B w w' :=
  ⟨h.2.1, h.2.2.1, h.2.2.2.1, h.1, fun k hk => h.2.2.2.2 k (by omega) (fun g hg => by have := ha g hg; omega)⟩
theorem Wrote.ext {B w w' : World} {a : Option Addr} (h : Wrote w w' a) (hb : Ext B w) (ha : ∀ g, a = some ⟨g, 0, none⟩ → B.heap.size ≤ g) : Ext B w' :=
  hb.trans' (h.below hb.size ha)
theorem Wrote.cell {w w' : World} {a : Option Addr} (h : Wrote w w' a) {p : Addr} {v : Value} (hc : w.cell? p = some v) (hn : ∀ g, a = some ⟨g, 0, none⟩ → p.block ≠ g) : w'.cell? p = some v := by
  rw [World.cell?_of_block (w := w) (h.2.2.2.2 p.block (lt_of_cell hc) hn)]
  exact hc
theorem Wrote.own {B : Nat} {w w' : World} {a b : Option Addr} {n cap : Nat} {xs : List Int} (h : Wrote w w' a) (ho : OwnC B w b n cap xs) (hd : ∀ g, a = some ⟨g, 0, none⟩ → b ≠ some ⟨g, 0, none⟩) : OwnC B w' b n cap xs := by
  obtain ⟨h1, h2, h3⟩ := ho
  refine ⟨h1, h2, ?_⟩
  rcases h3 with h3 | ⟨g, c, cur, hv, hb, hh, h4⟩
  · exact .inl h3
  · refine .inr ⟨g, c, cur, hv, hb, ?_, h4⟩
    simp only [Value.slice.injEq] at hv
    have hlt : g < w.heap.size := by
      rcases Nat.lt_or_ge g w.heap.size with h | h
      · exact h
      · rw [Array.getElem?_eq_none h] at hh; cases hh
    rw [h.2.2.2.2 g hlt (fun g' hg' hgg => by subst hgg; exact hd _ hg' hv.1)]
    exact hh

end Go.Proofs.YtcocbainookkcaaGreat

/-
  Objects of a law in memory: rows of rows in blocks of a range, and writes into a range.
  No condition.
-/
namespace Go.Proofs.YtcocbainookkcaaGreat
set_option maxRecDepth 100000
open Go.RowKit

/-- Rows of rows, all in blocks from lo on and below hi. -/
def OwnRH (lo hi : Nat) (w : World) (a : Option Addr) (n cap : Nat) (rows : List (List Int)) : Prop :=
  rows.length = n ∧ (∀ g, a = some ⟨g, 0, none⟩ → g < hi) ∧ ∃ vs : List Value, w.ownsRow lo 24 1 (.slice a n cap) n vs ∧ Apart vs ∧
    ∀ i, i < n → ∃ ai ci, vs[i]? = some (.slice ai (nthR rows i).length ci) ∧ OwnC lo w ai (nthR rows i).length ci (nthR rows i) ∧ ∀ g, ai = some ⟨g, 0, none⟩ → g < hi
theorem OwnR.high {B : Nat} {w : World} {a : Option Addr} {n cap : Nat} {rows : List (List Int)} (h : OwnR B w a n cap rows) : OwnRH B w.heap.size w a n cap rows := by
  have hb := h.base_of
  obtain ⟨h1, vs, h2, h3, h4⟩ := h
  refine ⟨h1, fun g hg => (hb g hg).2, vs, h2, h3, fun i hi => ?_⟩
  obtain ⟨ai, ci, h5, h6⟩ := h4 i hi
  exact ⟨ai, ci, h5, h6, fun g hg => (h6.base_of g hg).2⟩
theorem OwnRH.low {lo hi : Nat} {w : World} {a : Option Addr} {n cap : Nat} {rows : List (List Int)} (h : OwnRH lo hi w a n cap rows) : OwnR lo w a n cap rows := by
  obtain ⟨h1, _, vs, h2, h3, h4⟩ := h
  refine ⟨h1, vs, h2, h3, fun i hi => ?_⟩
  obtain ⟨ai, ci, h5, h6, _⟩ := h4 i hi
  exact ⟨ai, ci, h5, h6⟩
theorem OwnRH.ext {lo hi : Nat} {w w' : World} {a : Option Addr} {n cap : Nat} {rows : List (List Int)} (h : OwnRH lo hi w a n cap rows) (he : Ext w w') : OwnRH lo hi w' a n cap rows := by
  obtain ⟨h1, h0, vs, h2, h3, h4⟩ := h
  refine ⟨h1, h0, vs, ownsRow_ext h2 he, h3, fun i hi => ?_⟩
  obtain ⟨ai, ci, h5, h6, h7⟩ := h4 i hi
  exact ⟨ai, ci, h5, h6.ext he, h7⟩

/-- The world has been extended, and blocks from lo on below hi may have been written. -/
structure WroteIn (lo hi : Nat) (w w' : World) : Prop where
  size : w.heap.size ≤ w'.heap.size
  os : w'.os = w.os
  tape : w'.tape = w.tape
  output : w'.output = w.output
  block : ∀ k, k < w.heap.size → (k < lo ∨ hi ≤ k) → w'.heap[k]? = w.heap[k]?
theorem WroteIn.refl (lo hi : Nat) (w : World) : WroteIn lo hi w w := ⟨Nat.le_refl _, rfl, rfl, rfl, fun _ _ _ => rfl⟩
theorem WroteIn.trans {lo hi : Nat} {a b c : World} (h : WroteIn lo hi a b) (k : WroteIn lo hi b c) : WroteIn lo hi a c :=
  ⟨Nat.le_trans h.size k.size, k.os.trans h.os, k.tape.trans h.tape, k.output.trans h.output, fun i hi hr => (k.block i (Nat.lt_of_lt_of_le hi h.size) hr).trans (h.block i hi hr)⟩
theorem WroteIn.ofExt {lo hi : Nat} {a b : World} (h : Ext a b) : WroteIn lo hi a b := ⟨h.size, h.os, h.tape, h.output, fun i hi _ => h.block i hi⟩
theorem Wrote.inR {lo hi : Nat} {w w' : World} {a : Option Addr} (h : Wrote w w' a) (hd : ∀ g, a = some ⟨g, 0, none⟩ → lo ≤ g ∧ g < hi) : WroteIn lo hi w w' :=
  ⟨h.1, h.2.1, h.2.2.1, h.2.2.2.1, fun k hk hr => h.2.2.2.2 k hk fun g hg e => by have := hd g hg; omega⟩
theorem WroteIn.ext {lo hi : Nat} {B w w' : World} (h : WroteIn lo hi w w') (hb : Ext B w) (hl : B.heap.size ≤ lo) : Ext B w' :=
  hb.trans' ⟨h.os, h.tape, h.output, h.size, fun k hk => h.block k (Nat.lt_of_lt_of_le hk hb.size) (.inl (by omega))⟩
theorem WroteIn.cell {lo hi : Nat} {w w' : World} (h : WroteIn lo hi w w') {p : Addr} {v : Value} (hc : w.cell? p = some v) (hn : p.block < lo ∨ hi ≤ p.block) : w'.cell? p = some v := by
  rw [World.cell?_of_block (w := w) (h.block p.block (lt_of_cell hc) hn)]
  exact hc
theorem WroteIn.own {lo hi B : Nat} {w w' : World} {b : Option Addr} {n cap : Nat} {xs : List Int} (h : WroteIn lo hi w w') (ho : OwnC B w b n cap xs) (hd : ∀ g, b = some ⟨g, 0, none⟩ → g < lo ∨ hi ≤ g) : OwnC B w' b n cap xs :=
  ho.keep fun g hg => h.block g (ho.base_of g hg).2 (hd g hg)
theorem WroteIn.ownR {lo hi lo' hi' : Nat} {w w' : World} {b : Option Addr} {n cap : Nat} {rows : List (List Int)} (h : WroteIn lo hi w w') (ho : OwnRH lo' hi' w b n cap rows) (hd : hi' ≤ lo ∨ hi ≤ lo') : OwnRH lo' hi' w' b n cap rows := by
  have hb := ho.low.base_of
  obtain ⟨h1, h0, vs, h2, h3, h4⟩ := ho
  have ow : w'.ownsRow lo' 24 1 (.slice b n cap) n vs := by
    obtain ⟨h5, h6⟩ := h2
    refine ⟨h5, ?_⟩
    rcases h6 with h6 | ⟨g, c, cur, hv, hg, hh, h7⟩
    · exact .inl h6
    · refine .inr ⟨g, c, cur, hv, hg, ?_, h7⟩
      simp only [Value.slice.injEq] at hv
      have := hb g hv.1
      have := h0 g hv.1
      rw [h.block g (by omega) (by omega)]; exact hh
  refine ⟨h1, h0, vs, ow, h3, fun i hi => ?_⟩
  obtain ⟨ai, ci, h5, h6, h7⟩ := h4 i hi
  refine ⟨ai, ci, h5, h.own h6 fun g hg => ?_, h7⟩
  have := h7 g hg
  have := (h6.base_of g hg).1
  omega

/-- One row of the rows is written in its place. -/
theorem OwnRH.atRow {lo hi : Nat} {w : World} {a : Option Addr} {n cap : Nat} {rows : List (List Int)} (h : OwnRH lo hi w a n cap rows) {i : Nat} (hi' : i < n) :
    ∃ b off ai ci, a = some ⟨b, off, none⟩ ∧ w.cell? ⟨b, off + i, none⟩ = some (.slice ai (nthR rows i).length ci) ∧ OwnC lo w ai (nthR rows i).length ci (nthR rows i) ∧ (∀ g, ai = some ⟨g, 0, none⟩ → lo ≤ g ∧ g < hi) ∧
      ∀ w' xs, xs.length = (nthR rows i).length → Wrote w w' ai → OwnC lo w' ai (nthR rows i).length ci xs → OwnRH lo hi w' a n cap (rows.set i xs) := by
  have hb := h.low.base_of
  obtain ⟨g, cur, rfl, _⟩ := h.low.row (by omega)
  obtain ⟨h1, h0, vs, h2, h3, h4⟩ := h
  obtain ⟨ai, ci, h5, h6, h7⟩ := h4 i hi'
  have hvl : vs.length = n := by have := h2.1; omega
  refine ⟨g, 0, ai, ci, rfl, ?_, h6, fun k hk => ⟨(h6.base_of k hk).1, h7 k hk⟩, fun w' xs hxl hw ho => ?_⟩
  · rw [Nat.zero_add, h2.cellAt i (by omega)]; exact h5
  · have hn : ∀ g', ai = some ⟨g', 0, none⟩ → g ≠ g' := fun g' hg' e => by
      subst e
      exact own_apart h2 h6 g hg' rfl
    have ow : w'.ownsRow lo 24 1 (.slice (some ⟨g, 0, none⟩) n cap) n vs := by
      obtain ⟨h8, h9⟩ := h2
      refine ⟨h8, ?_⟩
      rcases h9 with h9 | ⟨g', c, cur, hv, hg, hh, h10⟩
      · exact .inl h9
      · refine .inr ⟨g', c, cur, hv, hg, ?_, h10⟩
        simp only [Value.slice.injEq, Option.some.injEq, Addr.mk.injEq] at hv
        obtain ⟨⟨rfl, _⟩, _⟩ := hv
        have := hb g rfl
        rw [hw.2.2.2.2 g (by omega) (fun g' hg' => hn g' hg')]; exact hh
    refine ⟨by simpa using h1, h0, vs, ow, h3, fun j hj => ?_⟩
    rw [nthR_set (by omega)]
    by_cases hij : i = j
    · subst hij
      rw [if_pos rfl, hxl]
      exact ⟨ai, ci, h5, ho, h7⟩
    · rw [if_neg hij]
      obtain ⟨aj, cj, h8, h9, h10⟩ := h4 j hj
      refine ⟨aj, cj, h8, hw.own h9 fun g' hg' e => ?_, h10⟩
      subst hg'
      subst e
      exact h3 i j g' _ _ _ _ hij h5 h8

/-! ### Numbers of places, marks, sizes -/
def cntR (rows : List (List Int)) : Nat → Nat
  | 0 => 0
  | j + 1 => cntR rows j + (nthR rows j).length
theorem cntR_mono (rows : List (List Int)) (i : Nat) : ∀ j, cntR rows i ≤ cntR rows (i + j)
  | 0 => Nat.le_refl _
  | j + 1 => Nat.le_trans (cntR_mono rows i j) (Nat.le_add_right _ _)
theorem cntR_le (rows : List (List Int)) {i j : Nat} (h : i ≤ j) : cntR rows i ≤ cntR rows j := by
  have := cntR_mono rows i (j - i)
  rwa [Nat.add_sub_cancel' h] at this
theorem cntR_row (rows : List (List Int)) {i n : Nat} (h : i < n) : (nthR rows i).length ≤ cntR rows n := by
  have : cntR rows (i + 1) ≤ cntR rows n := cntR_le rows h
  have e : cntR rows (i + 1) = cntR rows i + (nthR rows i).length := rfl
  omega
/-- Marks in rows. -/
def markR (k : Int) (rows : List (List Int)) (n : Nat) : List (List Int) := (List.range n).map fun j => marks (k + cntR rows j) (nthR rows j).length
theorem markR_len (k : Int) (rows : List (List Int)) (n : Nat) : (markR k rows n).length = n := by simp [markR]
theorem markR_nth {k : Int} {rows : List (List Int)} {n j : Nat} (h : j < n) : nthR (markR k rows n) j = marks (k + cntR rows j) (nthR rows j).length := by
  unfold markR; rw [nthR_map (by simpa using h)]; simp
theorem markR_sum {k : Int} {rows : List (List Int)} {n : Nat} : ∀ j, j ≤ n → cntR (markR k rows n) j = cntR rows j
  | 0, _ => rfl
  | j + 1, h => by
    show cntR (markR k rows n) j + _ = cntR rows j + _
    rw [markR_sum j (by omega), markR_nth (by omega), marks_len]

def szK (left : Int) (rows : List (List Int)) (n j : Nat) : Int := left - (n : Int) - (cntR rows j : Int)
/-- What is left when rows have been counted, or -1. -/
def szR (left : Int) (rows : List (List Int)) : Int := if szK left rows rows.length rows.length < 0 then -1 else szK left rows rows.length rows.length
theorem szR_neg {left : Int} {rows : List (List Int)} {n j : Nat} (hn : rows.length = n) (hj : j ≤ n) (h : szK left rows n j < 0) : szR left rows = -1 := by
  unfold szR
  have : szK left rows rows.length rows.length ≤ szK left rows n j := by
    subst hn
    unfold szK
    have := cntR_le rows hj
    omega
  rw [if_pos (by omega)]
theorem szR_pos {left : Int} {rows : List (List Int)} {n : Nat} (hn : rows.length = n) (h : 0 ≤ szK left rows n n) : szR left rows = szK left rows n n := by
  subst hn
  unfold szR
  rw [if_neg (by omega)]
theorem szR_bd {left : Int} {rows : List (List Int)} (h : 0 ≤ szR left rows) : (rows.length : Int) + cntR rows rows.length ≤ left := by
  unfold szR at h
  split at h
  · omega
  · rename_i h'
    unfold szK at h'
    omega
theorem szR_le {left : Int} {rows : List (List Int)} (h : 0 ≤ szR left rows) : szR left rows ≤ left := by
  unfold szR at h ⊢
  split
  · rename_i h'
    rw [if_pos h'] at h; omega
  · unfold szK; omega
theorem szR_lt {left : Int} {rows : List (List Int)} (h : szR left rows < 0) : szR left rows = -1 := by
  unfold szR at h ⊢
  split
  · rfl
  · rename_i h'
    rw [if_neg h'] at h
    omega
def eqR (xs ys : List (List Int)) : Bool := decide (xs = ys)
theorem eqR_self (xs : List (List Int)) : eqR xs xs = true := by simp [eqR]
theorem eqR_len {xs ys : List (List Int)} (h : xs.length ≠ ys.length) : eqR xs ys = false := by
  simp only [eqR, decide_eq_false_iff_not]; intro he; exact h (by rw [he])
theorem eqR_nth {xs ys : List (List Int)} {k : Nat} (h : nthR xs k ≠ nthR ys k) : eqR xs ys = false := by
  simp only [eqR, decide_eq_false_iff_not]; intro he; exact h (by rw [he])
theorem eqR_all {xs ys : List (List Int)} {n : Nat} (hx : xs.length = n) (hy : ys.length = n) (h : ∀ j, j < n → nthR xs j = nthR ys j) : eqR xs ys = true := by
  simp only [eqR, decide_eq_true_eq]; exact ext_rows (by omega) (fun i hi => h i (by omega))

end Go.Proofs.YtcocbainookkcaaGreat

/-
  Contracts: the helpers of the laws of algebra.
  No condition.
-/
namespace Go.Proofs.YtcocbainookkcaaGreat
set_option maxRecDepth 100000
open Go.RowKit

set_option maxHeartbeats 400000 in
theorem l_big (a : Option Addr) (n cap : Nat) (w : World) :
    Calls Tryz.prog 4 #[.slice a n cap] w fun e w' => e = .returned (.bool (decide (4096 < n))) ∧ Ext w w' := by
  by_cases h : 4096 < n
  · have hg : (4096 : Int) < n := by omega
    have HD := Lib.hid (show decide (4096 < n) = true by simp [h])
    go_enter Tryz.func4, Tryz.ntmps4
    go_wp2_with (fail)
    go_ret
    first | exact ⟨rfl, Ext.refl _⟩ | exact ⟨ret_bool HD.out.symm, Ext.refl _⟩
  · have hg : ¬ (4096 : Int) < n := by omega
    have HD := Lib.hid (show decide (4096 < n) = false by simp [h])
    go_enter Tryz.func4, Tryz.ntmps4
    go_wp2_with (fail)
    go_ret
    first | exact ⟨rfl, Ext.refl _⟩ | exact ⟨ret_bool HD.out.symm, Ext.refl _⟩
set_option maxHeartbeats 400000 in
theorem l_like (a b : Option Addr) (n m ca cb : Nat) (xs ys : List Int) (w : World) (hl : n ≤ 4194304) (hm : m ≤ 4194304) (hx : RdC w a n xs) (hy : RdC w b m ys) :
    Calls Tryz.prog 8 #[.slice a n ca, .slice b m cb] w fun e w' => e = .returned (.bool (eqB xs ys)) ∧ Ext w w' := by
  by_cases hnm : n = m
  · subst hnm
    have hcb : ((n : Int) != (n : Int)) = false := by simp
    have HX := Lib.hid hx.2
    have HXN := Lib.hid hx.1
    have HY := Lib.hid hy.2
    have HYN := Lib.hid hy.1
    clear hx hy
    go_enter Tryz.func8, Tryz.ntmps8
    go_wp2_with (fail)
    go_loopw [5] (fun i wr => ∃ (k : Nat), k ≤ n ∧ i = .int .i64 k ∧ Hid (∀ j, j < k → nth xs j = nth ys j) ∧ Ext w wr) (fun i _ => n - (intOf i).toNat)
    case atStart => exact ⟨0, Nat.zero_le _, rfl, Lib.hid (fun j hj => by omega), Ext.refl _⟩
    case round =>
      obtain ⟨k, hk, rfl, HT, hext⟩ := hrel
      by_cases hlt : k < n
      · obtain ⟨b1, off1, rfl, hc1⟩ := HX.out k hlt
        obtain ⟨b2, off2, rfl, hc2⟩ := HY.out k hlt
        have Hc1 := Lib.hid ((hext.trans (ext_drew _)).cell hc1)
        have Hc2 := Lib.hid ((hext.trans (ext_drew _)).cell hc2)
        clear hc1 hc2
        by_cases hb : nth xs k = nth ys k
        · have HB := Lib.hid hb
          have hbb : (nth xs k != nth ys k) = false := by simp [hb]
          clear hb
          go_wp2_with (fail)
          refine wp_region_lex [] (by kernel_rfl) (by kernel_rfl) ?_
          repeat' first | (refine LexW.pure (v := ?_) rfl rfl (fun w1 he => ?_) ?_; rotate_left; ( have hc1 := he.cell Hc1.out; have hc2 := he.cell Hc2.out; go_simp; rfl); simp only [Act.put, List.setIfInBounds_toArray, List.set_cons_zero, List.set_cons_succ])
          refine LexW.nil (fun w2 he hk => ?_)
          go_wp2_with (fail)
          go_roundw
          case rel => exact ⟨k + 1, by omega, by go_num, Lib.hid (fun j hj => by
            by_cases hjk : j = k
            · subst hjk; exact HB.out
            · exact HT.out j (by omega)), hext.trans ((ext_drew _).trans he)⟩
          case measure => simp [intOf]; omega
        · have HB := Lib.hid hb
          have hbb : (nth xs k != nth ys k) = true := by simp [hb]
          clear hb
          go_wp2_with (fail)
          refine wp_region_lex [] (by kernel_rfl) (by kernel_rfl) ?_
          repeat' first | (refine LexW.pure (v := ?_) rfl rfl (fun w1 he => ?_) ?_; rotate_left; ( have hc1 := he.cell Hc1.out; have hc2 := he.cell Hc2.out; go_simp; rfl); simp only [Act.put, List.setIfInBounds_toArray, List.set_cons_zero, List.set_cons_succ])
          refine LexW.nil (fun w2 he hk => ?_)
          go_wp2_with (fail)
          go_ret
          exact ⟨ret_bool (eqB_nth HB.out).symm, hext.trans ((ext_drew _).trans he)⟩
      · go_wp2_with (fail)
        go_ret
        exact ⟨ret_bool (eqB_all HXN.out HYN.out (fun j hj => HT.out j (by omega))).symm, hext⟩
  · have HF := Lib.hid (eqB_len (xs := xs) (ys := ys) (by rw [hx.1, hy.1]; exact hnm))
    have hcb : ((n : Int) != (m : Int)) = true := by simp; omega
    go_enter Tryz.func8, Tryz.ntmps8
    go_wp2_with (fail)
    go_ret
    exact ⟨ret_bool HF.out.symm, Ext.refl _⟩
end Go.Proofs.YtcocbainookkcaaGreat

/-
  The listed functions VectorOf, PairOf, NormOf; the product and the vector of the laws.
  No condition.
-/
namespace Go.Proofs.YtcocbainookkcaaGreat
set_option maxRecDepth 100000
open Go.RowKit

theorem good_vecB {p : Int} {d : Nat} {v : List Int} (h : Good p d v) : vecB p d v = true := by
  unfold vecB
  simp only [h.1, decide_true, Bool.true_and]
  unfold isB
  rw [List.all_eq_true]
  intro x hx
  obtain ⟨i, hi, rfl⟩ := List.getElem_of_mem hx
  have := h.2 i (by rw [← h.1]; exact hi)
  rw [nth_eq hi] at this
  simp [inB]; omega
theorem vecB_good {p : Int} {d : Nat} {v : List Int} (h : vecB p d v = true) : Good p d v := good_isB (vec_of h).1 (vec_of h).2
theorem good_bits {p : Int} {n : Nat} {v : List Int} (h : Good p n v) : isB p v = true := (vec_of (good_vecB h)).2
theorem good_multiB {p : Int} {d : Nat} {x : List Int} (h : Good p (2 ^ d) x) : multiB p d x = true := by
  have := good_vecB h
  unfold vecB at this
  unfold multiB
  exact this
theorem codeV_one0 {p : Int} {qs v : List Int} (hs : spaceB p qs = true) (hv : Good p qs.length v) : codeV p qs [v] = 0 := by
  simp [codeV, hs, good_vecB hv]
theorem codeV_two0 {p : Int} {qs v u : List Int} (hs : spaceB p qs = true) (hv : Good p qs.length v) (hu : Good p qs.length u) : codeV p qs [v, u] = 0 := by
  simp [codeV, hs, good_vecB hv, good_vecB hu]
theorem codeM_two0 {p : Int} {qs x y : List Int} (hs : spaceB p qs = true) (hx : Good p (2 ^ qs.length) x) (hy : Good p (2 ^ qs.length) y) : codeM p qs [x, y] = 0 := by
  simp [codeM, hs, good_multiB hx, good_multiB hy]
theorem codeM_one0 {p : Int} {qs x : List Int} (hs : spaceB p qs = true) (hx : Good p (2 ^ qs.length) x) : codeM p qs [x] = 0 := by
  simp [codeM, hs, good_multiB hx]
theorem codeV_two_of {p : Int} {qs v u : List Int} (h : codeV p qs [v, u] = 0) : spaceB p qs = true ∧ Good p qs.length v ∧ Good p qs.length u := by
  unfold codeV at h
  split at h
  · rename_i hs
    split at h
    · rename_i ha
      simp only [List.all_cons, List.all_nil, Bool.and_true, Bool.and_eq_true] at ha
      exact ⟨hs, vecB_good ha.1, vecB_good ha.2⟩
    · cases h
  · cases h




/-- What PairOf returns. -/
def pairV (p : Int) (qs v u : List Int) : Int := if codeV p qs [v, u] = 0 then pairL p qs v u qs.length else 0
end Go.Proofs.YtcocbainookkcaaGreat

/-
  Regions that draw their order of evaluation, walked once in the order of the text, where operations change the world by a relation that the proof chooses (so also a block of its own that calls write).
  No condition. General over every program.
-/
namespace Go.Proofs.YtcocbainookkcaaGreat.Chg
open Go.RowKit

/-- A relation between worlds that holds from a world to itself and goes on. -/
structure Rel where
  r : World → World → Prop
  refl : ∀ w, r w w
  trans : ∀ {a b c}, r a b → r b c → r a c

variable {E : Rel}

/-- What is said of a value in a world, and stays true when the world is extended. -/
structure SPred (E : Rel) where
  holds : Value → World → Prop
  st : ∀ v w w', holds v w → E.r w w' → holds v w'

/-- This very value. -/
def SPred.val (v0 : Value) : SPred E := ⟨fun v _ => v = v0, fun _ _ _ h _ => h⟩

section
variable {P : Program} {ops : Array Oper} {md : Region.Mode}

/-- One operation hands on a value, in a world, of which R holds; it does not panic. -/
def wpS (P : Program) (o : Oper) (a : Act) (w : World) (R : Value → World → Prop) : Prop :=
  match (execOp a.eval o).run P w with
  | .ok (.value v) w' => R v w'
  | .ok .skip w' => R undef w'
  | .ok (.enter f args) w' => Calls P f args w' fun e w'' => ∃ v, e = .returned v ∧ R v w''
  | _ => False

theorem wpS_some {o : Oper} {a : Act} {w : World} {R : Value → World → Prop} (h : wpS P o a w R) : ∃ v w', R v w' := by
  unfold wpS at h
  split at h
  · exact ⟨_, _, h⟩
  · exact ⟨_, _, h⟩
  · obtain ⟨e, w', fr, ⟨v, _, hr⟩, _⟩ := h []
    exact ⟨_, _, hr⟩
  · exact h.elim

theorem wp_of_wpS {o : Oper} {a : Act} {w : World} {R : Value → World → Prop} {K : Act → World → Prop} {Q : Exit → Act → World → Prop} (h : wpS P o a w R) (hk : ∀ v w', R v w' → K (a.put o.dst v) w') : o.wp P a w K Q := by
  unfold wpS at h
  unfold Oper.wp
  split at h
  · rename_i hr; rw [hr]; exact hk _ _ h
  · rename_i hr; rw [hr]; exact hk _ _ h
  · rename_i hr; rw [hr]
    exact Calls.mono h fun e w'' ⟨v, he, hr⟩ => by subst he; exact hk _ _ hr
  · exact h.elim

/-- The temporaries that operation i reads and that an earlier operation of the region writes. -/
def depsOf (ops : Array Oper) (i : Nat) : List (Nat × Tmp) :=
  match ops[i]? with
  | none => []
  | some o => (List.range i).filterMap fun d => match (ops[d]?).bind (·.dst) with
      | some t => if (o.looksAt ops).contains t then some (d, t) else none
      | none => none

theorem depsOf_spec {i d : Nat} {t : Tmp} {o : Oper} (ho : ops[i]? = some o) (h : (d, t) ∈ depsOf ops i) : t ∈ o.looksAt ops ∧ ∃ od, ops[d]? = some od ∧ od.dst = some t := by
  simp only [depsOf, ho, List.mem_filterMap, List.mem_range] at h
  obtain ⟨d', _, hd⟩ := h
  split at hd
  · rename_i t' ht'
    split at hd
    · rename_i hc
      simp only [Option.some.injEq, Prod.mk.injEq] at hd
      obtain ⟨rfl, rfl⟩ := hd
      refine ⟨by simpa using hc, ?_⟩
      cases hod : ops[d']? with
      | none => simp [hod] at ht'
      | some od => exact ⟨od, rfl, by simpa [hod] using ht'⟩
    · cases hd
  · cases hd

/-- What is said of a value: nothing, where none was given. -/
def holdsO (s : Option (SPred E)) (v : Value) (w : World) : Prop := match s with | none => True | some p => p.holds v w
theorem holdsO.ext {s : Option (SPred E)} {v : Value} {w w' : World} (h : holdsO s v w) (he : E.r w w') : holdsO s v w' := by
  cases s with
  | none => trivial
  | some p => exact p.st _ _ _ h he

def Dep (sp : Nat → Option (SPred E)) (l : List (Nat × Tmp)) (a : Act) (w : World) : Prop := ∀ p ∈ l, holdsO (sp p.1) (a.tmps.getD p.2 undef) w
def DepIn (env : List (Nat × Value)) (l : List (Nat × Tmp)) (a : Act) : Prop := ∀ p ∈ l, (p.1, a.tmps.getD p.2 undef) ∈ env
/-- All that is known of the values so far. -/
def Known (sp : Nat → Option (SPred E)) (env : List (Nat × Value)) (w : World) : Prop := ∀ p ∈ env, holdsO (sp p.1) p.2 w

theorem Known.dep {sp : Nat → Option (SPred E)} {env : List (Nat × Value)} {w : World} (h : Known sp env w) {l : List (Nat × Tmp)} {a : Act} (hd : DepIn env l a) : Dep sp l a w := fun p hp => h _ (hd p hp)
theorem Known.ext {sp : Nat → Option (SPred E)} {env : List (Nat × Value)} {w w' : World} (h : Known sp env w) (he : E.r w w') : Known sp env w' := fun p hp => (h p hp).ext he
theorem Known.cons {sp : Nat → Option (SPred E)} {env : List (Nat × Value)} {w : World} (h : Known sp env w) {i : Nat} {v : Value} (hv : holdsO (sp i) v w) : Known sp ((i, v) :: env) w := fun p hp => by
  rcases List.mem_cons.1 hp with rfl | hp
  · exact hv
  · exact h p hp

theorem getD_put {a : Act} {dst : Option Tmp} {v : Value} {t : Tmp} (h : ∀ d, dst = some d → d ≠ t) : (a.put dst v).tmps.getD t undef = a.tmps.getD t undef := by
  cases dst with
  | none => rfl
  | some d => simp [Act.put, Array.getElem?_setIfInBounds_ne (h d rfl)]

variable (E P ops) in
/-- The operation yields this very value in every world that extends the first one (or is passed over). -/
def Sure (w0 : World) (o : Oper) (a : Act) (v : Value) : Prop :=
  (Region.wanted o (yielded ops a.tmps) = true ∧ ∀ w, E.r w0 w → (execOp a.eval o).run P w = .ok (.value v) w) ∨ (Region.wanted o (yielded ops a.tmps) = false ∧ v = undef)

theorem Sure.uniq {w0 : World} {o : Oper} {a : Act} {v v' : Value} (h : Sure E P ops w0 o a v) (h' : Sure E P ops w0 o a v') : v = v' := by
  rcases h with ⟨hw, hr⟩ | ⟨hw, rfl⟩ <;> rcases h' with ⟨hw', hr'⟩ | ⟨hw', rfl⟩
  · have h1 := hr w0 (E.refl _)
    have h2 := hr' w0 (E.refl _)
    rw [h1] at h2
    simpa using h2
  · rw [hw] at hw'; cases hw'
  · rw [hw] at hw'; cases hw'
  · rfl

variable (P ops) in
/-- Operation i can be carried out in a state. -/
def Can (w0 : World) (sp : Nat → Option (SPred E)) (i : Nat) (o : Oper) (a : Act) (env : List (Nat × Value)) : Prop :=
  match sp i with
  | none => ∃ v, Sure E P ops w0 o a v
  | some p => Region.wanted o (yielded ops a.tmps) = true ∧ DepIn env (depsOf ops i) a ∧ ∀ w, E.r w0 w → Dep sp (depsOf ops i) a w → wpS P o a w fun v w' => E.r w w' ∧ p.holds v w'

variable (P ops) in
/-- What it may yield. -/
def Res (w0 : World) (sp : Nat → Option (SPred E)) (i : Nat) (o : Oper) (a : Act) (env : List (Nat × Value)) (v : Value) : Prop :=
  match sp i with
  | none => Sure E P ops w0 o a v
  | some p => ∃ w, E.r w0 w ∧ Known sp env w ∧ p.holds v w

theorem wpS_put {w : World} {R : Value → World → Prop} {oj : Oper} (hs : ∀ cs b, oj.op ≠ .select cs b) (a : Act) (dst : Option Tmp) (v : Value) (h : ∀ d, dst = some d → d ∉ oj.looksAt ops) : wpS P oj (a.put dst v) w R = wpS P oj a w R := by
  unfold wpS; rw [execOp_put oj hs a dst v h]

theorem Sure_put {w0 : World} {oj : Oper} (hs : ∀ cs b, oj.op ≠ .select cs b) (a : Act) (dst : Option Tmp) (v u : Value) (h : ∀ d, dst = some d → d ∉ oj.looksAt ops) : Sure E P ops w0 oj (a.put dst v) u ↔ Sure E P ops w0 oj a u := by
  unfold Sure; rw [execOp_put oj hs a dst v h, wanted_put (ops := ops) oj a dst v h]

theorem Dep_put {sp : Nat → Option (SPred E)} {j : Nat} {oj : Oper} (hj : ops[j]? = some oj) (a : Act) (dst : Option Tmp) (v : Value) (w : World) (h : ∀ d, dst = some d → d ∉ oj.looksAt ops) :
    Dep sp (depsOf ops j) (a.put dst v) w ↔ Dep sp (depsOf ops j) a w := by
  constructor
  · intro hd p hp
    have := hd p hp
    rwa [getD_put (fun d he hdt => h d he (by rw [hdt]; exact (depsOf_spec hj hp).1))] at this
  · intro hd p hp
    rw [getD_put (fun d he hdt => h d he (by rw [hdt]; exact (depsOf_spec hj hp).1))]
    exact hd p hp

section
variable {w0 : World} {sp : Nat → Option (SPred E)} {i j : Nat} {oi oj : Oper} {a : Act} {v vj : Value} {env : List (Nat × Value)}

/-- What can be carried out behind i, apart from it, can be carried out ahead of it. -/
theorem Can.back (hi : ops[i]? = some oi) (hj : ops[j]? = some oj) (hap : oi.apart ops oj = true)
    (hsj : ∀ cs b, oj.op ≠ .select cs b) (h : Can P ops w0 sp j oj (a.put oi.dst v) ((i, v) :: env)) : Can P ops w0 sp j oj a env := by
  obtain ⟨h1, h2, h3⟩ := Oper.apart_spec hap
  unfold Can at *
  cases hsp : sp j with
  | none =>
    rw [hsp] at h
    obtain ⟨u, hu⟩ := h
    exact ⟨u, (Sure_put hsj a oi.dst v u h1).1 hu⟩
  | some p =>
    rw [hsp] at h
    obtain ⟨hw, hd, hr⟩ := h
    rw [wanted_put (ops := ops) oj a oi.dst v h1] at hw
    refine ⟨hw, fun q hq => ?_, fun w he hdp => ?_⟩
    · have hin := hd q hq
      obtain ⟨hl, od, hod, hdt⟩ := depsOf_spec hj hq
      rw [getD_put (fun d he hdd => h1 d he (by rw [hdd]; exact hl))] at hin
      rcases List.mem_cons.1 hin with heq | hin
      · have : q.1 = i := congrArg Prod.fst heq
        rw [this, hi] at hod
        obtain rfl := Option.some.inj hod
        exact absurd hl (h1 _ hdt)
      · exact hin
    · have := hr w he ((Dep_put hj a oi.dst v w h1).2 hdp)
      rwa [wpS_put hsj a oi.dst v h1] at this

theorem Can.fore (hi : ops[i]? = some oi) (hap : oi.apart ops oj = true)
    (hsi : ∀ cs b, oi.op ≠ .select cs b) (h : Can P ops w0 sp i oi a env) : Can P ops w0 sp i oi (a.put oj.dst v) ((j, v) :: env) := by
  obtain ⟨h1, h2, h3⟩ := Oper.apart_spec hap
  unfold Can at *
  cases hsp : sp i with
  | none =>
    rw [hsp] at h
    obtain ⟨u, hu⟩ := h
    exact ⟨u, (Sure_put hsi a oj.dst v u h3).2 hu⟩
  | some p =>
    rw [hsp] at h
    obtain ⟨hw, hd, hr⟩ := h
    rw [← wanted_put (ops := ops) oi a oj.dst v h3] at hw
    refine ⟨hw, fun q hq => ?_, fun w he hdp => ?_⟩
    · obtain ⟨hl, od, hod, hdt⟩ := depsOf_spec hi hq
      rw [getD_put (fun d he hdd => h3 d he (by rw [hdd]; exact hl))]
      exact List.mem_cons_of_mem _ (hd q hq)
    · have := hr w he ((Dep_put hi a oj.dst v w h3).1 hdp)
      rwa [wpS_put hsi a oj.dst v h3]

theorem Res.joint (hap : oi.apart ops oj = true) (hsi : ∀ cs b, oi.op ≠ .select cs b) (hsj : ∀ cs b, oj.op ≠ .select cs b)
    (h1 : Res P ops w0 sp j oj a env vj) (h2 : Res P ops w0 sp i oi (a.put oj.dst vj) ((j, vj) :: env) v) :
    Res P ops w0 sp i oi a env v ∧ Res P ops w0 sp j oj (a.put oi.dst v) ((i, v) :: env) vj := by
  obtain ⟨g1, g2, g3⟩ := Oper.apart_spec hap
  unfold Res at *
  cases hpi : sp i with
  | none =>
    rw [hpi] at h2
    refine ⟨(Sure_put hsi a oj.dst vj v g3).1 h2, ?_⟩
    cases hpj : sp j with
    | none => rw [hpj] at h1; exact (Sure_put hsj a oi.dst v vj g1).2 h1
    | some q =>
      rw [hpj] at h1
      obtain ⟨w, he, hk, hv⟩ := h1
      exact ⟨w, he, hk.cons (by rw [hpi]; trivial), hv⟩
  | some p =>
    rw [hpi] at h2
    obtain ⟨w, he, hk, hv⟩ := h2
    have hk' : Known sp env w := fun q hq => hk q (List.mem_cons_of_mem _ hq)
    refine ⟨⟨w, he, hk', hv⟩, ?_⟩
    cases hpj : sp j with
    | none => rw [hpj] at h1; exact (Sure_put hsj a oi.dst v vj g1).2 h1
    | some q =>
      have hq := hk (j, vj) List.mem_cons_self
      simp only [hpj] at hq
      exact ⟨w, he, hk'.cons (by rw [hpi]; exact hv), hq⟩

theorem Can.some_res (h : Can P ops w0 sp i oi a env) (hsat : ∃ w, E.r w0 w ∧ Known sp env w) : ∃ v, Res P ops w0 sp i oi a env v := by
  unfold Can at h
  unfold Res
  cases hp : sp i with
  | none => rw [hp] at h; exact h
  | some p =>
    rw [hp] at h
    obtain ⟨hw, hd, hr⟩ := h
    obtain ⟨w, he, hk⟩ := hsat
    obtain ⟨v, w', he', hv⟩ := wpS_some (hr w he (hk.dep hd))
    exact ⟨v, w', E.trans he he', hk.ext he', hv⟩

theorem Res.sat (h : Res P ops w0 sp i oi a env v) (hsat : ∃ w, E.r w0 w ∧ Known sp env w) : ∃ w, E.r w0 w ∧ Known sp ((i, v) :: env) w := by
  unfold Res at h
  cases hp : sp i with
  | none =>
    obtain ⟨w, he, hk⟩ := hsat
    exact ⟨w, he, hk.cons (by rw [hp]; trivial)⟩
  | some p =>
    rw [hp] at h
    obtain ⟨w, he, hk, hv⟩ := h
    exact ⟨w, he, hk.cons (by rw [hp]; exact hv)⟩

theorem Res.weak {env' : List (Nat × Value)} (hs : ∀ p ∈ env, p ∈ env') (h : Res P ops w0 sp i oi a env' v) : Res P ops w0 sp i oi a env v := by
  unfold Res at *
  cases hp : sp i with
  | none => rw [hp] at h; exact h
  | some p =>
    rw [hp] at h
    obtain ⟨w, he, hk, hv⟩ := h
    exact ⟨w, he, fun q hq => hk q (hs q hq), hv⟩
theorem Can.weak {env' : List (Nat × Value)} (hs : ∀ p ∈ env, p ∈ env') (h : Can P ops w0 sp i oi a env) : Can P ops w0 sp i oi a env' := by
  unfold Can at *
  cases hp : sp i with
  | none => rw [hp] at h; exact h
  | some p =>
    rw [hp] at h
    exact ⟨h.1, fun q hq => hs _ (h.2.1 q hq), h.2.2⟩
end

variable (P ops md) in
/-- Whatever order is picked, till the first n have been carried out. -/
def AnyR (w0 : World) (sp : Nat → Option (SPred E)) (n : Nat) (L : Array Bool → Act → World → Prop) : Nat → Array Bool → Act → List (Nat × Value) → Prop
  | 0, listed, a, env => ∀ w, E.r w0 w → Known sp env w → L listed a w
  | f + 1, listed, a, env => Region.ready md ops listed ≠ [] ∧ ∀ i ∈ Region.ready md ops listed, i < n ∧ ∀ o, ops[i]? = some o →
      Can P ops w0 sp i o a env ∧ ∀ v, Res P ops w0 sp i o a env v → AnyR w0 sp n L f (listed.setIfInBounds i true) (a.put o.dst v) ((i, v) :: env)

theorem AnyR.env {w0 : World} {sp : Nat → Option (SPred E)} {n : Nat} {L : Array Bool → Act → World → Prop} : ∀ (f : Nat) (listed : Array Bool) (a : Act) (env env' : List (Nat × Value)), (∀ p ∈ env, p ∈ env') →
    AnyR P ops md w0 sp n L f listed a env → AnyR P ops md w0 sp n L f listed a env'
  | 0, _, _, _, _, hs, h => fun w he hk => h w he fun p hp => hk p (hs p hp)
  | f + 1, listed, a, env, env', hs, h => ⟨h.1, fun i hi => ⟨(h.2 i hi).1, fun o ho => by
      obtain ⟨hc, hr⟩ := (h.2 i hi).2 o ho
      refine ⟨Can.weak hs hc, fun v hv => ?_⟩
      exact AnyR.env f _ _ _ _ (fun p hp => by
        rcases List.mem_cons.1 hp with rfl | hp
        · exact List.mem_cons_self
        · exact List.mem_cons_of_mem _ (hs p hp)) (hr v (Res.weak hs hv))⟩⟩

theorem AnyR.sound {w0 : World} {sp : Nat → Option (SPred E)} {n g : Nat} {L : Array Bool → Act → World → Prop} {Q : Exit → Act → World → Prop} (hL : ∀ listed a w, L listed a w → wpAny P md ops Q g listed a w) :
    ∀ (f : Nat) (listed : Array Bool) (a : Act) (env : List (Nat × Value)) (w : World), E.r w0 w → Known sp env w → AnyR P ops md w0 sp n L f listed a env → wpAny P md ops Q (f + g) listed a w
  | 0, _, _, _, w, he, hk, h => by rw [Nat.zero_add]; exact hL _ _ _ (h w he hk)
  | f + 1, listed, a, env, w, he, hk, h => by
    rw [show f + 1 + g = (f + g) + 1 by omega]
    refine ⟨fun h0 => absurd h0 h.1, fun i hi => ?_⟩
    unfold wpOp
    split
    · rename_i hn
      obtain ⟨_, o, ho, _⟩ := mem_ready.1 hi
      rw [hn] at ho; cases ho
    · rename_i o ho
      obtain ⟨hc, hr⟩ := (h.2 i hi).2 o ho
      unfold Can at hc
      cases hp : sp i with
      | none =>
        rw [hp] at hc
        obtain ⟨v, hv⟩ := hc
        have hk' : Known sp ((i, v) :: env) w := hk.cons (by rw [hp]; trivial)
        have hres : Res P ops w0 sp i o a env v := by unfold Res; rw [hp]; exact hv
        have hnext := AnyR.sound hL f _ _ _ w he hk' (hr v hres)
        rcases hv with ⟨hw, hrun⟩ | ⟨hw, rfl⟩
        · rw [if_pos hw]
          refine .inl ?_
          unfold Oper.wp
          rw [hrun w he]
          exact hnext
        · rw [if_neg (by rw [hw]; decide)]
          exact hnext
      | some p =>
        rw [hp] at hc
        obtain ⟨hw, hd, hrr⟩ := hc
        rw [if_pos hw]
        refine .inl (wp_of_wpS (hrr w he (hk.dep hd)) fun v w' ⟨he', hv⟩ => ?_)
        exact AnyR.sound hL f _ _ _ w' (E.trans he he') ((hk.ext he').cons (by rw [hp]; exact hv)) (hr v (by unfold Res; rw [hp]; exact ⟨w', E.trans he he', hk.ext he', hv⟩))

theorem AnyR.first {w0 : World} {sp : Nat → Option (SPred E)} {n i : Nat} {oi : Oper} {L : Array Bool → Act → World → Prop} (hi : ops[i]? = some oi) (hsel : ∀ (j : Nat) (o : Oper) cs b, ops[j]? = some o → o.op ≠ .select cs b)
    (hlt : ∀ listed, HeadInv md ops n listed → listed.getD i true = false → ∀ j ∈ Region.ready md ops listed, j < n)
    (hdone : ∀ listed a w, L listed a w → ∀ j ∈ Region.ready md ops listed, n ≤ j) :
    ∀ (f : Nat) (listed : Array Bool) (a : Act) (env : List (Nat × Value)), HeadInv md ops n listed →
      (∀ j oj, ops[j]? = some oj → j ≠ i → listed.getD j true = false → (∀ e ∈ oj.after, Region.binds md e = true → e.on ≠ i) → oi.apart ops oj = true) →
      i ∈ Region.ready md ops listed → (∃ w, E.r w0 w ∧ Known sp env w) → Can P ops w0 sp i oi a env →
      (∀ v, Res P ops w0 sp i oi a env v → AnyR P ops md w0 sp n L f (listed.setIfInBounds i true) (a.put oi.dst v) ((i, v) :: env)) →
      AnyR P ops md w0 sp n L (f + 1) listed a env := by
  intro f
  induction f with
  | zero =>
    intro listed a env inv _ hr hsat hc H
    have hun := (mem_ready.1 hr).1
    refine ⟨fun h => (by rw [h] at hr; cases hr), fun j hj => ⟨hlt listed inv hun j hj, fun oj hoj => ?_⟩⟩
    by_cases hji : j = i
    · subst hji
      obtain rfl := Option.some.inj (hi.symm.trans hoj)
      exact ⟨hc, H⟩
    · exfalso
      obtain ⟨v, hv⟩ := hc.some_res hsat
      obtain ⟨w, he, hk⟩ := hv.sat hsat
      have h0 := H v hv w he hk
      have h1 := hdone _ _ _ h0 j (ready_mono hj hji)
      have h2 := hlt listed inv hun j hj
      omega
  | succ f ih =>
    intro listed a env inv hfree hr hsat hc H
    have hun := (mem_ready.1 hr).1
    refine ⟨fun h => (by rw [h] at hr; cases hr), fun j hj => ⟨hlt listed inv hun j hj, fun oj hoj => ?_⟩⟩
    by_cases hji : j = i
    · subst hji
      obtain rfl := Option.some.inj (hi.symm.trans hoj)
      exact ⟨hc, H⟩
    · obtain ⟨hjun, oj', hoj', hall⟩ := mem_ready.1 hj
      obtain rfl := Option.some.inj (hoj.symm.trans hoj')
      have hjn := hlt listed inv hun j hj
      have hnot : ∀ e ∈ oj.after, Region.binds md e = true → e.on ≠ i := fun e he hb heq => by
        have h1 := hall e he hb
        rw [heq, getD_both hun] at h1
        cases h1
      have hap := hfree j oj hoj hji hjun hnot
      obtain ⟨h1, h2, h3⟩ := Oper.apart_spec hap
      have hsi : ∀ cs b, oi.op ≠ .select cs b := fun cs b => hsel i oi cs b hi
      have hsj : ∀ cs b, oj.op ≠ .select cs b := fun cs b => hsel j oj cs b hoj
      obtain ⟨v0, hv0⟩ := hc.some_res hsat
      have hcj := ((H v0 hv0).2 j (ready_mono hj hji)).2 oj hoj
      refine ⟨hcj.1.back hi hoj hap hsj, fun vj hvj => ?_⟩
      refine ih (listed.setIfInBounds j true) (a.put oj.dst vj) ((j, vj) :: env) (inv.set hj hjn) ?_ (ready_mono hr (Ne.symm hji)) (hvj.sat hsat) (hc.fore hi hap hsi) ?_
      · intro k ok hk hki hun' hno
        refine hfree k ok hk hki ?_ hno
        by_cases hjk : j = k
        · subst hjk; exact hjun
        · rw [getD_set_ne true hjk] at hun'; exact hun'
      · intro v hv
        obtain ⟨hv1, hvj1⟩ := Res.joint hap hsi hsj hvj hv
        have := (((H v hv1).2 j (ready_mono hj hji)).2 oj hoj).2 vj hvj1
        rw [Array.setIfInBounds_comm _ _ hji, ← Act.put_comm a v vj h2]
        refine AnyR.env _ _ _ _ _ ?_ this
        intro p hp
        rcases List.mem_cons.1 hp with rfl | hp
        · exact List.mem_cons_of_mem _ List.mem_cons_self
        · rcases List.mem_cons.1 hp with rfl | hp
          · exact List.mem_cons_self
          · exact List.mem_cons_of_mem _ (List.mem_cons_of_mem _ hp)

variable (P ops) in
/-- The walk in the order of the text. -/
def LexR (w0 : World) (sp : Nat → Option (SPred E)) (Q : Act → World → Prop) : List Oper → Nat → Act → List (Nat × Value) → Prop
  | [], _, a, env => ∀ w, E.r w0 w → Known sp env w → Q a w
  | o :: l, k, a, env => Can P ops w0 sp k o a env ∧ ∀ v, Res P ops w0 sp k o a env v → LexR w0 sp Q l (k + 1) (a.put o.dst v) ((k, v) :: env)

theorem LexR.any {w0 : World} {sp : Nat → Option (SPred E)} {n : Nat} {B : Array Bool → Bool} {Lq : Act → World → Prop} (hsel : Region.noSelect ops = true)
    (hlt : ∀ i, i < n → ∀ listed, HeadInv md ops n listed → listed.getD i true = false → ∀ j ∈ Region.ready md ops listed, j < n)
    (hdone : ∀ listed, B listed = true → ∀ j ∈ Region.ready md ops listed, n ≤ j)
    (hd : Nat → Nat → Array Bool → Bool) (h0 : ∀ listed, hd 0 n listed = true → B listed = true)
    (h1 : ∀ f k listed, hd (f + 1) k listed = true → ((Region.ready md ops listed).contains k = true ∧ Region.free md ops listed k = true) ∧ hd f (k + 1) (listed.setIfInBounds k true) = true) :
    ∀ (l : List Oper) (k : Nat) (listed : Array Bool) (a : Act) (env : List (Nat × Value)), (∀ j, j < l.length → l[j]? = ops[k + j]?) → k + l.length = n → HeadInv md ops n listed →
    (∃ w, E.r w0 w ∧ Known sp env w) → hd l.length k listed = true → LexR P ops w0 sp Lq l k a env →
    AnyR P ops md w0 sp n (fun listed' a' w' => B listed' = true ∧ Lq a' w') l.length listed a env
  | [], k, listed, a, env, _, hk0, _, _, hB, h => fun w he hk => ⟨h0 _ (by obtain rfl : k = n := (by simpa using hk0); exact hB), h w he hk⟩
  | o :: l, k, listed, a, env, hl, hk, inv, hsat, hB, h => by
    have ho : ops[k]? = some o := by simpa using (hl 0 (by simp)).symm
    obtain ⟨⟨hr, hf⟩, hB'⟩ := h1 _ _ _ (by simpa using hB)
    have hkn : k < n := by simp only [List.length_cons] at hk; omega
    have hr' : k ∈ Region.ready md ops listed := by simpa using hr
    exact AnyR.first ho (Region.noSelect_spec hsel) (hlt k hkn) (fun listed' a' w' hL => hdone _ hL.1) l.length listed a env inv (Region.free_spec ho hf) hr' hsat h.1
      fun v hv => LexR.any hsel hlt hdone hd h0 h1 l (k + 1) _ _ _ (fun j hj => by have := hl (j + 1) (by simp; omega); simpa [Nat.add_assoc, Nat.add_comm 1 j] using this) (by simp only [List.length_cons] at hk; omega) (inv.set hr' hkn)
        (hv.sat hsat) hB' (h.2 v hv)

theorem headInv0 (l : List Oper) (n : Nat) : HeadInv md l.toArray n (Array.replicate l.toArray.size false) :=
  ⟨by simp, fun j oj _ hl => (by rw [getD_replicate_false] at hl; cases hl), fun t _ ht => getD_in (by simpa using ht) (getD_replicate_false _ _)⟩

/-- A region that draws its order, all of whose operations only extend the world. -/
theorem wp_region_rel {id : Nat} {Q : Exit → Act → World → Prop} {a : Act} {w : World} {l : List Oper} (sp : Nat → Option (SPred E)) (hm : P.follows .mixedOrders = true) (hB : Region.lexB .any l.toArray = true)
    (h : LexR P l.toArray w.drew sp (fun a' w' => Q .normal a' w') l 0 a []) : (Code.region id l.toArray true).wp P Q a w := by
  simp only [Region.lexB, Bool.and_eq_true] at hB
  have H := LexR.any (md := .any) (n := l.toArray.size) (B := fun listed => (Region.ready .any l.toArray listed).isEmpty) hB.1
    (fun i _ listed _ _ j hj => by obtain ⟨_, o, ho, _⟩ := mem_ready.1 hj; exact (Array.getElem?_eq_some_iff.1 ho).1)
    (fun listed hb j hj => by simp only [List.isEmpty_iff] at hb; rw [hb] at hj; cases hj)
    (fun f k listed => Region.lexFrom .any l.toArray f k listed) (fun listed hh => by simpa [Region.lexFrom] using hh)
    (fun f k listed hh => by simpa [Region.lexFrom] using hh) l 0 _ a [] (by simp) (by simp) (headInv0 l _) ⟨w.drew, E.refl _, fun p hp => by cases hp⟩ (by simpa using hB.2) h
  refine wp_region_any hm ?_
  have := AnyR.sound (Q := Q) (g := 0) (fun listed a' w' hL => (⟨by simpa using hL.1, hL.2⟩ : wpAny P .any l.toArray Q 0 listed a' w')) _ _ _ _ w.drew (E.refl _) (fun p hp => by cases hp) H
  simpa using this

/-- .. whose operations from number n on go one after another behind all others. -/
theorem wp_region_rel_tail {id : Nat} {Q : Exit → Act → World → Prop} {a : Act} {w : World} {l : List Oper} (n : Nat) (sp : Nat → Option (SPred E)) (hm : P.follows .mixedOrders = true) (hB : Region.lexTailB .any l.toArray n = true)
    (h : LexR P l.toArray w.drew sp (fun a' w' => wpList P l.toArray Q (l.drop n) a' w') (l.take n) 0 a []) : (Code.region id l.toArray true).wp P Q a w := by
  simp only [Region.lexTailB, Bool.and_eq_true, decide_eq_true_eq] at hB
  obtain ⟨⟨⟨⟨hsel, hn⟩, hs⟩, hc⟩, hlex⟩ := hB
  have hn' : n < l.length := by simpa using hn
  have htl : (l.take n).length = n := by simp; omega
  have hdl : (l.drop n).length = l.toArray.size - n := by simp
  have H := LexR.any (md := .any) (n := n) (B := fun listed => Region.seqB .any l.toArray (l.toArray.size - n) n listed) hsel
    (fun i hin listed inv hun j hj => by
      rcases Nat.lt_or_ge j n with h | h
      · exact h
      · exact absurd hj (tail_waits hs hc hn inv _ i rfl hin hun j h))
    (fun listed hb => seqB_ready hb)
    (fun f k listed => Region.lexHead .any l.toArray (l.toArray.size - n) f k listed) (fun listed hh => by simpa [Region.lexHead] using hh)
    (fun f k listed hh => by simpa [Region.lexHead] using hh) (l.take n) 0 _ a [] (fun j hj => by
      have hj' : j < n := by rw [htl] at hj; exact hj
      simp [hj']) (by simpa using htl) (headInv0 l _) ⟨w.drew, E.refl _, fun p hp => by cases hp⟩ (by rw [htl]; exact hlex) h
  refine wp_region_any hm ?_
  have := AnyR.sound (Q := Q) (g := l.toArray.size - n) (fun listed a' w' hL => by
    have := wpAny_of_seq (md := .any) (Q' := Q) (l.drop n) n listed a' w' (fun j => by simp [List.getElem?_drop]) (by rw [hdl]; exact hL.1) hL.2
    rwa [hdl] at this) _ _ _ _ w.drew (E.refl _) (fun p hp => by cases hp) H
  rw [htl, show n + (l.toArray.size - n) = l.toArray.size by omega] at this
  exact this
end

/-! ### The walk without the bookkeeping -/

/-- No temporary that is read is written twice ahead of its reader. -/
def ssaB (ops : Array Oper) : Bool :=
  (List.range ops.size).all fun k => (depsOf ops k).all fun p => (List.range k).all fun d => decide (d ≤ p.1) || ((ops[d]?).bind (·.dst)) != some p.2
def dstB (ops : Array Oper) (n : Nat) : Bool := ops.all fun o => match o.dst with | some d => decide (d < n) | none => true

section
variable {P : Program} {ops : Array Oper}

variable (P ops) in
def LexW (w0 : World) (sp : Nat → Option (SPred E)) (Q : Act → World → Prop) : List Oper → Nat → Act → List (Nat × Value) → Prop
  | [], _, a, env => ∀ w, E.r w0 w → Known sp env w → Q a w
  | o :: l, k, a, env => match sp k with
    | none => ∃ v, Sure E P ops w0 o a v ∧ LexW w0 sp Q l (k + 1) (a.put o.dst v) ((k, v) :: env)
    | some p => Region.wanted o (yielded ops a.tmps) = true ∧ (∀ w, E.r w0 w → Dep sp (depsOf ops k) a w → wpS P o a w fun v w' => E.r w w' ∧ p.holds v w') ∧
        ∀ v, (∃ w, p.holds v w) → LexW w0 sp Q l (k + 1) (a.put o.dst v) ((k, v) :: env)

structure LexInv (ops : Array Oper) (n k : Nat) (a : Act) (env : List (Nat × Value)) : Prop where
  size : a.tmps.size = n
  known : ∀ d t, d < k → (ops[d]?).bind (·.dst) = some t → (∀ d', d < d' → d' < k → (ops[d']?).bind (·.dst) ≠ some t) → (d, a.tmps.getD t undef) ∈ env

theorem LexInv.step {n k : Nat} {a : Act} {env : List (Nat × Value)} (h : LexInv ops n k a env) {o : Oper} (ho : ops[k]? = some o) (hd : dstB ops n = true) (v : Value) : LexInv ops n (k + 1) (a.put o.dst v) ((k, v) :: env) := by
  constructor
  · cases o.dst <;> simp [Act.put, h.size]
  · intro d t hdk hdt hno
    by_cases hdk' : d = k
    · subst hdk'
      simp only [ho, Option.bind_some] at hdt
      have hlt : t < n := by
        have := Array.all_eq_true_iff_forall_mem.1 hd o (Array.mem_of_getElem? ho)
        simpa [hdt] using this
      have : (a.put o.dst v).tmps.getD t undef = v := by
        rw [hdt]; simp [Act.put, h.size, hlt]
      rw [this]; exact List.mem_cons_self
    · have hd1 : d < k := by omega
      have hne : o.dst ≠ some t := by
        have := hno k hd1 (by omega)
        simpa [ho] using this
      rw [getD_put (fun d' he hdd => hne (by rw [he, hdd]))]
      exact List.mem_cons_of_mem _ (h.known d t hd1 hdt fun d' h1 h2 => hno d' h1 (by omega))

theorem depsOf_lt {i d : Nat} {t : Tmp} (h : (d, t) ∈ depsOf ops i) : d < i ∧ (ops[d]?).bind (·.dst) = some t := by
  unfold depsOf at h
  split at h
  · cases h
  · simp only [List.mem_filterMap, List.mem_range] at h
    obtain ⟨d', hd', hd⟩ := h
    split at hd
    · rename_i t' ht'
      split at hd
      · simp only [Option.some.injEq, Prod.mk.injEq] at hd
        obtain ⟨rfl, rfl⟩ := hd
        exact ⟨hd', ht'⟩
      · cases hd
    · cases hd

theorem LexW.lexR {w0 : World} {sp : Nat → Option (SPred E)} {Q : Act → World → Prop} {n : Nat} (hs : ssaB ops = true) (hd : dstB ops n = true) :
    ∀ (l : List Oper) (k : Nat) (a : Act) (env : List (Nat × Value)), (∀ j, j < l.length → l[j]? = ops[k + j]?) → LexInv ops n k a env → LexW P ops w0 sp Q l k a env → LexR P ops w0 sp Q l k a env
  | [], _, _, _, _, _, h => h
  | o :: l, k, a, env, hl, inv, h => by
    have ho : ops[k]? = some o := by simpa using (hl 0 (by simp)).symm
    have hks : k < ops.size := (Array.getElem?_eq_some_iff.1 ho).1
    have next : ∀ v, LexW P ops w0 sp Q l (k + 1) (a.put o.dst v) ((k, v) :: env) → LexR P ops w0 sp Q l (k + 1) (a.put o.dst v) ((k, v) :: env) := fun v hv =>
      LexW.lexR hs hd l (k + 1) _ _ (fun j hj => by have := hl (j + 1) (by simp; omega); simpa [Nat.add_assoc, Nat.add_comm 1 j] using this) (inv.step ho hd v) hv
    unfold LexW at h
    cases hp : sp k with
    | none =>
      rw [hp] at h
      obtain ⟨v, hv, hn⟩ := h
      refine ⟨by unfold Can; rw [hp]; exact ⟨v, hv⟩, fun v' hv' => ?_⟩
      unfold Res at hv'
      rw [hp] at hv'
      obtain rfl := hv.uniq hv'
      exact next _ hn
    | some p =>
      rw [hp] at h
      obtain ⟨hw, hr, hn⟩ := h
      refine ⟨by
        unfold Can
        rw [hp]
        refine ⟨hw, fun q hq => ?_, hr⟩
        obtain ⟨hlt, hdst⟩ := depsOf_lt (ops := ops) (i := k) (d := q.1) (t := q.2) hq
        refine inv.known q.1 q.2 hlt hdst fun d' h1 h2 hc => ?_
        have := List.all_eq_true.1 (List.all_eq_true.1 (List.all_eq_true.1 hs k (List.mem_range.2 hks)) q hq) d' (List.mem_range.2 h2)
        simp only [Bool.or_eq_true, decide_eq_true_eq, bne_iff_ne, ne_eq] at this
        rcases this with h3 | h3
        · omega
        · exact h3 hc, fun v hv => ?_⟩
      unfold Res at hv
      rw [hp] at hv
      obtain ⟨w, _, _, hv⟩ := hv
      exact next _ (hn v ⟨w, hv⟩)

theorem lexInv0 (n : Nat) (a : Act) (h : a.tmps.size = n) : LexInv ops n 0 a [] := ⟨h, fun _ _ h => absurd h (Nat.not_lt_zero _)⟩

/-- What is said of the values of some operations, by their numbers. -/
def spOf (sps : List (Nat × SPred E)) (k : Nat) : Option (SPred E) := sps.lookup k

theorem wp_region_lex {id : Nat} {Q : Exit → Act → World → Prop} {a : Act} {w : World} {l : List Oper} (sps : List (Nat × SPred E)) (hm : P.follows .mixedOrders = true)
    (hB : (Region.lexB .any l.toArray && ssaB l.toArray && dstB l.toArray a.tmps.size) = true)
    (h : LexW P l.toArray w.drew (spOf sps) (fun a' w' => Q .normal a' w') l 0 a []) : (Code.region id l.toArray true).wp P Q a w := by
  simp only [Bool.and_eq_true] at hB
  exact wp_region_rel (spOf sps) hm hB.1.1 (LexW.lexR hB.1.2 hB.2 l 0 a [] (by simp) (lexInv0 _ _ rfl) h)

theorem wp_region_lex_tail {id : Nat} {Q : Exit → Act → World → Prop} {a : Act} {w : World} {l : List Oper} (n : Nat) (sps : List (Nat × SPred E)) (hm : P.follows .mixedOrders = true)
    (hB : (Region.lexTailB .any l.toArray n && ssaB l.toArray && dstB l.toArray a.tmps.size) = true)
    (h : LexW P l.toArray w.drew (spOf sps) (fun a' w' => wpList P l.toArray Q (l.drop n) a' w') (l.take n) 0 a []) : (Code.region id l.toArray true).wp P Q a w := by
  simp only [Bool.and_eq_true] at hB
  exact wp_region_rel_tail n (spOf sps) hm hB.1.1 (LexW.lexR hB.1.2 hB.2 _ 0 a [] (fun j hj => by
    have : j < n := by simp at hj; omega
    simp [this]) (lexInv0 _ _ rfl) h)

section
variable {w0 : World} {sp : Nat → Option (SPred E)} {Q : Act → World → Prop} {o : Oper} {l : List Oper} {k : Nat} {a : Act} {env : List (Nat × Value)}

/-- An operation whose value is known and that leaves the world alone. -/
theorem LexW.pure {v : Value} (hsp : sp k = none) (hw : Region.wanted o (yielded ops a.tmps) = true) (hr : ∀ w, E.r w0 w → (execOp a.eval o).run P w = .ok (.value v) w)
    (h : LexW P ops w0 sp Q l (k + 1) (a.put o.dst v) ((k, v) :: env)) : LexW P ops w0 sp Q (o :: l) k a env := by
  unfold LexW; rw [hsp]; exact ⟨v, .inl ⟨hw, hr⟩, h⟩

theorem LexW.skip (hsp : sp k = none) (hw : Region.wanted o (yielded ops a.tmps) = false)
    (h : LexW P ops w0 sp Q l (k + 1) (a.put o.dst undef) ((k, undef) :: env)) : LexW P ops w0 sp Q (o :: l) k a env := by
  unfold LexW; rw [hsp]; exact ⟨undef, .inr ⟨hw, rfl⟩, h⟩

/-- A call whose value is known and that only extends the world. -/
theorem LexW.call {v : Value} {f : FuncId} {args : Array Value} (hsp : sp k = some (SPred.val v)) (hw : Region.wanted o (yielded ops a.tmps) = true) (hr : ∀ w, (execOp a.eval o).run P w = .ok (.enter f args) w)
    (hc : ∀ w, E.r w0 w → Dep sp (depsOf ops k) a w → Calls P f args w fun e w' => e = .returned v ∧ E.r w w')
    (h : LexW P ops w0 sp Q l (k + 1) (a.put o.dst v) ((k, v) :: env)) : LexW P ops w0 sp Q (o :: l) k a env := by
  unfold LexW; rw [hsp]
  refine ⟨hw, fun w he hd => ?_, fun v' ⟨w, hv⟩ => ?_⟩
  · unfold wpS; rw [hr w]; exact (hc w he hd).mono fun e w' ⟨h1, h2⟩ => ⟨v, h1, h2, rfl⟩
  · have hv' : v' = v := hv
    subst hv'
    exact h

/-- A call of whose value a predicate is known. -/
theorem LexW.callR {p : SPred E} {f : FuncId} {args : Array Value} (hsp : sp k = some p) (hw : Region.wanted o (yielded ops a.tmps) = true) (hr : ∀ w, (execOp a.eval o).run P w = .ok (.enter f args) w)
    (hc : ∀ w, E.r w0 w → Dep sp (depsOf ops k) a w → Calls P f args w fun e w' => ∃ v, e = .returned v ∧ E.r w w' ∧ p.holds v w')
    (h : ∀ v, (∃ w, p.holds v w) → LexW P ops w0 sp Q l (k + 1) (a.put o.dst v) ((k, v) :: env)) : LexW P ops w0 sp Q (o :: l) k a env := by
  unfold LexW; rw [hsp]
  exact ⟨hw, fun w he hd => by unfold wpS; rw [hr w]; exact hc w he hd, h⟩

/-- Any other operation, of whose value a predicate is known. -/
theorem LexW.rel {p : SPred E} (hsp : sp k = some p) (hw : Region.wanted o (yielded ops a.tmps) = true)
    (hr : ∀ w, E.r w0 w → Dep sp (depsOf ops k) a w → ∃ v w', (execOp a.eval o).run P w = .ok (.value v) w' ∧ E.r w w' ∧ p.holds v w')
    (h : ∀ v, (∃ w, p.holds v w) → LexW P ops w0 sp Q l (k + 1) (a.put o.dst v) ((k, v) :: env)) : LexW P ops w0 sp Q (o :: l) k a env := by
  unfold LexW; rw [hsp]
  exact ⟨hw, fun w he hd => by obtain ⟨v, w', h1, h2⟩ := hr w he hd; unfold wpS; rw [h1]; exact h2, h⟩

theorem LexW.nil (h : ∀ w, E.r w0 w → Known sp env w → Q a w) : LexW P ops w0 sp Q [] k a env := h

end
end

end Go.Proofs.YtcocbainookkcaaGreat.Chg

/-
  Sources of drawn numbers: what is known of them in memory, and what a draw leaves of the world.
  No condition.
-/
namespace Go.Proofs.YtcocbainookkcaaGreat
set_option maxRecDepth 100000
open Go.RowKit

/-- A source: its block, and the slice of its code. -/
structure SrcP where
  g : Nat
  ca : Option Addr
  n : Nat
  cap : Nat

/-- n bytes that can be read, apart from a block. -/
def RdB (w : World) (g : Nat) (ca : Option Addr) (n : Nat) : Prop :=
  ∀ i, i < n → ∃ b off, ∃ z : Int, ca = some ⟨b, off, none⟩ ∧ b ≠ g ∧ w.cell? ⟨b, off + i, none⟩ = some (.int .u8 z) ∧ 0 ≤ z ∧ z ≤ 255

structure Src (S : SrcP) (w : World) : Prop where
  len : S.n ≤ 4096
  c0 : w.cell? ⟨S.g, 0, none⟩ = some (.slice S.ca S.n S.cap)
  c1 : ∃ t : Nat, t ≤ S.n ∧ w.cell? ⟨S.g, 1, none⟩ = some (.int .i64 t)
  c2 : ∃ h : Int, w.cell? ⟨S.g, 2, none⟩ = some (.int .u64 h)
  fz : ∀ j, w.frozen? ⟨S.g, j, none⟩ = false
  rd : RdB w S.g S.ca S.n

theorem Src.lt {S : SrcP} {w : World} (h : Src S w) : S.g < w.heap.size := lt_of_cell h.c0

/-- All blocks but the source's are as they were, and the source is one still. -/
structure Drw (S : SrcP) (w w' : World) : Prop where
  os : w'.os = w.os
  tape : w'.tape = w.tape
  output : w'.output = w.output
  size : w.heap.size ≤ w'.heap.size
  block : ∀ k, k < w.heap.size → k ≠ S.g → w'.heap[k]? = w.heap[k]?
  src : Src S w → Src S w'

theorem Drw.refl (S : SrcP) (w : World) : Drw S w w := ⟨rfl, rfl, rfl, Nat.le_refl _, fun _ _ _ => rfl, id⟩
theorem Drw.trans {S : SrcP} {a b c : World} (h : Drw S a b) (k : Drw S b c) : Drw S a c :=
  ⟨k.os.trans h.os, k.tape.trans h.tape, k.output.trans h.output, Nat.le_trans h.size k.size, fun i hi hg => (k.block i (Nat.lt_of_lt_of_le hi h.size) hg).trans (h.block i hi hg), fun hs => k.src (h.src hs)⟩

theorem RdB.block {w w' : World} {g n : Nat} {ca : Option Addr} (h : RdB w g ca n) (hb : ∀ k, k < w.heap.size → k ≠ g → w'.heap[k]? = w.heap[k]?) : RdB w' g ca n := fun i hi => by
  obtain ⟨b, off, z, h1, h2, h3, h4⟩ := h i hi
  exact ⟨b, off, z, h1, h2, by rw [World.cell?_of_block (w := w) (hb b (lt_of_cell h3) h2)]; exact h3, h4⟩

/-- What lies below the first world's size is left alone afterwards. -/
theorem Drw.below {S : SrcP} {W w w' : World} (h : Drw S W w) (k : Below W.heap.size w w') : Drw S W w' := by
  refine ⟨k.os.trans h.os, k.tape.trans h.tape, k.output.trans h.output, Nat.le_trans h.size k.size, fun i hi hg => (k.block i hi).trans (h.block i hi hg), fun hs => ?_⟩
  have hw := h.src hs
  have hg := k.block S.g hs.lt
  refine ⟨hw.len, ?_, ?_, ?_, fun j => ?_, fun i hi => ?_⟩
  · rw [World.cell?_of_block (w := w) hg]; exact hw.c0
  · obtain ⟨t, ht, hc⟩ := hw.c1
    exact ⟨t, ht, by rw [World.cell?_of_block (w := w) hg]; exact hc⟩
  · obtain ⟨t, hc⟩ := hw.c2
    exact ⟨t, by rw [World.cell?_of_block (w := w) hg]; exact hc⟩
  · rw [World.frozen?_of_block (w := w) hg]; exact hw.fz j
  · obtain ⟨b, off, z, h1, h2, h3, h4⟩ := hs.rd i hi
    have hb := lt_of_cell h3
    exact ⟨b, off, z, h1, h2, by rw [World.cell?_of_block (w := w) (k.block b hb), World.cell?_of_block (w := W) (h.block b hb h2)]; exact h3, h4⟩

theorem Drw.of_ext {S : SrcP} {w w' : World} (h : Ext w w') : Drw S w w' := (Drw.refl S w).below h
theorem Drw.ext {S : SrcP} {W w w' : World} (h : Drw S W w) (k : Ext w w') : Drw S W w' := h.below (Below.mono k h.size)
theorem Drw.alloc {S : SrcP} {W w : World} (h : Drw S W w) (o : Obj) : Drw S W (w.alloc o) := h.ext (ext_alloc _ _)
theorem Drw.drew {S : SrcP} {W w : World} (h : Drw S W w) : Drw S W w.drew := h.ext (ext_drew _)
theorem Drw.setCell {S : SrcP} {W w : World} (h : Drw S W w) {p : Addr} (hp : W.heap.size ≤ p.block) (u : Value) : Drw S W (w.setCell p u) := h.below ((Below.refl _ _).setCell hp u)
theorem Drw.grown {S : SrcP} {W w w' : World} {row : Option Nat} (h : Drw S W w) (hg : w.grownBy w' row) (hr : ∀ k, row = some k → W.heap.size ≤ k) : Drw S W w' := h.below ((Below.refl _ _).grown hg h.size hr)
theorem Drw.cell {S : SrcP} {w w' : World} (h : Drw S w w') {p : Addr} {v : Value} (hp : p.block ≠ S.g) (hc : w.cell? p = some v) : w'.cell? p = some v := by
  rw [World.cell?_of_block (w := w) (h.block p.block (lt_of_cell hc) hp)]; exact hc
theorem Drw.frz {S : SrcP} {w w' : World} (h : Drw S w w') {p : Addr} (hl : p.block < w.heap.size) (hp : p.block ≠ S.g) : w'.frozen? p = w.frozen? p :=
  World.frozen?_of_block (w := w) (h.block p.block hl hp)
theorem Drw.own {S : SrcP} {B : Nat} {w w' : World} {a : Option Addr} {n cap : Nat} {xs : List Int} (h : Drw S w w') (ho : OwnC B w a n cap xs) (hB : S.g < B) : OwnC B w' a n cap xs :=
  ho.keep fun g hg => by
    have := ho.base_of g hg
    exact h.block g this.2 (by omega)
/-- A draw behind the making of the source. -/
theorem Drw.toExt {S : SrcP} {W w w' : World} (h : Drw S w w') (he : Ext W w) (hg : W.heap.size ≤ S.g) : Ext W w' :=
  he.trans' ⟨h.os, h.tape, h.output, h.size, fun k hk => h.block k (Nat.lt_of_lt_of_le hk he.size) (by omega)⟩

/-- As a relation for walks. -/
def Drw.rel (S : SrcP) : Chg.Rel := ⟨Drw S, Drw.refl S, Drw.trans⟩

def NextR (n r : Int) : Prop := (n < 1 → r = 0) ∧ (1 ≤ n → 0 ≤ r ∧ r < n)

theorem src_set {S : SrcP} {w : World} (h : Src S w) {j : Nat} {v : Value} (h0 : j = 1 → ∃ t : Nat, t ≤ S.n ∧ v = .int .i64 t) (h1 : j = 2 → ∃ x, v = .int .u64 x) (hj : j = 1 ∨ j = 2) : Drw S w (w.setCell ⟨S.g, j, none⟩ v) := by
  have hb : ∀ k, k < w.heap.size → k ≠ S.g → (w.setCell ⟨S.g, j, none⟩ v).heap[k]? = w.heap[k]? := fun k _ hk => Below.heap_setCell _ _ _ _ hk
  refine ⟨rfl, rfl, rfl, by simp [World.setCell], hb, fun hs => ?_⟩
  obtain ⟨t, ht, c1⟩ := h.c1
  obtain ⟨x, c2⟩ := h.c2
  have c0 := h.c0
  rcases hj with rfl | rfl
  · obtain ⟨t', ht', rfl⟩ := h0 rfl
    exact ⟨h.len, by go_simp, ⟨t', ht', by go_simp⟩, ⟨x, by go_simp⟩, fun i => by have := h.fz i; go_simp, h.rd.block hb⟩
  · obtain ⟨x', rfl⟩ := h1 rfl
    exact ⟨h.len, by go_simp, ⟨t, ht, by go_simp⟩, ⟨x', by go_simp⟩, fun i => by have := h.fz i; go_simp, h.rd.block hb⟩

theorem src_h {S : SrcP} {w : World} (h : Src S w) (x : Int) : Drw S w (w.setCell ⟨S.g, 2, none⟩ (.int .u64 x)) := src_set h (fun h => by omega) (fun _ => ⟨x, rfl⟩) (.inr rfl)
theorem u64_bd (E : Int) : 0 ≤ IntKind.u64.wrap E ∧ IntKind.u64.wrap E ≤ 18446744073709551615 := by
  simp [IntKind.wrap, IntKind.bits, IntKind.signed]; omega
theorem draw_bd (E : Int) : ∃ x : Int, wrap64 (bits BinOp.and IntKind.u64 (IntKind.u64.wrap E / 8589934592) 16777215) = x ∧ 0 ≤ x ∧ x ≤ 16777215 := by
  refine ⟨_, rfl, ?_⟩
  have h := u64_bd E
  obtain ⟨A, hA⟩ : ∃ A : Nat, IntKind.u64.wrap E / 8589934592 = (A : Int) := ⟨(IntKind.u64.wrap E / 8589934592).toNat, by omega⟩
  rw [hA, show (16777215 : Int) = ((16777215 : Nat) : Int) from rfl, bits_and_u64_nat _ _ (by omega) (by omega)]
  have h2 : A &&& 16777215 ≤ 16777215 := Nat.and_le_right
  have h3 : wrap64 ((A &&& 16777215 : Nat) : Int) = ((A &&& 16777215 : Nat) : Int) := by unfold wrap64; omega
  rw [h3]
  omega
theorem next_of {n x : Int} (h : ¬ n < 1) (_h0 : 0 ≤ x) : NextR n (x % n) := ⟨fun h' => absurd h' h, fun _ => ⟨Int.emod_nonneg _ (by omega), Int.emod_lt_of_pos _ (by omega)⟩⟩

set_option maxHeartbeats 1000000 in
theorem s_next (S : SrcP) (n : Int) (w : World) (hS : Src S w) (hn : n ≤ 9223372036854775807) :
    Calls Tryz.prog 44 #[.pointer (some ⟨S.g, 0, none⟩), .int .i64 n] w fun e w' => ∃ r, e = .returned (.int .i64 r) ∧ NextR n r ∧ Drw S w w' := by
  by_cases h1 : n < 1
  · go_enter Tryz.func44, Tryz.ntmps44
    go_wp2_with (fail)
    go_ret
    exact ⟨0, rfl, ⟨fun _ => rfl, fun h => by omega⟩, Drw.refl _ _⟩
  · obtain ⟨t, ht, c1⟩ := hS.c1
    obtain ⟨h, c2⟩ := hS.c2
    have c0 := hS.c0
    have f2 := hS.fz 2
    obtain ⟨x, hx, hx0, hx1⟩ := draw_bd (IntKind.u64.wrap (h * 6364136223846793005) + 1442695040888963407)
    obtain ⟨V, hV⟩ : ∃ V, V = Value.int IntKind.u64 (IntKind.u64.wrap (IntKind.u64.wrap (h * 6364136223846793005) + 1442695040888963407)) := ⟨_, rfl⟩
    obtain ⟨W, hW⟩ : ∃ W, W = w.setCell ⟨S.g, 2, none⟩ V := ⟨_, rfl⟩
    have D1 : Drw S w W := by rw [hW]; exact src_set hS (fun h => by omega) (fun _ => ⟨_, hV⟩) (.inr rfl)
    have e0 : W.cell? ⟨S.g, 0, none⟩ = some (.slice S.ca S.n S.cap) := by rw [hW]; go_simp
    have e1 : W.cell? ⟨S.g, 1, none⟩ = some (.int .i64 t) := by rw [hW]; go_simp
    have hS1 := D1.src hS
    have HS := Lib.hid hS1
    have HD := Lib.hid D1
    have HX := Lib.hid hx
    have HW := Lib.hid (by rw [hW, hV] : W = w.setCell ⟨S.g, 2, none⟩ (Value.int IntKind.u64 (IntKind.u64.wrap (IntKind.u64.wrap (h * 6364136223846793005) + 1442695040888963407))))
    have f1 := hS1.fz 1
    have hl := hS1.len
    clear hS hx D1 hS1 hW hV
    by_cases h2 : t < S.n
    · obtain ⟨b, off, z, hca, hbg, hcb, hz0, hz1⟩ := HS.out.rd t h2
      have E0 := Lib.hid ((ext_drew W).cell e0)
      have E1 := Lib.hid ((ext_drew W).cell e1)
      have EB := Lib.hid ((ext_drew W).cell hcb)
      have hnn : (n == 0) = false := by simp; omega
      rw [hca] at E0
      have HR := Lib.hid (next_of (n := n) (x := x + z) h1 (by omega))
      go_enter Tryz.func44, Tryz.ntmps44
      go_wp2_with (fail)
      rw [HX.out, ← HW.out]
      clear c0 c1 c2 f2 e0 hcb
      refine wp_region_lex [] (by kernel_rfl) (by kernel_rfl) ?_
      repeat' first | (refine LexW.pure (v := ?_) rfl rfl (fun w1 he => ?_) ?_; rotate_left; ( have x0 := he.cell E0.out; have x1 := he.cell E1.out; go_simp; rfl); simp only [Act.put, List.setIfInBounds_toArray, List.set_cons_zero, List.set_cons_succ])
      refine LexW.nil (fun w2 he hk => ?_)
      have X2 := Lib.hid ((ext_drew W).trans he)
      have F1 := Lib.hid ((ext_drew w2).cell (he.cell E0.out))
      have F2 := Lib.hid ((ext_drew w2).cell (he.cell E1.out))
      have F3 := Lib.hid ((ext_drew w2).cell (he.cell EB.out))
      clear he hk
      go_wp2_with (fail)
      refine wp_region_lex [] (by kernel_rfl) (by kernel_rfl) ?_
      repeat' first | (refine LexW.pure (v := ?_) rfl rfl (fun w1 he => ?_) ?_; rotate_left; ( have x0 := he.cell F1.out; have x1 := he.cell F2.out; have x2 := he.cell F3.out; go_simp; rfl); simp only [Act.put, List.setIfInBounds_toArray, List.set_cons_zero, List.set_cons_succ])
      refine LexW.nil (fun w3 he hk => ?_)
      have X3 := Lib.hid (X2.out.trans ((ext_drew w2).trans he))
      have y1 := he.cell F2.out
      have fz1 : w3.frozen? ⟨S.g, 1, none⟩ = false := by rw [X3.out.frz _ _ HS.out.lt]; exact f1
      clear he hk
      go_wp2_with (fail)
      go_ret
      refine ⟨_, rfl, ?_, ?_⟩
      · skip
        exact HR.out
      · have hS3 := (Drw.of_ext X3.out).src HS.out
        exact (HD.out.ext X3.out).trans (src_set hS3 (fun _ => ⟨t + 1, by omega, by go_num⟩) (fun h => by omega) (.inl rfl))
    · have E0 := Lib.hid ((ext_drew W).cell e0)
      have E1 := Lib.hid ((ext_drew W).cell e1)
      have hnn : (n == 0) = false := by simp; omega
      have HR := Lib.hid (next_of (n := n) (x := x) h1 (by omega))
      go_enter Tryz.func44, Tryz.ntmps44
      go_wp2_with (fail)
      rw [HX.out, ← HW.out]
      clear c0 c1 c2 f2 e0
      refine wp_region_lex [] (by kernel_rfl) (by kernel_rfl) ?_
      repeat' first | (refine LexW.pure (v := ?_) rfl rfl (fun w1 he => ?_) ?_; rotate_left; ( have x0 := he.cell E0.out; have x1 := he.cell E1.out; go_simp; rfl); simp only [Act.put, List.setIfInBounds_toArray, List.set_cons_zero, List.set_cons_succ])
      refine LexW.nil (fun w2 he hk => ?_)
      have X2 := Lib.hid ((ext_drew W).trans he)
      clear he hk
      go_wp2_with (fail)
      go_ret
      exact ⟨_, rfl, HR.out, HD.out.ext X2.out⟩
set_option maxHeartbeats 1000000 in
theorem l_below (S : SrcP) (n : Int) (w : World) (hS : Src S w) (hn : n ≤ 9223372036854775807) :
    Calls Tryz.prog 18 #[.pointer (some ⟨S.g, 0, none⟩), .int .i64 n] w fun e w' => ∃ r, e = .returned (.int .i64 r) ∧ NextR n r ∧ Drw S w w' := by
  by_cases h1 : n < 1
  · go_enter Tryz.func18, Tryz.ntmps18
    go_wp2_with (fail)
    go_ret
    exact ⟨0, rfl, ⟨fun _ => rfl, fun h => by omega⟩, Drw.refl _ _⟩
  · obtain ⟨t, ht, c1⟩ := hS.c1
    obtain ⟨h, c2⟩ := hS.c2
    have c0 := hS.c0
    have f2 := hS.fz 2
    obtain ⟨x, hx, hx0, hx1⟩ := draw_bd (IntKind.u64.wrap (h * 6364136223846793005) + 1442695040888963407)
    obtain ⟨V, hV⟩ : ∃ V, V = Value.int IntKind.u64 (IntKind.u64.wrap (IntKind.u64.wrap (h * 6364136223846793005) + 1442695040888963407)) := ⟨_, rfl⟩
    obtain ⟨W, hW⟩ : ∃ W, W = w.setCell ⟨S.g, 2, none⟩ V := ⟨_, rfl⟩
    have D1 : Drw S w W := by rw [hW]; exact src_set hS (fun h => by omega) (fun _ => ⟨_, hV⟩) (.inr rfl)
    have e0 : W.cell? ⟨S.g, 0, none⟩ = some (.slice S.ca S.n S.cap) := by rw [hW]; go_simp
    have e1 : W.cell? ⟨S.g, 1, none⟩ = some (.int .i64 t) := by rw [hW]; go_simp
    have hS1 := D1.src hS
    have HS := Lib.hid hS1
    have HD := Lib.hid D1
    have HX := Lib.hid hx
    have HW := Lib.hid (by rw [hW, hV] : W = w.setCell ⟨S.g, 2, none⟩ (Value.int IntKind.u64 (IntKind.u64.wrap (IntKind.u64.wrap (h * 6364136223846793005) + 1442695040888963407))))
    have f1 := hS1.fz 1
    have hl := hS1.len
    clear hS hx D1 hS1 hW hV
    by_cases h2 : t < S.n
    · obtain ⟨b, off, z, hca, hbg, hcb, hz0, hz1⟩ := HS.out.rd t h2
      have E0 := Lib.hid ((ext_drew W).cell e0)
      have E1 := Lib.hid ((ext_drew W).cell e1)
      have EB := Lib.hid ((ext_drew W).cell hcb)
      have hnn : (n == 0) = false := by simp; omega
      rw [hca] at E0
      have HR := Lib.hid (next_of (n := n) (x := x + z) h1 (by omega))
      go_enter Tryz.func18, Tryz.ntmps18
      go_wp2_with (fail)
      rw [HX.out, ← HW.out]
      clear c0 c1 c2 f2 e0 hcb
      refine wp_region_lex [] (by kernel_rfl) (by kernel_rfl) ?_
      repeat' first | (refine LexW.pure (v := ?_) rfl rfl (fun w1 he => ?_) ?_; rotate_left; ( have x0 := he.cell E0.out; have x1 := he.cell E1.out; go_simp; rfl); simp only [Act.put, List.setIfInBounds_toArray, List.set_cons_zero, List.set_cons_succ])
      refine LexW.nil (fun w2 he hk => ?_)
      have X2 := Lib.hid ((ext_drew W).trans he)
      have F1 := Lib.hid ((ext_drew w2).cell (he.cell E0.out))
      have F2 := Lib.hid ((ext_drew w2).cell (he.cell E1.out))
      have F3 := Lib.hid ((ext_drew w2).cell (he.cell EB.out))
      clear he hk
      go_wp2_with (fail)
      refine wp_region_lex [] (by kernel_rfl) (by kernel_rfl) ?_
      repeat' first | (refine LexW.pure (v := ?_) rfl rfl (fun w1 he => ?_) ?_; rotate_left; ( have x0 := he.cell F1.out; have x1 := he.cell F2.out; have x2 := he.cell F3.out; go_simp; rfl); simp only [Act.put, List.setIfInBounds_toArray, List.set_cons_zero, List.set_cons_succ])
      refine LexW.nil (fun w3 he hk => ?_)
      have X3 := Lib.hid (X2.out.trans ((ext_drew w2).trans he))
      have y1 := he.cell F2.out
      have fz1 : w3.frozen? ⟨S.g, 1, none⟩ = false := by rw [X3.out.frz _ _ HS.out.lt]; exact f1
      clear he hk
      go_wp2_with (fail)
      go_ret
      refine ⟨_, rfl, ?_, ?_⟩
      · skip
        exact HR.out
      · have hS3 := (Drw.of_ext X3.out).src HS.out
        exact (HD.out.ext X3.out).trans (src_set hS3 (fun _ => ⟨t + 1, by omega, by go_num⟩) (fun h => by omega) (.inl rfl))
    · have E0 := Lib.hid ((ext_drew W).cell e0)
      have E1 := Lib.hid ((ext_drew W).cell e1)
      have hnn : (n == 0) = false := by simp; omega
      have HR := Lib.hid (next_of (n := n) (x := x) h1 (by omega))
      go_enter Tryz.func18, Tryz.ntmps18
      go_wp2_with (fail)
      rw [HX.out, ← HW.out]
      clear c0 c1 c2 f2 e0
      refine wp_region_lex [] (by kernel_rfl) (by kernel_rfl) ?_
      repeat' first | (refine LexW.pure (v := ?_) rfl rfl (fun w1 he => ?_) ?_; rotate_left; ( have x0 := he.cell E0.out; have x1 := he.cell E1.out; go_simp; rfl); simp only [Act.put, List.setIfInBounds_toArray, List.set_cons_zero, List.set_cons_succ])
      refine LexW.nil (fun w2 he hk => ?_)
      have X2 := Lib.hid ((ext_drew W).trans he)
      clear he hk
      go_wp2_with (fail)
      go_ret
      exact ⟨_, rfl, HR.out, HD.out.ext X2.out⟩


/-- n bytes that can be read. -/
def RdY (w : World) (ca : Option Addr) (n : Nat) : Prop :=
  ∀ i, i < n → ∃ b off, ∃ z : Int, ca = some ⟨b, off, none⟩ ∧ w.cell? ⟨b, off + i, none⟩ = some (.int .u8 z) ∧ 0 ≤ z ∧ z ≤ 255
theorem RdY.ext {w w' : World} {ca : Option Addr} {n : Nat} (h : RdY w ca n) (he : Ext w w') : RdY w' ca n := fun i hi => by
  obtain ⟨b, off, z, h1, h2, h3⟩ := h i hi
  exact ⟨b, off, z, h1, he.cell h2, h3⟩

set_option maxHeartbeats 1000000 in
theorem s_from (ca : Option Addr) (n cap : Nat) (w : World) (hn : n ≤ 4096) (hb : RdY w ca n) :
    Calls Tryz.prog 19 #[.slice ca n cap] w fun e w' => ∃ g, e = .returned (.pointer (some ⟨g, 0, none⟩)) ∧ w.heap.size ≤ g ∧ Src ⟨g, ca, n, cap⟩ w' ∧ Ext w w' := by
  obtain ⟨g, hg⟩ : ∃ g, g = w.heap.size := ⟨_, rfl⟩
  have HG := Lib.hid hg
  have HB := Lib.hid hb
  clear hb
  go_enter Tryz.func19, Tryz.ntmps19
  go_wp2_with (fail)
  rw [← hg]
  go_loopw [4] (fun i wr => ∃ (k : Nat), k ≤ n ∧ i = .int .i64 k ∧ Src ⟨g, ca, n, cap⟩ wr ∧ Ext w wr) (fun i _ => n - (intOf i).toNat)
  case atStart =>
    refine ⟨0, Nat.zero_le _, rfl, ?_, ext_alloc _ _⟩
    refine ⟨hn, by rw [HG.out]; simp, ⟨0, Nat.zero_le _, by rw [HG.out]; simp⟩, ⟨_, by rw [HG.out]; simp; rfl⟩, fun j => by rw [HG.out]; simp, fun i hi => ?_⟩
    obtain ⟨b, off, z, h1, h2, h3⟩ := HB.out i hi
    exact ⟨b, off, z, h1, by have := lt_of_cell h2; have := HG.out; dsimp only at *; omega, (ext_alloc _ _).cell h2, h3⟩
  case round =>
    obtain ⟨k, hk, rfl, hS, hext⟩ := hrel
    have HS := Lib.hid hS
    have HE := Lib.hid hext
    clear hext hg
    by_cases hlt : k < n
    · obtain ⟨h, c2⟩ := hS.c2
      obtain ⟨b, off, z, rfl, hbg, hc, hz0, hz1⟩ := hS.rd k hlt
      have C2 := Lib.hid ((ext_drew _).cell c2)
      have CB := Lib.hid ((ext_drew _).cell hc)
      have hk6 : k < 4096 := by omega
      clear hS c2 hc
      go_wp2_with (fail)
      refine wp_region_lex_tail 15 [] (by kernel_rfl) (by kernel_rfl) ?_
      simp only [List.take, List.drop]
      repeat' first | (refine LexW.pure (v := ?_) rfl rfl (fun w1 he => ?_) ?_; rotate_left; ( have x0 := he.cell C2.out; have x1 := he.cell CB.out; go_simp; rfl); simp only [Act.put, List.setIfInBounds_toArray, List.set_cons_zero, List.set_cons_succ])
      refine LexW.nil (fun w2 he hkn => ?_)
      have X2 := Lib.hid ((ext_drew _).trans he)
      have hS2 := (Drw.of_ext X2.out).src HS.out
      have fz := hS2.fz 2
      have c2 := he.cell C2.out
      have HS2 := Lib.hid hS2
      clear he hkn hS2
      go_wp2_with (fail)
      go_roundw
      case rel =>
        exact ⟨k + 1, by omega, by go_num, (src_h HS2.out _).src HS2.out, (src_h HS2.out _).toExt (HE.out.trans X2.out) (by have := HG.out; dsimp only; omega)⟩
      case measure => simp [intOf]; omega
    · go_wp2_with (fail)
      go_ret
      exact ⟨g, rfl, by have := HG.out; omega, HS.out, HE.out⟩
set_option maxHeartbeats 1000000 in
theorem l_roll (ca : Option Addr) (n cap : Nat) (sd : Int) (w : World) (hn : n ≤ 4096) (hb : RdY w ca n) :
    Calls Tryz.prog 17 #[.slice ca n cap, .int .u64 sd] w fun e w' => ∃ g, e = .returned (.pointer (some ⟨g, 0, none⟩)) ∧ w.heap.size ≤ g ∧ Src ⟨g, ca, n, cap⟩ w' ∧ Ext w w' := by
  obtain ⟨g, hg⟩ : ∃ g, g = w.heap.size := ⟨_, rfl⟩
  have HG := Lib.hid hg
  have HB := Lib.hid hb
  clear hb
  go_enter Tryz.func17, Tryz.ntmps17
  go_wp2_with (fail)
  rw [← hg]
  go_loopw [6] (fun i wr => ∃ (k : Nat), k ≤ n ∧ i = .int .i64 k ∧ Src ⟨g, ca, n, cap⟩ wr ∧ Ext w wr) (fun i _ => n - (intOf i).toNat)
  case atStart =>
    refine ⟨0, Nat.zero_le _, rfl, ?_, ext_alloc _ _⟩
    refine ⟨hn, by rw [HG.out]; simp, ⟨0, Nat.zero_le _, by rw [HG.out]; simp⟩, ⟨_, by rw [HG.out]; simp; rfl⟩, fun j => by rw [HG.out]; simp, fun i hi => ?_⟩
    obtain ⟨b, off, z, h1, h2, h3⟩ := HB.out i hi
    exact ⟨b, off, z, h1, by have := lt_of_cell h2; have := HG.out; dsimp only at *; omega, (ext_alloc _ _).cell h2, h3⟩
  case round =>
    obtain ⟨k, hk, rfl, hS, hext⟩ := hrel
    have HS := Lib.hid hS
    have HE := Lib.hid hext
    clear hext hg
    by_cases hlt : k < n
    · obtain ⟨h, c2⟩ := hS.c2
      obtain ⟨b, off, z, rfl, hbg, hc, hz0, hz1⟩ := hS.rd k hlt
      have C2 := Lib.hid ((ext_drew _).cell c2)
      have CB := Lib.hid ((ext_drew _).cell hc)
      have hk6 : k < 4096 := by omega
      clear hS c2 hc
      go_wp2_with (fail)
      refine wp_region_lex_tail 15 [] (by kernel_rfl) (by kernel_rfl) ?_
      simp only [List.take, List.drop]
      repeat' first | (refine LexW.pure (v := ?_) rfl rfl (fun w1 he => ?_) ?_; rotate_left; ( have x0 := he.cell C2.out; have x1 := he.cell CB.out; go_simp; rfl); simp only [Act.put, List.setIfInBounds_toArray, List.set_cons_zero, List.set_cons_succ])
      refine LexW.nil (fun w2 he hkn => ?_)
      have X2 := Lib.hid ((ext_drew _).trans he)
      have hS2 := (Drw.of_ext X2.out).src HS.out
      have fz := hS2.fz 2
      have c2 := he.cell C2.out
      have HS2 := Lib.hid hS2
      clear he hkn hS2
      go_wp2_with (fail)
      go_roundw
      case rel =>
        exact ⟨k + 1, by omega, by go_num, (src_h HS2.out _).src HS2.out, (src_h HS2.out _).toExt (HE.out.trans X2.out) (by have := HG.out; dsimp only; omega)⟩
      case measure => simp [intOf]; omega
    · go_wp2_with (fail)
      go_ret
      exact ⟨g, rfl, by have := HG.out; omega, HS.out, HE.out⟩
end Go.Proofs.YtcocbainookkcaaGreat
