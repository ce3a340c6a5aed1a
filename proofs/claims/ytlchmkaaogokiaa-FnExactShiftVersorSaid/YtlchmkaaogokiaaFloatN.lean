/-
  A region of which some operations may be carried out at any time while an invariant of the worlds holds: they are carried out first; all others go one after another and may write.
  No condition. General over every program.
-/
import Derived.Test.YtlchmkaaogokiaaFloat2
namespace Go.Proofs.Ytlchmkaaogokiaa
set_option maxRecDepth 100000
open Go.RowKit

def Region.floatsB (md : Region.Mode) (ops : Array Oper) : List Nat → Array Bool → Bool
  | [], _ => true
  | i :: l, listed => (Region.ready md ops listed).contains i && Region.free md ops listed i && Region.floatsB md ops l (listed.setIfInBounds i true)
def Region.marked : List Nat → Array Bool → Array Bool
  | [], listed => listed
  | i :: l, listed => Region.marked l (listed.setIfInBounds i true)
def Region.seqL (md : Region.Mode) (ops : Array Oper) : List Nat → Array Bool → Bool
  | [], listed => decide (Region.ready md ops listed = [])
  | i :: l, listed => decide (Region.ready md ops listed = [i]) && Region.seqL md ops l (listed.setIfInBounds i true)
def Region.floatN (ops : Array Oper) (fl rest : List Nat) : Bool :=
  Region.noSelect ops && Region.floatsB .any ops fl (Array.replicate ops.size false) && Region.seqL .any ops rest (Region.marked fl (Array.replicate ops.size false)) && decide (fl.length + rest.length = ops.size)

section
variable {P : Program} {ops : Array Oper} {md : Region.Mode} {Q : Exit → Act → World → Prop} {I : World → Prop}

variable (P ops I) in
/-- The floating operations yield these values, one after another, wherever the invariant holds. -/
def FloatW : List (Nat × Value) → Act → (Act → Prop) → Prop
  | [], a, K => K a
  | (i, v) :: l, a, K => ∃ o, ops[i]? = some o ∧ YieldsI P ops I o v a ∧ FloatW l (a.put o.dst v) K
theorem FloatW.cons {i : Nat} {v : Value} {l : List (Nat × Value)} {a : Act} {K : Act → Prop} {o : Oper} (t : Option Tmp) (ho : ops[i]? = some o) (ht : o.dst = t) (hw : Region.wanted o (yielded ops a.tmps) = true) (hy : ∀ w, I w → (execOp a.eval o).run P w = .ok (.value v) w) (h : FloatW P ops I l (a.put t v) K) : FloatW P ops I ((i, v) :: l) a K := ⟨o, ho, ⟨hw, hy⟩, by rw [ht]; exact h⟩

variable (P ops Q I) in
/-- These operations one after another. -/
def wpSeqI : List Nat → Act → World → Prop
  | [], a, w => I w ∧ Q .normal a w
  | i :: l, a, w => I w ∧ ∃ o, ops[i]? = some o ∧ Region.wanted o (yielded ops a.tmps) = true ∧ o.wp P a w (wpSeqI l) Q
theorem wpSeqI.value {i : Nat} {o : Oper} {l : List Nat} {a : Act} {w w' : World} {v : Value} (t : Option Tmp) (hI : I w) (ho : ops[i]? = some o) (ht : o.dst = t) (hw : Region.wanted o (yielded ops a.tmps) = true) (hr : (execOp a.eval o).run P w = .ok (.value v) w') (h : wpSeqI P ops Q I l (a.put t v) w') : wpSeqI P ops Q I (i :: l) a w :=
  ⟨hI, o, ho, hw, by unfold Oper.wp; rw [hr]; subst ht; exact h⟩
theorem wpSeqI.skip {i : Nat} {o : Oper} {l : List Nat} {a : Act} {w w' : World} (hI : I w) (ho : ops[i]? = some o) (hw : Region.wanted o (yielded ops a.tmps) = true) (hr : (execOp a.eval o).run P w = .ok .skip w') (h : wpSeqI P ops Q I l (a.put o.dst undef) w') : wpSeqI P ops Q I (i :: l) a w :=
  ⟨hI, o, ho, hw, by unfold Oper.wp; rw [hr]; exact h⟩
theorem wpSeqI.call {i f : Nat} {args : Array Value} {o : Oper} {l : List Nat} {a : Act} {w : World} {R : Value → World → Prop} (t : Option Tmp) (hI : I w) (ho : ops[i]? = some o) (ht : o.dst = t) (hw : Region.wanted o (yielded ops a.tmps) = true) (hr : (execOp a.eval o).run P w = .ok (.enter f args) w)
    (hc : Calls P f args w fun e w' => ∃ v, e = .returned v ∧ R v w') (h : ∀ v w', R v w' → wpSeqI P ops Q I l (a.put t v) w') : wpSeqI P ops Q I (i :: l) a w :=
  ⟨hI, o, ho, hw, wp_of_wpS (R := R) (by unfold wpS; rw [hr]; exact hc) (by subst ht; exact h)⟩

theorem wpAnyI_of_seqL : ∀ (l : List Nat) (listed : Array Bool) (a : Act) (w : World), Region.seqL md ops l listed = true → wpSeqI P ops Q I l a w → wpAnyI P ops md Q I l.length listed a w
  | [], _, _, _, hB, h => ⟨h.1, by simpa [Region.seqL] using hB, h.2⟩
  | i :: l, listed, a, w, hB, h => by
    obtain ⟨hI, o, ho, hw, h⟩ := h
    simp only [Region.seqL, Bool.and_eq_true, decide_eq_true_eq] at hB
    refine ⟨hI, fun h1 => (by rw [hB.1] at h1; cases h1), fun j hj => ?_⟩
    rw [hB.1] at hj
    have hik : j = i := by simpa using hj
    subst hik
    have hw' : wpOp P ops Q j (wpSeqI P ops Q I l) a w := by unfold wpOp; simp only [ho, hw, if_true]; exact .inl h
    exact wpOp_mono (fun a' w' h' => wpAnyI_of_seqL l _ a' w' hB.2 h') hw'

theorem wpAnyI_floats (hsel : Region.noSelect ops = true) (hQ : ∀ c a w, ¬ Q (.panic c) a w) {w : World} : ∀ (fl : List (Nat × Value)) (f : Nat) (listed : Array Bool) (a : Act) {K : Act → Prop}, Region.floatsB md ops (fl.map (·.1)) listed = true → FloatW P ops I fl a K →
    (∀ a', K a' → wpAnyI P ops md Q I f (Region.marked (fl.map (·.1)) listed) a' w) → wpAnyI P ops md Q I (f + fl.length) listed a w
  | [], _, _, _, _, _, h, hk => hk _ h
  | (i, v) :: fl, f, listed, a, K, hB, h, hk => by
    obtain ⟨o, ho, hy, h⟩ := h
    simp only [List.map_cons, Region.floatsB, Bool.and_eq_true] at hB
    have T := wpAnyI_floats hsel hQ fl f (listed.setIfInBounds i true) _ hB.2 h hk
    have T1 := wpAnyI_first (md := md) (Q := Q) (I := I) ho (Region.noSelect_spec hsel) (fun c a w hq => absurd hq (hQ _ _ _)) _ listed a w (Region.free_spec ho hB.1.2) (by simpa using hB.1.1) hy T
    simpa [Nat.add_assoc] using T1
end

/-- The operations fl float (they yield their values wherever the invariant holds); the operations rest go one after another. -/
theorem wp_region_floatN {P : Program} {id : Nat} {Q : Exit → Act → World → Prop} {a : Act} {w : World} {ops : Array Oper} (fl : List (Nat × Value)) (rest : List Nat) (I : World → Prop) (hm : P.follows .mixedOrders = true)
    (hB : Region.floatN ops (fl.map (·.1)) rest = true) (h : FloatW P ops I fl a fun a' => wpSeqI P ops (strictQ Q) I rest a' w.drew) : (Code.region id ops true).wp P Q a w := by
  simp only [Region.floatN, Bool.and_eq_true, decide_eq_true_eq] at hB
  obtain ⟨⟨⟨hsel, hf⟩, hs⟩, hl⟩ := hB
  refine wp_region_any hm ?_
  have T := wpAnyI_floats (md := .any) (Q := strictQ Q) (w := w.drew) hsel (fun c a w hq => absurd hq.1 (by simp)) fl rest.length (Array.replicate ops.size false) a hf h (fun a' h' => wpAnyI_of_seqL rest _ a' w.drew hs h')
  rw [show rest.length + fl.length = ops.size by simpa [Nat.add_comm] using hl] at T
  exact wpAny_strict _ _ _ _ (wpAnyI.plain _ _ _ _ T)

def Region.seqP (md : Region.Mode) (ops : Array Oper) (i j : Nat) (rest : List Nat) (listed : Array Bool) : Bool :=
  decide (Region.ready md ops listed = [i, j]) && Region.seqL md ops (j :: rest) (listed.setIfInBounds i true) && Region.seqL md ops (i :: rest) (listed.setIfInBounds j true)
def Region.floatP (ops : Array Oper) (fl : List Nat) (i j : Nat) (rest : List Nat) : Bool :=
  Region.noSelect ops && Region.floatsB .any ops fl (Array.replicate ops.size false) && Region.seqP .any ops i j rest (Region.marked fl (Array.replicate ops.size false)) && decide (fl.length + (rest.length + 2) = ops.size)

section
variable {P : Program} {ops : Array Oper} {md : Region.Mode} {Q : Exit → Act → World → Prop} {I : World → Prop}
theorem wpAnyI_of_seqP {i j : Nat} {rest : List Nat} {listed : Array Bool} {a : Act} {w : World} (hB : Region.seqP md ops i j rest listed = true) (h1 : wpSeqI P ops Q I (i :: j :: rest) a w) (h2 : wpSeqI P ops Q I (j :: i :: rest) a w) : wpAnyI P ops md Q I (rest.length + 2) listed a w := by
  simp only [Region.seqP, Bool.and_eq_true, decide_eq_true_eq] at hB
  obtain ⟨⟨hr, hB1⟩, hB2⟩ := hB
  obtain ⟨hI, o1, ho1, hw1, h1⟩ := h1
  obtain ⟨_, o2, ho2, hw2, h2⟩ := h2
  refine ⟨hI, fun h1 => (by rw [hr] at h1; cases h1), fun k hk => ?_⟩
  rw [hr] at hk
  simp only [List.mem_cons, List.not_mem_nil, or_false] at hk
  rcases hk with rfl | rfl
  · have hw' : wpOp P ops Q k (wpSeqI P ops Q I (j :: rest)) a w := by unfold wpOp; simp only [ho1, hw1, if_true]; exact .inl h1
    exact wpOp_mono (fun a' w' h' => wpAnyI_of_seqL (j :: rest) _ a' w' hB1 h') hw'
  · have hw' : wpOp P ops Q k (wpSeqI P ops Q I (i :: rest)) a w := by unfold wpOp; simp only [ho2, hw2, if_true]; exact .inl h2
    exact wpOp_mono (fun a' w' h' => wpAnyI_of_seqL (i :: rest) _ a' w' hB2 h') hw'
end

/-- The operations fl float; i and j come in either order, then the operations rest one after another. -/
theorem wp_region_floatP {P : Program} {id : Nat} {Q : Exit → Act → World → Prop} {a : Act} {w : World} {ops : Array Oper} (fl : List (Nat × Value)) (i j : Nat) (rest : List Nat) (I : World → Prop) (hm : P.follows .mixedOrders = true)
    (hB : Region.floatP ops (fl.map (·.1)) i j rest = true) (h : FloatW P ops I fl a fun a' => wpSeqI P ops (strictQ Q) I (i :: j :: rest) a' w.drew ∧ wpSeqI P ops (strictQ Q) I (j :: i :: rest) a' w.drew) : (Code.region id ops true).wp P Q a w := by
  simp only [Region.floatP, Bool.and_eq_true, decide_eq_true_eq] at hB
  obtain ⟨⟨⟨hsel, hf⟩, hs⟩, hl⟩ := hB
  refine wp_region_any hm ?_
  have T := wpAnyI_floats (md := .any) (Q := strictQ Q) (w := w.drew) hsel (fun c a w hq => absurd hq.1 (by simp)) fl (rest.length + 2) (Array.replicate ops.size false) a hf h (fun a' h' => wpAnyI_of_seqP hs h'.1 h'.2)
  rw [show rest.length + 2 + fl.length = ops.size by simpa [Nat.add_comm] using hl] at T
  exact wpAny_strict _ _ _ _ (wpAnyI.plain _ _ _ _ T)

section
variable {P : Program} {ops : Array Oper} {Q : Exit → Act → World → Prop} {I : World → Prop}
variable (P ops Q I) in
/-- Two operations, one after the other, hand on to M. -/
def wpTwo (M : Act → World → Prop) (i j : Nat) (a : Act) (w : World) : Prop :=
  I w ∧ ∃ o1, ops[i]? = some o1 ∧ Region.wanted o1 (yielded ops a.tmps) = true ∧ o1.wp P a w (fun a w => I w ∧ ∃ o2, ops[j]? = some o2 ∧ Region.wanted o2 (yielded ops a.tmps) = true ∧ o2.wp P a w M Q) Q
theorem wpSeqI.both {i j : Nat} {rest : List Nat} {a : Act} {w : World} (M : Act → Act → World → Prop) (h1 : wpTwo P ops Q I (M a) i j a w) (h2 : wpTwo P ops Q I (M a) j i a w) (h : ∀ a' w', M a a' w' → wpSeqI P ops Q I rest a' w') :
    wpSeqI P ops Q I (i :: j :: rest) a w ∧ wpSeqI P ops Q I (j :: i :: rest) a w := by
  have one : ∀ i j, wpTwo P ops Q I (M a) i j a w → wpSeqI P ops Q I (i :: j :: rest) a w := fun i j h1 => by
    obtain ⟨hI, o1, ho1, hw1, h1⟩ := h1
    refine ⟨hI, o1, ho1, hw1, Oper.wp_mono (fun a1 w1 h2 => ?_) h1⟩
    obtain ⟨hI, o2, ho2, hw2, h2⟩ := h2
    exact ⟨hI, o2, ho2, hw2, Oper.wp_mono (fun a' w' hm => h a' w' hm) h2⟩
  exact ⟨one _ _ h1, one _ _ h2⟩
end

end Go.Proofs.Ytlchmkaaogokiaa
