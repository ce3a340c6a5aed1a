/-
  Contracts and plain laws, part 7: FloatN, FloatE, FloatF, ListV.
  No condition.
-/
import Derived.Test.YthflmmgolegonaaPart4
import Derived.Test.YthflmmgolegonaaPart5
/-
  A region of which some operations may be carried out at any time while an invariant of the worlds holds: they are carried out first; all others go one after another and may write.
  No condition. General over every program.
-/
namespace Go.Proofs.Ythflmmgolegonaa
set_option maxRecDepth 100000
open Go.RowKit

def Region.floatsB (md : Region.Mode) (ops : Array Oper) : List Nat → Array Bool → Bool
  | [], _ => true
  | i :: l, listed => (Region.ready md ops listed).contains i && Region.free md ops listed i && Region.floatsB md ops l (listed.setIfInBounds i true)
def Region.marked : List Nat → Array Bool → Array Bool
  | [], listed => listed
  | i :: l, listed => Region.marked l (listed.setIfInBounds i true)
def Region.seqL (md : Region.Mode) (ops : Array Oper) : List Nat → Array Bool → Bool
  | [], listed => decide (Region.ready md ops listed = [])
  | i :: l, listed => decide (Region.ready md ops listed = [i]) && Region.seqL md ops l (listed.setIfInBounds i true)
def Region.floatN (ops : Array Oper) (fl rest : List Nat) : Bool :=
  Region.noSelect ops && Region.floatsB .any ops fl (Array.replicate ops.size false) && Region.seqL .any ops rest (Region.marked fl (Array.replicate ops.size false)) && decide (fl.length + rest.length = ops.size)

section
variable {P : Program} {ops : Array Oper} {md : Region.Mode} {Q : Exit → Act → World → Prop} {I : World → Prop}

variable (P ops I) in
/-- The floating operations yield these values, one after another, wherever the invariant holds. -/
def FloatW : List (Nat × Value) → Act → (Act → Prop) → Prop
  | [], a, K => K a
  | (i, v) :: l, a, K => ∃ o, ops[i]? = some o ∧ YieldsI P ops I o v a ∧ FloatW l (a.put o.dst v) K
theorem FloatW.cons {i : Nat} {v : Value} {l : List (Nat × Value)} {a : Act} {K : Act → Prop} {o : Oper} (t : Option Tmp) (ho : ops[i]? = some o) (ht : o.dst = t) (hw : Region.wanted o (yielded ops a.tmps) = true) (hy : ∀ w, I w → (execOp a.eval o).run P w = .ok (.value v) w) (h : FloatW P ops I l (a.put t v) K) : FloatW P ops I ((i, v) :: l) a K := ⟨o, ho, ⟨hw, hy⟩, by rw [ht]; exact h⟩

variable (P ops Q I) in
/-- These operations one after another. -/
def wpSeqI : List Nat → Act → World → Prop
  | [], a, w => I w ∧ Q .normal a w
  | i :: l, a, w => I w ∧ ∃ o, ops[i]? = some o ∧ Region.wanted o (yielded ops a.tmps) = true ∧ o.wp P a w (wpSeqI l) Q
theorem wpSeqI.value {i : Nat} {o : Oper} {l : List Nat} {a : Act} {w w' : World} {v : Value} (t : Option Tmp) (hI : I w) (ho : ops[i]? = some o) (ht : o.dst = t) (hw : Region.wanted o (yielded ops a.tmps) = true) (hr : (execOp a.eval o).run P w = .ok (.value v) w') (h : wpSeqI P ops Q I l (a.put t v) w') : wpSeqI P ops Q I (i :: l) a w :=
  ⟨hI, o, ho, hw, by unfold Oper.wp; rw [hr]; subst ht; exact h⟩
theorem wpSeqI.skip {i : Nat} {o : Oper} {l : List Nat} {a : Act} {w w' : World} (hI : I w) (ho : ops[i]? = some o) (hw : Region.wanted o (yielded ops a.tmps) = true) (hr : (execOp a.eval o).run P w = .ok .skip w') (h : wpSeqI P ops Q I l (a.put o.dst undef) w') : wpSeqI P ops Q I (i :: l) a w :=
  ⟨hI, o, ho, hw, by unfold Oper.wp; rw [hr]; exact h⟩
theorem wpSeqI.call {i f : Nat} {args : Array Value} {o : Oper} {l : List Nat} {a : Act} {w : World} {R : Value → World → Prop} (t : Option Tmp) (hI : I w) (ho : ops[i]? = some o) (ht : o.dst = t) (hw : Region.wanted o (yielded ops a.tmps) = true) (hr : (execOp a.eval o).run P w = .ok (.enter f args) w)
    (hc : Calls P f args w fun e w' => ∃ v, e = .returned v ∧ R v w') (h : ∀ v w', R v w' → wpSeqI P ops Q I l (a.put t v) w') : wpSeqI P ops Q I (i :: l) a w :=
  ⟨hI, o, ho, hw, wp_of_wpS (R := R) (by unfold wpS; rw [hr]; exact hc) (by subst ht; exact h)⟩

theorem wpAnyI_of_seqL : ∀ (l : List Nat) (listed : Array Bool) (a : Act) (w : World), Region.seqL md ops l listed = true → wpSeqI P ops Q I l a w → wpAnyI P ops md Q I l.length listed a w
  | [], _, _, _, hB, h => ⟨h.1, by simpa [Region.seqL] using hB, h.2⟩
  | i :: l, listed, a, w, hB, h => by
    obtain ⟨hI, o, ho, hw, h⟩ := h
    simp only [Region.seqL, Bool.and_eq_true, decide_eq_true_eq] at hB
    refine ⟨hI, fun h1 => (by rw [hB.1] at h1; cases h1), fun j hj => ?_⟩
    rw [hB.1] at hj
    have hik : j = i := by simpa using hj
    subst hik
    have hw' : wpOp P ops Q j (wpSeqI P ops Q I l) a w := by unfold wpOp; simp only [ho, hw, if_true]; exact .inl h
    exact wpOp_mono (fun a' w' h' => wpAnyI_of_seqL l _ a' w' hB.2 h') hw'

theorem wpAnyI_floats (hsel : Region.noSelect ops = true) (hQ : ∀ c a w, ¬ Q (.panic c) a w) {w : World} : ∀ (fl : List (Nat × Value)) (f : Nat) (listed : Array Bool) (a : Act) {K : Act → Prop}, Region.floatsB md ops (fl.map (·.1)) listed = true → FloatW P ops I fl a K →
    (∀ a', K a' → wpAnyI P ops md Q I f (Region.marked (fl.map (·.1)) listed) a' w) → wpAnyI P ops md Q I (f + fl.length) listed a w
  | [], _, _, _, _, _, h, hk => hk _ h
  | (i, v) :: fl, f, listed, a, K, hB, h, hk => by
    obtain ⟨o, ho, hy, h⟩ := h
    simp only [List.map_cons, Region.floatsB, Bool.and_eq_true] at hB
    have T := wpAnyI_floats hsel hQ fl f (listed.setIfInBounds i true) _ hB.2 h hk
    have T1 := wpAnyI_first (md := md) (Q := Q) (I := I) ho (Region.noSelect_spec hsel) (fun c a w hq => absurd hq (hQ _ _ _)) _ listed a w (Region.free_spec ho hB.1.2) (by simpa using hB.1.1) hy T
    simpa [Nat.add_assoc] using T1
end

/-- The operations fl float (they yield their values wherever the invariant holds); the operations rest go one after another. -/
theorem wp_region_floatN {P : Program} {id : Nat} {Q : Exit → Act → World → Prop} {a : Act} {w : World} {ops : Array Oper} (fl : List (Nat × Value)) (rest : List Nat) (I : World → Prop) (hm : P.follows .mixedOrders = true)
    (hB : Region.floatN ops (fl.map (·.1)) rest = true) (h : FloatW P ops I fl a fun a' => wpSeqI P ops (strictQ Q) I rest a' w.drew) : (Code.region id ops true).wp P Q a w := by
  simp only [Region.floatN, Bool.and_eq_true, decide_eq_true_eq] at hB
  obtain ⟨⟨⟨hsel, hf⟩, hs⟩, hl⟩ := hB
  refine wp_region_any hm ?_
  have T := wpAnyI_floats (md := .any) (Q := strictQ Q) (w := w.drew) hsel (fun c a w hq => absurd hq.1 (by simp)) fl rest.length (Array.replicate ops.size false) a hf h (fun a' h' => wpAnyI_of_seqL rest _ a' w.drew hs h')
  rw [show rest.length + fl.length = ops.size by simpa [Nat.add_comm] using hl] at T
  exact wpAny_strict _ _ _ _ (wpAnyI.plain _ _ _ _ T)

def Region.seqP (md : Region.Mode) (ops : Array Oper) (i j : Nat) (rest : List Nat) (listed : Array Bool) : Bool :=
  decide (Region.ready md ops listed = [i, j]) && Region.seqL md ops (j :: rest) (listed.setIfInBounds i true) && Region.seqL md ops (i :: rest) (listed.setIfInBounds j true)
def Region.floatP (ops : Array Oper) (fl : List Nat) (i j : Nat) (rest : List Nat) : Bool :=
  Region.noSelect ops && Region.floatsB .any ops fl (Array.replicate ops.size false) && Region.seqP .any ops i j rest (Region.marked fl (Array.replicate ops.size false)) && decide (fl.length + (rest.length + 2) = ops.size)

section
variable {P : Program} {ops : Array Oper} {md : Region.Mode} {Q : Exit → Act → World → Prop} {I : World → Prop}
theorem wpAnyI_of_seqP {i j : Nat} {rest : List Nat} {listed : Array Bool} {a : Act} {w : World} (hB : Region.seqP md ops i j rest listed = true) (h1 : wpSeqI P ops Q I (i :: j :: rest) a w) (h2 : wpSeqI P ops Q I (j :: i :: rest) a w) : wpAnyI P ops md Q I (rest.length + 2) listed a w := by
  simp only [Region.seqP, Bool.and_eq_true, decide_eq_true_eq] at hB
  obtain ⟨⟨hr, hB1⟩, hB2⟩ := hB
  obtain ⟨hI, o1, ho1, hw1, h1⟩ := h1
  obtain ⟨_, o2, ho2, hw2, h2⟩ := h2
  refine ⟨hI, fun h1 => (by rw [hr] at h1; cases h1), fun k hk => ?_⟩
  rw [hr] at hk
  simp only [List.mem_cons, List.not_mem_nil, or_false] at hk
  rcases hk with rfl | rfl
  · have hw' : wpOp P ops Q k (wpSeqI P ops Q I (j :: rest)) a w := by unfold wpOp; simp only [ho1, hw1, if_true]; exact .inl h1
    exact wpOp_mono (fun a' w' h' => wpAnyI_of_seqL (j :: rest) _ a' w' hB1 h') hw'
  · have hw' : wpOp P ops Q k (wpSeqI P ops Q I (i :: rest)) a w := by unfold wpOp; simp only [ho2, hw2, if_true]; exact .inl h2
    exact wpOp_mono (fun a' w' h' => wpAnyI_of_seqL (i :: rest) _ a' w' hB2 h') hw'
end

/-- The operations fl float; i and j come in either order, then the operations rest one after another. -/
theorem wp_region_floatP {P : Program} {id : Nat} {Q : Exit → Act → World → Prop} {a : Act} {w : World} {ops : Array Oper} (fl : List (Nat × Value)) (i j : Nat) (rest : List Nat) (I : World → Prop) (hm : P.follows .mixedOrders = true)
    (hB : Region.floatP ops (fl.map (·.1)) i j rest = true) (h : FloatW P ops I fl a fun a' => wpSeqI P ops (strictQ Q) I (i :: j :: rest) a' w.drew ∧ wpSeqI P ops (strictQ Q) I (j :: i :: rest) a' w.drew) : (Code.region id ops true).wp P Q a w := by
  simp only [Region.floatP, Bool.and_eq_true, decide_eq_true_eq] at hB
  obtain ⟨⟨⟨hsel, hf⟩, hs⟩, hl⟩ := hB
  refine wp_region_any hm ?_
  have T := wpAnyI_floats (md := .any) (Q := strictQ Q) (w := w.drew) hsel (fun c a w hq => absurd hq.1 (by simp)) fl (rest.length + 2) (Array.replicate ops.size false) a hf h (fun a' h' => wpAnyI_of_seqP hs h'.1 h'.2)
  rw [show rest.length + 2 + fl.length = ops.size by simpa [Nat.add_comm] using hl] at T
  exact wpAny_strict _ _ _ _ (wpAnyI.plain _ _ _ _ T)

section
variable {P : Program} {ops : Array Oper} {Q : Exit → Act → World → Prop} {I : World → Prop}
variable (P ops Q I) in
/-- Two operations, one after the other, hand on to M. -/
def wpTwo (M : Act → World → Prop) (i j : Nat) (a : Act) (w : World) : Prop :=
  I w ∧ ∃ o1, ops[i]? = some o1 ∧ Region.wanted o1 (yielded ops a.tmps) = true ∧ o1.wp P a w (fun a w => I w ∧ ∃ o2, ops[j]? = some o2 ∧ Region.wanted o2 (yielded ops a.tmps) = true ∧ o2.wp P a w M Q) Q
theorem wpSeqI.both {i j : Nat} {rest : List Nat} {a : Act} {w : World} (M : Act → Act → World → Prop) (h1 : wpTwo P ops Q I (M a) i j a w) (h2 : wpTwo P ops Q I (M a) j i a w) (h : ∀ a' w', M a a' w' → wpSeqI P ops Q I rest a' w') :
    wpSeqI P ops Q I (i :: j :: rest) a w ∧ wpSeqI P ops Q I (j :: i :: rest) a w := by
  have one : ∀ i j, wpTwo P ops Q I (M a) i j a w → wpSeqI P ops Q I (i :: j :: rest) a w := fun i j h1 => by
    obtain ⟨hI, o1, ho1, hw1, h1⟩ := h1
    refine ⟨hI, o1, ho1, hw1, Oper.wp_mono (fun a1 w1 h2 => ?_) h1⟩
    obtain ⟨hI, o2, ho2, hw2, h2⟩ := h2
    exact ⟨hI, o2, ho2, hw2, Oper.wp_mono (fun a' w' hm => h a' w' hm) h2⟩
  exact ⟨one _ _ h1, one _ _ h2⟩
end

end Go.Proofs.Ythflmmgolegonaa

/-
  Regions that draw their order, walked by a plan: some operations float (they yield their values at any time while an invariant of the worlds holds), the others come when no other is ready.
  No condition. General over every program.
-/
namespace Go.Proofs.Ythflmmgolegonaa
set_option maxRecDepth 100000
open Go.RowKit

def Region.planB (md : Region.Mode) (ops : Array Oper) : List (Bool × Nat) → Array Bool → Bool
  | [], listed => decide (Region.ready md ops listed = [])
  | (true, i) :: l, listed => (Region.ready md ops listed).contains i && Region.free md ops listed i && Region.planB md ops l (listed.setIfInBounds i true)
  | (false, i) :: l, listed => decide (Region.ready md ops listed = [i]) && Region.planB md ops l (listed.setIfInBounds i true)

section
variable {P : Program} {ops : Array Oper} {md : Region.Mode} {Q : Exit → Act → World → Prop} {I : World → Prop}
variable (P ops Q I) in
/-- The operations by the plan. -/
def PlanW : List (Bool × Nat) → Act → World → Prop
  | [], a, w => I w ∧ Q .normal a w
  | (true, i) :: l, a, w => ∃ o v, ops[i]? = some o ∧ YieldsI P ops I o v a ∧ PlanW l (a.put o.dst v) w
  | (false, i) :: l, a, w => I w ∧ ∃ o, ops[i]? = some o ∧ Region.wanted o (yielded ops a.tmps) = true ∧ o.wp P a w (PlanW l) Q
theorem PlanW.float {i : Nat} {v : Value} {l : List (Bool × Nat)} {a : Act} {w : World} {o : Oper} (t : Option Tmp) (ho : ops[i]? = some o) (ht : o.dst = t) (hw : Region.wanted o (yielded ops a.tmps) = true) (hy : ∀ w, I w → (execOp a.eval o).run P w = .ok (.value v) w) (h : PlanW P ops Q I l (a.put t v) w) : PlanW P ops Q I ((true, i) :: l) a w := ⟨o, v, ho, ⟨hw, hy⟩, by rw [ht]; exact h⟩
theorem PlanW.value {i : Nat} {o : Oper} {l : List (Bool × Nat)} {a : Act} {w w' : World} {v : Value} (t : Option Tmp) (hI : I w) (ho : ops[i]? = some o) (ht : o.dst = t) (hw : Region.wanted o (yielded ops a.tmps) = true) (hr : (execOp a.eval o).run P w = .ok (.value v) w') (h : PlanW P ops Q I l (a.put t v) w') : PlanW P ops Q I ((false, i) :: l) a w :=
  ⟨hI, o, ho, hw, by unfold Oper.wp; rw [hr]; subst ht; exact h⟩
theorem PlanW.skip {i : Nat} {o : Oper} {l : List (Bool × Nat)} {a : Act} {w w' : World} (hI : I w) (ho : ops[i]? = some o) (hw : Region.wanted o (yielded ops a.tmps) = true) (hr : (execOp a.eval o).run P w = .ok .skip w') (h : PlanW P ops Q I l (a.put o.dst undef) w') : PlanW P ops Q I ((false, i) :: l) a w :=
  ⟨hI, o, ho, hw, by unfold Oper.wp; rw [hr]; exact h⟩
theorem PlanW.call {i f : Nat} {args : Array Value} {o : Oper} {l : List (Bool × Nat)} {a : Act} {w : World} {R : Value → World → Prop} (t : Option Tmp) (hI : I w) (ho : ops[i]? = some o) (ht : o.dst = t) (hw : Region.wanted o (yielded ops a.tmps) = true) (hr : (execOp a.eval o).run P w = .ok (.enter f args) w)
    (hc : Calls P f args w fun e w' => ∃ v, e = .returned v ∧ R v w') (h : ∀ v w', R v w' → PlanW P ops Q I l (a.put t v) w') : PlanW P ops Q I ((false, i) :: l) a w :=
  ⟨hI, o, ho, hw, wp_of_wpS (R := R) (by unfold wpS; rw [hr]; exact hc) (by subst ht; exact h)⟩

theorem wpAnyI_of_plan (hsel : Region.noSelect ops = true) (hQ : ∀ c a w, ¬ Q (.panic c) a w) : ∀ (l : List (Bool × Nat)) (listed : Array Bool) (a : Act) (w : World), Region.planB md ops l listed = true → PlanW P ops Q I l a w → wpAnyI P ops md Q I l.length listed a w
  | [], _, _, _, hB, h => ⟨h.1, by simpa [Region.planB] using hB, h.2⟩
  | (true, i) :: l, listed, a, w, hB, h => by
    obtain ⟨o, v, ho, hy, h⟩ := h
    simp only [Region.planB, Bool.and_eq_true] at hB
    have T := wpAnyI_of_plan hsel hQ l (listed.setIfInBounds i true) _ w hB.2 h
    exact wpAnyI_first (md := md) (Q := Q) (I := I) ho (Region.noSelect_spec hsel) (fun c a w hq => absurd hq (hQ _ _ _)) _ listed a w (Region.free_spec ho hB.1.2) (by simpa using hB.1.1) hy T
  | (false, i) :: l, listed, a, w, hB, h => by
    obtain ⟨hI, o, ho, hw, h⟩ := h
    simp only [Region.planB, Bool.and_eq_true, decide_eq_true_eq] at hB
    refine ⟨hI, fun h1 => (by rw [hB.1] at h1; cases h1), fun j hj => ?_⟩
    rw [hB.1] at hj
    have hik : j = i := by simpa using hj
    subst hik
    have hw' : wpOp P ops Q j (PlanW P ops Q I l) a w := by unfold wpOp; simp only [ho, hw, if_true]; exact .inl h
    exact wpOp_mono (fun a' w' h' => wpAnyI_of_plan hsel hQ l _ a' w' hB.2 h') hw'
end

theorem wp_region_plan {P : Program} {id : Nat} {Q : Exit → Act → World → Prop} {a : Act} {w : World} {ops : Array Oper} (pl : List (Bool × Nat)) (I : World → Prop) (hm : P.follows .mixedOrders = true)
    (hB : (Region.noSelect ops && Region.planB .any ops pl (Array.replicate ops.size false) && decide (pl.length = ops.size)) = true) (h : PlanW P ops (strictQ Q) I pl a w.drew) : (Code.region id ops true).wp P Q a w := by
  simp only [Bool.and_eq_true, decide_eq_true_eq] at hB
  obtain ⟨⟨hsel, hp⟩, hl⟩ := hB
  refine wp_region_any hm ?_
  have T := wpAnyI_of_plan (md := .any) (Q := strictQ Q) hsel (fun c a w hq => absurd hq.1 (by simp)) pl _ a w.drew hp h
  rw [hl] at T
  exact wpAny_strict _ _ _ _ (wpAnyI.plain _ _ _ _ T)
end Go.Proofs.Ythflmmgolegonaa

/-
  Regions that draw their order, walked step by step: an operation that floats, the one that is ready, or either of two that are ready.
  No condition. General over every program.
-/
namespace Go.Proofs.Ythflmmgolegonaa
set_option maxRecDepth 100000
open Go.RowKit

section
variable {P : Program} {ops : Array Oper} {Q : Exit → Act → World → Prop} {I : World → Prop}
theorem wp_region_steps {id : Nat} {a : Act} {w : World} (n : Nat) (I : World → Prop) (hm : P.follows .mixedOrders = true) (hn : ops.size = n)
    (h : wpAnyI P ops .any (strictQ Q) I n (Array.replicate n false) a w.drew) : (Code.region id ops true).wp P Q a w := by
  refine wp_region_any hm ?_
  rw [← hn] at h
  exact wpAny_strict _ _ _ _ (wpAnyI.plain _ _ _ _ h)
theorem stepsI_float {i f : Nat} {listed : Array Bool} {a : Act} {w : World} {o : Oper} {v : Value} (t : Option Tmp)
    (hb : (Region.noSelect ops && (Region.ready .any ops listed).contains i && Region.free .any ops listed i) = true) (ho : ops[i]? = some o) (ht : o.dst = t) (hw : Region.wanted o (yielded ops a.tmps) = true)
    (hy : ∀ w, I w → (execOp a.eval o).run P w = .ok (.value v) w) (h : wpAnyI P ops .any (strictQ Q) I f (listed.setIfInBounds i true) (a.put t v) w) : wpAnyI P ops .any (strictQ Q) I (f + 1) listed a w := by
  simp only [Bool.and_eq_true] at hb
  subst ht
  exact wpAnyI_first ho (Region.noSelect_spec hb.1.1) (fun c a w hq => absurd hq.1 (by simp)) f listed a w (Region.free_spec ho hb.2) (by simpa using hb.1.2) ⟨hw, hy⟩ h
theorem stepsI_one {i f : Nat} {listed : Array Bool} {a : Act} {w : World} (hI : I w) (hr : decide (Region.ready .any ops listed = [i]) = true)
    (h : wpOp P ops (strictQ Q) i (wpAnyI P ops .any (strictQ Q) I f (listed.setIfInBounds i true)) a w) : wpAnyI P ops .any (strictQ Q) I (f + 1) listed a w := by
  simp only [decide_eq_true_eq] at hr
  refine ⟨hI, fun h1 => (by rw [hr] at h1; cases h1), fun j hj => ?_⟩
  rw [hr] at hj
  obtain rfl : j = i := by simpa using hj
  exact h
theorem stepsI_two {i k f : Nat} {listed : Array Bool} {a : Act} {w : World} (hI : I w) (hr : decide (Region.ready .any ops listed = [i, k]) = true)
    (h1 : wpOp P ops (strictQ Q) i (wpAnyI P ops .any (strictQ Q) I f (listed.setIfInBounds i true)) a w) (h2 : wpOp P ops (strictQ Q) k (wpAnyI P ops .any (strictQ Q) I f (listed.setIfInBounds k true)) a w) : wpAnyI P ops .any (strictQ Q) I (f + 1) listed a w := by
  simp only [decide_eq_true_eq] at hr
  refine ⟨hI, fun h1 => (by rw [hr] at h1; cases h1), fun j hj => ?_⟩
  rw [hr] at hj
  have hj2 : j = i ∨ j = k := by simpa using hj
  rcases hj2 with rfl | rfl
  · exact h1
  · exact h2
theorem stepsI_end {listed : Array Bool} {a : Act} {w : World} (hI : I w) (hr : decide (Region.ready .any ops listed = []) = true) (h : Q .normal a w) : wpAnyI P ops .any (strictQ Q) I 0 listed a w :=
  ⟨hI, by simpa using hr, rfl, h⟩
theorem op_value {i : Nat} {K : Act → World → Prop} {a : Act} {w w' : World} {o : Oper} {v : Value} (t : Option Tmp) (ho : ops[i]? = some o) (ht : o.dst = t) (hw : Region.wanted o (yielded ops a.tmps) = true)
    (hr : (execOp a.eval o).run P w = .ok (.value v) w') (h : K (a.put t v) w') : wpOp P ops (strictQ Q) i K a w := by
  unfold wpOp
  simp only [ho, hw, if_true]
  refine .inl ?_
  unfold Oper.wp; rw [hr]; subst ht; exact h
theorem op_skip {i : Nat} {K : Act → World → Prop} {a : Act} {w w' : World} {o : Oper} (ho : ops[i]? = some o) (hw : Region.wanted o (yielded ops a.tmps) = true)
    (hr : (execOp a.eval o).run P w = .ok .skip w') (h : K (a.put o.dst undef) w') : wpOp P ops (strictQ Q) i K a w := by
  unfold wpOp
  simp only [ho, hw, if_true]
  refine .inl ?_
  unfold Oper.wp; rw [hr]; exact h
theorem op_call {i f : Nat} {args : Array Value} {K : Act → World → Prop} {a : Act} {w : World} {o : Oper} {R : Value → World → Prop} (t : Option Tmp) (ho : ops[i]? = some o) (ht : o.dst = t) (hw : Region.wanted o (yielded ops a.tmps) = true)
    (hr : (execOp a.eval o).run P w = .ok (.enter f args) w) (hc : Calls P f args w fun e w' => ∃ v, e = .returned v ∧ R v w') (h : ∀ v w', R v w' → K (a.put t v) w') : wpOp P ops (strictQ Q) i K a w := by
  unfold wpOp
  simp only [ho, hw, if_true]
  exact .inl (wp_of_wpS (R := R) (by unfold wpS; rw [hr]; exact hc) (by subst ht; exact h))
end
end Go.Proofs.Ythflmmgolegonaa

/-
  append of the rows of a list to a fresh list, and of one more row; the rows are only read.
  No condition.
-/
namespace Go.Proofs.Ythflmmgolegonaa
set_option maxRecDepth 100000
open Go.RowKit

/-- The cells of rows that can be read. -/
theorem list_cells {v : World} {gl n : Nat} {rows : List (List Int)} (hx : RdR v (some ⟨gl, 0, none⟩) n rows) : ∃ us : List Value, us.length = n ∧ ∀ i, i < n → ∃ ai ci, us[i]? = some (.slice ai (nthR rows i).length ci) ∧ v.cell? ⟨gl, i, none⟩ = some (.slice ai (nthR rows i).length ci) ∧ RdC v ai (nthR rows i).length (nthR rows i) := by
  obtain ⟨h1, hr⟩ := hx
  refine ⟨(List.range n).map fun i => (v.cell? ⟨gl, i, none⟩).getD undef, by simp, fun i hi => ?_⟩
  obtain ⟨b, off, ai, ci, ha, hc, hd⟩ := hr i hi
  simp only [Option.some.injEq, Addr.mk.injEq, and_true] at ha
  obtain ⟨rfl, rfl⟩ := ha
  rw [Nat.zero_add] at hc
  refine ⟨ai, ci, ?_, hc, hd⟩
  rw [List.getElem?_map, List.getElem?_range hi]
  simp only [Option.map_some, hc, Option.getD_some]
/-- Values that are the cells of rows. -/
def CellsV (v : World) (gl n : Nat) (rows : List (List Int)) (us : List Value) : Prop := us.length = n ∧ ∀ i, i < n → ∃ ai ci, us[i]? = some (.slice ai (nthR rows i).length ci) ∧ v.cell? ⟨gl, i, none⟩ = some (.slice ai (nthR rows i).length ci) ∧ RdC v ai (nthR rows i).length (nthR rows i)
theorem CellsV.at {v : World} {gl n : Nat} {rows : List (List Int)} {us : List Value} (h : CellsV v gl n rows us) {j : Nat} {u : Value} (hj : us[j]? = some u) : v.cell? ⟨gl, j, none⟩ = some u ∧ u.oneCell' = true := by
  have hjl : j < n := by
    rcases Nat.lt_or_ge j n with h1 | h1
    · exact h1
    · rw [List.getElem?_eq_none (by have := h.1; omega)] at hj; cases hj
  obtain ⟨ai, ci, h2, h3, _⟩ := h.2 j hjl
  rw [h2] at hj
  rw [← Option.some.inj hj]
  exact ⟨h3, rfl⟩
theorem run_list1 {v W : World} {gE gl n c : Nat} {rows : List (List Int)} {us : List Value} (hc : CellsV v gl n rows us) (gW : Ext v W) (hn0 : 0 < n) (hn : n ≤ 4194304) (ty : TypeId) :
    ∃ g' cap' w', (Builtin.append_ #[25, 25] ty #[.slice (some ⟨gE, 0, none⟩) 0 0, .slice (some ⟨gl, 0, none⟩) n c]).run Try.prog W = .ok (.slice (some ⟨g', 0, none⟩) n cap') w' ∧
      w'.ownsRow v.heap.size 22 1 (.slice (some ⟨g', 0, none⟩) n cap') n us ∧ Ext W w' := by
  obtain ⟨i0, hi, hz0, hz1, hz2⟩ := info_parts Try.infoR
  have hcell : ∀ j u, us[j]? = some u → W.cell? ((⟨gl, 0, none⟩ : Addr).add j) = some u := fun j u hj => by
    have := gW.cell (hc.at hj).1
    by_cases hj0 : j = 0
    · subst hj0; simpa [Addr.add] using this
    · simpa [Addr.add, hj0] using this
  rw [append_emptyN W ⟨gE, 0, none⟩ ⟨gl, 0, none⟩ n c us ty hc.1 hcell hn0 hn]
  obtain ⟨v', w', hr, h5, h6, _⟩ := run_append_own (P := Try.prog) W v.heap.size 25 ty 22 i0 (.slice none 0 0) 1 24 Try.underlying25 hi hz0 hz1 hz2 rfl (by decide) (.slice none 0 0) 0 [] (World.ownsRow_nil _ _ _ _)
    ⟨gl, 0, none⟩ n c us (by have := hc.1; omega) hcell (fun u hu => by
      obtain ⟨j, hj, rfl⟩ := List.getElem_of_mem hu
      exact (hc.at (List.getElem?_eq_getElem hj)).2) (by unfold maxLen; omega) (by omega) gW.size
  simp only [Nat.zero_add, List.nil_append] at h5
  have form : ∃ g cap, v' = .slice (some ⟨g, 0, none⟩) n cap := by
    rcases h5.2 with ⟨_, h3⟩ | ⟨g, c, cur, hv, _⟩
    · omega
    · exact ⟨g, c, hv⟩
  obtain ⟨g', cap', rfl⟩ := form
  exact ⟨g', cap', w', hr, h5, (Ext.refl W).grown h6 (fun k hk => by cases hk)⟩
theorem run_list2 {v W : World} {g n cap gl gx cx m cv : Nat} {av : Option Addr} {rows : List (List Int)} {xs : List Int} {us : List Value} (hc : CellsV v gl n rows us) (hrl : rows.length = n) (gW : Ext v W)
    (hown : W.ownsRow v.heap.size 22 1 (.slice (some ⟨g, 0, none⟩) n cap) n us) (hx : W.cell? ⟨gx, 0, none⟩ = some (.slice av m cv)) (hxs : RdC v av m xs) (hn : n ≤ 4194303) (ty : TypeId) :
    ∃ g' cap' w', (Builtin.append_ #[25, 25] ty #[.slice (some ⟨g, 0, none⟩) n cap, .slice (some ⟨gx, 0, none⟩) 1 cx]).run Try.prog W = .ok (.slice (some ⟨g', 0, none⟩) (n + 1) cap') w' ∧
      RdR w' (some ⟨g', 0, none⟩) (n + 1) (rows ++ [xs]) ∧ Ext v w' := by
  obtain ⟨i0, hi, hz0, hz1, hz2⟩ := info_parts Try.infoR
  have hgb := hown.lt g rfl
  obtain ⟨v', w', hr, h5, h6, _⟩ := run_append_own (P := Try.prog) W v.heap.size 25 ty 22 i0 (.slice none 0 0) 1 24 Try.underlying25 hi hz0 hz1 hz2 rfl (by decide) (.slice (some ⟨g, 0, none⟩) n cap) n us hown
    ⟨gx, 0, none⟩ 1 cx [.slice av m cv] rfl (fun j u hj => by
      cases j with
      | zero => simp only [List.getElem?_cons_zero, Option.some.injEq] at hj; subst hj; simpa [Addr.add] using hx
      | succ j => simp at hj) (fun u hu => by simp only [List.mem_singleton] at hu; subst hu; rfl) (by unfold maxLen; omega) (by omega) gW.size
  have form : ∃ g cap, v' = .slice (some ⟨g, 0, none⟩) (n + 1) cap ∧ ∀ j u, (us ++ [.slice av m cv])[j]? = some u → j < n + 1 → w'.cell? ⟨g, j, none⟩ = some u := by
    rcases h5.2 with ⟨_, h3⟩ | ⟨g, cc, cur, hv, hb, hh, hc1, hc2, hc3, hc4⟩
    · omega
    · refine ⟨g, cc, hv, fun j u hj hjn => ?_⟩
      rw [← hc4, List.getElem?_take_of_lt (by omega), Array.getElem?_toList] at hj
      simp only [World.cell?, hh]
      simpa using hj
  obtain ⟨g', cap', rfl, hcells⟩ := form
  have hE : Ext v w' := gW.grown h6 (fun k hk => by simp only [Value.ownBlock, Option.some.injEq] at hk; omega)
  refine ⟨g', cap', w', hr, ⟨by simp [hrl], fun i hi => ?_⟩, hE⟩
  by_cases hin : i < n
  · obtain ⟨ai, ci, h7, _, h8⟩ := hc.2 i hin
    rw [nthR_snoc (by omega)]
    refine ⟨g', 0, ai, ci, rfl, ?_, h8.ext hE⟩
    rw [Nat.zero_add]
    refine hcells i _ ?_ hi
    rw [List.getElem?_append_left (by have := hc.1; omega)]
    exact h7
  · obtain rfl : i = n := by omega
    have e : nthR (rows ++ [xs]) i = xs := by rw [← hrl, nthR_last]
    rw [e, hxs.1]
    refine ⟨g', 0, av, cv, rfl, ?_, hxs.ext hE⟩
    rw [Nat.zero_add]
    refine hcells i _ ?_ hi
    rw [List.getElem?_append_right (by have := hc.1; omega), hc.1]
    simp
theorem op_append {ops : Array Oper} {Q : Exit → Act → World → Prop} {i : Nat} {K : Act → World → Prop} {a : Act} {w w' : World} {o : Oper} {vs vx v : Value} {ty : TypeId} (t : Option Tmp) (ho : ops[i]? = some o) (ht : o.dst = t) (hty : o.type = ty) (hw : Region.wanted o (yielded ops a.tmps) = true) (s x : Operand)
    (hop : o.op = .call { callee := .builtin .append, args := #[s, x], argTypes := #[25, 25] }) (hs : a.eval s = vs) (hx : a.eval x = vx)
    (hr : (Builtin.append_ #[25, 25] ty #[vs, vx]).run Try.prog w = .ok v w') (h : K (a.put t v) w') : wpOp Try.prog ops (strictQ Q) i K a w := by
  subst hty
  refine op_value t ho ht hw ?_ h
  unfold execOp
  simp only [hop, resolve, invoke, builtin, Sem.run_bind, Sem.run_pure, Result.andThen_ok, List.map_toArray, List.map_cons, List.map_nil, hs, hx, hr]
end Go.Proofs.Ythflmmgolegonaa
