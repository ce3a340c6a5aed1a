/-
  A region whose first two operations (an address, a load) may be carried out at any time while an invariant of the worlds holds: they are carried out first; its last operations go one after another and may write.
  No condition. General over every program.
-/
import Derived.Test.YtlchmkaaogokiaaFloat
namespace Go.Proofs.Ytlchmkaaogokiaa
set_option maxRecDepth 100000
open Go.RowKit

section
variable {P : Program} {ops : Array Oper} {md : Region.Mode} {Q : Exit → Act → World → Prop} {I : World → Prop}

variable (P md ops Q I) in
/-- Whatever order is picked; the invariant holds of each world on the way. -/
def wpAnyI : Nat → Array Bool → Act → World → Prop
  | 0, listed, a, w => I w ∧ Region.ready md ops listed = [] ∧ Q .normal a w
  | f + 1, listed, a, w => I w ∧ (Region.ready md ops listed = [] → Q .normal a w) ∧ ∀ i ∈ Region.ready md ops listed, wpOp P ops Q i (wpAnyI f (listed.setIfInBounds i true)) a w
theorem wpAnyI.inv : ∀ {f : Nat} {listed : Array Bool} {a : Act} {w : World}, wpAnyI P ops md Q I f listed a w → I w
  | 0, _, _, _, h => h.1
  | _ + 1, _, _, _, h => h.1
theorem wpAnyI.plain : ∀ (f : Nat) (listed : Array Bool) (a : Act) (w : World), wpAnyI P ops md Q I f listed a w → wpAny P md ops Q f listed a w
  | 0, _, _, _, h => h.2
  | f + 1, _, _, _, h => ⟨h.2.1, fun i hi => wpOp_mono (fun a w => wpAnyI.plain f _ a w) (h.2.2 i hi)⟩

variable (P ops I) in
/-- The operation yields this value in every world of which the invariant holds. -/
def YieldsI (o : Oper) (v : Value) (a : Act) : Prop := Region.wanted o (yielded ops a.tmps) = true ∧ ∀ w, I w → (execOp a.eval o).run P w = .ok (.value v) w
theorem YieldsI.wpOp {i : Nat} {o : Oper} {v : Value} {a : Act} (hi : ops[i]? = some o) (hy : YieldsI P ops I o v a) {K : Act → World → Prop} {w : World} (hI : I w) (h : K (a.put o.dst v) w) : wpOp P ops Q i K a w := by
  unfold Go.wpOp
  simp only [hi]
  simp only [hy.1, if_true, Oper.wp, hy.2 w hI, Oper.upon]
  exact .inl h
theorem YieldsI.of_same {o : Oper} {v : Value} {a a' : Act} (hy : YieldsI P ops I o v a) (he : execOp a'.eval o = execOp a.eval o) (hw : Region.wanted o (yielded ops a'.tmps) = Region.wanted o (yielded ops a.tmps)) : YieldsI P ops I o v a' := by
  unfold YieldsI at *
  rw [he, hw]
  exact hy

theorem wpOp_putI {j : Nat} {oi oj : Oper} {v : Value} (hj : ops[j]? = some oj) (hap : oi.apart ops oj = true) (hsi : ∀ cs b, oi.op ≠ .select cs b) (hsj : ∀ cs b, oj.op ≠ .select cs b)
    (hQ : ∀ c a w, Q (.panic c) (a.put oi.dst v) w → Q (.panic c) a w) {K : Act → World → Prop} {a : Act} {w : World} (hy : YieldsI P ops I oi v a) (h : wpOp P ops Q j K (a.put oi.dst v) w) :
    wpOp P ops Q j (fun a' w' => YieldsI P ops I oi v a' ∧ K (a'.put oi.dst v) w') a w := by
  obtain ⟨h1, h2, h3⟩ := Oper.apart_spec hap
  have keep : ∀ (a : Act), YieldsI P ops I oi v a → ∀ u, YieldsI P ops I oi v (a.put oj.dst u) := fun a hy u => hy.of_same (execOp_put oi hsi a oj.dst u h3) (wanted_put oi a oj.dst u h3)
  have keepD : ∀ d, YieldsI P ops I oi v { a with defers := d :: a.defers } := fun d => hy.of_same rfl rfl
  unfold wpOp at *
  simp only [hj] at *
  rw [wanted_put oj a oi.dst v h1] at h
  split
  · rename_i hw
    simp only [hw, if_true] at h
    rcases h with h | ⟨hasks, hlets⟩
    · refine .inl ?_
      unfold Oper.wp at *
      rw [execOp_put oj hsj a oi.dst v h1] at h
      generalize (execOp a.eval oj).run P w = r at *
      cases r with
      | ok n w' =>
        cases n <;> simp only [Oper.upon] at h ⊢
        case value u => exact ⟨keep a hy u, by rw [← Act.put_comm a v u h2]; exact h⟩
        case skip => exact ⟨keep a hy _, by rw [← Act.put_comm a v undef h2]; exact h⟩
        case defer d => exact ⟨keep _ (keepD d) _, by rw [← Act.put_comm _ v undef h2, ← Act.put_defers]; exact h⟩
        case enter f args =>
          refine Calls.mono h fun e w'' he => ?_
          cases e with
          | returned u => exact ⟨keep a hy u, by rw [← Act.put_comm a v u h2]; exact he⟩
          | panicked c => exact hQ _ _ _ he
          | outgrown => exact he
        case row row args => exact Rows.mono h fun u w'' he => ⟨keep a hy u, by rw [← Act.put_comm a v u h2]; exact he⟩
      | halt x w' =>
        cases x <;> simp only [Oper.upon] at h ⊢
        case panic u => exact hQ _ _ _ h
    · exact .inr ⟨by unfold Oper.asks at *; rw [execOp_put oj hsj a oi.dst v h1] at hasks; exact hasks, hlets⟩
  · rename_i hw
    simp only [hw] at h
    exact ⟨keep a hy _, by rw [← Act.put_comm a v undef h2]; exact h⟩

theorem wpAnyI_first {i : Nat} {oi : Oper} {v : Value} (hi : ops[i]? = some oi) (hsel : ∀ (j : Nat) (o : Oper) cs b, ops[j]? = some o → o.op ≠ .select cs b)
    (hQ : ∀ c a w, Q (.panic c) (a.put oi.dst v) w → Q (.panic c) a w) :
    ∀ (f : Nat) (listed : Array Bool) (a : Act) (w : World),
      (∀ j oj, ops[j]? = some oj → j ≠ i → listed.getD j true = false → (∀ e ∈ oj.after, Region.binds md e = true → e.on ≠ i) → oi.apart ops oj = true) →
      i ∈ Region.ready md ops listed → YieldsI P ops I oi v a →
      wpAnyI P ops md Q I f (listed.setIfInBounds i true) (a.put oi.dst v) w → wpAnyI P ops md Q I (f + 1) listed a w := by
  intro f
  induction f with
  | zero =>
    intro listed a w _ hr hy H
    refine ⟨H.1, fun h => (by rw [h] at hr; cases hr), fun j hj => ?_⟩
    by_cases hji : j = i
    · subst hji; exact hy.wpOp hi H.1 H
    · have := ready_mono hj hji
      rw [H.2.1] at this
      cases this
  | succ f ih =>
    intro listed a w hfree hr hy H
    refine ⟨H.1, fun h => (by rw [h] at hr; cases hr), fun j hj => ?_⟩
    by_cases hji : j = i
    · subst hji; exact hy.wpOp hi H.1 H
    · have h1 := H.2.2 j (ready_mono hj hji)
      obtain ⟨hjun, oj, hoj, hall⟩ := mem_ready.1 hj
      have hnot : ∀ e ∈ oj.after, Region.binds md e = true → e.on ≠ i := fun e he hb heq => by
        have h1 := hall e he hb
        have h0 := (mem_ready.1 hr).1
        rw [heq, getD_both h0] at h1
        cases h1
      have h2 := wpOp_putI hoj (hfree j oj hoj hji hjun hnot) (fun cs b => hsel i oi cs b hi) (fun cs b => hsel j oj cs b hoj) hQ hy h1
      refine wpOp_mono (fun a' w' h3 => ih (listed.setIfInBounds j true) a' w' (fun k ok hk hki hun hno => ?_) (ready_mono hr (Ne.symm hji)) h3.1 ?_) h2
      · refine hfree k ok hk hki ?_ hno
        by_cases hjk : j = k
        · subst hjk; exact hjun
        · rw [getD_set_ne true hjk] at hun; exact hun
      · rw [Array.setIfInBounds_comm _ _ hji]
        exact h3.2

variable (P ops Q I) in
/-- Operations one after another; the invariant holds of each world on the way. -/
def wpListI : List Oper → Act → World → Prop
  | [], a, w => I w ∧ Q .normal a w
  | o :: l, a, w => I w ∧ Region.wanted o (yielded ops a.tmps) = true ∧ o.wp P a w (wpListI l) Q
theorem wpListI.value {o : Oper} {l : List Oper} {a : Act} {w w' : World} {v : Value} (hI : I w) (hw : Region.wanted o (yielded ops a.tmps) = true) (hr : (execOp a.eval o).run P w = .ok (.value v) w') (h : wpListI P ops Q I l (a.put o.dst v) w') : wpListI P ops Q I (o :: l) a w :=
  ⟨hI, hw, by unfold Oper.wp; rw [hr]; exact h⟩
theorem wpListI.skip {o : Oper} {l : List Oper} {a : Act} {w w' : World} (hI : I w) (hw : Region.wanted o (yielded ops a.tmps) = true) (hr : (execOp a.eval o).run P w = .ok .skip w') (h : wpListI P ops Q I l (a.put o.dst undef) w') : wpListI P ops Q I (o :: l) a w :=
  ⟨hI, hw, by unfold Oper.wp; rw [hr]; exact h⟩
theorem wpAnyI_of_seq : ∀ (l : List Oper) (k : Nat) (listed : Array Bool) (a : Act) (w : World), (∀ j, l[j]? = ops[k + j]?) →
    Region.seqB md ops l.length k listed = true → wpListI P ops Q I l a w → wpAnyI P ops md Q I l.length listed a w
  | [], _, _, _, _, _, hB, h => ⟨h.1, by simpa [Region.seqB] using hB, h.2⟩
  | o :: l, k, listed, a, w, hl, hB, h => by
    have h0 : ops[k]? = some o := by simpa using (hl 0).symm
    simp only [List.length_cons, Region.seqB, Bool.and_eq_true, decide_eq_true_eq] at hB
    refine ⟨h.1, fun h1 => (by rw [hB.1] at h1; cases h1), fun i hi => ?_⟩
    rw [hB.1] at hi
    have hik : i = k := by simpa using hi
    subst hik
    have hw : wpOp P ops Q i (wpListI P ops Q I l) a w := by unfold wpOp; simp only [h0, h.2.1, if_true]; exact .inl h.2.2
    exact wpOp_mono (fun a' w' h' => wpAnyI_of_seq l (i + 1) _ a' w' (fun j => by have := hl (j + 1); simpa [Nat.add_assoc, Nat.add_comm 1 j] using this) hB.2 h') hw

theorem AnyR.soundI {w0 : World} {sp : Nat → Option SPred} {n g : Nat} {L : Array Bool → Act → World → Prop} (hI : ∀ w, Ext w0 w → I w) (hL : ∀ listed a w, L listed a w → wpAnyI P ops md Q I g listed a w) :
    ∀ (f : Nat) (listed : Array Bool) (a : Act) (env : List (Nat × Value)) (w : World), Ext w0 w → Known sp env w → AnyR P ops md w0 sp n L f listed a env → wpAnyI P ops md Q I (f + g) listed a w
  | 0, _, _, _, w, he, hk, h => by rw [Nat.zero_add]; exact hL _ _ _ (h w he hk)
  | f + 1, listed, a, env, w, he, hk, h => by
    rw [show f + 1 + g = (f + g) + 1 by omega]
    refine ⟨hI w he, fun h0 => absurd h0 h.1, fun i hi => ?_⟩
    unfold wpOp
    split
    · rename_i hn
      obtain ⟨_, o, ho, _⟩ := mem_ready.1 hi
      rw [hn] at ho; cases ho
    · rename_i o ho
      obtain ⟨hc, hr⟩ := (h.2 i hi).2 o ho
      unfold Can at hc
      cases hp : sp i with
      | none =>
        rw [hp] at hc
        obtain ⟨v, hv⟩ := hc
        have hk' : Known sp ((i, v) :: env) w := hk.cons (by rw [hp]; trivial)
        have hres : Res P ops w0 sp i o a env v := by unfold Res; rw [hp]; exact hv
        have hnext := AnyR.soundI hI hL f _ _ _ w he hk' (hr v hres)
        rcases hv with ⟨hw, hrun⟩ | ⟨hw, rfl⟩
        · rw [if_pos hw]
          refine .inl ?_
          unfold Oper.wp
          rw [hrun w he]
          exact hnext
        · rw [if_neg (by rw [hw]; decide)]
          exact hnext
      | some p =>
        rw [hp] at hc
        obtain ⟨hw, hd, hrr⟩ := hc
        rw [if_pos hw]
        refine .inl (wp_of_wpS (hrr w he (hk.dep hd)) fun v w' ⟨he', hv⟩ => ?_)
        exact AnyR.soundI hI hL f _ _ _ w' (he.trans he') ((hk.ext he').cons (by rw [hp]; exact hv)) (hr v (by unfold Res; rw [hp]; exact ⟨w', he.trans he', hk.ext he', hv⟩))
end

def Region.tail2B (ops : Array Oper) (n N : Nat) : Bool :=
  Region.noSelect ops && decide (n < ops.size) && decide (2 ≤ n) && Region.sinkB1 .any ops 2 n && Region.chainB .any ops n && ((Region.ready .any ops (Array.replicate ops.size false)).contains 0 && Region.free .any ops (Array.replicate ops.size false) 0) &&
    ((Region.ready .any ops ((Array.replicate ops.size false).setIfInBounds 0 true)).contains 1 && Region.free .any ops ((Array.replicate ops.size false).setIfInBounds 0 true) 1) &&
    Region.lexHead .any ops (ops.size - n) (n - 2) 2 (((Array.replicate ops.size false).setIfInBounds 0 true).setIfInBounds 1 true) && ssaB ops && dstB ops N

/-- The first two operations yield their values wherever the invariant holds; the operations from number n on go one after another behind all others but these. -/
theorem wp_region_lex_tail2 {P : Program} {id : Nat} {Q : Exit → Act → World → Prop} {a : Act} {w : World} {o0 o1 : Oper} {l : List Oper} (n : Nat) (sps : List (Nat × SPred)) (v0 v1 : Value) (I : World → Prop) (hm : P.follows .mixedOrders = true)
    (hB : Region.tail2B (o0 :: o1 :: l).toArray n a.tmps.size = true) (hsp0 : spOf sps 0 = none) (hsp1 : spOf sps 1 = none) (hI : ∀ w', Ext w.drew w' → I w')
    (hy0 : YieldsI P (o0 :: o1 :: l).toArray I o0 v0 a) (hy1 : YieldsI P (o0 :: o1 :: l).toArray I o1 v1 (a.put o0.dst v0))
    (h : LexW P (o0 :: o1 :: l).toArray w.drew (spOf sps) (fun a' w' => wpListI P (o0 :: o1 :: l).toArray (strictQ Q) I ((o0 :: o1 :: l).drop n) a' w') (((o0 :: o1 :: l).take n).drop 2) 2 ((a.put o0.dst v0).put o1.dst v1) [(1, v1), (0, v0)]) : (Code.region id (o0 :: o1 :: l).toArray true).wp P Q a w := by
  simp only [Region.tail2B, Bool.and_eq_true, decide_eq_true_eq] at hB
  obtain ⟨⟨⟨⟨⟨⟨⟨⟨⟨hsel, hn⟩, hn1⟩, hs⟩, hc⟩, hr0, hf0⟩, hr1, hf1⟩, hlex⟩, hssa⟩, hdst⟩ := hB
  obtain ⟨ops, hops⟩ : ∃ ops, ops = (o0 :: o1 :: l).toArray := ⟨_, rfl⟩
  have h0 : ops[0]? = some o0 := by rw [hops]; simp
  have h1 : ops[1]? = some o1 := by rw [hops]; simp
  rw [← hops] at hn hsel hs hc hr0 hf0 hr1 hf1 hlex hssa hdst hy0 hy1 h ⊢
  have hsize : ops.size = l.length + 2 := by rw [hops]; simp
  obtain ⟨L, hL⟩ : ∃ L, L = o0 :: o1 :: l := ⟨_, rfl⟩
  have hLl : L.length = ops.size := by rw [hL, hsize]; simp
  rw [← hL] at h
  have hget : ∀ j, L[j]? = ops[j]? := fun j => by rw [hL, hops, List.getElem?_toArray]
  have htl : ((L.take n).drop 2).length = n - 2 := by simp; omega
  have hdl : (L.drop n).length = ops.size - n := by simp; omega
  have inv0 : HeadInv .any ops n (Array.replicate ops.size false) := by rw [hops]; exact headInv0 _ n
  have inv1 := inv0.set (by simpa using hr0) (show 0 < n by omega)
  have inv2 := inv1.set (by simpa using hr1) (show 1 < n by omega)
  have linv : LexInv ops a.tmps.size 2 ((a.put o0.dst v0).put o1.dst v1) [(1, v1), (0, v0)] := ((lexInv0 (ops := ops) a.tmps.size a rfl).step h0 hdst v0).step h1 hdst v1
  have hk1 : Known (spOf sps) [(1, v1), (0, v0)] w.drew := fun p hp => by
    simp only [List.mem_cons, List.not_mem_nil, or_false] at hp
    rcases hp with rfl | rfl
    · simp only [hsp1, holdsO]
    · simp only [hsp0, holdsO]
  have hR := LexW.lexR hssa hdst _ 2 _ _ (fun j hj => by
    rw [htl] at hj
    rw [List.getElem?_drop, List.getElem?_take_of_lt (by omega), hget]) linv h
  have H := LexR.any1 (md := .any) (m := 2) (n := n) (B := fun listed => Region.seqB .any ops (ops.size - n) n listed) hsel
    (fun i hi1 hin listed inv hun j hj => by
      rcases Nat.lt_or_ge j n with h | h
      · exact h
      · exact absurd hj (tail_waits1 hs hc hn inv _ i rfl hi1 hin hun j h))
    (fun listed hb => seqB_ready hb)
    (fun f k listed => Region.lexHead .any ops (ops.size - n) f k listed) (fun listed hh => by simpa [Region.lexHead] using hh)
    (fun f k listed hh => by simpa [Region.lexHead] using hh) ((L.take n).drop 2) 2 _ _ [(1, v1), (0, v0)] (Nat.le_refl _) (fun j hj => by
      rw [htl] at hj
      rw [List.getElem?_drop, List.getElem?_take_of_lt (by omega), hget]) (by rw [htl]; omega) inv2 ⟨w.drew, Ext.refl _, hk1⟩ (by rw [htl]; exact hlex) hR
  refine wp_region_any hm ?_
  have S := AnyR.soundI (Q := strictQ Q) (I := I) (g := ops.size - n) hI (fun listed a' w' hL' => by
    have := wpAnyI_of_seq (md := .any) (Q := strictQ Q) (I := I) (L.drop n) n listed a' w' (fun j => by rw [List.getElem?_drop, hget]) (by rw [hdl]; exact hL'.1) hL'.2
    rwa [hdl] at this) _ _ _ _ w.drew (Ext.refl _) hk1 H
  rw [htl, show n - 2 + (ops.size - n) = ops.size - 2 by omega] at S
  have T1 := wpAnyI_first (md := .any) (Q := strictQ Q) (I := I) h1 (Region.noSelect_spec hsel) (fun c a w hq => absurd hq.1 (by simp)) (ops.size - 2) ((Array.replicate ops.size false).setIfInBounds 0 true) (a.put o0.dst v0) w.drew (Region.free_spec h1 hf1) (by simpa using hr1) hy1 S
  rw [show ops.size - 2 + 1 = ops.size - 1 by omega] at T1
  have T0 := wpAnyI_first (md := .any) (Q := strictQ Q) (I := I) h0 (Region.noSelect_spec hsel) (fun c a w hq => absurd hq.1 (by simp)) (ops.size - 1) (Array.replicate ops.size false) a w.drew (Region.free_spec h0 hf0) (by simpa using hr0) hy0 T1
  rw [show ops.size - 1 + 1 = ops.size by omega] at T0
  exact wpAny_strict _ _ _ _ (wpAnyI.plain _ _ _ _ T0)

end Go.Proofs.Ytlchmkaaogokiaa
