/-
  Contracts and plain laws, part 0: Stab, Float, Float2, Mem, Push, Own, Leaf, Check, Bits.
  No condition.
-/
import Derived.StillTail
import Derived.WalkKit
import Derived.Test.YtcocbainookkcaaGreatRows
import Derived.WalkSpells
import Derived.WalkLawsBesides
import Derived.Lib.Hide
import Derived.IntWalk
import Derived.OwnWalk
/-
  Regions that draw their order of evaluation, walked once in the order of the text: every operation is shown in whatever world extends the region's first one, and what it hands on is said by a predicate that stays true when the world is extended.
  No condition. General over every program.
-/
namespace Go.Proofs.YtcocbainookkcaaGreat
set_option maxRecDepth 100000
open Go.RowKit

/-- The world has only been extended: what was there is as it was. -/
abbrev Ext (w w' : World) : Prop := Below w.heap.size w w'

theorem Ext.refl (w : World) : Ext w w := Below.refl _ _
theorem Ext.trans {a b c : World} (h : Ext a b) (k : Ext b c) : Ext a c := Below.trans h (Below.mono k h.size)
theorem Ext.alloc {a b : World} (h : Ext a b) (o : Obj) : Ext a (b.alloc o) := Below.alloc h h.size o
theorem Ext.drew {a b : World} (h : Ext a b) : Ext a b.drew := Below.drew h
theorem Ext.cell {w w' : World} (h : Ext w w') {p : Addr} {v : Value} (hc : w.cell? p = some v) : w'.cell? p = some v :=
  (Below.cell h (World.block_lt_of_cell? w p hc)).trans hc
theorem Ext.heap {w w' : World} (h : Ext w w') {k : Nat} {o : Obj} (hc : w.heap[k]? = some o) : w'.heap[k]? = some o := by
  have : k < w.heap.size := by
    rcases Nat.lt_or_ge k w.heap.size with h1 | h1
    · exact h1
    · rw [Array.getElem?_eq_none h1] at hc; cases hc
  exact (h.block k this).trans hc

/-- What is said of a value in a world, and stays true when the world is extended. -/
structure SPred where
  holds : Value → World → Prop
  st : ∀ v w w', holds v w → Ext w w' → holds v w'

/-- This very value. -/
def SPred.val (v0 : Value) : SPred := ⟨fun v _ => v = v0, fun _ _ _ h _ => h⟩

section
variable {P : Program} {ops : Array Oper} {md : Region.Mode}

/-- One operation hands on a value, in a world, of which R holds; it does not panic. -/
def wpS (P : Program) (o : Oper) (a : Act) (w : World) (R : Value → World → Prop) : Prop :=
  match (execOp a.eval o).run P w with
  | .ok (.value v) w' => R v w'
  | .ok .skip w' => R undef w'
  | .ok (.enter f args) w' => Calls P f args w' fun e w'' => ∃ v, e = .returned v ∧ R v w''
  | _ => False

theorem wpS_some {o : Oper} {a : Act} {w : World} {R : Value → World → Prop} (h : wpS P o a w R) : ∃ v w', R v w' := by
  unfold wpS at h
  split at h
  · exact ⟨_, _, h⟩
  · exact ⟨_, _, h⟩
  · obtain ⟨e, w', fr, ⟨v, _, hr⟩, _⟩ := h []
    exact ⟨_, _, hr⟩
  · exact h.elim

theorem wp_of_wpS {o : Oper} {a : Act} {w : World} {R : Value → World → Prop} {K : Act → World → Prop} {Q : Exit → Act → World → Prop} (h : wpS P o a w R) (hk : ∀ v w', R v w' → K (a.put o.dst v) w') : o.wp P a w K Q := by
  unfold wpS at h
  unfold Oper.wp
  split at h
  · rename_i hr; rw [hr]; exact hk _ _ h
  · rename_i hr; rw [hr]; exact hk _ _ h
  · rename_i hr; rw [hr]
    exact Calls.mono h fun e w'' ⟨v, he, hr⟩ => by subst he; exact hk _ _ hr
  · exact h.elim

/-- The temporaries that operation i reads and that an earlier operation of the region writes. -/
def depsOf (ops : Array Oper) (i : Nat) : List (Nat × Tmp) :=
  match ops[i]? with
  | none => []
  | some o => (List.range i).filterMap fun d => match (ops[d]?).bind (·.dst) with
      | some t => if (o.looksAt ops).contains t then some (d, t) else none
      | none => none

theorem depsOf_spec {i d : Nat} {t : Tmp} {o : Oper} (ho : ops[i]? = some o) (h : (d, t) ∈ depsOf ops i) : t ∈ o.looksAt ops ∧ ∃ od, ops[d]? = some od ∧ od.dst = some t := by
  simp only [depsOf, ho, List.mem_filterMap, List.mem_range] at h
  obtain ⟨d', _, hd⟩ := h
  split at hd
  · rename_i t' ht'
    split at hd
    · rename_i hc
      simp only [Option.some.injEq, Prod.mk.injEq] at hd
      obtain ⟨rfl, rfl⟩ := hd
      refine ⟨by simpa using hc, ?_⟩
      cases hod : ops[d']? with
      | none => simp [hod] at ht'
      | some od => exact ⟨od, rfl, by simpa [hod] using ht'⟩
    · cases hd
  · cases hd

/-- What is said of a value: nothing, where none was given. -/
def holdsO (s : Option SPred) (v : Value) (w : World) : Prop := match s with | none => True | some p => p.holds v w
theorem holdsO.ext {s : Option SPred} {v : Value} {w w' : World} (h : holdsO s v w) (he : Ext w w') : holdsO s v w' := by
  cases s with
  | none => trivial
  | some p => exact p.st _ _ _ h he

def Dep (sp : Nat → Option SPred) (l : List (Nat × Tmp)) (a : Act) (w : World) : Prop := ∀ p ∈ l, holdsO (sp p.1) (a.tmps.getD p.2 undef) w
def DepIn (env : List (Nat × Value)) (l : List (Nat × Tmp)) (a : Act) : Prop := ∀ p ∈ l, (p.1, a.tmps.getD p.2 undef) ∈ env
/-- All that is known of the values so far. -/
def Known (sp : Nat → Option SPred) (env : List (Nat × Value)) (w : World) : Prop := ∀ p ∈ env, holdsO (sp p.1) p.2 w

theorem Known.dep {sp : Nat → Option SPred} {env : List (Nat × Value)} {w : World} (h : Known sp env w) {l : List (Nat × Tmp)} {a : Act} (hd : DepIn env l a) : Dep sp l a w := fun p hp => h _ (hd p hp)
theorem Known.ext {sp : Nat → Option SPred} {env : List (Nat × Value)} {w w' : World} (h : Known sp env w) (he : Ext w w') : Known sp env w' := fun p hp => (h p hp).ext he
theorem Known.cons {sp : Nat → Option SPred} {env : List (Nat × Value)} {w : World} (h : Known sp env w) {i : Nat} {v : Value} (hv : holdsO (sp i) v w) : Known sp ((i, v) :: env) w := fun p hp => by
  rcases List.mem_cons.1 hp with rfl | hp
  · exact hv
  · exact h p hp

theorem getD_put {a : Act} {dst : Option Tmp} {v : Value} {t : Tmp} (h : ∀ d, dst = some d → d ≠ t) : (a.put dst v).tmps.getD t undef = a.tmps.getD t undef := by
  cases dst with
  | none => rfl
  | some d => simp [Act.put, Array.getElem?_setIfInBounds_ne (h d rfl)]

variable (P ops) in
/-- The operation yields this very value in every world that extends the first one (or is passed over). -/
def Sure (w0 : World) (o : Oper) (a : Act) (v : Value) : Prop :=
  (Region.wanted o (yielded ops a.tmps) = true ∧ ∀ w, Ext w0 w → (execOp a.eval o).run P w = .ok (.value v) w) ∨ (Region.wanted o (yielded ops a.tmps) = false ∧ v = undef)

theorem Sure.uniq {w0 : World} {o : Oper} {a : Act} {v v' : Value} (h : Sure P ops w0 o a v) (h' : Sure P ops w0 o a v') : v = v' := by
  rcases h with ⟨hw, hr⟩ | ⟨hw, rfl⟩ <;> rcases h' with ⟨hw', hr'⟩ | ⟨hw', rfl⟩
  · have h1 := hr w0 (Ext.refl _)
    have h2 := hr' w0 (Ext.refl _)
    rw [h1] at h2
    simpa using h2
  · rw [hw] at hw'; cases hw'
  · rw [hw] at hw'; cases hw'
  · rfl

variable (P ops) in
/-- Operation i can be carried out in a state. -/
def Can (w0 : World) (sp : Nat → Option SPred) (i : Nat) (o : Oper) (a : Act) (env : List (Nat × Value)) : Prop :=
  match sp i with
  | none => ∃ v, Sure P ops w0 o a v
  | some p => Region.wanted o (yielded ops a.tmps) = true ∧ DepIn env (depsOf ops i) a ∧ ∀ w, Ext w0 w → Dep sp (depsOf ops i) a w → wpS P o a w fun v w' => Ext w w' ∧ p.holds v w'

variable (P ops) in
/-- What it may yield. -/
def Res (w0 : World) (sp : Nat → Option SPred) (i : Nat) (o : Oper) (a : Act) (env : List (Nat × Value)) (v : Value) : Prop :=
  match sp i with
  | none => Sure P ops w0 o a v
  | some p => ∃ w, Ext w0 w ∧ Known sp env w ∧ p.holds v w

theorem wpS_put {w : World} {R : Value → World → Prop} {oj : Oper} (hs : ∀ cs b, oj.op ≠ .select cs b) (a : Act) (dst : Option Tmp) (v : Value) (h : ∀ d, dst = some d → d ∉ oj.looksAt ops) : wpS P oj (a.put dst v) w R = wpS P oj a w R := by
  unfold wpS; rw [execOp_put oj hs a dst v h]

theorem Sure_put {w0 : World} {oj : Oper} (hs : ∀ cs b, oj.op ≠ .select cs b) (a : Act) (dst : Option Tmp) (v u : Value) (h : ∀ d, dst = some d → d ∉ oj.looksAt ops) : Sure P ops w0 oj (a.put dst v) u ↔ Sure P ops w0 oj a u := by
  unfold Sure; rw [execOp_put oj hs a dst v h, wanted_put (ops := ops) oj a dst v h]

theorem Dep_put {sp : Nat → Option SPred} {j : Nat} {oj : Oper} (hj : ops[j]? = some oj) (a : Act) (dst : Option Tmp) (v : Value) (w : World) (h : ∀ d, dst = some d → d ∉ oj.looksAt ops) :
    Dep sp (depsOf ops j) (a.put dst v) w ↔ Dep sp (depsOf ops j) a w := by
  constructor
  · intro hd p hp
    have := hd p hp
    rwa [getD_put (fun d he hdt => h d he (by rw [hdt]; exact (depsOf_spec hj hp).1))] at this
  · intro hd p hp
    rw [getD_put (fun d he hdt => h d he (by rw [hdt]; exact (depsOf_spec hj hp).1))]
    exact hd p hp

section
variable {w0 : World} {sp : Nat → Option SPred} {i j : Nat} {oi oj : Oper} {a : Act} {v vj : Value} {env : List (Nat × Value)}

/-- What can be carried out behind i, apart from it, can be carried out ahead of it. -/
theorem Can.back (hi : ops[i]? = some oi) (hj : ops[j]? = some oj) (hap : oi.apart ops oj = true)
    (hsj : ∀ cs b, oj.op ≠ .select cs b) (h : Can P ops w0 sp j oj (a.put oi.dst v) ((i, v) :: env)) : Can P ops w0 sp j oj a env := by
  obtain ⟨h1, h2, h3⟩ := Oper.apart_spec hap
  unfold Can at *
  cases hsp : sp j with
  | none =>
    rw [hsp] at h
    obtain ⟨u, hu⟩ := h
    exact ⟨u, (Sure_put hsj a oi.dst v u h1).1 hu⟩
  | some p =>
    rw [hsp] at h
    obtain ⟨hw, hd, hr⟩ := h
    rw [wanted_put (ops := ops) oj a oi.dst v h1] at hw
    refine ⟨hw, fun q hq => ?_, fun w he hdp => ?_⟩
    · have hin := hd q hq
      obtain ⟨hl, od, hod, hdt⟩ := depsOf_spec hj hq
      rw [getD_put (fun d he hdd => h1 d he (by rw [hdd]; exact hl))] at hin
      rcases List.mem_cons.1 hin with heq | hin
      · have : q.1 = i := congrArg Prod.fst heq
        rw [this, hi] at hod
        obtain rfl := Option.some.inj hod
        exact absurd hl (h1 _ hdt)
      · exact hin
    · have := hr w he ((Dep_put hj a oi.dst v w h1).2 hdp)
      rwa [wpS_put hsj a oi.dst v h1] at this

theorem Can.fore (hi : ops[i]? = some oi) (hap : oi.apart ops oj = true)
    (hsi : ∀ cs b, oi.op ≠ .select cs b) (h : Can P ops w0 sp i oi a env) : Can P ops w0 sp i oi (a.put oj.dst v) ((j, v) :: env) := by
  obtain ⟨h1, h2, h3⟩ := Oper.apart_spec hap
  unfold Can at *
  cases hsp : sp i with
  | none =>
    rw [hsp] at h
    obtain ⟨u, hu⟩ := h
    exact ⟨u, (Sure_put hsi a oj.dst v u h3).2 hu⟩
  | some p =>
    rw [hsp] at h
    obtain ⟨hw, hd, hr⟩ := h
    rw [← wanted_put (ops := ops) oi a oj.dst v h3] at hw
    refine ⟨hw, fun q hq => ?_, fun w he hdp => ?_⟩
    · obtain ⟨hl, od, hod, hdt⟩ := depsOf_spec hi hq
      rw [getD_put (fun d he hdd => h3 d he (by rw [hdd]; exact hl))]
      exact List.mem_cons_of_mem _ (hd q hq)
    · have := hr w he ((Dep_put hi a oj.dst v w h3).1 hdp)
      rwa [wpS_put hsi a oj.dst v h3]

theorem Res.joint (hap : oi.apart ops oj = true) (hsi : ∀ cs b, oi.op ≠ .select cs b) (hsj : ∀ cs b, oj.op ≠ .select cs b)
    (h1 : Res P ops w0 sp j oj a env vj) (h2 : Res P ops w0 sp i oi (a.put oj.dst vj) ((j, vj) :: env) v) :
    Res P ops w0 sp i oi a env v ∧ Res P ops w0 sp j oj (a.put oi.dst v) ((i, v) :: env) vj := by
  obtain ⟨g1, g2, g3⟩ := Oper.apart_spec hap
  unfold Res at *
  cases hpi : sp i with
  | none =>
    rw [hpi] at h2
    refine ⟨(Sure_put hsi a oj.dst vj v g3).1 h2, ?_⟩
    cases hpj : sp j with
    | none => rw [hpj] at h1; exact (Sure_put hsj a oi.dst v vj g1).2 h1
    | some q =>
      rw [hpj] at h1
      obtain ⟨w, he, hk, hv⟩ := h1
      exact ⟨w, he, hk.cons (by rw [hpi]; trivial), hv⟩
  | some p =>
    rw [hpi] at h2
    obtain ⟨w, he, hk, hv⟩ := h2
    have hk' : Known sp env w := fun q hq => hk q (List.mem_cons_of_mem _ hq)
    refine ⟨⟨w, he, hk', hv⟩, ?_⟩
    cases hpj : sp j with
    | none => rw [hpj] at h1; exact (Sure_put hsj a oi.dst v vj g1).2 h1
    | some q =>
      have hq := hk (j, vj) List.mem_cons_self
      simp only [hpj] at hq
      exact ⟨w, he, hk'.cons (by rw [hpi]; exact hv), hq⟩

theorem Can.some_res (h : Can P ops w0 sp i oi a env) (hsat : ∃ w, Ext w0 w ∧ Known sp env w) : ∃ v, Res P ops w0 sp i oi a env v := by
  unfold Can at h
  unfold Res
  cases hp : sp i with
  | none => rw [hp] at h; exact h
  | some p =>
    rw [hp] at h
    obtain ⟨hw, hd, hr⟩ := h
    obtain ⟨w, he, hk⟩ := hsat
    obtain ⟨v, w', he', hv⟩ := wpS_some (hr w he (hk.dep hd))
    exact ⟨v, w', he.trans he', hk.ext he', hv⟩

theorem Res.sat (h : Res P ops w0 sp i oi a env v) (hsat : ∃ w, Ext w0 w ∧ Known sp env w) : ∃ w, Ext w0 w ∧ Known sp ((i, v) :: env) w := by
  unfold Res at h
  cases hp : sp i with
  | none =>
    obtain ⟨w, he, hk⟩ := hsat
    exact ⟨w, he, hk.cons (by rw [hp]; trivial)⟩
  | some p =>
    rw [hp] at h
    obtain ⟨w, he, hk, hv⟩ := h
    exact ⟨w, he, hk.cons (by rw [hp]; exact hv)⟩

theorem Res.weak {env' : List (Nat × Value)} (hs : ∀ p ∈ env, p ∈ env') (h : Res P ops w0 sp i oi a env' v) : Res P ops w0 sp i oi a env v := by
  unfold Res at *
  cases hp : sp i with
  | none => rw [hp] at h; exact h
  | some p =>
    rw [hp] at h
    obtain ⟨w, he, hk, hv⟩ := h
    exact ⟨w, he, fun q hq => hk q (hs q hq), hv⟩
theorem Can.weak {env' : List (Nat × Value)} (hs : ∀ p ∈ env, p ∈ env') (h : Can P ops w0 sp i oi a env) : Can P ops w0 sp i oi a env' := by
  unfold Can at *
  cases hp : sp i with
  | none => rw [hp] at h; exact h
  | some p =>
    rw [hp] at h
    exact ⟨h.1, fun q hq => hs _ (h.2.1 q hq), h.2.2⟩
end

variable (P ops md) in
/-- Whatever order is picked, till the first n have been carried out. -/
def AnyR (w0 : World) (sp : Nat → Option SPred) (n : Nat) (L : Array Bool → Act → World → Prop) : Nat → Array Bool → Act → List (Nat × Value) → Prop
  | 0, listed, a, env => ∀ w, Ext w0 w → Known sp env w → L listed a w
  | f + 1, listed, a, env => Region.ready md ops listed ≠ [] ∧ ∀ i ∈ Region.ready md ops listed, i < n ∧ ∀ o, ops[i]? = some o →
      Can P ops w0 sp i o a env ∧ ∀ v, Res P ops w0 sp i o a env v → AnyR w0 sp n L f (listed.setIfInBounds i true) (a.put o.dst v) ((i, v) :: env)

theorem AnyR.env {w0 : World} {sp : Nat → Option SPred} {n : Nat} {L : Array Bool → Act → World → Prop} : ∀ (f : Nat) (listed : Array Bool) (a : Act) (env env' : List (Nat × Value)), (∀ p ∈ env, p ∈ env') →
    AnyR P ops md w0 sp n L f listed a env → AnyR P ops md w0 sp n L f listed a env'
  | 0, _, _, _, _, hs, h => fun w he hk => h w he fun p hp => hk p (hs p hp)
  | f + 1, listed, a, env, env', hs, h => ⟨h.1, fun i hi => ⟨(h.2 i hi).1, fun o ho => by
      obtain ⟨hc, hr⟩ := (h.2 i hi).2 o ho
      refine ⟨Can.weak hs hc, fun v hv => ?_⟩
      exact AnyR.env f _ _ _ _ (fun p hp => by
        rcases List.mem_cons.1 hp with rfl | hp
        · exact List.mem_cons_self
        · exact List.mem_cons_of_mem _ (hs p hp)) (hr v (Res.weak hs hv))⟩⟩

theorem AnyR.sound {w0 : World} {sp : Nat → Option SPred} {n g : Nat} {L : Array Bool → Act → World → Prop} {Q : Exit → Act → World → Prop} (hL : ∀ listed a w, L listed a w → wpAny P md ops Q g listed a w) :
    ∀ (f : Nat) (listed : Array Bool) (a : Act) (env : List (Nat × Value)) (w : World), Ext w0 w → Known sp env w → AnyR P ops md w0 sp n L f listed a env → wpAny P md ops Q (f + g) listed a w
  | 0, _, _, _, w, he, hk, h => by rw [Nat.zero_add]; exact hL _ _ _ (h w he hk)
  | f + 1, listed, a, env, w, he, hk, h => by
    rw [show f + 1 + g = (f + g) + 1 by omega]
    refine ⟨fun h0 => absurd h0 h.1, fun i hi => ?_⟩
    unfold wpOp
    split
    · rename_i hn
      obtain ⟨_, o, ho, _⟩ := mem_ready.1 hi
      rw [hn] at ho; cases ho
    · rename_i o ho
      obtain ⟨hc, hr⟩ := (h.2 i hi).2 o ho
      unfold Can at hc
      cases hp : sp i with
      | none =>
        rw [hp] at hc
        obtain ⟨v, hv⟩ := hc
        have hk' : Known sp ((i, v) :: env) w := hk.cons (by rw [hp]; trivial)
        have hres : Res P ops w0 sp i o a env v := by unfold Res; rw [hp]; exact hv
        have hnext := AnyR.sound hL f _ _ _ w he hk' (hr v hres)
        rcases hv with ⟨hw, hrun⟩ | ⟨hw, rfl⟩
        · rw [if_pos hw]
          refine .inl ?_
          unfold Oper.wp
          rw [hrun w he]
          exact hnext
        · rw [if_neg (by rw [hw]; decide)]
          exact hnext
      | some p =>
        rw [hp] at hc
        obtain ⟨hw, hd, hrr⟩ := hc
        rw [if_pos hw]
        refine .inl (wp_of_wpS (hrr w he (hk.dep hd)) fun v w' ⟨he', hv⟩ => ?_)
        exact AnyR.sound hL f _ _ _ w' (he.trans he') ((hk.ext he').cons (by rw [hp]; exact hv)) (hr v (by unfold Res; rw [hp]; exact ⟨w', he.trans he', hk.ext he', hv⟩))

theorem AnyR.first {w0 : World} {sp : Nat → Option SPred} {n i : Nat} {oi : Oper} {L : Array Bool → Act → World → Prop} (hi : ops[i]? = some oi) (hsel : ∀ (j : Nat) (o : Oper) cs b, ops[j]? = some o → o.op ≠ .select cs b)
    (hlt : ∀ listed, HeadInv md ops n listed → listed.getD i true = false → ∀ j ∈ Region.ready md ops listed, j < n)
    (hdone : ∀ listed a w, L listed a w → ∀ j ∈ Region.ready md ops listed, n ≤ j) :
    ∀ (f : Nat) (listed : Array Bool) (a : Act) (env : List (Nat × Value)), HeadInv md ops n listed →
      (∀ j oj, ops[j]? = some oj → j ≠ i → listed.getD j true = false → (∀ e ∈ oj.after, Region.binds md e = true → e.on ≠ i) → oi.apart ops oj = true) →
      i ∈ Region.ready md ops listed → (∃ w, Ext w0 w ∧ Known sp env w) → Can P ops w0 sp i oi a env →
      (∀ v, Res P ops w0 sp i oi a env v → AnyR P ops md w0 sp n L f (listed.setIfInBounds i true) (a.put oi.dst v) ((i, v) :: env)) →
      AnyR P ops md w0 sp n L (f + 1) listed a env := by
  intro f
  induction f with
  | zero =>
    intro listed a env inv _ hr hsat hc H
    have hun := (mem_ready.1 hr).1
    refine ⟨fun h => (by rw [h] at hr; cases hr), fun j hj => ⟨hlt listed inv hun j hj, fun oj hoj => ?_⟩⟩
    by_cases hji : j = i
    · subst hji
      obtain rfl := Option.some.inj (hi.symm.trans hoj)
      exact ⟨hc, H⟩
    · exfalso
      obtain ⟨v, hv⟩ := hc.some_res hsat
      obtain ⟨w, he, hk⟩ := hv.sat hsat
      have h0 := H v hv w he hk
      have h1 := hdone _ _ _ h0 j (ready_mono hj hji)
      have h2 := hlt listed inv hun j hj
      omega
  | succ f ih =>
    intro listed a env inv hfree hr hsat hc H
    have hun := (mem_ready.1 hr).1
    refine ⟨fun h => (by rw [h] at hr; cases hr), fun j hj => ⟨hlt listed inv hun j hj, fun oj hoj => ?_⟩⟩
    by_cases hji : j = i
    · subst hji
      obtain rfl := Option.some.inj (hi.symm.trans hoj)
      exact ⟨hc, H⟩
    · obtain ⟨hjun, oj', hoj', hall⟩ := mem_ready.1 hj
      obtain rfl := Option.some.inj (hoj.symm.trans hoj')
      have hjn := hlt listed inv hun j hj
      have hnot : ∀ e ∈ oj.after, Region.binds md e = true → e.on ≠ i := fun e he hb heq => by
        have h1 := hall e he hb
        rw [heq, getD_both hun] at h1
        cases h1
      have hap := hfree j oj hoj hji hjun hnot
      obtain ⟨h1, h2, h3⟩ := Oper.apart_spec hap
      have hsi : ∀ cs b, oi.op ≠ .select cs b := fun cs b => hsel i oi cs b hi
      have hsj : ∀ cs b, oj.op ≠ .select cs b := fun cs b => hsel j oj cs b hoj
      obtain ⟨v0, hv0⟩ := hc.some_res hsat
      have hcj := ((H v0 hv0).2 j (ready_mono hj hji)).2 oj hoj
      refine ⟨hcj.1.back hi hoj hap hsj, fun vj hvj => ?_⟩
      refine ih (listed.setIfInBounds j true) (a.put oj.dst vj) ((j, vj) :: env) (inv.set hj hjn) ?_ (ready_mono hr (Ne.symm hji)) (hvj.sat hsat) (hc.fore hi hap hsi) ?_
      · intro k ok hk hki hun' hno
        refine hfree k ok hk hki ?_ hno
        by_cases hjk : j = k
        · subst hjk; exact hjun
        · rw [getD_set_ne true hjk] at hun'; exact hun'
      · intro v hv
        obtain ⟨hv1, hvj1⟩ := Res.joint hap hsi hsj hvj hv
        have := (((H v hv1).2 j (ready_mono hj hji)).2 oj hoj).2 vj hvj1
        rw [Array.setIfInBounds_comm _ _ hji, ← Act.put_comm a v vj h2]
        refine AnyR.env _ _ _ _ _ ?_ this
        intro p hp
        rcases List.mem_cons.1 hp with rfl | hp
        · exact List.mem_cons_of_mem _ List.mem_cons_self
        · rcases List.mem_cons.1 hp with rfl | hp
          · exact List.mem_cons_self
          · exact List.mem_cons_of_mem _ (List.mem_cons_of_mem _ hp)

variable (P ops) in
/-- The walk in the order of the text. -/
def LexR (w0 : World) (sp : Nat → Option SPred) (Q : Act → World → Prop) : List Oper → Nat → Act → List (Nat × Value) → Prop
  | [], _, a, env => ∀ w, Ext w0 w → Known sp env w → Q a w
  | o :: l, k, a, env => Can P ops w0 sp k o a env ∧ ∀ v, Res P ops w0 sp k o a env v → LexR w0 sp Q l (k + 1) (a.put o.dst v) ((k, v) :: env)

theorem LexR.any {w0 : World} {sp : Nat → Option SPred} {n : Nat} {B : Array Bool → Bool} {Lq : Act → World → Prop} (hsel : Region.noSelect ops = true)
    (hlt : ∀ i, i < n → ∀ listed, HeadInv md ops n listed → listed.getD i true = false → ∀ j ∈ Region.ready md ops listed, j < n)
    (hdone : ∀ listed, B listed = true → ∀ j ∈ Region.ready md ops listed, n ≤ j)
    (hd : Nat → Nat → Array Bool → Bool) (h0 : ∀ listed, hd 0 n listed = true → B listed = true)
    (h1 : ∀ f k listed, hd (f + 1) k listed = true → ((Region.ready md ops listed).contains k = true ∧ Region.free md ops listed k = true) ∧ hd f (k + 1) (listed.setIfInBounds k true) = true) :
    ∀ (l : List Oper) (k : Nat) (listed : Array Bool) (a : Act) (env : List (Nat × Value)), (∀ j, j < l.length → l[j]? = ops[k + j]?) → k + l.length = n → HeadInv md ops n listed →
    (∃ w, Ext w0 w ∧ Known sp env w) → hd l.length k listed = true → LexR P ops w0 sp Lq l k a env →
    AnyR P ops md w0 sp n (fun listed' a' w' => B listed' = true ∧ Lq a' w') l.length listed a env
  | [], k, listed, a, env, _, hk0, _, _, hB, h => fun w he hk => ⟨h0 _ (by obtain rfl : k = n := (by simpa using hk0); exact hB), h w he hk⟩
  | o :: l, k, listed, a, env, hl, hk, inv, hsat, hB, h => by
    have ho : ops[k]? = some o := by simpa using (hl 0 (by simp)).symm
    obtain ⟨⟨hr, hf⟩, hB'⟩ := h1 _ _ _ (by simpa using hB)
    have hkn : k < n := by simp only [List.length_cons] at hk; omega
    have hr' : k ∈ Region.ready md ops listed := by simpa using hr
    exact AnyR.first ho (Region.noSelect_spec hsel) (hlt k hkn) (fun listed' a' w' hL => hdone _ hL.1) l.length listed a env inv (Region.free_spec ho hf) hr' hsat h.1
      fun v hv => LexR.any hsel hlt hdone hd h0 h1 l (k + 1) _ _ _ (fun j hj => by have := hl (j + 1) (by simp; omega); simpa [Nat.add_assoc, Nat.add_comm 1 j] using this) (by simp only [List.length_cons] at hk; omega) (inv.set hr' hkn)
        (hv.sat hsat) hB' (h.2 v hv)

theorem headInv0 (l : List Oper) (n : Nat) : HeadInv md l.toArray n (Array.replicate l.toArray.size false) :=
  ⟨by simp, fun j oj _ hl => (by rw [getD_replicate_false] at hl; cases hl), fun t _ ht => getD_in (by simpa using ht) (getD_replicate_false _ _)⟩

/-- A region that draws its order, all of whose operations only extend the world. -/
theorem wp_region_rel {id : Nat} {Q : Exit → Act → World → Prop} {a : Act} {w : World} {l : List Oper} (sp : Nat → Option SPred) (hm : P.follows .mixedOrders = true) (hB : Region.lexB .any l.toArray = true)
    (h : LexR P l.toArray w.drew sp (fun a' w' => Q .normal a' w') l 0 a []) : (Code.region id l.toArray true).wp P Q a w := by
  simp only [Region.lexB, Bool.and_eq_true] at hB
  have H := LexR.any (md := .any) (n := l.toArray.size) (B := fun listed => (Region.ready .any l.toArray listed).isEmpty) hB.1
    (fun i _ listed _ _ j hj => by obtain ⟨_, o, ho, _⟩ := mem_ready.1 hj; exact (Array.getElem?_eq_some_iff.1 ho).1)
    (fun listed hb j hj => by simp only [List.isEmpty_iff] at hb; rw [hb] at hj; cases hj)
    (fun f k listed => Region.lexFrom .any l.toArray f k listed) (fun listed hh => by simpa [Region.lexFrom] using hh)
    (fun f k listed hh => by simpa [Region.lexFrom] using hh) l 0 _ a [] (by simp) (by simp) (headInv0 l _) ⟨w.drew, Ext.refl _, fun p hp => by cases hp⟩ (by simpa using hB.2) h
  refine wp_region_any hm ?_
  have := AnyR.sound (Q := Q) (g := 0) (fun listed a' w' hL => (⟨by simpa using hL.1, hL.2⟩ : wpAny P .any l.toArray Q 0 listed a' w')) _ _ _ _ w.drew (Ext.refl _) (fun p hp => by cases hp) H
  simpa using this

/-- .. whose operations from number n on go one after another behind all others. -/
theorem wp_region_rel_tail {id : Nat} {Q : Exit → Act → World → Prop} {a : Act} {w : World} {l : List Oper} (n : Nat) (sp : Nat → Option SPred) (hm : P.follows .mixedOrders = true) (hB : Region.lexTailB .any l.toArray n = true)
    (h : LexR P l.toArray w.drew sp (fun a' w' => wpList P l.toArray Q (l.drop n) a' w') (l.take n) 0 a []) : (Code.region id l.toArray true).wp P Q a w := by
  simp only [Region.lexTailB, Bool.and_eq_true, decide_eq_true_eq] at hB
  obtain ⟨⟨⟨⟨hsel, hn⟩, hs⟩, hc⟩, hlex⟩ := hB
  have hn' : n < l.length := by simpa using hn
  have htl : (l.take n).length = n := by simp; omega
  have hdl : (l.drop n).length = l.toArray.size - n := by simp
  have H := LexR.any (md := .any) (n := n) (B := fun listed => Region.seqB .any l.toArray (l.toArray.size - n) n listed) hsel
    (fun i hin listed inv hun j hj => by
      rcases Nat.lt_or_ge j n with h | h
      · exact h
      · exact absurd hj (tail_waits hs hc hn inv _ i rfl hin hun j h))
    (fun listed hb => seqB_ready hb)
    (fun f k listed => Region.lexHead .any l.toArray (l.toArray.size - n) f k listed) (fun listed hh => by simpa [Region.lexHead] using hh)
    (fun f k listed hh => by simpa [Region.lexHead] using hh) (l.take n) 0 _ a [] (fun j hj => by
      have hj' : j < n := by rw [htl] at hj; exact hj
      simp [hj']) (by simpa using htl) (headInv0 l _) ⟨w.drew, Ext.refl _, fun p hp => by cases hp⟩ (by rw [htl]; exact hlex) h
  refine wp_region_any hm ?_
  have := AnyR.sound (Q := Q) (g := l.toArray.size - n) (fun listed a' w' hL => by
    have := wpAny_of_seq (md := .any) (Q' := Q) (l.drop n) n listed a' w' (fun j => by simp [List.getElem?_drop]) (by rw [hdl]; exact hL.1) hL.2
    rwa [hdl] at this) _ _ _ _ w.drew (Ext.refl _) (fun p hp => by cases hp) H
  rw [htl, show n + (l.toArray.size - n) = l.toArray.size by omega] at this
  exact this
end

/-! ### The walk without the bookkeeping -/

/-- No temporary that is read is written twice ahead of its reader. -/
def ssaB (ops : Array Oper) : Bool :=
  (List.range ops.size).all fun k => (depsOf ops k).all fun p => (List.range k).all fun d => decide (d ≤ p.1) || ((ops[d]?).bind (·.dst)) != some p.2
def dstB (ops : Array Oper) (n : Nat) : Bool := ops.all fun o => match o.dst with | some d => decide (d < n) | none => true

section
variable {P : Program} {ops : Array Oper}

variable (P ops) in
def LexW (w0 : World) (sp : Nat → Option SPred) (Q : Act → World → Prop) : List Oper → Nat → Act → List (Nat × Value) → Prop
  | [], _, a, env => ∀ w, Ext w0 w → Known sp env w → Q a w
  | o :: l, k, a, env => match sp k with
    | none => ∃ v, Sure P ops w0 o a v ∧ LexW w0 sp Q l (k + 1) (a.put o.dst v) ((k, v) :: env)
    | some p => Region.wanted o (yielded ops a.tmps) = true ∧ (∀ w, Ext w0 w → Dep sp (depsOf ops k) a w → wpS P o a w fun v w' => Ext w w' ∧ p.holds v w') ∧
        ∀ v, (∃ w, p.holds v w) → LexW w0 sp Q l (k + 1) (a.put o.dst v) ((k, v) :: env)

structure LexInv (ops : Array Oper) (n k : Nat) (a : Act) (env : List (Nat × Value)) : Prop where
  size : a.tmps.size = n
  known : ∀ d t, d < k → (ops[d]?).bind (·.dst) = some t → (∀ d', d < d' → d' < k → (ops[d']?).bind (·.dst) ≠ some t) → (d, a.tmps.getD t undef) ∈ env

theorem LexInv.step {n k : Nat} {a : Act} {env : List (Nat × Value)} (h : LexInv ops n k a env) {o : Oper} (ho : ops[k]? = some o) (hd : dstB ops n = true) (v : Value) : LexInv ops n (k + 1) (a.put o.dst v) ((k, v) :: env) := by
  constructor
  · cases o.dst <;> simp [Act.put, h.size]
  · intro d t hdk hdt hno
    by_cases hdk' : d = k
    · subst hdk'
      simp only [ho, Option.bind_some] at hdt
      have hlt : t < n := by
        have := Array.all_eq_true_iff_forall_mem.1 hd o (Array.mem_of_getElem? ho)
        simpa [hdt] using this
      have : (a.put o.dst v).tmps.getD t undef = v := by
        rw [hdt]; simp [Act.put, h.size, hlt]
      rw [this]; exact List.mem_cons_self
    · have hd1 : d < k := by omega
      have hne : o.dst ≠ some t := by
        have := hno k hd1 (by omega)
        simpa [ho] using this
      rw [getD_put (fun d' he hdd => hne (by rw [he, hdd]))]
      exact List.mem_cons_of_mem _ (h.known d t hd1 hdt fun d' h1 h2 => hno d' h1 (by omega))

theorem depsOf_lt {i d : Nat} {t : Tmp} (h : (d, t) ∈ depsOf ops i) : d < i ∧ (ops[d]?).bind (·.dst) = some t := by
  unfold depsOf at h
  split at h
  · cases h
  · simp only [List.mem_filterMap, List.mem_range] at h
    obtain ⟨d', hd', hd⟩ := h
    split at hd
    · rename_i t' ht'
      split at hd
      · simp only [Option.some.injEq, Prod.mk.injEq] at hd
        obtain ⟨rfl, rfl⟩ := hd
        exact ⟨hd', ht'⟩
      · cases hd
    · cases hd

theorem LexW.lexR {w0 : World} {sp : Nat → Option SPred} {Q : Act → World → Prop} {n : Nat} (hs : ssaB ops = true) (hd : dstB ops n = true) :
    ∀ (l : List Oper) (k : Nat) (a : Act) (env : List (Nat × Value)), (∀ j, j < l.length → l[j]? = ops[k + j]?) → LexInv ops n k a env → LexW P ops w0 sp Q l k a env → LexR P ops w0 sp Q l k a env
  | [], _, _, _, _, _, h => h
  | o :: l, k, a, env, hl, inv, h => by
    have ho : ops[k]? = some o := by simpa using (hl 0 (by simp)).symm
    have hks : k < ops.size := (Array.getElem?_eq_some_iff.1 ho).1
    have next : ∀ v, LexW P ops w0 sp Q l (k + 1) (a.put o.dst v) ((k, v) :: env) → LexR P ops w0 sp Q l (k + 1) (a.put o.dst v) ((k, v) :: env) := fun v hv =>
      LexW.lexR hs hd l (k + 1) _ _ (fun j hj => by have := hl (j + 1) (by simp; omega); simpa [Nat.add_assoc, Nat.add_comm 1 j] using this) (inv.step ho hd v) hv
    unfold LexW at h
    cases hp : sp k with
    | none =>
      rw [hp] at h
      obtain ⟨v, hv, hn⟩ := h
      refine ⟨by unfold Can; rw [hp]; exact ⟨v, hv⟩, fun v' hv' => ?_⟩
      unfold Res at hv'
      rw [hp] at hv'
      obtain rfl := hv.uniq hv'
      exact next _ hn
    | some p =>
      rw [hp] at h
      obtain ⟨hw, hr, hn⟩ := h
      refine ⟨by
        unfold Can
        rw [hp]
        refine ⟨hw, fun q hq => ?_, hr⟩
        obtain ⟨hlt, hdst⟩ := depsOf_lt (ops := ops) (i := k) (d := q.1) (t := q.2) hq
        refine inv.known q.1 q.2 hlt hdst fun d' h1 h2 hc => ?_
        have := List.all_eq_true.1 (List.all_eq_true.1 (List.all_eq_true.1 hs k (List.mem_range.2 hks)) q hq) d' (List.mem_range.2 h2)
        simp only [Bool.or_eq_true, decide_eq_true_eq, bne_iff_ne, ne_eq] at this
        rcases this with h3 | h3
        · omega
        · exact h3 hc, fun v hv => ?_⟩
      unfold Res at hv
      rw [hp] at hv
      obtain ⟨w, _, _, hv⟩ := hv
      exact next _ (hn v ⟨w, hv⟩)

theorem lexInv0 (n : Nat) (a : Act) (h : a.tmps.size = n) : LexInv ops n 0 a [] := ⟨h, fun _ _ h => absurd h (Nat.not_lt_zero _)⟩

/-- What is said of the values of some operations, by their numbers. -/
def spOf (sps : List (Nat × SPred)) (k : Nat) : Option SPred := sps.lookup k

theorem wp_region_lex {id : Nat} {Q : Exit → Act → World → Prop} {a : Act} {w : World} {l : List Oper} (sps : List (Nat × SPred)) (hm : P.follows .mixedOrders = true)
    (hB : (Region.lexB .any l.toArray && ssaB l.toArray && dstB l.toArray a.tmps.size) = true)
    (h : LexW P l.toArray w.drew (spOf sps) (fun a' w' => Q .normal a' w') l 0 a []) : (Code.region id l.toArray true).wp P Q a w := by
  simp only [Bool.and_eq_true] at hB
  exact wp_region_rel (spOf sps) hm hB.1.1 (LexW.lexR hB.1.2 hB.2 l 0 a [] (by simp) (lexInv0 _ _ rfl) h)

theorem wp_region_lex_tail {id : Nat} {Q : Exit → Act → World → Prop} {a : Act} {w : World} {l : List Oper} (n : Nat) (sps : List (Nat × SPred)) (hm : P.follows .mixedOrders = true)
    (hB : (Region.lexTailB .any l.toArray n && ssaB l.toArray && dstB l.toArray a.tmps.size) = true)
    (h : LexW P l.toArray w.drew (spOf sps) (fun a' w' => wpList P l.toArray Q (l.drop n) a' w') (l.take n) 0 a []) : (Code.region id l.toArray true).wp P Q a w := by
  simp only [Bool.and_eq_true] at hB
  exact wp_region_rel_tail n (spOf sps) hm hB.1.1 (LexW.lexR hB.1.2 hB.2 _ 0 a [] (fun j hj => by
    have : j < n := by simp at hj; omega
    simp [this]) (lexInv0 _ _ rfl) h)

section
variable {w0 : World} {sp : Nat → Option SPred} {Q : Act → World → Prop} {o : Oper} {l : List Oper} {k : Nat} {a : Act} {env : List (Nat × Value)}

/-- An operation whose value is known and that leaves the world alone. -/
theorem LexW.pure {v : Value} (hsp : sp k = none) (hw : Region.wanted o (yielded ops a.tmps) = true) (hr : ∀ w, Ext w0 w → (execOp a.eval o).run P w = .ok (.value v) w)
    (h : LexW P ops w0 sp Q l (k + 1) (a.put o.dst v) ((k, v) :: env)) : LexW P ops w0 sp Q (o :: l) k a env := by
  unfold LexW; rw [hsp]; exact ⟨v, .inl ⟨hw, hr⟩, h⟩

theorem LexW.skip (hsp : sp k = none) (hw : Region.wanted o (yielded ops a.tmps) = false)
    (h : LexW P ops w0 sp Q l (k + 1) (a.put o.dst undef) ((k, undef) :: env)) : LexW P ops w0 sp Q (o :: l) k a env := by
  unfold LexW; rw [hsp]; exact ⟨undef, .inr ⟨hw, rfl⟩, h⟩

/-- A call whose value is known and that only extends the world. -/
theorem LexW.call {v : Value} {f : FuncId} {args : Array Value} (hsp : sp k = some (SPred.val v)) (hw : Region.wanted o (yielded ops a.tmps) = true) (hr : ∀ w, (execOp a.eval o).run P w = .ok (.enter f args) w)
    (hc : ∀ w, Ext w0 w → Dep sp (depsOf ops k) a w → Calls P f args w fun e w' => e = .returned v ∧ Ext w w')
    (h : LexW P ops w0 sp Q l (k + 1) (a.put o.dst v) ((k, v) :: env)) : LexW P ops w0 sp Q (o :: l) k a env := by
  unfold LexW; rw [hsp]
  refine ⟨hw, fun w he hd => ?_, fun v' ⟨w, hv⟩ => ?_⟩
  · unfold wpS; rw [hr w]; exact (hc w he hd).mono fun e w' ⟨h1, h2⟩ => ⟨v, h1, h2, rfl⟩
  · have hv' : v' = v := hv
    subst hv'
    exact h

/-- A call of whose value a predicate is known. -/
theorem LexW.callR {p : SPred} {f : FuncId} {args : Array Value} (hsp : sp k = some p) (hw : Region.wanted o (yielded ops a.tmps) = true) (hr : ∀ w, (execOp a.eval o).run P w = .ok (.enter f args) w)
    (hc : ∀ w, Ext w0 w → Dep sp (depsOf ops k) a w → Calls P f args w fun e w' => ∃ v, e = .returned v ∧ Ext w w' ∧ p.holds v w')
    (h : ∀ v, (∃ w, p.holds v w) → LexW P ops w0 sp Q l (k + 1) (a.put o.dst v) ((k, v) :: env)) : LexW P ops w0 sp Q (o :: l) k a env := by
  unfold LexW; rw [hsp]
  exact ⟨hw, fun w he hd => by unfold wpS; rw [hr w]; exact hc w he hd, h⟩

/-- Any other operation, of whose value a predicate is known. -/
theorem LexW.rel {p : SPred} (hsp : sp k = some p) (hw : Region.wanted o (yielded ops a.tmps) = true)
    (hr : ∀ w, Ext w0 w → Dep sp (depsOf ops k) a w → ∃ v w', (execOp a.eval o).run P w = .ok (.value v) w' ∧ Ext w w' ∧ p.holds v w')
    (h : ∀ v, (∃ w, p.holds v w) → LexW P ops w0 sp Q l (k + 1) (a.put o.dst v) ((k, v) :: env)) : LexW P ops w0 sp Q (o :: l) k a env := by
  unfold LexW; rw [hsp]
  exact ⟨hw, fun w he hd => by obtain ⟨v, w', h1, h2⟩ := hr w he hd; unfold wpS; rw [h1]; exact h2, h⟩

theorem LexW.nil (h : ∀ w, Ext w0 w → Known sp env w → Q a w) : LexW P ops w0 sp Q [] k a env := h

end
end

end Go.Proofs.YtcocbainookkcaaGreat

/-
  A region whose first operation is a move that may be carried out at any time: it is carried out first.
  No condition. General over every program.
-/
namespace Go.Proofs.YtcocbainookkcaaGreat
set_option maxRecDepth 100000
open Go.RowKit

/-- The exit is normal. -/
def strictQ (Q : Exit → Act → World → Prop) : Exit → Act → World → Prop := fun e a w => e = .normal ∧ Q .normal a w
theorem strictQ_normal {Q : Exit → Act → World → Prop} {a : Act} {w : World} (h : Q .normal a w) : strictQ Q .normal a w := ⟨rfl, h⟩

section
variable {P : Program} {ops : Array Oper} {md : Region.Mode} {Q : Exit → Act → World → Prop}
theorem not_letsOut : ¬ LetsOut (strictQ Q) := fun ⟨_, _, h, _⟩ => by cases h
theorem wp_strict {o : Oper} {a : Act} {w : World} {K K' : Act → World → Prop} (h : ∀ a w, K a w → K' a w) (hh : o.wp P a w K (strictQ Q)) : o.wp P a w K' Q := by
  unfold Oper.wp at *
  generalize (execOp a.eval o).run P w = r at *
  cases r with
  | ok n w' =>
    cases n <;> simp only [Oper.upon] at hh ⊢ <;>
      first
        | exact h _ _ hh
        | exact Calls.mono hh (fun e w'' he => by
            cases e with
            | returned v => exact h _ _ he
            | panicked c => exact absurd he.1 (by simp)
            | outgrown => exact absurd he not_letsOut)
        | exact Rows.mono hh (fun _ _ he => h _ _ he)
  | halt x w' =>
    cases x <;> simp only [Oper.upon] at hh ⊢ <;> first | exact hh.elim | exact absurd hh.1 (by simp) | exact hh
theorem wpOp_strict {i : Nat} {a : Act} {w : World} {K K' : Act → World → Prop} (h : ∀ a w, K a w → K' a w) (hh : wpOp P ops (strictQ Q) i K a w) : wpOp P ops Q i K' a w := by
  unfold wpOp at *
  split
  · exact h _ _ (by simpa [*] using hh)
  · rename_i o ho
    simp only [ho] at hh
    split
    · rename_i hw
      simp only [hw, if_true] at hh
      rcases hh with hh | hh
      · exact .inl (wp_strict h hh)
      · exact absurd hh.2 not_letsOut
    · rename_i hw; simp only [hw] at hh; exact h _ _ hh
theorem wpAny_strict : ∀ (f : Nat) (listed : Array Bool) (a : Act) (w : World), wpAny P md ops (strictQ Q) f listed a w → wpAny P md ops Q f listed a w
  | 0, _, _, _, h => ⟨h.1, h.2.2⟩
  | f + 1, _, _, _, h => ⟨fun h0 => (h.1 h0).2, fun i hi => wpOp_strict (fun a w => wpAny_strict f _ a w) (h.2 i hi)⟩

def Region.sinkB1 (md : Region.Mode) (ops : Array Oper) (m n : Nat) : Bool :=
  (List.range n).all fun i => decide (i < m) || (List.range (n + 1)).any fun j => decide (i < j) && Region.waitsFor md ops j i
theorem tail_waits1 {m n : Nat} {listed : Array Bool} (hs : Region.sinkB1 md ops m n = true) (hc : Region.chainB md ops n = true) (hn : n < ops.size) (inv : HeadInv md ops n listed) :
    ∀ (d i : Nat), n - i = d → m ≤ i → i < n → listed.getD i true = false → ∀ t, n ≤ t → t ∉ Region.ready md ops listed := by
  intro d
  induction d using Nat.strongRecOn with
  | _ d ih =>
    intro i hd hm hi hun t ht hr
    obtain ⟨_, ot, hot, hall⟩ := mem_ready.1 hr
    have htlt : t < ops.size := (Array.getElem?_eq_some_iff.1 hot).1
    by_cases htn : t = n
    · subst htn
      have h1 := List.all_eq_true.1 hs i (List.mem_range.2 hi)
      simp only [Bool.or_eq_true, decide_eq_true_eq] at h1
      obtain ⟨j, hj, hj2⟩ := List.any_eq_true.1 (h1.resolve_left (by omega))
      simp only [Bool.and_eq_true, decide_eq_true_eq] at hj2
      obtain ⟨oj, hoj, e, he, hb, hon⟩ := Region.waitsFor_spec hj2.2
      have hjle : j ≤ t := by have := List.mem_range.1 hj; omega
      by_cases hjt : j = t
      · subst hjt
        have : oj = ot := Option.some.inj (hoj.symm.trans hot)
        subst this
        have h2 := hall e he hb
        rw [hon, getD_both hun] at h2
        cases h2
      · cases hl : listed.getD j false with
        | true =>
          have h2 := inv.closed j oj hoj hl e he hb
          rw [hon, getD_both hun] at h2
          cases h2
        | false =>
          have hjs : j < listed.size := by rw [inv.size]; omega
          exact ih (t - j) (by omega) j rfl (by omega) (by omega) (getD_in hjs hl) t (Nat.le_refl _) hr
    · have h1 := List.all_eq_true.1 hc t (List.mem_range.2 htlt)
      simp only [Bool.or_eq_true, decide_eq_true_eq] at h1
      rcases h1 with h1 | h1
      · omega
      · obtain ⟨o', ho', e, he, hb, hon⟩ := Region.waitsFor_spec h1
        have : o' = ot := Option.some.inj (ho'.symm.trans hot)
        subst this
        have h2 := hall e he hb
        rw [hon, getD_both (inv.tail (t - 1) (by omega) (by omega))] at h2
        cases h2

theorem LexR.any1 {w0 : World} {sp : Nat → Option SPred} {m n : Nat} {B : Array Bool → Bool} {Lq : Act → World → Prop} (hsel : Region.noSelect ops = true)
    (hlt : ∀ i, m ≤ i → i < n → ∀ listed, HeadInv md ops n listed → listed.getD i true = false → ∀ j ∈ Region.ready md ops listed, j < n)
    (hdone : ∀ listed, B listed = true → ∀ j ∈ Region.ready md ops listed, n ≤ j)
    (hd : Nat → Nat → Array Bool → Bool) (h0 : ∀ listed, hd 0 n listed = true → B listed = true)
    (h1 : ∀ f k listed, hd (f + 1) k listed = true → ((Region.ready md ops listed).contains k = true ∧ Region.free md ops listed k = true) ∧ hd f (k + 1) (listed.setIfInBounds k true) = true) :
    ∀ (l : List Oper) (k : Nat) (listed : Array Bool) (a : Act) (env : List (Nat × Value)), m ≤ k → (∀ j, j < l.length → l[j]? = ops[k + j]?) → k + l.length = n → HeadInv md ops n listed →
    (∃ w, Ext w0 w ∧ Known sp env w) → hd l.length k listed = true → LexR P ops w0 sp Lq l k a env →
    AnyR P ops md w0 sp n (fun listed' a' w' => B listed' = true ∧ Lq a' w') l.length listed a env
  | [], k, listed, a, env, _, _, hk0, _, _, hB, h => fun w he hk => ⟨h0 _ (by obtain rfl : k = n := (by simpa using hk0); exact hB), h w he hk⟩
  | o :: l, k, listed, a, env, hmk, hl, hk, inv, hsat, hB, h => by
    have ho : ops[k]? = some o := by simpa using (hl 0 (by simp)).symm
    obtain ⟨⟨hr, hf⟩, hB'⟩ := h1 _ _ _ (by simpa using hB)
    have hkn : k < n := by simp only [List.length_cons] at hk; omega
    have hr' : k ∈ Region.ready md ops listed := by simpa using hr
    exact AnyR.first ho (Region.noSelect_spec hsel) (hlt k hmk hkn) (fun listed' a' w' hL => hdone _ hL.1) l.length listed a env inv (Region.free_spec ho hf) hr' hsat h.1
      fun v hv => LexR.any1 hsel hlt hdone hd h0 h1 l (k + 1) _ _ _ (by omega) (fun j hj => by have := hl (j + 1) (by simp; omega); simpa [Nat.add_assoc, Nat.add_comm 1 j] using this) (by simp only [List.length_cons] at hk; omega) (inv.set hr' hkn)
        (hv.sat hsat) hB' (h.2 v hv)
end

def Region.tail1B (ops : Array Oper) (n N : Nat) : Bool :=
  Region.noSelect ops && decide (n < ops.size) && decide (1 ≤ n) && Region.sinkB1 .any ops 1 n && Region.chainB .any ops n && ((Region.ready .any ops (Array.replicate ops.size false)).contains 0 && Region.free .any ops (Array.replicate ops.size false) 0) &&
    Region.lexHead .any ops (ops.size - n) (n - 1) 1 ((Array.replicate ops.size false).setIfInBounds 0 true) && ssaB ops && dstB ops N

/-- The first operation is a move; the operations from number n on go one after another behind all others but it. -/
theorem wp_region_lex_tail1 {P : Program} {id : Nat} {Q : Exit → Act → World → Prop} {a : Act} {w : World} {o0 : Oper} {l : List Oper} (n : Nat) (sps : List (Nat × SPred)) (v0 : Value) (hm : P.follows .mixedOrders = true)
    (hB : Region.tail1B (o0 :: l).toArray n a.tmps.size = true) (hsp : spOf sps 0 = none) (hw : Region.wanted o0 (yielded (o0 :: l).toArray a.tmps) = true) (hy : ∀ w, (execOp a.eval o0).run P w = .ok (.value v0) w)
    (h : LexW P (o0 :: l).toArray w.drew (spOf sps) (fun a' w' => wpList P (o0 :: l).toArray (strictQ Q) ((o0 :: l).drop n) a' w') (((o0 :: l).take n).drop 1) 1 (a.put o0.dst v0) [(0, v0)]) : (Code.region id (o0 :: l).toArray true).wp P Q a w := by
  simp only [Region.tail1B, Bool.and_eq_true, decide_eq_true_eq] at hB
  obtain ⟨⟨⟨⟨⟨⟨⟨⟨hsel, hn⟩, hn1⟩, hs⟩, hc⟩, hr0, hf0⟩, hlex⟩, hssa⟩, hdst⟩ := hB
  obtain ⟨ops, hops⟩ : ∃ ops, ops = (o0 :: l).toArray := ⟨_, rfl⟩
  have h0 : ops[0]? = some o0 := by rw [hops]; simp
  rw [← hops] at hn hsel hs hc hr0 hf0 hlex hssa hdst hw h ⊢
  have hsize : ops.size = l.length + 1 := by rw [hops]; simp
  obtain ⟨L, hL⟩ : ∃ L, L = o0 :: l := ⟨_, rfl⟩
  have hLl : L.length = ops.size := by rw [hL, hsize, List.length_cons]
  rw [← hL] at h
  have hget : ∀ j, L[j]? = ops[j]? := fun j => by rw [hL, hops, List.getElem?_toArray]
  have htl : ((L.take n).drop 1).length = n - 1 := by simp; omega
  have hdl : (L.drop n).length = ops.size - n := by simp; omega
  have inv0 : HeadInv .any ops n (Array.replicate ops.size false) := by rw [hops]; exact headInv0 _ n
  have inv1 := inv0.set (by simpa using hr0) (show 0 < n by omega)
  have linv : LexInv ops a.tmps.size 1 (a.put o0.dst v0) [(0, v0)] := (lexInv0 (ops := ops) a.tmps.size a rfl).step h0 hdst v0
  have hk1 : Known (spOf sps) [(0, v0)] w.drew := fun p hp => by
    simp only [List.mem_singleton] at hp
    subst hp
    simp only [hsp, holdsO]
  have hR := LexW.lexR hssa hdst _ 1 _ _ (fun j hj => by
    rw [htl] at hj
    rw [List.getElem?_drop, List.getElem?_take_of_lt (by omega), hget]) linv h
  have H := LexR.any1 (md := .any) (m := 1) (n := n) (B := fun listed => Region.seqB .any ops (ops.size - n) n listed) hsel
    (fun i hi1 hin listed inv hun j hj => by
      rcases Nat.lt_or_ge j n with h | h
      · exact h
      · exact absurd hj (tail_waits1 hs hc hn inv _ i rfl hi1 hin hun j h))
    (fun listed hb => seqB_ready hb)
    (fun f k listed => Region.lexHead .any ops (ops.size - n) f k listed) (fun listed hh => by simpa [Region.lexHead] using hh)
    (fun f k listed hh => by simpa [Region.lexHead] using hh) ((L.take n).drop 1) 1 _ _ [(0, v0)] (Nat.le_refl _) (fun j hj => by
      rw [htl] at hj
      rw [List.getElem?_drop, List.getElem?_take_of_lt (by omega), hget]) (by rw [htl]; omega) inv1 ⟨w.drew, Ext.refl _, hk1⟩ (by rw [htl]; exact hlex) hR
  refine wp_region_any hm ?_
  have S := AnyR.sound (Q := strictQ Q) (g := ops.size - n) (fun listed a' w' hL' => by
    have := wpAny_of_seq (md := .any) (Q' := strictQ Q) (L.drop n) n listed a' w' (fun j => by rw [List.getElem?_drop, hget]) (by rw [hdl]; exact hL'.1) hL'.2
    rwa [hdl] at this) _ _ _ _ w.drew (Ext.refl _) hk1 H
  rw [htl, show n - 1 + (ops.size - n) = ops.size - 1 by omega] at S
  have T := wpAny_take (md := .any) (Q := strictQ Q) (fuel := ops.size - 1) (listed := Array.replicate ops.size false) h0 hsel hf0 hr0 (fun c a w hq => absurd hq.1 (by simp)) (.inl ⟨hw, hy⟩) S
  rw [show ops.size - 1 + 1 = ops.size by omega] at T
  exact wpAny_strict _ _ _ _ T

end Go.Proofs.YtcocbainookkcaaGreat

/-
  A region whose first two operations (an address, a load) may be carried out at any time while an invariant of the worlds holds: they are carried out first; its last operations go one after another and may write.
  No condition. General over every program.
-/
namespace Go.Proofs.YtcocbainookkcaaGreat
set_option maxRecDepth 100000
open Go.RowKit

section
variable {P : Program} {ops : Array Oper} {md : Region.Mode} {Q : Exit → Act → World → Prop} {I : World → Prop}

variable (P md ops Q I) in
/-- Whatever order is picked; the invariant holds of each world on the way. -/
def wpAnyI : Nat → Array Bool → Act → World → Prop
  | 0, listed, a, w => I w ∧ Region.ready md ops listed = [] ∧ Q .normal a w
  | f + 1, listed, a, w => I w ∧ (Region.ready md ops listed = [] → Q .normal a w) ∧ ∀ i ∈ Region.ready md ops listed, wpOp P ops Q i (wpAnyI f (listed.setIfInBounds i true)) a w
theorem wpAnyI.inv : ∀ {f : Nat} {listed : Array Bool} {a : Act} {w : World}, wpAnyI P ops md Q I f listed a w → I w
  | 0, _, _, _, h => h.1
  | _ + 1, _, _, _, h => h.1
theorem wpAnyI.plain : ∀ (f : Nat) (listed : Array Bool) (a : Act) (w : World), wpAnyI P ops md Q I f listed a w → wpAny P md ops Q f listed a w
  | 0, _, _, _, h => h.2
  | f + 1, _, _, _, h => ⟨h.2.1, fun i hi => wpOp_mono (fun a w => wpAnyI.plain f _ a w) (h.2.2 i hi)⟩

variable (P ops I) in
/-- The operation yields this value in every world of which the invariant holds. -/
def YieldsI (o : Oper) (v : Value) (a : Act) : Prop := Region.wanted o (yielded ops a.tmps) = true ∧ ∀ w, I w → (execOp a.eval o).run P w = .ok (.value v) w
theorem YieldsI.wpOp {i : Nat} {o : Oper} {v : Value} {a : Act} (hi : ops[i]? = some o) (hy : YieldsI P ops I o v a) {K : Act → World → Prop} {w : World} (hI : I w) (h : K (a.put o.dst v) w) : wpOp P ops Q i K a w := by
  unfold Go.wpOp
  simp only [hi]
  simp only [hy.1, if_true, Oper.wp, hy.2 w hI, Oper.upon]
  exact .inl h
theorem YieldsI.of_same {o : Oper} {v : Value} {a a' : Act} (hy : YieldsI P ops I o v a) (he : execOp a'.eval o = execOp a.eval o) (hw : Region.wanted o (yielded ops a'.tmps) = Region.wanted o (yielded ops a.tmps)) : YieldsI P ops I o v a' := by
  unfold YieldsI at *
  rw [he, hw]
  exact hy

theorem wpOp_putI {j : Nat} {oi oj : Oper} {v : Value} (hj : ops[j]? = some oj) (hap : oi.apart ops oj = true) (hsi : ∀ cs b, oi.op ≠ .select cs b) (hsj : ∀ cs b, oj.op ≠ .select cs b)
    (hQ : ∀ c a w, Q (.panic c) (a.put oi.dst v) w → Q (.panic c) a w) {K : Act → World → Prop} {a : Act} {w : World} (hy : YieldsI P ops I oi v a) (h : wpOp P ops Q j K (a.put oi.dst v) w) :
    wpOp P ops Q j (fun a' w' => YieldsI P ops I oi v a' ∧ K (a'.put oi.dst v) w') a w := by
  obtain ⟨h1, h2, h3⟩ := Oper.apart_spec hap
  have keep : ∀ (a : Act), YieldsI P ops I oi v a → ∀ u, YieldsI P ops I oi v (a.put oj.dst u) := fun a hy u => hy.of_same (execOp_put oi hsi a oj.dst u h3) (wanted_put oi a oj.dst u h3)
  have keepD : ∀ d, YieldsI P ops I oi v { a with defers := d :: a.defers } := fun d => hy.of_same rfl rfl
  unfold wpOp at *
  simp only [hj] at *
  rw [wanted_put oj a oi.dst v h1] at h
  split
  · rename_i hw
    simp only [hw, if_true] at h
    rcases h with h | ⟨hasks, hlets⟩
    · refine .inl ?_
      unfold Oper.wp at *
      rw [execOp_put oj hsj a oi.dst v h1] at h
      generalize (execOp a.eval oj).run P w = r at *
      cases r with
      | ok n w' =>
        cases n <;> simp only [Oper.upon] at h ⊢
        case value u => exact ⟨keep a hy u, by rw [← Act.put_comm a v u h2]; exact h⟩
        case skip => exact ⟨keep a hy _, by rw [← Act.put_comm a v undef h2]; exact h⟩
        case defer d => exact ⟨keep _ (keepD d) _, by rw [← Act.put_comm _ v undef h2, ← Act.put_defers]; exact h⟩
        case enter f args =>
          refine Calls.mono h fun e w'' he => ?_
          cases e with
          | returned u => exact ⟨keep a hy u, by rw [← Act.put_comm a v u h2]; exact he⟩
          | panicked c => exact hQ _ _ _ he
          | outgrown => exact he
        case row row args => exact Rows.mono h fun u w'' he => ⟨keep a hy u, by rw [← Act.put_comm a v u h2]; exact he⟩
      | halt x w' =>
        cases x <;> simp only [Oper.upon] at h ⊢
        case panic u => exact hQ _ _ _ h
    · exact .inr ⟨by unfold Oper.asks at *; rw [execOp_put oj hsj a oi.dst v h1] at hasks; exact hasks, hlets⟩
  · rename_i hw
    simp only [hw] at h
    exact ⟨keep a hy _, by rw [← Act.put_comm a v undef h2]; exact h⟩

theorem wpAnyI_first {i : Nat} {oi : Oper} {v : Value} (hi : ops[i]? = some oi) (hsel : ∀ (j : Nat) (o : Oper) cs b, ops[j]? = some o → o.op ≠ .select cs b)
    (hQ : ∀ c a w, Q (.panic c) (a.put oi.dst v) w → Q (.panic c) a w) :
    ∀ (f : Nat) (listed : Array Bool) (a : Act) (w : World),
      (∀ j oj, ops[j]? = some oj → j ≠ i → listed.getD j true = false → (∀ e ∈ oj.after, Region.binds md e = true → e.on ≠ i) → oi.apart ops oj = true) →
      i ∈ Region.ready md ops listed → YieldsI P ops I oi v a →
      wpAnyI P ops md Q I f (listed.setIfInBounds i true) (a.put oi.dst v) w → wpAnyI P ops md Q I (f + 1) listed a w := by
  intro f
  induction f with
  | zero =>
    intro listed a w _ hr hy H
    refine ⟨H.1, fun h => (by rw [h] at hr; cases hr), fun j hj => ?_⟩
    by_cases hji : j = i
    · subst hji; exact hy.wpOp hi H.1 H
    · have := ready_mono hj hji
      rw [H.2.1] at this
      cases this
  | succ f ih =>
    intro listed a w hfree hr hy H
    refine ⟨H.1, fun h => (by rw [h] at hr; cases hr), fun j hj => ?_⟩
    by_cases hji : j = i
    · subst hji; exact hy.wpOp hi H.1 H
    · have h1 := H.2.2 j (ready_mono hj hji)
      obtain ⟨hjun, oj, hoj, hall⟩ := mem_ready.1 hj
      have hnot : ∀ e ∈ oj.after, Region.binds md e = true → e.on ≠ i := fun e he hb heq => by
        have h1 := hall e he hb
        have h0 := (mem_ready.1 hr).1
        rw [heq, getD_both h0] at h1
        cases h1
      have h2 := wpOp_putI hoj (hfree j oj hoj hji hjun hnot) (fun cs b => hsel i oi cs b hi) (fun cs b => hsel j oj cs b hoj) hQ hy h1
      refine wpOp_mono (fun a' w' h3 => ih (listed.setIfInBounds j true) a' w' (fun k ok hk hki hun hno => ?_) (ready_mono hr (Ne.symm hji)) h3.1 ?_) h2
      · refine hfree k ok hk hki ?_ hno
        by_cases hjk : j = k
        · subst hjk; exact hjun
        · rw [getD_set_ne true hjk] at hun; exact hun
      · rw [Array.setIfInBounds_comm _ _ hji]
        exact h3.2

variable (P ops Q I) in
/-- Operations one after another; the invariant holds of each world on the way. -/
def wpListI : List Oper → Act → World → Prop
  | [], a, w => I w ∧ Q .normal a w
  | o :: l, a, w => I w ∧ Region.wanted o (yielded ops a.tmps) = true ∧ o.wp P a w (wpListI l) Q
theorem wpListI.value {o : Oper} {l : List Oper} {a : Act} {w w' : World} {v : Value} (hI : I w) (hw : Region.wanted o (yielded ops a.tmps) = true) (hr : (execOp a.eval o).run P w = .ok (.value v) w') (h : wpListI P ops Q I l (a.put o.dst v) w') : wpListI P ops Q I (o :: l) a w :=
  ⟨hI, hw, by unfold Oper.wp; rw [hr]; exact h⟩
theorem wpListI.skip {o : Oper} {l : List Oper} {a : Act} {w w' : World} (hI : I w) (hw : Region.wanted o (yielded ops a.tmps) = true) (hr : (execOp a.eval o).run P w = .ok .skip w') (h : wpListI P ops Q I l (a.put o.dst undef) w') : wpListI P ops Q I (o :: l) a w :=
  ⟨hI, hw, by unfold Oper.wp; rw [hr]; exact h⟩
theorem wpAnyI_of_seq : ∀ (l : List Oper) (k : Nat) (listed : Array Bool) (a : Act) (w : World), (∀ j, l[j]? = ops[k + j]?) →
    Region.seqB md ops l.length k listed = true → wpListI P ops Q I l a w → wpAnyI P ops md Q I l.length listed a w
  | [], _, _, _, _, _, hB, h => ⟨h.1, by simpa [Region.seqB] using hB, h.2⟩
  | o :: l, k, listed, a, w, hl, hB, h => by
    have h0 : ops[k]? = some o := by simpa using (hl 0).symm
    simp only [List.length_cons, Region.seqB, Bool.and_eq_true, decide_eq_true_eq] at hB
    refine ⟨h.1, fun h1 => (by rw [hB.1] at h1; cases h1), fun i hi => ?_⟩
    rw [hB.1] at hi
    have hik : i = k := by simpa using hi
    subst hik
    have hw : wpOp P ops Q i (wpListI P ops Q I l) a w := by unfold wpOp; simp only [h0, h.2.1, if_true]; exact .inl h.2.2
    exact wpOp_mono (fun a' w' h' => wpAnyI_of_seq l (i + 1) _ a' w' (fun j => by have := hl (j + 1); simpa [Nat.add_assoc, Nat.add_comm 1 j] using this) hB.2 h') hw

theorem AnyR.soundI {w0 : World} {sp : Nat → Option SPred} {n g : Nat} {L : Array Bool → Act → World → Prop} (hI : ∀ w, Ext w0 w → I w) (hL : ∀ listed a w, L listed a w → wpAnyI P ops md Q I g listed a w) :
    ∀ (f : Nat) (listed : Array Bool) (a : Act) (env : List (Nat × Value)) (w : World), Ext w0 w → Known sp env w → AnyR P ops md w0 sp n L f listed a env → wpAnyI P ops md Q I (f + g) listed a w
  | 0, _, _, _, w, he, hk, h => by rw [Nat.zero_add]; exact hL _ _ _ (h w he hk)
  | f + 1, listed, a, env, w, he, hk, h => by
    rw [show f + 1 + g = (f + g) + 1 by omega]
    refine ⟨hI w he, fun h0 => absurd h0 h.1, fun i hi => ?_⟩
    unfold wpOp
    split
    · rename_i hn
      obtain ⟨_, o, ho, _⟩ := mem_ready.1 hi
      rw [hn] at ho; cases ho
    · rename_i o ho
      obtain ⟨hc, hr⟩ := (h.2 i hi).2 o ho
      unfold Can at hc
      cases hp : sp i with
      | none =>
        rw [hp] at hc
        obtain ⟨v, hv⟩ := hc
        have hk' : Known sp ((i, v) :: env) w := hk.cons (by rw [hp]; trivial)
        have hres : Res P ops w0 sp i o a env v := by unfold Res; rw [hp]; exact hv
        have hnext := AnyR.soundI hI hL f _ _ _ w he hk' (hr v hres)
        rcases hv with ⟨hw, hrun⟩ | ⟨hw, rfl⟩
        · rw [if_pos hw]
          refine .inl ?_
          unfold Oper.wp
          rw [hrun w he]
          exact hnext
        · rw [if_neg (by rw [hw]; decide)]
          exact hnext
      | some p =>
        rw [hp] at hc
        obtain ⟨hw, hd, hrr⟩ := hc
        rw [if_pos hw]
        refine .inl (wp_of_wpS (hrr w he (hk.dep hd)) fun v w' ⟨he', hv⟩ => ?_)
        exact AnyR.soundI hI hL f _ _ _ w' (he.trans he') ((hk.ext he').cons (by rw [hp]; exact hv)) (hr v (by unfold Res; rw [hp]; exact ⟨w', he.trans he', hk.ext he', hv⟩))
end

def Region.tail2B (ops : Array Oper) (n N : Nat) : Bool :=
  Region.noSelect ops && decide (n < ops.size) && decide (2 ≤ n) && Region.sinkB1 .any ops 2 n && Region.chainB .any ops n && ((Region.ready .any ops (Array.replicate ops.size false)).contains 0 && Region.free .any ops (Array.replicate ops.size false) 0) &&
    ((Region.ready .any ops ((Array.replicate ops.size false).setIfInBounds 0 true)).contains 1 && Region.free .any ops ((Array.replicate ops.size false).setIfInBounds 0 true) 1) &&
    Region.lexHead .any ops (ops.size - n) (n - 2) 2 (((Array.replicate ops.size false).setIfInBounds 0 true).setIfInBounds 1 true) && ssaB ops && dstB ops N

/-- The first two operations yield their values wherever the invariant holds; the operations from number n on go one after another behind all others but these. -/
theorem wp_region_lex_tail2 {P : Program} {id : Nat} {Q : Exit → Act → World → Prop} {a : Act} {w : World} {o0 o1 : Oper} {l : List Oper} (n : Nat) (sps : List (Nat × SPred)) (v0 v1 : Value) (I : World → Prop) (hm : P.follows .mixedOrders = true)
    (hB : Region.tail2B (o0 :: o1 :: l).toArray n a.tmps.size = true) (hsp0 : spOf sps 0 = none) (hsp1 : spOf sps 1 = none) (hI : ∀ w', Ext w.drew w' → I w')
    (hy0 : YieldsI P (o0 :: o1 :: l).toArray I o0 v0 a) (hy1 : YieldsI P (o0 :: o1 :: l).toArray I o1 v1 (a.put o0.dst v0))
    (h : LexW P (o0 :: o1 :: l).toArray w.drew (spOf sps) (fun a' w' => wpListI P (o0 :: o1 :: l).toArray (strictQ Q) I ((o0 :: o1 :: l).drop n) a' w') (((o0 :: o1 :: l).take n).drop 2) 2 ((a.put o0.dst v0).put o1.dst v1) [(1, v1), (0, v0)]) : (Code.region id (o0 :: o1 :: l).toArray true).wp P Q a w := by
  simp only [Region.tail2B, Bool.and_eq_true, decide_eq_true_eq] at hB
  obtain ⟨⟨⟨⟨⟨⟨⟨⟨⟨hsel, hn⟩, hn1⟩, hs⟩, hc⟩, hr0, hf0⟩, hr1, hf1⟩, hlex⟩, hssa⟩, hdst⟩ := hB
  obtain ⟨ops, hops⟩ : ∃ ops, ops = (o0 :: o1 :: l).toArray := ⟨_, rfl⟩
  have h0 : ops[0]? = some o0 := by rw [hops]; simp
  have h1 : ops[1]? = some o1 := by rw [hops]; simp
  rw [← hops] at hn hsel hs hc hr0 hf0 hr1 hf1 hlex hssa hdst hy0 hy1 h ⊢
  have hsize : ops.size = l.length + 2 := by rw [hops]; simp
  obtain ⟨L, hL⟩ : ∃ L, L = o0 :: o1 :: l := ⟨_, rfl⟩
  have hLl : L.length = ops.size := by rw [hL, hsize]; simp
  rw [← hL] at h
  have hget : ∀ j, L[j]? = ops[j]? := fun j => by rw [hL, hops, List.getElem?_toArray]
  have htl : ((L.take n).drop 2).length = n - 2 := by simp; omega
  have hdl : (L.drop n).length = ops.size - n := by simp; omega
  have inv0 : HeadInv .any ops n (Array.replicate ops.size false) := by rw [hops]; exact headInv0 _ n
  have inv1 := inv0.set (by simpa using hr0) (show 0 < n by omega)
  have inv2 := inv1.set (by simpa using hr1) (show 1 < n by omega)
  have linv : LexInv ops a.tmps.size 2 ((a.put o0.dst v0).put o1.dst v1) [(1, v1), (0, v0)] := ((lexInv0 (ops := ops) a.tmps.size a rfl).step h0 hdst v0).step h1 hdst v1
  have hk1 : Known (spOf sps) [(1, v1), (0, v0)] w.drew := fun p hp => by
    simp only [List.mem_cons, List.not_mem_nil, or_false] at hp
    rcases hp with rfl | rfl
    · simp only [hsp1, holdsO]
    · simp only [hsp0, holdsO]
  have hR := LexW.lexR hssa hdst _ 2 _ _ (fun j hj => by
    rw [htl] at hj
    rw [List.getElem?_drop, List.getElem?_take_of_lt (by omega), hget]) linv h
  have H := LexR.any1 (md := .any) (m := 2) (n := n) (B := fun listed => Region.seqB .any ops (ops.size - n) n listed) hsel
    (fun i hi1 hin listed inv hun j hj => by
      rcases Nat.lt_or_ge j n with h | h
      · exact h
      · exact absurd hj (tail_waits1 hs hc hn inv _ i rfl hi1 hin hun j h))
    (fun listed hb => seqB_ready hb)
    (fun f k listed => Region.lexHead .any ops (ops.size - n) f k listed) (fun listed hh => by simpa [Region.lexHead] using hh)
    (fun f k listed hh => by simpa [Region.lexHead] using hh) ((L.take n).drop 2) 2 _ _ [(1, v1), (0, v0)] (Nat.le_refl _) (fun j hj => by
      rw [htl] at hj
      rw [List.getElem?_drop, List.getElem?_take_of_lt (by omega), hget]) (by rw [htl]; omega) inv2 ⟨w.drew, Ext.refl _, hk1⟩ (by rw [htl]; exact hlex) hR
  refine wp_region_any hm ?_
  have S := AnyR.soundI (Q := strictQ Q) (I := I) (g := ops.size - n) hI (fun listed a' w' hL' => by
    have := wpAnyI_of_seq (md := .any) (Q := strictQ Q) (I := I) (L.drop n) n listed a' w' (fun j => by rw [List.getElem?_drop, hget]) (by rw [hdl]; exact hL'.1) hL'.2
    rwa [hdl] at this) _ _ _ _ w.drew (Ext.refl _) hk1 H
  rw [htl, show n - 2 + (ops.size - n) = ops.size - 2 by omega] at S
  have T1 := wpAnyI_first (md := .any) (Q := strictQ Q) (I := I) h1 (Region.noSelect_spec hsel) (fun c a w hq => absurd hq.1 (by simp)) (ops.size - 2) ((Array.replicate ops.size false).setIfInBounds 0 true) (a.put o0.dst v0) w.drew (Region.free_spec h1 hf1) (by simpa using hr1) hy1 S
  rw [show ops.size - 2 + 1 = ops.size - 1 by omega] at T1
  have T0 := wpAnyI_first (md := .any) (Q := strictQ Q) (I := I) h0 (Region.noSelect_spec hsel) (fun c a w hq => absurd hq.1 (by simp)) (ops.size - 1) (Array.replicate ops.size false) a w.drew (Region.free_spec h0 hf0) (by simpa using hr0) hy0 T1
  rw [show ops.size - 1 + 1 = ops.size by omega] at T0
  exact wpAny_strict _ _ _ _ (wpAnyI.plain _ _ _ _ T0)

end Go.Proofs.YtcocbainookkcaaGreat

/-
  What is said of slices of integers, and of slices of such slices, in memory: readable, or owned by the call; how it lasts.
  No condition.
-/
namespace Go.Proofs.YtcocbainookkcaaGreat
set_option maxRecDepth 100000
open Go.RowKit

/-- The element at a place of a list of numbers. -/
def nth (xs : List Int) (i : Nat) : Int := xs.getD i 0
theorem nth_eq {xs : List Int} {i : Nat} (h : i < xs.length) : nth xs i = xs[i] := by simp [nth, h]
theorem nth_set {xs : List Int} {i j : Nat} {v : Int} (h : i < xs.length) : nth (xs.set i v) j = if i = j then v else nth xs j := by
  by_cases hij : i = j
  · subst hij; simp [nth, h]
  · simp [nth, hij]
theorem nth_replicate {n i : Nat} {v : Int} (h : i < n) : nth (List.replicate n v) i = v := by simp [nth, h]
theorem nth_append_left {xs ys : List Int} {i : Nat} (h : i < xs.length) : nth (xs ++ ys) i = nth xs i := by simp [nth, List.getElem?_append_left h]
theorem nth_append_len {xs : List Int} {v : Int} : nth (xs ++ [v]) xs.length = v := by simp [nth]
theorem nth_map {α : Type} {f : α → Int} {xs : List α} {i : Nat} (h : i < xs.length) : nth (xs.map f) i = f xs[i] := by simp [nth, h]
theorem ext_nth {xs ys : List Int} (h : xs.length = ys.length) (he : ∀ i, i < xs.length → nth xs i = nth ys i) : xs = ys := by
  apply List.ext_getElem h
  intro i h1 h2
  have := he i h1
  rwa [nth_eq h1, nth_eq h2] at this
theorem take_snoc (xs : List Int) (k : Nat) (h : k < xs.length) : xs.take (k + 1) = xs.take k ++ [nth xs k] := by
  rw [List.take_succ_eq_append_getElem h, nth_eq h]
theorem nth_mem {xs : List Int} {i : Nat} (h : i < xs.length) : nth xs i ∈ xs := by rw [nth_eq h]; exact List.getElem_mem h

/-! ### Cells -/

theorem lt_of_cell {w : World} {p : Addr} {v : Value} (h : w.cell? p = some v) : p.block < w.heap.size := World.block_lt_of_cell? w p h

/-- Cells that can be read. -/
def RdV (w : World) (a : Option Addr) (vs : List Value) : Prop :=
  ∀ i (h : i < vs.length), ∃ b off, a = some ⟨b, off, none⟩ ∧ w.cell? ⟨b, off + i, none⟩ = some vs[i]
theorem RdV.ext {w w' : World} {a : Option Addr} {vs : List Value} (h : RdV w a vs) (he : Ext w w') : RdV w' a vs := fun i hi =>
  let ⟨b, off, ha, hc⟩ := h i hi; ⟨b, off, ha, he.cell hc⟩

/-- n numbers that can be read. -/
def RdC (w : World) (a : Option Addr) (n : Nat) (xs : List Int) : Prop :=
  xs.length = n ∧ ∀ i, i < n → ∃ b off, a = some ⟨b, off, none⟩ ∧ w.cell? ⟨b, off + i, none⟩ = some (.int .i64 (nth xs i))
theorem RdC.ext {w w' : World} {a : Option Addr} {n : Nat} {xs : List Int} (h : RdC w a n xs) (he : Ext w w') : RdC w' a n xs :=
  ⟨h.1, fun i hi => let ⟨b, off, ha, hc⟩ := h.2 i hi; ⟨b, off, ha, he.cell hc⟩⟩

/-- n numbers in a row of the call's own, whose block's number is at least B. -/
def OwnC (B : Nat) (w : World) (a : Option Addr) (n cap : Nat) (xs : List Int) : Prop :=
  xs.length = n ∧ w.ownsRow B 2 1 (.slice a n cap) n (xs.map (.int .i64))

theorem OwnC.ext {B : Nat} {w w' : World} {a : Option Addr} {n cap : Nat} {xs : List Int} (h : OwnC B w a n cap xs) (he : Ext w w') : OwnC B w' a n cap xs := by
  obtain ⟨h1, h2, h3⟩ := h
  refine ⟨h1, h2, ?_⟩
  rcases h3 with h3 | ⟨g, c, cur, hv, hb, hh, h4⟩
  · exact .inl h3
  · exact .inr ⟨g, c, cur, hv, hb, he.heap hh, h4⟩
theorem OwnC.mono {B B' : Nat} {w : World} {a : Option Addr} {n cap : Nat} {xs : List Int} (h : OwnC B w a n cap xs) (hb : B' ≤ B) : OwnC B' w a n cap xs := by
  obtain ⟨h1, h2, h3⟩ := h
  refine ⟨h1, h2, ?_⟩
  rcases h3 with h3 | ⟨g, c, cur, hv, hb1, h4⟩
  · exact .inl h3
  · exact .inr ⟨g, c, cur, hv, Nat.le_trans hb hb1, h4⟩

/-- The row, laid open. -/
theorem OwnC.row {B : Nat} {w : World} {a : Option Addr} {n cap : Nat} {xs : List Int} (h : OwnC B w a n cap xs) (hn : 0 < n) :
    ∃ g cur, a = some ⟨g, 0, none⟩ ∧ B ≤ g ∧ g < w.heap.size ∧ w.heap[g]? = some (.cells cur 2 (0, 0)) ∧ n ≤ cap ∧ cur.size = cap ∧ ∀ i, i < n → cur[i]? = some (.int .i64 (nth xs i)) := by
  obtain ⟨h1, h2, h3⟩ := h
  rcases h3 with ⟨_, h3⟩ | ⟨g, c, cur, hv, hb, hh, hc1, hc2, hc3, hc4⟩
  · omega
  · simp only [Value.slice.injEq] at hv
    obtain ⟨rfl, _, rfl⟩ := hv
    have hlt : g < w.heap.size := by
      rcases Nat.lt_or_ge g w.heap.size with h | h
      · exact h
      · rw [Array.getElem?_eq_none h] at hh; cases hh
    refine ⟨g, cur, rfl, hb, hlt, hh, hc1, by omega, fun i hi => ?_⟩
    have h4 : (cur.toList.take (n * 1))[i]? = (xs.map (Value.int .i64))[i]? := by rw [hc4]
    rw [List.getElem?_take_of_lt (by omega), Array.getElem?_toList] at h4
    rw [h4]
    simp [nth_eq (show i < xs.length by omega), show i < xs.length by omega]

theorem OwnC.rd {B : Nat} {w : World} {a : Option Addr} {n cap : Nat} {xs : List Int} (h : OwnC B w a n cap xs) : RdC w a n xs := by
  refine ⟨h.1, fun i hi => ?_⟩
  obtain ⟨g, cur, ha, _, _, hh, _, _, hc⟩ := h.row (by omega)
  refine ⟨g, 0, ha, ?_⟩
  simp only [World.cell?, hh, Nat.zero_add]
  simpa using hc i hi

/-- What a store into an owned row leaves. -/
theorem OwnC.store {B : Nat} {w : World} {g n cap : Nat} {xs : List Int} (h : OwnC B w (some ⟨g, 0, none⟩) n cap xs) {j : Nat} (_hj : j < n) (v : Int) :
    OwnC B (w.setCell ⟨g, j, none⟩ (.int .i64 v)) (some ⟨g, 0, none⟩) n cap (xs.set j v) := by
  obtain ⟨h1, h2⟩ := h
  refine ⟨by simpa using h1, ?_⟩
  have := h2.stored j (.int .i64 v)
  rw [List.map_set]
  exact this.1

theorem OwnC.cell {B : Nat} {w : World} {g n cap : Nat} {xs : List Int} (h : OwnC B w (some ⟨g, 0, none⟩) n cap xs) {j : Nat} (hj : j < n) : w.cell? ⟨g, j, none⟩ = some (.int .i64 (nth xs j)) := by
  obtain ⟨b, off, ha, hc⟩ := h.rd.2 j hj
  simp only [Option.some.injEq, Addr.mk.injEq] at ha
  obtain ⟨rfl, rfl, _⟩ := ha
  simpa using hc
theorem OwnC.frozen {B : Nat} {w : World} {g n cap : Nat} {xs : List Int} (h : OwnC B w (some ⟨g, 0, none⟩) n cap xs) (j : Nat) : w.frozen? ⟨g, j, none⟩ = false := by
  exact h.2.frozenAt j

/-- An owned row does not feel a write elsewhere. -/
theorem OwnC.keep {B : Nat} {w w' : World} {a : Option Addr} {n cap : Nat} {xs : List Int} (h : OwnC B w a n cap xs) (hk : ∀ g, a = some ⟨g, 0, none⟩ → w'.heap[g]? = w.heap[g]?) : OwnC B w' a n cap xs := by
  obtain ⟨h1, h2, h3⟩ := h
  refine ⟨h1, h2, ?_⟩
  rcases h3 with h3 | ⟨g, c, cur, hv, hb, hh, h4⟩
  · exact .inl h3
  · refine .inr ⟨g, c, cur, hv, hb, ?_, h4⟩
    simp only [Value.slice.injEq] at hv
    rw [hk g hv.1]; exact hh

theorem OwnC.other {B : Nat} {w : World} {a : Option Addr} {n cap : Nat} {xs : List Int} (h : OwnC B w a n cap xs) {p : Addr} (hp : p.block < B) (v : Value) : OwnC B (w.setCell p v) a n cap xs := by
  obtain ⟨h1, h2, h3⟩ := h
  refine ⟨h1, h2, ?_⟩
  rcases h3 with h3 | ⟨g, c, cur, hv, hb, hh, h4⟩
  · exact .inl h3
  · exact .inr ⟨g, c, cur, hv, hb, by rw [Below.heap_setCell _ _ _ _ (by omega)]; exact hh, h4⟩
theorem Ext.trans' {a b c : World} (h : Ext a b) (k : Below a.heap.size b c) : Ext a c := Below.trans h k
theorem OwnC.base_le {B : Nat} {w : World} {g n cap : Nat} {xs : List Int} (h : OwnC B w (some ⟨g, 0, none⟩) n cap xs) : B ≤ g ∧ g < w.heap.size := by
  obtain ⟨h1, h2, h3⟩ := h
  rcases h3 with ⟨h3, _⟩ | ⟨g', c, cur, hv, hb, hh, h4⟩
  · cases h3
  · simp only [Value.slice.injEq, Option.some.injEq, Addr.mk.injEq] at hv
    obtain ⟨⟨rfl, _⟩, _⟩ := hv
    refine ⟨hb, ?_⟩
    rcases Nat.lt_or_ge g w.heap.size with h | h
    · exact h
    · rw [Array.getElem?_eq_none h] at hh; cases hh
theorem OwnC.base_of {B : Nat} {w : World} {a : Option Addr} {n cap : Nat} {xs : List Int} (h : OwnC B w a n cap xs) : ∀ g, a = some ⟨g, 0, none⟩ → B ≤ g ∧ g < w.heap.size := by
  rintro g rfl
  exact OwnC.base_le h
theorem own_nil (B : Nat) (w : World) : OwnC B w none 0 0 [] := ⟨rfl, World.ownsRow_nil _ _ _ _⟩

theorem Ext.setCell {a b : World} (h : Ext a b) {p : Addr} (hp : a.heap.size ≤ p.block) (u : Value) : Ext a (b.setCell p u) := Below.setCell h hp u
theorem Ext.grown {a w w' : World} {row : Option Nat} (h : Ext a w) (hg : w.grownBy w' row) (hr : ∀ k, row = some k → a.heap.size ≤ k) : Ext a w' := Below.grown h hg h.size hr
theorem Ext.size' {a b : World} (h : Ext a b) : a.heap.size ≤ b.heap.size := h.size
theorem Ext.lt {a b : World} (h : Ext a b) {k : Nat} (hk : k < a.heap.size) : k < b.heap.size := Nat.lt_of_lt_of_le hk h.size
theorem Ext.cells {W w1 : World} (hb : Ext W w1) : ∀ b o, b < W.heap.size → w1.cell? ⟨b, o, none⟩ = W.cell? ⟨b, o, none⟩ := fun b o h => Below.cell hb (p := ⟨b, o, none⟩) h
theorem Ext.frz {W w1 : World} (hb : Ext W w1) : ∀ b o, b < W.heap.size → w1.frozen? ⟨b, o, none⟩ = W.frozen? ⟨b, o, none⟩ := fun b o h => Below.frozen hb (p := ⟨b, o, none⟩) h
theorem ext_alloc (w : World) (o : Obj) : Ext w (w.alloc o) := (Ext.refl w).alloc o
theorem ext_drew (w : World) : Ext w w.drew := (Ext.refl w).drew

/-- A space whose squares can be read. -/
def SPred.sp (p : Int) (d : Nat) (qs : List Int) : SPred := ⟨fun v w => ∃ g, v = .agg #[.int .i64 p, .slice (some ⟨g, 0, none⟩) d d] ∧ RdC w (some ⟨g, 0, none⟩) d qs, fun _ _ _ ⟨g, hv, h⟩ he => ⟨g, hv, h.ext he⟩⟩
/-- A row of numbers of the call's own. -/
def SPred.own (B n : Nat) (xs : List Int) : SPred := ⟨fun v w => ∃ a cap, v = .slice a n cap ∧ OwnC B w a n cap xs, fun _ _ _ ⟨a, cap, hv, h⟩ he => ⟨a, cap, hv, h.ext he⟩⟩

theorem Tryz.infoI : (Tryz.prog.info? 2).map (fun i => (i.zero, i.size, i.bytes)) = some (some (.int .i64 0), 1, 8) := by kernel_rfl
theorem Tryz.infoR : (Tryz.prog.info? 24).map (fun i => (i.zero, i.size, i.bytes)) = some (some (.slice none 0 0), 1, 24) := by kernel_rfl

theorem ret_of {v v' : Value} (h : v = v') : Ending.returned v = .returned v' := by rw [h]
theorem ret_int {k : IntKind} {a b : Int} (h : a = b) : Ending.returned (.int k a) = .returned (.int k b) := by rw [h]
theorem ret_bool {a b : Bool} (h : a = b) : Ending.returned (.bool a) = .returned (.bool b) := by rw [h]

/-- A new row of zeros. -/
theorem make_ints (w : World) (n : Nat) (hn : n ≤ 4194304) :
    ∃ w', (Instr.makeSlice 24 (.int .i64 (n : Int)) (.int .i64 (n : Int))).run Tryz.prog w = .ok (.slice (some ⟨w.heap.size, 0, none⟩) n n) w' ∧
      OwnC w.heap.size w' (some ⟨w.heap.size, 0, none⟩) n n (List.replicate n 0) ∧ Ext w w' := by
  obtain ⟨i0, hi, hz0, hz1, hz2⟩ := info_parts Tryz.infoI
  obtain ⟨w', h1, h2, h3⟩ := run_make_full (P := Tryz.prog) w w.heap.size 24 2 i0 (.int .i64 0) 1 Tryz.underlying24 hi hz0 hz1 .i64 .i64 n (by rw [hz2]; omega) (by unfold maxLen; omega) (Nat.le_refl _)
  refine ⟨w', h1, ⟨by simp, ?_⟩, (Ext.refl w).grown h3 (fun k hk => by cases hk)⟩
  simp only [List.map_replicate]
  have : (madeCells (Value.int IntKind.i64 0).cells (n * 1)).toList = List.replicate n (Value.int .i64 0) := by
    rw [Nat.mul_one]; exact toList_madeCells_one _ _
  rw [this] at h2
  exact h2

end Go.Proofs.YtcocbainookkcaaGreat

/-
  append of one number to a row of the call's own.
  No condition.
-/
namespace Go.Proofs.YtcocbainookkcaaGreat
set_option maxRecDepth 100000
open Go.RowKit

theorem OwnC.form {B : Nat} {w : World} {v : Value} {n : Nat} {xs : List Int} (h : w.ownsRow B 2 1 v n (xs.map (.int .i64))) (hn : 0 < n) : ∃ g cap, v = .slice (some ⟨g, 0, none⟩) n cap := by
  rcases h.2 with ⟨_, h3⟩ | ⟨g, c, cur, hv, _⟩
  · omega
  · exact ⟨g, c, hv⟩
theorem OwnC.blk {B : Nat} {w : World} {a : Option Addr} {n cap : Nat} {xs : List Int} (h : OwnC B w a n cap xs) : ∀ k, (Value.slice a n cap).ownBlock = some k → B ≤ k := by
  intro k hk
  rcases h.2.2 with ⟨h3, _⟩ | ⟨g, c, cur, hv, hb, _⟩
  · rw [h3] at hk; simp [Value.ownBlock] at hk
  · rw [hv] at hk; simp only [Value.ownBlock, Option.some.injEq] at hk; omega

theorem run_push {B : Nat} {w : World} {ra : Option Addr} {n cap : Nat} {xs : List Int} {v : Int} {g : Nat} (hown : OwnC B w ra n cap xs) (hc : w.cell? ⟨g, 0, none⟩ = some (.int .i64 v)) (hn : n ≤ 4194304) (hB : B ≤ w.heap.size) (ty : TypeId) :
    ∃ g' cap' w', (Builtin.append_ #[24, 24] ty #[.slice ra n cap, .slice (some ⟨g, 0, none⟩) 1 1]).run Tryz.prog w = .ok (.slice (some ⟨g', 0, none⟩) (n + 1) cap') w' ∧
      OwnC B w' (some ⟨g', 0, none⟩) (n + 1) cap' (xs ++ [v]) ∧ w.grownBy w' (Value.slice ra n cap).ownBlock ∧ (∀ W : World, W.heap.size ≤ B → Ext W w → Ext W w') := by
  obtain ⟨i0, hi, hz0, hz1, hz2⟩ := info_parts Tryz.infoI
  obtain ⟨v', w', hr, h2, h3, _⟩ := run_append_own (P := Tryz.prog) w B 24 ty 2 i0 (.int .i64 0) 1 8 Tryz.underlying24 hi hz0 hz1 hz2 rfl (by decide) (.slice ra n cap) n (xs.map (.int .i64)) hown.2
    ⟨g, 0, none⟩ 1 1 [.int .i64 v] rfl (fun j u hj => by
      cases j with
      | zero => simp only [List.getElem?_cons_zero, Option.some.injEq] at hj; subst hj; simpa [Addr.add] using hc
      | succ j => simp at hj) (fun u hu => by simp only [List.mem_singleton] at hu; subst hu; rfl) (by unfold maxLen; omega) (by omega) hB
  have h2' : w'.ownsRow B 2 1 v' (n + 1) ((xs ++ [v]).map (.int .i64)) := by rw [List.map_append]; exact h2
  obtain ⟨g', cap', rfl⟩ := OwnC.form h2' (by omega)
  exact ⟨g', cap', w', hr, ⟨by simp [hown.1], h2'⟩, h3, fun W hW hE => hE.grown h3 fun k hk => Nat.le_trans hW (hown.blk k hk)⟩

theorem wpList_push {ops : Array Oper} {rest : List Oper} {o : Oper} {a : Act} {Q : Exit → Act → World → Prop} {w : World} (hgd : o.guard = none) (s x : Operand)
    (ho : o.op = .call { callee := .builtin .append, args := #[s, x], argTypes := #[24, 24] })
    {B : Nat} {ra : Option Addr} {n cap : Nat} {xs : List Int} {v : Int} {g : Nat} (hs : a.eval s = .slice ra n cap) (hx : a.eval x = .slice (some ⟨g, 0, none⟩) 1 1)
    (hown : OwnC B w ra n cap xs) (hc : w.cell? ⟨g, 0, none⟩ = some (.int .i64 v)) (hn : n ≤ 4194304) (hB : B ≤ w.heap.size)
    (h : ∀ g' cap' w', OwnC B w' (some ⟨g', 0, none⟩) (n + 1) cap' (xs ++ [v]) → w.grownBy w' (Value.slice ra n cap).ownBlock → (∀ W : World, W.heap.size ≤ B → Ext W w → Ext W w') →
      wpList Tryz.prog ops Q rest (a.put o.dst (.slice (some ⟨g', 0, none⟩) (n + 1) cap')) w') : wpList Tryz.prog ops Q (o :: rest) a w := by
  refine wpList_plain hgd fun K hK => ?_
  obtain ⟨g', cap', w', hr, h1, h2, h3⟩ := run_push hown hc hn hB o.type
  unfold Oper.wp execOp
  simp only [ho, resolve, invoke, builtin, Sem.run_bind, Sem.run_pure, Result.andThen_ok, List.map_toArray, List.map_cons, List.map_nil, hs, hx, hr]
  exact hK _ _ (h g' cap' w' h1 h2 h3)


/-- append of a whole slice. -/
theorem run_appendAll {B : Nat} {w : World} {ra : Option Addr} {n cap : Nat} {xs : List Int} {b off m c : Nat} {ys : List Int} (hown : OwnC B w ra n cap xs) (hy : RdC w (some ⟨b, off, none⟩) m ys) (hm : 0 < m) (hn : n ≤ 4194304) (hml : m ≤ 4194304) (hB : B ≤ w.heap.size) (ty : TypeId) :
    ∃ g' cap' w', (Builtin.append_ #[24, 24] ty #[.slice ra n cap, .slice (some ⟨b, off, none⟩) m c]).run Tryz.prog w = .ok (.slice (some ⟨g', 0, none⟩) (n + m) cap') w' ∧
      OwnC B w' (some ⟨g', 0, none⟩) (n + m) cap' (xs ++ ys) ∧ w.grownBy w' (Value.slice ra n cap).ownBlock ∧ (∀ W : World, W.heap.size ≤ B → Ext W w → Ext W w') := by
  obtain ⟨i0, hi, hz0, hz1, hz2⟩ := info_parts Tryz.infoI
  obtain ⟨v', w', hr, h2, h3, _⟩ := run_append_own (P := Tryz.prog) w B 24 ty 2 i0 (.int .i64 0) 1 8 Tryz.underlying24 hi hz0 hz1 hz2 rfl (by decide) (.slice ra n cap) n (xs.map (.int .i64)) hown.2
    ⟨b, off, none⟩ m c (ys.map (.int .i64)) (by simp [hy.1]) (fun j u hj => by
      have hjl : j < m := by
        rcases Nat.lt_or_ge j m with h | h
        · exact h
        · rw [List.getElem?_eq_none (by simp [hy.1]; exact h)] at hj; cases hj
      obtain ⟨b', o', hab, hc⟩ := hy.2 j hjl
      cases hab
      have hu : u = .int .i64 (nth ys j) := by
        rw [List.getElem?_map, List.getElem?_eq_getElem (by rw [hy.1]; exact hjl)] at hj
        simp only [Option.map_some, Option.some.injEq] at hj
        rw [← hj, nth_eq]
      rw [hu]; by_cases hj0 : j = 0
      · subst hj0; simpa [Addr.add] using hc
      · simpa [Addr.add, hj0] using hc) (fun u hu => by
        obtain ⟨v, _, rfl⟩ := List.mem_map.1 hu; rfl) (by unfold maxLen; omega) (by omega) hB
  have h2' : w'.ownsRow B 2 1 v' (n + m) ((xs ++ ys).map (.int .i64)) := by rw [List.map_append]; exact h2
  obtain ⟨g', cap', rfl⟩ := OwnC.form h2' (by omega)
  exact ⟨g', cap', w', hr, ⟨by simp [hown.1, hy.1], h2'⟩, h3, fun W hW hE => hE.grown h3 fun k hk => Nat.le_trans hW (hown.blk k hk)⟩

theorem wpList_appendAll {ops : Array Oper} {rest : List Oper} {o : Oper} {a : Act} {Q : Exit → Act → World → Prop} {w : World} (hgd : o.guard = none) (s x : Operand)
    (ho : o.op = .call { callee := .builtin .append, args := #[s, x], argTypes := #[24, 24] })
    {B : Nat} {ra : Option Addr} {n cap : Nat} {xs : List Int} {b off m c : Nat} {ys : List Int} (hs : a.eval s = .slice ra n cap) (hx : a.eval x = .slice (some ⟨b, off, none⟩) m c)
    (hown : OwnC B w ra n cap xs) (hy : RdC w (some ⟨b, off, none⟩) m ys) (hm : 0 < m) (hn : n ≤ 4194304) (hml : m ≤ 4194304) (hB : B ≤ w.heap.size)
    (h : ∀ g' cap' w', OwnC B w' (some ⟨g', 0, none⟩) (n + m) cap' (xs ++ ys) → w.grownBy w' (Value.slice ra n cap).ownBlock → (∀ W : World, W.heap.size ≤ B → Ext W w → Ext W w') →
      wpList Tryz.prog ops Q rest (a.put o.dst (.slice (some ⟨g', 0, none⟩) (n + m) cap')) w') : wpList Tryz.prog ops Q (o :: rest) a w := by
  refine wpList_plain hgd fun K hK => ?_
  obtain ⟨g', cap', w', hr, h1, h2, h3⟩ := run_appendAll hown hy hm hn hml hB o.type (c := c)
  unfold Oper.wp execOp
  simp only [ho, resolve, invoke, builtin, Sem.run_bind, Sem.run_pure, Result.andThen_ok, List.map_toArray, List.map_cons, List.map_nil, hs, hx, hr]
  exact hK _ _ (h g' cap' w' h1 h2 h3)

/-- A new empty row. -/
theorem own_empty (w : World) : OwnC w.heap.size (w.alloc (.cells #[] 2)) (some ⟨w.heap.size, 0, none⟩) 0 0 [] := by
  refine ⟨rfl, ⟨rfl, .inr ⟨w.heap.size, 0, #[], rfl, Nat.le_refl _, heap_alloc_new w _, Nat.le_refl _, by unfold maxLen; omega, by simp, by simp⟩⟩⟩

end Go.Proofs.YtcocbainookkcaaGreat

/-
  Copies of slices, in the program and in the reference.
  No condition.
-/
namespace Go.Proofs.YtcocbainookkcaaGreat
set_option maxRecDepth 100000
open Go.RowKit

set_option maxHeartbeats 400000 in
theorem s_own (b off n cap : Nat) (xs : List Int) (w : World) (hn : 0 < n) (hl : n ≤ 4194303) (hx : RdC w (some ⟨b, off, none⟩) n xs) :
    Calls Tryz.prog 55 #[.slice (some ⟨b, off, none⟩) n cap] w fun e w' => ∃ g rc, e = .returned (.slice (some ⟨g, 0, none⟩) n rc) ∧ OwnC w.heap.size w' (some ⟨g, 0, none⟩) n rc xs ∧ Ext w w' := by
  go_enter Tryz.func55, Tryz.ntmps55
  go_wp2_with (at_builtin; refine wpList_appendAll rfl (.tmp 3) (.tmp 4) rfl rfl rfl (own_empty w) (hx.ext (ext_alloc _ _)) hn (by omega) (by omega) ?hB ?hk)
  case hB => simp
  case hk =>
    intro g' cap' w3 ho3 hg3 he3
    have HO3 := Lib.hid ho3
    have HE3 := Lib.hid (he3 w (Nat.le_refl _) (ext_alloc _ _))
    clear ho3 hg3 he3
    go_wp2_with (fail)
    go_ret
    exact ⟨g', cap', rfl, HO3.out, HE3.out⟩
set_option maxHeartbeats 400000 in
theorem c_clone (b off n cap : Nat) (xs : List Int) (w : World) (hn : 0 < n) (hl : n ≤ 4194303) (hx : RdC w (some ⟨b, off, none⟩) n xs) :
    Calls Tryz.prog 46 #[.slice (some ⟨b, off, none⟩) n cap] w fun e w' => ∃ g rc, e = .returned (.slice (some ⟨g, 0, none⟩) n rc) ∧ OwnC w.heap.size w' (some ⟨g, 0, none⟩) n rc xs ∧ Ext w w' := by
  have qT : ∀ (w : World) (a : Option Addr) (n c : Nat), (binOp .eql 24 (.slice a n c) (.slice none 0 0)).run Tryz.prog w = .ok (.bool a.isNone) w := fun w a n c => Lib.run_eql_slice_nil w _ _ a n c 0 0 Tryz.underlying24
  go_enter Tryz.func46, Tryz.ntmps46
  go_wp2_with (at_builtin; refine wpList_appendAll rfl (.tmp 5) (.tmp 6) rfl rfl rfl (own_empty w) (hx.ext (ext_alloc _ _)) hn (by omega) (by omega) ?hB ?hk)
  case hB => simp
  case hk =>
    intro g' cap' w3 ho3 hg3 he3
    have HO3 := Lib.hid ho3
    have HE3 := Lib.hid (he3 w (Nat.le_refl _) (ext_alloc _ _))
    clear ho3 hg3 he3
    go_wp2_with (fail)
    go_ret
    exact ⟨g', cap', rfl, HO3.out, HE3.out⟩

end Go.Proofs.YtcocbainookkcaaGreat

/-
  Contracts of the small functions: numbers, checks of spaces and of multivectors, in the program and in the reference.
  No condition.
-/
namespace Go.Proofs.YtcocbainookkcaaGreat
set_option maxRecDepth 100000
open Go.RowKit

def primeB (p : Int) : Bool := p == 3 || p == 5 || p == 7 || p == 11 || p == 13
theorem prime_bd {p : Int} (h : primeB p = true) : 3 ≤ p ∧ p ≤ 13 := by simp [primeB] at h; omega
def inB (n l h : Int) : Bool := decide (l ≤ n ∧ n ≤ h)
def isB (p : Int) (xs : List Int) : Bool := xs.all fun x => inB x 0 (p - 1)
theorem isB_snoc (p : Int) (xs : List Int) (y : Int) : isB p (xs ++ [y]) = (isB p xs && inB y 0 (p - 1)) := by simp [isB]
theorem isB_false {p : Int} {xs : List Int} {k : Nat} (hk : k < xs.length) (h : inB (nth xs k) 0 (p - 1) = false) : isB p xs = false := by
  unfold isB; rw [Bool.eq_false_iff]; intro ha
  have := List.all_eq_true.1 ha (nth xs k) (nth_mem hk)
  rw [h] at this; cases this
theorem isB_nth {p : Int} {xs : List Int} (h : isB p xs = true) {i : Nat} (hi : i < xs.length) : 0 ≤ nth xs i ∧ nth xs i < p := by
  have := List.all_eq_true.1 h (nth xs i) (nth_mem hi)
  simp [inB] at this; omega

def spaceB (p : Int) (qs : List Int) : Bool := primeB p && inB qs.length 1 6 && isB p qs
def multiB (p : Int) (d : Nat) (xs : List Int) : Bool := decide (xs.length = 2 ^ d) && isB p xs
theorem space_of {p : Int} {qs : List Int} (h : spaceB p qs = true) : primeB p = true ∧ 1 ≤ qs.length ∧ qs.length ≤ 6 ∧ isB p qs = true := by
  simp only [spaceB, Bool.and_eq_true, inB, decide_eq_true_eq] at h
  exact ⟨h.1.1, by omega, by omega, h.2⟩
theorem multi_of {p : Int} {d : Nat} {xs : List Int} (h : multiB p d xs = true) : xs.length = 2 ^ d ∧ isB p xs = true := by
  simpa [multiB] using h
theorem pow_le64 {d : Nat} (h : d ≤ 6) : 2 ^ d ≤ 64 := Nat.pow_le_pow_right (by omega) h

/-! ### Slices of slices of integers, read -/
def nthR (rows : List (List Int)) (i : Nat) : List Int := rows.getD i []
theorem nthR_eq {rows : List (List Int)} {i : Nat} (h : i < rows.length) : nthR rows i = rows[i] := by simp [nthR, h]
def RdR (w : World) (a : Option Addr) (n : Nat) (rows : List (List Int)) : Prop :=
  rows.length = n ∧ ∀ i, i < n → ∃ b off ai ci, a = some ⟨b, off, none⟩ ∧ w.cell? ⟨b, off + i, none⟩ = some (.slice ai (nthR rows i).length ci) ∧ RdC w ai (nthR rows i).length (nthR rows i)
theorem RdR.ext {w w' : World} {a : Option Addr} {n : Nat} {rows : List (List Int)} (h : RdR w a n rows) (he : Ext w w') : RdR w' a n rows :=
  ⟨h.1, fun i hi => let ⟨b, off, ai, ci, ha, hc, hr⟩ := h.2 i hi; ⟨b, off, ai, ci, ha, he.cell hc, hr.ext he⟩⟩

/-- The code of a space and of multivectors. -/
def codeM (p : Int) (qs : List Int) (rows : List (List Int)) : Int := if spaceB p qs then (if rows.all (multiB p qs.length) then 0 else 2) else 1

/-! ### Numbers -/
theorem num_eq {p n : Int} (h1 : 1 ≤ p) (h2 : p ≤ 1000) : (wrap64 (n.tmod p + p)).tmod p = n % p := by
  have hlt : -p < n.tmod p := by
    have := Int.lt_tmod_of_pos n (b := p) (by omega); omega
  have hlt2 : n.tmod p < p := Int.tmod_lt_of_pos n (by omega)
  rw [IntWalk.wrap64_in (n.tmod p + p) ⟨by omega, by omega⟩]
  have e1 : (n.tmod p + p).tmod p = (n.tmod p + p) % p := Int.tmod_eq_emod_of_nonneg (by omega)
  have e2 : n = p * n.tdiv p + n.tmod p := (Int.mul_tdiv_add_tmod n p).symm
  rw [e1, Int.add_emod_right]
  conv => rhs; rw [e2]
  rw [Int.mul_add_emod_self_left]

set_option maxHeartbeats 400000 in
theorem c_inRange (n l h : Int) (w : World) :
    Calls Tryz.prog 75 #[.int .i64 n, .int .i64 l, .int .i64 h] w fun e w' => e = .returned (.bool (inB n l h)) ∧ Ext w w' := by
  go_enter Tryz.func75, Tryz.ntmps75
  go_wp2
  all_goals go_ret
  all_goals refine ⟨?_, Ext.refl _⟩
  all_goals simp [inB]; omega

set_option maxHeartbeats 400000 in
theorem c_isPrime (p : Int) (w : World) :
    Calls Tryz.prog 74 #[.int .i64 p] w fun e w' => e = .returned (.bool (primeB p)) ∧ Ext w w' := by
  go_enter Tryz.func74, Tryz.ntmps74
  go_wp2
  all_goals go_ret
  all_goals refine ⟨?_, Ext.refl _⟩
  all_goals simp_all [primeB]

set_option maxHeartbeats 400000 in
theorem c_length (a : Option Addr) (n cap : Nat) (w : World) :
    Calls Tryz.prog 76 #[.slice a n cap] w fun e w' => e = .returned (.int .i64 n) ∧ Ext w w' := by
  go_enter Tryz.func76, Tryz.ntmps76
  go_wp2
  go_ret
  exact ⟨rfl, Ext.refl _⟩

set_option maxHeartbeats 400000 in
theorem c_num (p n : Int) (w : World) (h1 : 1 ≤ p) (h2 : p ≤ 1000) :
    Calls Tryz.prog 81 #[.int .i64 p, .int .i64 n] w fun e w' => e = .returned (.int .i64 (n % p)) ∧ Ext w w' := by
  have HE := Lib.hid (num_eq (n := n) h1 h2)
  go_enter Tryz.func81, Tryz.ntmps81
  go_wp2
  go_ret
  exact ⟨ret_int HE.out, Ext.refl _⟩

set_option maxHeartbeats 400000 in
theorem c_is (p : Int) (a : Option Addr) (n cap : Nat) (xs : List Int) (w : World) (hp1 : 1 ≤ p) (hp2 : p ≤ 1000) (hl : n ≤ 4194304) (hx : RdC w a n xs) :
    Calls Tryz.prog 77 #[.int .i64 p, .slice a n cap] w fun e w' => e = .returned (.bool (isB p xs)) ∧ Ext w w' := by
  obtain ⟨hn, hx⟩ := hx
  have HX := Lib.hid hx
  have HN := Lib.hid hn
  clear hx hn
  go_enter Tryz.func77, Tryz.ntmps77
  go_wp2_with (fail)
  go_loopw [6, 9] (fun _ i wr => ∃ k : Nat, k ≤ n ∧ i = .int .i64 k ∧ isB p (xs.take k) = true ∧ Ext w wr) (fun _ i _ => n - (intOf i).toNat)
  case atStart => exact ⟨0, Nat.zero_le _, rfl, rfl, Ext.refl _⟩
  case round =>
    obtain ⟨k, hk, rfl, ht, hext⟩ := hrel
    have HT := Lib.hid ht; clear ht
    by_cases hlt : k < n
    · obtain ⟨b, off, rfl, hc⟩ := HX.out k hlt
      have hc' := hext.cell hc
      clear hc
      have HS := Lib.hid (take_snoc xs k (by rw [HN.out]; omega))
      cases hb : inB (nth xs k) 0 (p - 1)
      · have HB := Lib.hid hb
        go_wp2_with (go_at_call 75; refine (c_inRange _ _ _ _).mono ?_; rintro e w1 ⟨rfl, h1⟩)
        go_ret
        exact ⟨ret_bool (isB_false (by rw [HN.out]; exact hlt) HB.out).symm, hext.trans h1⟩
      · have HB := Lib.hid hb
        go_wp2_with (go_at_call 75; refine (c_inRange _ _ _ _).mono ?_; rintro e w1 ⟨rfl, h1⟩)
        go_roundw
        case rel => exact ⟨k + 1, by omega, by go_num, by rw [HS.out, isB_snoc, HT.out, HB.out]; rfl, hext.trans h1⟩
        case measure => simp [intOf]; omega
    · go_wp2_with (fail)
      go_ret
      have hh := HT.out
      rw [List.take_of_length_le (by rw [HN.out]; omega)] at hh
      exact ⟨ret_bool hh.symm, hext⟩

set_option maxHeartbeats 400000 in
theorem c_field (p : Int) (sq : Value) (w : World) :
    Calls Tryz.prog 38 #[.agg #[.int .i64 p, sq]] w fun e w' => e = .returned (.int .i64 p) ∧ Ext w w' := by
  go_enter Tryz.func38, Tryz.ntmps38
  go_wp2
  go_ret
  exact ⟨rfl, ext_alloc _ _⟩

set_option maxHeartbeats 400000 in
theorem c_dim (p : Int) (a : Option Addr) (n cap : Nat) (w : World) :
    Calls Tryz.prog 53 #[.agg #[.int .i64 p, .slice a n cap]] w fun e w' => e = .returned (.int .i64 n) ∧ Ext w w' := by
  go_enter Tryz.func53, Tryz.ntmps53
  go_wp2
  go_ret
  exact ⟨rfl, ext_alloc _ _⟩

/-! ### IsSpace -/
set_option maxHeartbeats 400000 in
theorem c_isSpace (p : Int) (a : Option Addr) (d cap : Nat) (qs : List Int) (w : World) (hl : d ≤ 4194304) (hq : RdC w a d qs) :
    Calls Tryz.prog 41 #[.agg #[.int .i64 p, .slice a d cap]] w fun e w' => e = .returned (.bool (spaceB p qs)) ∧ Ext w w' := by
  have hqw : RdC (w.alloc (.cells #[.int .i64 p, .slice a d cap] 26)).drew a d qs := hq.ext ((ext_alloc _ _).trans (ext_drew _))
  cases h1 : primeB p
  · have HF := Lib.hid (show spaceB p qs = false by simp [spaceB, h1])
    have H1 := Lib.hid h1
    clear h1
    go_enter Tryz.func41, Tryz.ntmps41
    go_wp2_with fail
    refine wp_region_lex [(2, .val (.bool false))] (by kernel_rfl) (by kernel_rfl) ?_
    repeat' first | (refine LexW.pure (v := ?_) rfl rfl (fun w1 he => ?_) ?_; rotate_left; (have hcc := Ext.cells he; go_simp; rfl); simp only [Act.put, List.setIfInBounds_toArray, List.set_cons_zero, List.set_cons_succ]) | (refine LexW.skip rfl rfl ?_; simp only [Act.put, List.setIfInBounds_toArray, List.set_cons_zero, List.set_cons_succ]) | (refine LexW.call (f := ?_) (args := ?_) rfl rfl (fun w1 => ?_) (fun w1 he hdep => ?_) ?_; rotate_left 2; (go_simp; refine ⟨?_, ?_⟩ <;> rfl); ( have H := c_isPrime p w1; rw [H1.out] at H; exact H); simp only [Act.put, List.setIfInBounds_toArray, List.set_cons_zero, List.set_cons_succ])
    refine LexW.nil (fun w1 he hk => ?_)
    go_wp2
    go_ret
    exact ⟨ret_bool HF.out.symm, (ext_alloc _ _).trans ((ext_drew _).trans he)⟩
  · have H1 := Lib.hid h1
    have hp := prime_bd h1
    clear h1
    cases h2 : inB (d : Int) 1 6
    · have HF := Lib.hid (show spaceB p qs = false by simp [spaceB, hq.1, h2])
      have H2 := Lib.hid h2
      clear h2
      go_enter Tryz.func41, Tryz.ntmps41
      go_wp2_with fail
      refine wp_region_lex [(2, .val (.bool true)), (6, .val (.int .i64 d)), (7, .val (.bool false))] (by kernel_rfl) (by kernel_rfl) ?_
      repeat' first | (refine LexW.pure (v := ?_) rfl rfl (fun w1 he => ?_) ?_; rotate_left; (have hcc := Ext.cells he; go_simp; rfl); simp only [Act.put, List.setIfInBounds_toArray, List.set_cons_zero, List.set_cons_succ]) | (refine LexW.skip rfl rfl ?_; simp only [Act.put, List.setIfInBounds_toArray, List.set_cons_zero, List.set_cons_succ]) | (refine LexW.call (f := ?_) (args := ?_) rfl rfl (fun w1 => ?_) (fun w1 he hdep => ?_) ?_; rotate_left 2; (go_simp; refine ⟨?_, ?_⟩ <;> rfl); ( first | (go_at_call 74; have H := c_isPrime p w1; rw [H1.out] at H; exact H) | (go_at_call 76; exact c_length _ _ _ _) | (go_at_call 75; have H := c_inRange (d : Int) 1 6 w1; rw [H2.out] at H; exact H)); simp only [Act.put, List.setIfInBounds_toArray, List.set_cons_zero, List.set_cons_succ])
      refine LexW.nil (fun w1 he hk => ?_)
      go_wp2
      go_ret
      exact ⟨ret_bool HF.out.symm, (ext_alloc _ _).trans ((ext_drew _).trans he)⟩
    · have HF := Lib.hid (show spaceB p qs = isB p qs by simp [spaceB, hq.1, h2, H1.out])
      have H2 := Lib.hid h2
      clear h2
      have HQ := Lib.hid hqw
      clear hqw
      go_enter Tryz.func41, Tryz.ntmps41
      go_wp2_with fail
      refine wp_region_lex [(2, .val (.bool true)), (6, .val (.int .i64 d)), (7, .val (.bool true)), (11, .val (.int .i64 p)), (14, .val (.bool (isB p qs)))] (by kernel_rfl) (by kernel_rfl) ?_
      repeat' first | (refine LexW.pure (v := ?_) rfl rfl (fun w1 he => ?_) ?_; rotate_left; (have hcc := Ext.cells he; go_simp; rfl); simp only [Act.put, List.setIfInBounds_toArray, List.set_cons_zero, List.set_cons_succ]) | (refine LexW.skip rfl rfl ?_; simp only [Act.put, List.setIfInBounds_toArray, List.set_cons_zero, List.set_cons_succ]) | (refine LexW.call (f := ?_) (args := ?_) rfl rfl (fun w1 => ?_) (fun w1 he hdep => ?_) ?_; rotate_left 2; (go_simp; refine ⟨?_, ?_⟩ <;> rfl); ( first | (go_at_call 74; have H := c_isPrime p w1; rw [H1.out] at H; exact H) | (go_at_call 76; exact c_length _ _ _ _) | (go_at_call 75; have H := c_inRange (d : Int) 1 6 w1; rw [H2.out] at H; exact H) | (go_at_call 38; exact c_field _ _ _) | (go_at_call 77; exact c_is _ _ _ _ _ _ (by omega) (by omega) hl (HQ.out.ext he))); simp only [Act.put, List.setIfInBounds_toArray, List.set_cons_zero, List.set_cons_succ])
      refine LexW.nil (fun w1 he hk => ?_)
      go_wp2
      go_ret
      exact ⟨ret_bool HF.out.symm, (ext_alloc _ _).trans ((ext_drew _).trans he)⟩

end Go.Proofs.YtcocbainookkcaaGreat

/-
  Contracts: checks of multivectors in the program.
  No condition.
-/
namespace Go.Proofs.YtcocbainookkcaaGreat
set_option maxRecDepth 100000
open Go.RowKit

/-- isMulti reports whether a list is a multivector. -/
theorem pow_wrap {d : Nat} (h : d ≤ 6) : wrap64 (2 ^ d) = ((2 ^ d : Nat) : Int) := by
  have : d = 0 ∨ d = 1 ∨ d = 2 ∨ d = 3 ∨ d = 4 ∨ d = 5 ∨ d = 6 := by omega
  rcases this with rfl | rfl | rfl | rfl | rfl | rfl | rfl <;> decide +kernel

/-! ### The library's search with a predicate -/
def firstIx (f : Nat → Bool) (n : Nat) : Int := match (List.range n).find? f with | some i => i | none => -1
theorem firstIx_hit {f : Nat → Bool} {n k : Nat} (hk : k < n) (hf : f k = true) (hb : ∀ j, j < k → f j = false) : firstIx f n = k := by
  unfold firstIx
  have : (List.range n).find? f = some k := by
    rw [List.find?_range_eq_some]
    exact ⟨hf, by simpa using hk, fun j hj => by simp [hb j hj]⟩
  rw [this]
theorem firstIx_none {f : Nat → Bool} {n : Nat} (hb : ∀ j, j < n → f j = false) : firstIx f n = -1 := by
  unfold firstIx
  have : (List.range n).find? f = none := by
    rw [List.find?_range_eq_none]
    exact fun j hj => by simp [hb j hj]
  rw [this]
theorem firstIx_bd (f : Nat → Bool) (n : Nat) : -1 ≤ firstIx f n := by
  unfold firstIx; split <;> omega
theorem firstIx_any (f : Nat → Bool) (n : Nat) : decide (0 ≤ firstIx f n) = (List.range n).any f := by
  by_cases h : ∃ k, k < n ∧ f k = true
  · obtain ⟨k, hk, hf⟩ := h
    have : (List.range n).any f = true := List.any_eq_true.2 ⟨k, List.mem_range.2 hk, hf⟩
    rw [this]
    unfold firstIx
    split
    · simp
    · rename_i h0; rw [List.find?_range_eq_none] at h0; have := h0 k hk; simp [hf] at this
  · have h' : ∀ j, j < n → f j = false := fun j hj => by
      cases hf : f j with
      | false => rfl
      | true => exact absurd ⟨j, hj, hf⟩ h
    rw [firstIx_none h']
    symm
    simp only [Int.reduceNeg, Int.reduceLE, decide_false]
    rw [Bool.eq_false_iff]
    intro ha
    obtain ⟨k, hk, hf⟩ := List.any_eq_true.1 ha
    rw [h' k (List.mem_range.1 hk)] at hf; cases hf

set_option maxHeartbeats 400000 in
set_option maxRecDepth 20000 in
theorem c_indexFunc (a : Option Addr) (n cap F : Nat) (caps : Array Value) (R : Nat → Value) (f : Nat → Bool) (w : World) (hl : n ≤ 4194304) (hcf : ∀ args w, (callFunc F args).run Tryz.prog w = .ok (.enter F args) w)
    (hR : ∀ i, i < n → ∃ b off, a = some ⟨b, off, none⟩ ∧ w.cell? ⟨b, off + i, none⟩ = some (R i))
    (hf : ∀ i, i < n → ∀ w1, Ext w w1 → Calls Tryz.prog F (#[R i] ++ caps) w1 fun e w2 => e = .returned (.bool (f i)) ∧ Ext w1 w2) :
    Calls Tryz.prog 106 #[.slice a n cap, .func (.func F) #[] caps] w fun e w' => e = .returned (.int .i64 (firstIx f n)) ∧ Ext w w' := by
  have HR := Lib.hid hR
  have HF := Lib.hid hf
  clear hR hf
  go_enter Tryz.func106, Tryz.ntmps106
  go_wp2_with (fail)
  go_loopw [5, 8] (fun _ i wr => ∃ k : Nat, k ≤ n ∧ i = .int .i64 k ∧ Hid (∀ j, j < k → f j = false) ∧ Ext w wr) (fun _ i _ => n - (intOf i).toNat)
  case atStart => exact ⟨0, Nat.zero_le _, rfl, Lib.hid (fun j hj => by omega), Ext.refl _⟩
  case round =>
    obtain ⟨k, hk, rfl, HT, hext⟩ := hrel
    by_cases hlt : k < n
    · obtain ⟨b, off, rfl, hc⟩ := HR.out k hlt
      have hc' := hext.cell hc
      clear hc
      cases hb : f k
      · have HB := Lib.hid hb
        have HFk := Lib.hid (HF.out k hlt wr hext)
        clear hb
        go_wp2_with ((with_reducible refine (HFk.out).mono ?_); rintro e w1 ⟨rfl, h1⟩; rw [HB.out])
        go_roundw
        case rel => exact ⟨k + 1, by omega, by go_num, Lib.hid (fun j hj => by
          by_cases hjk : j = k
          · subst hjk; exact HB.out
          · exact HT.out j (by omega)), hext.trans h1⟩
        case measure => simp [intOf]; omega
      · have HB := Lib.hid hb
        have HFk := Lib.hid (HF.out k hlt wr hext)
        clear hb
        go_wp2_with ((with_reducible refine (HFk.out).mono ?_); rintro e w1 ⟨rfl, h1⟩; rw [HB.out])
        go_ret
        exact ⟨ret_int (firstIx_hit hlt HB.out HT.out).symm, hext.trans h1⟩
    · go_wp2_with (fail)
      go_ret
      exact ⟨ret_int (firstIx_none (fun j hj => HT.out j (by omega))).symm, hext⟩

set_option maxHeartbeats 400000 in
theorem c_containsFunc (a : Option Addr) (n cap F : Nat) (caps : Array Value) (R : Nat → Value) (f : Nat → Bool) (w : World) (hl : n ≤ 4194304) (hcf : ∀ args w, (callFunc F args).run Tryz.prog w = .ok (.enter F args) w)
    (hR : ∀ i, i < n → ∃ b off, a = some ⟨b, off, none⟩ ∧ w.cell? ⟨b, off + i, none⟩ = some (R i))
    (hf : ∀ i, i < n → ∀ w1, Ext w w1 → Calls Tryz.prog F (#[R i] ++ caps) w1 fun e w2 => e = .returned (.bool (f i)) ∧ Ext w1 w2) :
    Calls Tryz.prog 93 #[.slice a n cap, .func (.func F) #[] caps] w fun e w' => e = .returned (.bool ((List.range n).any f)) ∧ Ext w w' := by
  have HR := Lib.hid hR
  have HF := Lib.hid hf
  have HA := Lib.hid (firstIx_any f n)
  have hbd := firstIx_bd f n
  clear hR hf
  go_enter Tryz.func93, Tryz.ntmps93
  go_wp2_with (go_at_call 106; refine (c_indexFunc _ _ _ _ _ _ _ _ hl hcf HR.out HF.out).mono ?_; rintro e w1 ⟨rfl, h1⟩)
  go_ret
  exact ⟨ret_bool HA.out, h1⟩

theorem any_not_all {α : Type} (g : α → Bool) (l : List α) : (List.range l.length).any (fun i => match l[i]? with | some x => !g x | none => false) = !l.all g := by
  rw [Bool.eq_iff_iff]
  simp only [List.any_eq_true, List.mem_range, Bool.not_eq_true', List.all_eq_false]
  constructor
  · rintro ⟨i, hi, h⟩
    rw [List.getElem?_eq_getElem hi] at h
    exact ⟨l[i], List.getElem_mem hi, by simpa using h⟩
  · rintro ⟨x, hx, h⟩
    obtain ⟨i, hi, rfl⟩ := List.getElem_of_mem hx
    exact ⟨i, hi, by rw [List.getElem?_eq_getElem hi]; simpa using h⟩

theorem any_rows (p : Int) (d n : Nat) (rows : List (List Int)) (hn : rows.length = n) : (List.range n).any (fun i => !multiB p d (nthR rows i)) = !rows.all (multiB p d) := by
  subst hn
  rw [← any_not_all]
  rw [Bool.eq_iff_iff]
  simp only [List.any_eq_true, List.mem_range]
  constructor
  · rintro ⟨i, hi, h⟩
    exact ⟨i, hi, by rw [List.getElem?_eq_getElem hi]; rw [nthR_eq hi] at h; exact h⟩
  · rintro ⟨i, hi, h⟩
    exact ⟨i, hi, by rw [List.getElem?_eq_getElem hi] at h; rw [nthR_eq hi]; exact h⟩

def rowV (ai : Nat → Option Addr) (ci : Nat → Nat) (rows : List (List Int)) (i : Nat) : Value := .slice (ai i) (nthR rows i).length (ci i)
theorem RdR.choose {w : World} {a : Option Addr} {n : Nat} {rows : List (List Int)} (h : RdR w a n rows) :
    ∃ (ai : Nat → Option Addr) (ci : Nat → Nat), (∀ i, i < n → ∃ b off, a = some ⟨b, off, none⟩ ∧ w.cell? ⟨b, off + i, none⟩ = some (rowV ai ci rows i)) ∧ ∀ i, i < n → RdC w (ai i) (nthR rows i).length (nthR rows i) := by
  obtain ⟨_, h⟩ := h
  refine ⟨fun i => if hi : i < n then Classical.choose (Classical.choose_spec (Classical.choose_spec (h i hi))) else none,
    fun i => if hi : i < n then Classical.choose (Classical.choose_spec (Classical.choose_spec (Classical.choose_spec (h i hi)))) else 0, fun i hi => ?_, fun i hi => ?_⟩
  · have hs := Classical.choose_spec (Classical.choose_spec (Classical.choose_spec (Classical.choose_spec (h i hi))))
    refine ⟨_, _, hs.1, ?_⟩
    rw [hs.2.1]
    simp only [rowV, hi, dif_pos]
  · have hs := Classical.choose_spec (Classical.choose_spec (Classical.choose_spec (Classical.choose_spec (h i hi))))
    simp only [hi, dif_pos]
    exact hs.2.2

/-- A row of one slice, laid by the call. -/
theorem rdR_one {w : World} {g : Nat} {a : Option Addr} {n cap : Nat} {xs : List Int} (hc : w.cell? ⟨g, 0, none⟩ = some (.slice a n cap)) (hx : RdC w a n xs) : RdR w (some ⟨g, 0, none⟩) 1 [xs] := by
  refine ⟨rfl, fun i hi => ?_⟩
  obtain rfl : i = 0 := by omega
  have : nthR [xs] 0 = xs := rfl
  rw [this, hx.1]
  exact ⟨g, 0, a, cap, rfl, hc, hx⟩
theorem rdR_two {w : World} {g : Nat} {a b : Option Addr} {n m ca cb : Nat} {xs ys : List Int} (hc : w.cell? ⟨g, 0, none⟩ = some (.slice a n ca)) (hd : w.cell? ⟨g, 1, none⟩ = some (.slice b m cb)) (hx : RdC w a n xs) (hy : RdC w b m ys) : RdR w (some ⟨g, 0, none⟩) 2 [xs, ys] := by
  refine ⟨rfl, fun i hi => ?_⟩
  have : i = 0 ∨ i = 1 := by omega
  rcases this with rfl | rfl
  · have : nthR [xs, ys] 0 = xs := rfl
    rw [this, hx.1]
    exact ⟨g, 0, a, ca, rfl, hc, hx⟩
  · have : nthR [xs, ys] 1 = ys := rfl
    rw [this, hy.1]
    exact ⟨g, 0, b, cb, rfl, hd, hy⟩
theorem len_one {xs : List Int} {n : Nat} (h : xs.length ≤ n) : ∀ i, i < 1 → (nthR [xs] i).length ≤ n := fun i hi => by
  obtain rfl : i = 0 := by omega
  exact h
theorem len_two {xs ys : List Int} {n : Nat} (h : xs.length ≤ n) (h' : ys.length ≤ n) : ∀ i, i < 2 → (nthR [xs, ys] i).length ≤ n := fun i hi => by
  have : i = 0 ∨ i = 1 := by omega
  rcases this with rfl | rfl
  · exact h
  · exact h'

theorem codeM_one {p : Int} {qs xs : List Int} (h : codeM p qs [xs] = 0) : spaceB p qs = true ∧ multiB p qs.length xs = true := by
  unfold codeM at h
  split at h
  · rename_i hs
    split at h
    · rename_i ha; exact ⟨hs, by simpa using ha⟩
    · omega
  · omega
theorem codeM_two {p : Int} {qs xs ys : List Int} (h : codeM p qs [xs, ys] = 0) : spaceB p qs = true ∧ multiB p qs.length xs = true ∧ multiB p qs.length ys = true := by
  unfold codeM at h
  split at h
  · rename_i hs
    split at h
    · rename_i ha; exact ⟨hs, by simpa using ha⟩
    · omega
  · omega

end Go.Proofs.YtcocbainookkcaaGreat

/-
  Bits of masks below 64: the walk's words for them, and the contracts of the functions that count them.
  No condition.
-/
namespace Go.Proofs.YtcocbainookkcaaGreat
set_option maxRecDepth 100000
open Go.RowKit

def popF : Nat → Nat → Nat
  | 0, _ => 0
  | f + 1, n => n % 2 + popF f (n / 2)
/-- The number of bits of a mask below 64. -/
def popc (n : Nat) : Nat := popF 6 n
theorem popc_le {n : Nat} (h : n < 64) : popc n ≤ 6 := by
  have : ∀ n, n < 64 → popc n ≤ 6 := by decide +kernel
  exact this n h

theorem bit_i (y k : Nat) (hy : y < 64) (hk : k < 6) : (bits BinOp.and IntKind.i64 ((y : Int) / 2 ^ k) 1 == 1) = y.testBit k := by
  have : ∀ y : Nat, y < 64 → ∀ k : Nat, k < 6 → (bits BinOp.and IntKind.i64 ((y : Int) / 2 ^ k) 1 == 1) = y.testBit k := by decide +kernel
  exact this y hy k hk
theorem bit_z (y k : Nat) (hy : y < 64) (hk : k < 6) : (bits BinOp.and IntKind.i64 ((y : Int) / 2 ^ k) 1 == 0) = !y.testBit k := by
  have : ∀ y : Nat, y < 64 → ∀ k : Nat, k < 6 → (bits BinOp.and IntKind.i64 ((y : Int) / 2 ^ k) 1 == 0) = !y.testBit k := by decide +kernel
  exact this y hy k hk
theorem shr_u (x k : Nat) (hx : x < 64) (hk : k < 6) : IntKind.u64.wrap ((x : Int) / 2 ^ (k + 1)) = ((x >>> (k + 1) : Nat) : Int) := by
  have : ∀ x : Nat, x < 64 → ∀ k : Nat, k < 6 → IntKind.u64.wrap ((x : Int) / 2 ^ (k + 1)) = ((x >>> (k + 1) : Nat) : Int) := by decide +kernel
  exact this x hx k hk
theorem shr_lt {x : Nat} (k : Nat) (hx : x < 64) : x >>> k < 64 := Nat.lt_of_le_of_lt (Nat.shiftRight_le x k) hx

set_option maxHeartbeats 400000 in
theorem c_ones64 (x : Nat) (w : World) (hx : x < 64) :
    Calls Tryz.prog 109 #[.int .u64 x] w fun e w' => e = .returned (.int .i64 (popc x)) ∧ Ext w w' := by
  go_enter Tryz.func109, Tryz.ntmps109
  go_wp2
  go_ret
  refine ⟨ret_int ?_, Ext.refl _⟩
  clear w
  revert hx
  revert x
  decide +kernel

set_option maxHeartbeats 400000 in
theorem c_ones (x : Nat) (w : World) (hx : x < 64) :
    Calls Tryz.prog 107 #[.int .u64 x] w fun e w' => e = .returned (.int .i64 (popc x)) ∧ Ext w w' := by
  go_enter Tryz.func107, Tryz.ntmps107
  go_wp2_with (go_at_call 109; refine (c_ones64 _ _ hx).mono ?_; rintro e w1 ⟨rfl, g1⟩)
  go_ret
  exact ⟨rfl, g1⟩

theorem conv_u (x : Nat) (hx : x < 64) : IntKind.u64.wrap (x : Int) = (x : Int) := by
  have : ∀ x : Nat, x < 64 → IntKind.u64.wrap (x : Int) = (x : Int) := by decide +kernel
  exact this x hx

theorem popF_step (f n : Nat) : popF (f + 1) n = n % 2 + popF f (n / 2) := rfl
theorem popF_zero (f : Nat) : popF f 0 = 0 := by
  induction f with
  | zero => rfl
  | succ f ih => simp [popF, ih]
theorem popF_le (f n : Nat) : popF f n ≤ f := by
  induction f generalizing n with
  | zero => simp [popF]
  | succ f ih => have := ih (n / 2); simp only [popF]; omega

set_option maxHeartbeats 400000 in
theorem s_grade (x : Nat) (w : World) (hx : x < 64) :
    Calls Tryz.prog 105 #[.int .i64 x] w fun e w' => e = .returned (.int .i64 (popc x)) ∧ Ext w w' := by
  go_enter Tryz.func105, Tryz.ntmps105
  go_wp2_with (fail)
  go_loopw [0, 3] (fun m n wr => ∃ (f y g : Nat), f ≤ 6 ∧ y < 2 ^ f ∧ y < 64 ∧ g ≤ 64 ∧ m = .int .i64 y ∧ n = .int .i64 g ∧ Hid (g + popF f y = popc x) ∧ Ext w wr) (fun m _ _ => (intOf m).toNat)
  case atStart => exact ⟨6, x, 0, Nat.le_refl _, hx, hx, by omega, rfl, rfl, Lib.hid (by simp [popc]), Ext.refl _⟩
  case round =>
    obtain ⟨f, y, g, hf, hy, hy64, hg, rfl, rfl, HG, hext⟩ := hrel
    have HY := Lib.hid hy
    clear hy
    by_cases h0 : 0 < y
    · have hgl : g ≤ 6 := by have := HG.out; have := popc_le hx; omega
      go_wp2_with (fail)
      go_roundw
      case rel =>
        cases f with
        | zero => have := HY.out; simp at this; omega
        | succ f =>
          refine ⟨f, y / 2, g + y % 2, by omega, ?_, by omega, by omega, by go_num, by go_num, Lib.hid ?_, hext⟩
          · have := HY.out; rw [Nat.pow_succ] at this; omega
          · have := HG.out; rw [popF_step] at this; omega
      case measure => simp [intOf]; omega
    · obtain rfl : y = 0 := by omega
      go_wp2_with (fail)
      go_ret
      refine ⟨ret_int ?_, hext⟩
      have := HG.out
      rw [popF_zero] at this
      have h2 : g = popc x := by simpa using this
      rw [h2]

end Go.Proofs.YtcocbainookkcaaGreat
