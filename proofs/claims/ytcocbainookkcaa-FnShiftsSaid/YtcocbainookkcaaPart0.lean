/-
  Contracts and plain laws, part 0: Stab, Mem, Leaf, Check, Bits, SpecA, Fac.
  No condition.
-/
import Derived.StillTail
import Derived.WalkKit
import Derived.Test.YtcocbainookkcaaRows
import Derived.WalkSpells
import Derived.WalkLawsBesides
import Derived.Lib.Hide
import Derived.IntWalk
/-
  Regions that draw their order of evaluation, walked once in the order of the text: every operation is shown in whatever world extends the region's first one, and what it hands on is said by a predicate that stays true when the world is extended.
  No condition. General over every program.
-/
namespace Go.Proofs.Ytcocbainookkcaa
set_option maxRecDepth 100000
open Go.RowKit

/-- The world has only been extended: what was there is as it was. -/
abbrev Ext (w w' : World) : Prop := Below w.heap.size w w'

theorem Ext.refl (w : World) : Ext w w := Below.refl _ _
theorem Ext.trans {a b c : World} (h : Ext a b) (k : Ext b c) : Ext a c := Below.trans h (Below.mono k h.size)
theorem Ext.alloc {a b : World} (h : Ext a b) (o : Obj) : Ext a (b.alloc o) := Below.alloc h h.size o
theorem Ext.drew {a b : World} (h : Ext a b) : Ext a b.drew := Below.drew h
theorem Ext.cell {w w' : World} (h : Ext w w') {p : Addr} {v : Value} (hc : w.cell? p = some v) : w'.cell? p = some v :=
  (Below.cell h (World.block_lt_of_cell? w p hc)).trans hc
theorem Ext.heap {w w' : World} (h : Ext w w') {k : Nat} {o : Obj} (hc : w.heap[k]? = some o) : w'.heap[k]? = some o := by
  have : k < w.heap.size := by
    rcases Nat.lt_or_ge k w.heap.size with h1 | h1
    · exact h1
    · rw [Array.getElem?_eq_none h1] at hc; cases hc
  exact (h.block k this).trans hc

/-- What is said of a value in a world, and stays true when the world is extended. -/
structure SPred where
  holds : Value → World → Prop
  st : ∀ v w w', holds v w → Ext w w' → holds v w'

/-- This very value. -/
def SPred.val (v0 : Value) : SPred := ⟨fun v _ => v = v0, fun _ _ _ h _ => h⟩

section
variable {P : Program} {ops : Array Oper} {md : Region.Mode}

/-- One operation hands on a value, in a world, of which R holds; it does not panic. -/
def wpS (P : Program) (o : Oper) (a : Act) (w : World) (R : Value → World → Prop) : Prop :=
  match (execOp a.eval o).run P w with
  | .ok (.value v) w' => R v w'
  | .ok .skip w' => R undef w'
  | .ok (.enter f args) w' => Calls P f args w' fun e w'' => ∃ v, e = .returned v ∧ R v w''
  | _ => False

theorem wpS_some {o : Oper} {a : Act} {w : World} {R : Value → World → Prop} (h : wpS P o a w R) : ∃ v w', R v w' := by
  unfold wpS at h
  split at h
  · exact ⟨_, _, h⟩
  · exact ⟨_, _, h⟩
  · obtain ⟨e, w', fr, ⟨v, _, hr⟩, _⟩ := h []
    exact ⟨_, _, hr⟩
  · exact h.elim

theorem wp_of_wpS {o : Oper} {a : Act} {w : World} {R : Value → World → Prop} {K : Act → World → Prop} {Q : Exit → Act → World → Prop} (h : wpS P o a w R) (hk : ∀ v w', R v w' → K (a.put o.dst v) w') : o.wp P a w K Q := by
  unfold wpS at h
  unfold Oper.wp
  split at h
  · rename_i hr; rw [hr]; exact hk _ _ h
  · rename_i hr; rw [hr]; exact hk _ _ h
  · rename_i hr; rw [hr]
    exact Calls.mono h fun e w'' ⟨v, he, hr⟩ => by subst he; exact hk _ _ hr
  · exact h.elim

/-- The temporaries that operation i reads and that an earlier operation of the region writes. -/
def depsOf (ops : Array Oper) (i : Nat) : List (Nat × Tmp) :=
  match ops[i]? with
  | none => []
  | some o => (List.range i).filterMap fun d => match (ops[d]?).bind (·.dst) with
      | some t => if (o.looksAt ops).contains t then some (d, t) else none
      | none => none

theorem depsOf_spec {i d : Nat} {t : Tmp} {o : Oper} (ho : ops[i]? = some o) (h : (d, t) ∈ depsOf ops i) : t ∈ o.looksAt ops ∧ ∃ od, ops[d]? = some od ∧ od.dst = some t := by
  simp only [depsOf, ho, List.mem_filterMap, List.mem_range] at h
  obtain ⟨d', _, hd⟩ := h
  split at hd
  · rename_i t' ht'
    split at hd
    · rename_i hc
      simp only [Option.some.injEq, Prod.mk.injEq] at hd
      obtain ⟨rfl, rfl⟩ := hd
      refine ⟨by simpa using hc, ?_⟩
      cases hod : ops[d']? with
      | none => simp [hod] at ht'
      | some od => exact ⟨od, rfl, by simpa [hod] using ht'⟩
    · cases hd
  · cases hd

/-- What is said of a value: nothing, where none was given. -/
def holdsO (s : Option SPred) (v : Value) (w : World) : Prop := match s with | none => True | some p => p.holds v w
theorem holdsO.ext {s : Option SPred} {v : Value} {w w' : World} (h : holdsO s v w) (he : Ext w w') : holdsO s v w' := by
  cases s with
  | none => trivial
  | some p => exact p.st _ _ _ h he

def Dep (sp : Nat → Option SPred) (l : List (Nat × Tmp)) (a : Act) (w : World) : Prop := ∀ p ∈ l, holdsO (sp p.1) (a.tmps.getD p.2 undef) w
def DepIn (env : List (Nat × Value)) (l : List (Nat × Tmp)) (a : Act) : Prop := ∀ p ∈ l, (p.1, a.tmps.getD p.2 undef) ∈ env
/-- All that is known of the values so far. -/
def Known (sp : Nat → Option SPred) (env : List (Nat × Value)) (w : World) : Prop := ∀ p ∈ env, holdsO (sp p.1) p.2 w

theorem Known.dep {sp : Nat → Option SPred} {env : List (Nat × Value)} {w : World} (h : Known sp env w) {l : List (Nat × Tmp)} {a : Act} (hd : DepIn env l a) : Dep sp l a w := fun p hp => h _ (hd p hp)
theorem Known.ext {sp : Nat → Option SPred} {env : List (Nat × Value)} {w w' : World} (h : Known sp env w) (he : Ext w w') : Known sp env w' := fun p hp => (h p hp).ext he
theorem Known.cons {sp : Nat → Option SPred} {env : List (Nat × Value)} {w : World} (h : Known sp env w) {i : Nat} {v : Value} (hv : holdsO (sp i) v w) : Known sp ((i, v) :: env) w := fun p hp => by
  rcases List.mem_cons.1 hp with rfl | hp
  · exact hv
  · exact h p hp

theorem getD_put {a : Act} {dst : Option Tmp} {v : Value} {t : Tmp} (h : ∀ d, dst = some d → d ≠ t) : (a.put dst v).tmps.getD t undef = a.tmps.getD t undef := by
  cases dst with
  | none => rfl
  | some d => simp [Act.put, Array.getElem?_setIfInBounds_ne (h d rfl)]

variable (P ops) in
/-- The operation yields this very value in every world that extends the first one (or is passed over). -/
def Sure (w0 : World) (o : Oper) (a : Act) (v : Value) : Prop :=
  (Region.wanted o (yielded ops a.tmps) = true ∧ ∀ w, Ext w0 w → (execOp a.eval o).run P w = .ok (.value v) w) ∨ (Region.wanted o (yielded ops a.tmps) = false ∧ v = undef)

theorem Sure.uniq {w0 : World} {o : Oper} {a : Act} {v v' : Value} (h : Sure P ops w0 o a v) (h' : Sure P ops w0 o a v') : v = v' := by
  rcases h with ⟨hw, hr⟩ | ⟨hw, rfl⟩ <;> rcases h' with ⟨hw', hr'⟩ | ⟨hw', rfl⟩
  · have h1 := hr w0 (Ext.refl _)
    have h2 := hr' w0 (Ext.refl _)
    rw [h1] at h2
    simpa using h2
  · rw [hw] at hw'; cases hw'
  · rw [hw] at hw'; cases hw'
  · rfl

variable (P ops) in
/-- Operation i can be carried out in a state. -/
def Can (w0 : World) (sp : Nat → Option SPred) (i : Nat) (o : Oper) (a : Act) (env : List (Nat × Value)) : Prop :=
  match sp i with
  | none => ∃ v, Sure P ops w0 o a v
  | some p => Region.wanted o (yielded ops a.tmps) = true ∧ DepIn env (depsOf ops i) a ∧ ∀ w, Ext w0 w → Dep sp (depsOf ops i) a w → wpS P o a w fun v w' => Ext w w' ∧ p.holds v w'

variable (P ops) in
/-- What it may yield. -/
def Res (w0 : World) (sp : Nat → Option SPred) (i : Nat) (o : Oper) (a : Act) (env : List (Nat × Value)) (v : Value) : Prop :=
  match sp i with
  | none => Sure P ops w0 o a v
  | some p => ∃ w, Ext w0 w ∧ Known sp env w ∧ p.holds v w

theorem wpS_put {w : World} {R : Value → World → Prop} {oj : Oper} (hs : ∀ cs b, oj.op ≠ .select cs b) (a : Act) (dst : Option Tmp) (v : Value) (h : ∀ d, dst = some d → d ∉ oj.looksAt ops) : wpS P oj (a.put dst v) w R = wpS P oj a w R := by
  unfold wpS; rw [execOp_put oj hs a dst v h]

theorem Sure_put {w0 : World} {oj : Oper} (hs : ∀ cs b, oj.op ≠ .select cs b) (a : Act) (dst : Option Tmp) (v u : Value) (h : ∀ d, dst = some d → d ∉ oj.looksAt ops) : Sure P ops w0 oj (a.put dst v) u ↔ Sure P ops w0 oj a u := by
  unfold Sure; rw [execOp_put oj hs a dst v h, wanted_put (ops := ops) oj a dst v h]

theorem Dep_put {sp : Nat → Option SPred} {j : Nat} {oj : Oper} (hj : ops[j]? = some oj) (a : Act) (dst : Option Tmp) (v : Value) (w : World) (h : ∀ d, dst = some d → d ∉ oj.looksAt ops) :
    Dep sp (depsOf ops j) (a.put dst v) w ↔ Dep sp (depsOf ops j) a w := by
  constructor
  · intro hd p hp
    have := hd p hp
    rwa [getD_put (fun d he hdt => h d he (by rw [hdt]; exact (depsOf_spec hj hp).1))] at this
  · intro hd p hp
    rw [getD_put (fun d he hdt => h d he (by rw [hdt]; exact (depsOf_spec hj hp).1))]
    exact hd p hp

section
variable {w0 : World} {sp : Nat → Option SPred} {i j : Nat} {oi oj : Oper} {a : Act} {v vj : Value} {env : List (Nat × Value)}

/-- What can be carried out behind i, apart from it, can be carried out ahead of it. -/
theorem Can.back (hi : ops[i]? = some oi) (hj : ops[j]? = some oj) (hap : oi.apart ops oj = true)
    (hsj : ∀ cs b, oj.op ≠ .select cs b) (h : Can P ops w0 sp j oj (a.put oi.dst v) ((i, v) :: env)) : Can P ops w0 sp j oj a env := by
  obtain ⟨h1, h2, h3⟩ := Oper.apart_spec hap
  unfold Can at *
  cases hsp : sp j with
  | none =>
    rw [hsp] at h
    obtain ⟨u, hu⟩ := h
    exact ⟨u, (Sure_put hsj a oi.dst v u h1).1 hu⟩
  | some p =>
    rw [hsp] at h
    obtain ⟨hw, hd, hr⟩ := h
    rw [wanted_put (ops := ops) oj a oi.dst v h1] at hw
    refine ⟨hw, fun q hq => ?_, fun w he hdp => ?_⟩
    · have hin := hd q hq
      obtain ⟨hl, od, hod, hdt⟩ := depsOf_spec hj hq
      rw [getD_put (fun d he hdd => h1 d he (by rw [hdd]; exact hl))] at hin
      rcases List.mem_cons.1 hin with heq | hin
      · have : q.1 = i := congrArg Prod.fst heq
        rw [this, hi] at hod
        obtain rfl := Option.some.inj hod
        exact absurd hl (h1 _ hdt)
      · exact hin
    · have := hr w he ((Dep_put hj a oi.dst v w h1).2 hdp)
      rwa [wpS_put hsj a oi.dst v h1] at this

theorem Can.fore (hi : ops[i]? = some oi) (hap : oi.apart ops oj = true)
    (hsi : ∀ cs b, oi.op ≠ .select cs b) (h : Can P ops w0 sp i oi a env) : Can P ops w0 sp i oi (a.put oj.dst v) ((j, v) :: env) := by
  obtain ⟨h1, h2, h3⟩ := Oper.apart_spec hap
  unfold Can at *
  cases hsp : sp i with
  | none =>
    rw [hsp] at h
    obtain ⟨u, hu⟩ := h
    exact ⟨u, (Sure_put hsi a oj.dst v u h3).2 hu⟩
  | some p =>
    rw [hsp] at h
    obtain ⟨hw, hd, hr⟩ := h
    rw [← wanted_put (ops := ops) oi a oj.dst v h3] at hw
    refine ⟨hw, fun q hq => ?_, fun w he hdp => ?_⟩
    · obtain ⟨hl, od, hod, hdt⟩ := depsOf_spec hi hq
      rw [getD_put (fun d he hdd => h3 d he (by rw [hdd]; exact hl))]
      exact List.mem_cons_of_mem _ (hd q hq)
    · have := hr w he ((Dep_put hi a oj.dst v w h3).1 hdp)
      rwa [wpS_put hsi a oj.dst v h3]

theorem Res.joint (hap : oi.apart ops oj = true) (hsi : ∀ cs b, oi.op ≠ .select cs b) (hsj : ∀ cs b, oj.op ≠ .select cs b)
    (h1 : Res P ops w0 sp j oj a env vj) (h2 : Res P ops w0 sp i oi (a.put oj.dst vj) ((j, vj) :: env) v) :
    Res P ops w0 sp i oi a env v ∧ Res P ops w0 sp j oj (a.put oi.dst v) ((i, v) :: env) vj := by
  obtain ⟨g1, g2, g3⟩ := Oper.apart_spec hap
  unfold Res at *
  cases hpi : sp i with
  | none =>
    rw [hpi] at h2
    refine ⟨(Sure_put hsi a oj.dst vj v g3).1 h2, ?_⟩
    cases hpj : sp j with
    | none => rw [hpj] at h1; exact (Sure_put hsj a oi.dst v vj g1).2 h1
    | some q =>
      rw [hpj] at h1
      obtain ⟨w, he, hk, hv⟩ := h1
      exact ⟨w, he, hk.cons (by rw [hpi]; trivial), hv⟩
  | some p =>
    rw [hpi] at h2
    obtain ⟨w, he, hk, hv⟩ := h2
    have hk' : Known sp env w := fun q hq => hk q (List.mem_cons_of_mem _ hq)
    refine ⟨⟨w, he, hk', hv⟩, ?_⟩
    cases hpj : sp j with
    | none => rw [hpj] at h1; exact (Sure_put hsj a oi.dst v vj g1).2 h1
    | some q =>
      have hq := hk (j, vj) List.mem_cons_self
      simp only [hpj] at hq
      exact ⟨w, he, hk'.cons (by rw [hpi]; exact hv), hq⟩

theorem Can.some_res (h : Can P ops w0 sp i oi a env) (hsat : ∃ w, Ext w0 w ∧ Known sp env w) : ∃ v, Res P ops w0 sp i oi a env v := by
  unfold Can at h
  unfold Res
  cases hp : sp i with
  | none => rw [hp] at h; exact h
  | some p =>
    rw [hp] at h
    obtain ⟨hw, hd, hr⟩ := h
    obtain ⟨w, he, hk⟩ := hsat
    obtain ⟨v, w', he', hv⟩ := wpS_some (hr w he (hk.dep hd))
    exact ⟨v, w', he.trans he', hk.ext he', hv⟩

theorem Res.sat (h : Res P ops w0 sp i oi a env v) (hsat : ∃ w, Ext w0 w ∧ Known sp env w) : ∃ w, Ext w0 w ∧ Known sp ((i, v) :: env) w := by
  unfold Res at h
  cases hp : sp i with
  | none =>
    obtain ⟨w, he, hk⟩ := hsat
    exact ⟨w, he, hk.cons (by rw [hp]; trivial)⟩
  | some p =>
    rw [hp] at h
    obtain ⟨w, he, hk, hv⟩ := h
    exact ⟨w, he, hk.cons (by rw [hp]; exact hv)⟩

theorem Res.weak {env' : List (Nat × Value)} (hs : ∀ p ∈ env, p ∈ env') (h : Res P ops w0 sp i oi a env' v) : Res P ops w0 sp i oi a env v := by
  unfold Res at *
  cases hp : sp i with
  | none => rw [hp] at h; exact h
  | some p =>
    rw [hp] at h
    obtain ⟨w, he, hk, hv⟩ := h
    exact ⟨w, he, fun q hq => hk q (hs q hq), hv⟩
theorem Can.weak {env' : List (Nat × Value)} (hs : ∀ p ∈ env, p ∈ env') (h : Can P ops w0 sp i oi a env) : Can P ops w0 sp i oi a env' := by
  unfold Can at *
  cases hp : sp i with
  | none => rw [hp] at h; exact h
  | some p =>
    rw [hp] at h
    exact ⟨h.1, fun q hq => hs _ (h.2.1 q hq), h.2.2⟩
end

variable (P ops md) in
/-- Whatever order is picked, till the first n have been carried out. -/
def AnyR (w0 : World) (sp : Nat → Option SPred) (n : Nat) (L : Array Bool → Act → World → Prop) : Nat → Array Bool → Act → List (Nat × Value) → Prop
  | 0, listed, a, env => ∀ w, Ext w0 w → Known sp env w → L listed a w
  | f + 1, listed, a, env => Region.ready md ops listed ≠ [] ∧ ∀ i ∈ Region.ready md ops listed, i < n ∧ ∀ o, ops[i]? = some o →
      Can P ops w0 sp i o a env ∧ ∀ v, Res P ops w0 sp i o a env v → AnyR w0 sp n L f (listed.setIfInBounds i true) (a.put o.dst v) ((i, v) :: env)

theorem AnyR.env {w0 : World} {sp : Nat → Option SPred} {n : Nat} {L : Array Bool → Act → World → Prop} : ∀ (f : Nat) (listed : Array Bool) (a : Act) (env env' : List (Nat × Value)), (∀ p ∈ env, p ∈ env') →
    AnyR P ops md w0 sp n L f listed a env → AnyR P ops md w0 sp n L f listed a env'
  | 0, _, _, _, _, hs, h => fun w he hk => h w he fun p hp => hk p (hs p hp)
  | f + 1, listed, a, env, env', hs, h => ⟨h.1, fun i hi => ⟨(h.2 i hi).1, fun o ho => by
      obtain ⟨hc, hr⟩ := (h.2 i hi).2 o ho
      refine ⟨Can.weak hs hc, fun v hv => ?_⟩
      exact AnyR.env f _ _ _ _ (fun p hp => by
        rcases List.mem_cons.1 hp with rfl | hp
        · exact List.mem_cons_self
        · exact List.mem_cons_of_mem _ (hs p hp)) (hr v (Res.weak hs hv))⟩⟩

theorem AnyR.sound {w0 : World} {sp : Nat → Option SPred} {n g : Nat} {L : Array Bool → Act → World → Prop} {Q : Exit → Act → World → Prop} (hL : ∀ listed a w, L listed a w → wpAny P md ops Q g listed a w) :
    ∀ (f : Nat) (listed : Array Bool) (a : Act) (env : List (Nat × Value)) (w : World), Ext w0 w → Known sp env w → AnyR P ops md w0 sp n L f listed a env → wpAny P md ops Q (f + g) listed a w
  | 0, _, _, _, w, he, hk, h => by rw [Nat.zero_add]; exact hL _ _ _ (h w he hk)
  | f + 1, listed, a, env, w, he, hk, h => by
    rw [show f + 1 + g = (f + g) + 1 by omega]
    refine ⟨fun h0 => absurd h0 h.1, fun i hi => ?_⟩
    unfold wpOp
    split
    · rename_i hn
      obtain ⟨_, o, ho, _⟩ := mem_ready.1 hi
      rw [hn] at ho; cases ho
    · rename_i o ho
      obtain ⟨hc, hr⟩ := (h.2 i hi).2 o ho
      unfold Can at hc
      cases hp : sp i with
      | none =>
        rw [hp] at hc
        obtain ⟨v, hv⟩ := hc
        have hk' : Known sp ((i, v) :: env) w := hk.cons (by rw [hp]; trivial)
        have hres : Res P ops w0 sp i o a env v := by unfold Res; rw [hp]; exact hv
        have hnext := AnyR.sound hL f _ _ _ w he hk' (hr v hres)
        rcases hv with ⟨hw, hrun⟩ | ⟨hw, rfl⟩
        · rw [if_pos hw]
          refine .inl ?_
          unfold Oper.wp
          rw [hrun w he]
          exact hnext
        · rw [if_neg (by rw [hw]; decide)]
          exact hnext
      | some p =>
        rw [hp] at hc
        obtain ⟨hw, hd, hrr⟩ := hc
        rw [if_pos hw]
        refine .inl (wp_of_wpS (hrr w he (hk.dep hd)) fun v w' ⟨he', hv⟩ => ?_)
        exact AnyR.sound hL f _ _ _ w' (he.trans he') ((hk.ext he').cons (by rw [hp]; exact hv)) (hr v (by unfold Res; rw [hp]; exact ⟨w', he.trans he', hk.ext he', hv⟩))

theorem AnyR.first {w0 : World} {sp : Nat → Option SPred} {n i : Nat} {oi : Oper} {L : Array Bool → Act → World → Prop} (hi : ops[i]? = some oi) (hsel : ∀ (j : Nat) (o : Oper) cs b, ops[j]? = some o → o.op ≠ .select cs b)
    (hlt : ∀ listed, HeadInv md ops n listed → listed.getD i true = false → ∀ j ∈ Region.ready md ops listed, j < n)
    (hdone : ∀ listed a w, L listed a w → ∀ j ∈ Region.ready md ops listed, n ≤ j) :
    ∀ (f : Nat) (listed : Array Bool) (a : Act) (env : List (Nat × Value)), HeadInv md ops n listed →
      (∀ j oj, ops[j]? = some oj → j ≠ i → listed.getD j true = false → (∀ e ∈ oj.after, Region.binds md e = true → e.on ≠ i) → oi.apart ops oj = true) →
      i ∈ Region.ready md ops listed → (∃ w, Ext w0 w ∧ Known sp env w) → Can P ops w0 sp i oi a env →
      (∀ v, Res P ops w0 sp i oi a env v → AnyR P ops md w0 sp n L f (listed.setIfInBounds i true) (a.put oi.dst v) ((i, v) :: env)) →
      AnyR P ops md w0 sp n L (f + 1) listed a env := by
  intro f
  induction f with
  | zero =>
    intro listed a env inv _ hr hsat hc H
    have hun := (mem_ready.1 hr).1
    refine ⟨fun h => (by rw [h] at hr; cases hr), fun j hj => ⟨hlt listed inv hun j hj, fun oj hoj => ?_⟩⟩
    by_cases hji : j = i
    · subst hji
      obtain rfl := Option.some.inj (hi.symm.trans hoj)
      exact ⟨hc, H⟩
    · exfalso
      obtain ⟨v, hv⟩ := hc.some_res hsat
      obtain ⟨w, he, hk⟩ := hv.sat hsat
      have h0 := H v hv w he hk
      have h1 := hdone _ _ _ h0 j (ready_mono hj hji)
      have h2 := hlt listed inv hun j hj
      omega
  | succ f ih =>
    intro listed a env inv hfree hr hsat hc H
    have hun := (mem_ready.1 hr).1
    refine ⟨fun h => (by rw [h] at hr; cases hr), fun j hj => ⟨hlt listed inv hun j hj, fun oj hoj => ?_⟩⟩
    by_cases hji : j = i
    · subst hji
      obtain rfl := Option.some.inj (hi.symm.trans hoj)
      exact ⟨hc, H⟩
    · obtain ⟨hjun, oj', hoj', hall⟩ := mem_ready.1 hj
      obtain rfl := Option.some.inj (hoj.symm.trans hoj')
      have hjn := hlt listed inv hun j hj
      have hnot : ∀ e ∈ oj.after, Region.binds md e = true → e.on ≠ i := fun e he hb heq => by
        have h1 := hall e he hb
        rw [heq, getD_both hun] at h1
        cases h1
      have hap := hfree j oj hoj hji hjun hnot
      obtain ⟨h1, h2, h3⟩ := Oper.apart_spec hap
      have hsi : ∀ cs b, oi.op ≠ .select cs b := fun cs b => hsel i oi cs b hi
      have hsj : ∀ cs b, oj.op ≠ .select cs b := fun cs b => hsel j oj cs b hoj
      obtain ⟨v0, hv0⟩ := hc.some_res hsat
      have hcj := ((H v0 hv0).2 j (ready_mono hj hji)).2 oj hoj
      refine ⟨hcj.1.back hi hoj hap hsj, fun vj hvj => ?_⟩
      refine ih (listed.setIfInBounds j true) (a.put oj.dst vj) ((j, vj) :: env) (inv.set hj hjn) ?_ (ready_mono hr (Ne.symm hji)) (hvj.sat hsat) (hc.fore hi hap hsi) ?_
      · intro k ok hk hki hun' hno
        refine hfree k ok hk hki ?_ hno
        by_cases hjk : j = k
        · subst hjk; exact hjun
        · rw [getD_set_ne true hjk] at hun'; exact hun'
      · intro v hv
        obtain ⟨hv1, hvj1⟩ := Res.joint hap hsi hsj hvj hv
        have := (((H v hv1).2 j (ready_mono hj hji)).2 oj hoj).2 vj hvj1
        rw [Array.setIfInBounds_comm _ _ hji, ← Act.put_comm a v vj h2]
        refine AnyR.env _ _ _ _ _ ?_ this
        intro p hp
        rcases List.mem_cons.1 hp with rfl | hp
        · exact List.mem_cons_of_mem _ List.mem_cons_self
        · rcases List.mem_cons.1 hp with rfl | hp
          · exact List.mem_cons_self
          · exact List.mem_cons_of_mem _ (List.mem_cons_of_mem _ hp)

variable (P ops) in
/-- The walk in the order of the text. -/
def LexR (w0 : World) (sp : Nat → Option SPred) (Q : Act → World → Prop) : List Oper → Nat → Act → List (Nat × Value) → Prop
  | [], _, a, env => ∀ w, Ext w0 w → Known sp env w → Q a w
  | o :: l, k, a, env => Can P ops w0 sp k o a env ∧ ∀ v, Res P ops w0 sp k o a env v → LexR w0 sp Q l (k + 1) (a.put o.dst v) ((k, v) :: env)

theorem LexR.any {w0 : World} {sp : Nat → Option SPred} {n : Nat} {B : Array Bool → Bool} {Lq : Act → World → Prop} (hsel : Region.noSelect ops = true)
    (hlt : ∀ i, i < n → ∀ listed, HeadInv md ops n listed → listed.getD i true = false → ∀ j ∈ Region.ready md ops listed, j < n)
    (hdone : ∀ listed, B listed = true → ∀ j ∈ Region.ready md ops listed, n ≤ j)
    (hd : Nat → Nat → Array Bool → Bool) (h0 : ∀ listed, hd 0 n listed = true → B listed = true)
    (h1 : ∀ f k listed, hd (f + 1) k listed = true → ((Region.ready md ops listed).contains k = true ∧ Region.free md ops listed k = true) ∧ hd f (k + 1) (listed.setIfInBounds k true) = true) :
    ∀ (l : List Oper) (k : Nat) (listed : Array Bool) (a : Act) (env : List (Nat × Value)), (∀ j, j < l.length → l[j]? = ops[k + j]?) → k + l.length = n → HeadInv md ops n listed →
    (∃ w, Ext w0 w ∧ Known sp env w) → hd l.length k listed = true → LexR P ops w0 sp Lq l k a env →
    AnyR P ops md w0 sp n (fun listed' a' w' => B listed' = true ∧ Lq a' w') l.length listed a env
  | [], k, listed, a, env, _, hk0, _, _, hB, h => fun w he hk => ⟨h0 _ (by obtain rfl : k = n := (by simpa using hk0); exact hB), h w he hk⟩
  | o :: l, k, listed, a, env, hl, hk, inv, hsat, hB, h => by
    have ho : ops[k]? = some o := by simpa using (hl 0 (by simp)).symm
    obtain ⟨⟨hr, hf⟩, hB'⟩ := h1 _ _ _ (by simpa using hB)
    have hkn : k < n := by simp only [List.length_cons] at hk; omega
    have hr' : k ∈ Region.ready md ops listed := by simpa using hr
    exact AnyR.first ho (Region.noSelect_spec hsel) (hlt k hkn) (fun listed' a' w' hL => hdone _ hL.1) l.length listed a env inv (Region.free_spec ho hf) hr' hsat h.1
      fun v hv => LexR.any hsel hlt hdone hd h0 h1 l (k + 1) _ _ _ (fun j hj => by have := hl (j + 1) (by simp; omega); simpa [Nat.add_assoc, Nat.add_comm 1 j] using this) (by simp only [List.length_cons] at hk; omega) (inv.set hr' hkn)
        (hv.sat hsat) hB' (h.2 v hv)

theorem headInv0 (l : List Oper) (n : Nat) : HeadInv md l.toArray n (Array.replicate l.toArray.size false) :=
  ⟨by simp, fun j oj _ hl => (by rw [getD_replicate_false] at hl; cases hl), fun t _ ht => getD_in (by simpa using ht) (getD_replicate_false _ _)⟩

/-- A region that draws its order, all of whose operations only extend the world. -/
theorem wp_region_rel {id : Nat} {Q : Exit → Act → World → Prop} {a : Act} {w : World} {l : List Oper} (sp : Nat → Option SPred) (hm : P.follows .mixedOrders = true) (hB : Region.lexB .any l.toArray = true)
    (h : LexR P l.toArray w.drew sp (fun a' w' => Q .normal a' w') l 0 a []) : (Code.region id l.toArray true).wp P Q a w := by
  simp only [Region.lexB, Bool.and_eq_true] at hB
  have H := LexR.any (md := .any) (n := l.toArray.size) (B := fun listed => (Region.ready .any l.toArray listed).isEmpty) hB.1
    (fun i _ listed _ _ j hj => by obtain ⟨_, o, ho, _⟩ := mem_ready.1 hj; exact (Array.getElem?_eq_some_iff.1 ho).1)
    (fun listed hb j hj => by simp only [List.isEmpty_iff] at hb; rw [hb] at hj; cases hj)
    (fun f k listed => Region.lexFrom .any l.toArray f k listed) (fun listed hh => by simpa [Region.lexFrom] using hh)
    (fun f k listed hh => by simpa [Region.lexFrom] using hh) l 0 _ a [] (by simp) (by simp) (headInv0 l _) ⟨w.drew, Ext.refl _, fun p hp => by cases hp⟩ (by simpa using hB.2) h
  refine wp_region_any hm ?_
  have := AnyR.sound (Q := Q) (g := 0) (fun listed a' w' hL => (⟨by simpa using hL.1, hL.2⟩ : wpAny P .any l.toArray Q 0 listed a' w')) _ _ _ _ w.drew (Ext.refl _) (fun p hp => by cases hp) H
  simpa using this

/-- .. whose operations from number n on go one after another behind all others. -/
theorem wp_region_rel_tail {id : Nat} {Q : Exit → Act → World → Prop} {a : Act} {w : World} {l : List Oper} (n : Nat) (sp : Nat → Option SPred) (hm : P.follows .mixedOrders = true) (hB : Region.lexTailB .any l.toArray n = true)
    (h : LexR P l.toArray w.drew sp (fun a' w' => wpList P l.toArray Q (l.drop n) a' w') (l.take n) 0 a []) : (Code.region id l.toArray true).wp P Q a w := by
  simp only [Region.lexTailB, Bool.and_eq_true, decide_eq_true_eq] at hB
  obtain ⟨⟨⟨⟨hsel, hn⟩, hs⟩, hc⟩, hlex⟩ := hB
  have hn' : n < l.length := by simpa using hn
  have htl : (l.take n).length = n := by simp; omega
  have hdl : (l.drop n).length = l.toArray.size - n := by simp
  have H := LexR.any (md := .any) (n := n) (B := fun listed => Region.seqB .any l.toArray (l.toArray.size - n) n listed) hsel
    (fun i hin listed inv hun j hj => by
      rcases Nat.lt_or_ge j n with h | h
      · exact h
      · exact absurd hj (tail_waits hs hc hn inv _ i rfl hin hun j h))
    (fun listed hb => seqB_ready hb)
    (fun f k listed => Region.lexHead .any l.toArray (l.toArray.size - n) f k listed) (fun listed hh => by simpa [Region.lexHead] using hh)
    (fun f k listed hh => by simpa [Region.lexHead] using hh) (l.take n) 0 _ a [] (fun j hj => by
      have hj' : j < n := by rw [htl] at hj; exact hj
      simp [hj']) (by simpa using htl) (headInv0 l _) ⟨w.drew, Ext.refl _, fun p hp => by cases hp⟩ (by rw [htl]; exact hlex) h
  refine wp_region_any hm ?_
  have := AnyR.sound (Q := Q) (g := l.toArray.size - n) (fun listed a' w' hL => by
    have := wpAny_of_seq (md := .any) (Q' := Q) (l.drop n) n listed a' w' (fun j => by simp [List.getElem?_drop]) (by rw [hdl]; exact hL.1) hL.2
    rwa [hdl] at this) _ _ _ _ w.drew (Ext.refl _) (fun p hp => by cases hp) H
  rw [htl, show n + (l.toArray.size - n) = l.toArray.size by omega] at this
  exact this
end

/-! ### The walk without the bookkeeping -/

/-- No temporary that is read is written twice ahead of its reader. -/
def ssaB (ops : Array Oper) : Bool :=
  (List.range ops.size).all fun k => (depsOf ops k).all fun p => (List.range k).all fun d => decide (d ≤ p.1) || ((ops[d]?).bind (·.dst)) != some p.2
def dstB (ops : Array Oper) (n : Nat) : Bool := ops.all fun o => match o.dst with | some d => decide (d < n) | none => true

section
variable {P : Program} {ops : Array Oper}

variable (P ops) in
def LexW (w0 : World) (sp : Nat → Option SPred) (Q : Act → World → Prop) : List Oper → Nat → Act → List (Nat × Value) → Prop
  | [], _, a, env => ∀ w, Ext w0 w → Known sp env w → Q a w
  | o :: l, k, a, env => match sp k with
    | none => ∃ v, Sure P ops w0 o a v ∧ LexW w0 sp Q l (k + 1) (a.put o.dst v) ((k, v) :: env)
    | some p => Region.wanted o (yielded ops a.tmps) = true ∧ (∀ w, Ext w0 w → Dep sp (depsOf ops k) a w → wpS P o a w fun v w' => Ext w w' ∧ p.holds v w') ∧
        ∀ v, (∃ w, p.holds v w) → LexW w0 sp Q l (k + 1) (a.put o.dst v) ((k, v) :: env)

structure LexInv (ops : Array Oper) (n k : Nat) (a : Act) (env : List (Nat × Value)) : Prop where
  size : a.tmps.size = n
  known : ∀ d t, d < k → (ops[d]?).bind (·.dst) = some t → (∀ d', d < d' → d' < k → (ops[d']?).bind (·.dst) ≠ some t) → (d, a.tmps.getD t undef) ∈ env

theorem LexInv.step {n k : Nat} {a : Act} {env : List (Nat × Value)} (h : LexInv ops n k a env) {o : Oper} (ho : ops[k]? = some o) (hd : dstB ops n = true) (v : Value) : LexInv ops n (k + 1) (a.put o.dst v) ((k, v) :: env) := by
  constructor
  · cases o.dst <;> simp [Act.put, h.size]
  · intro d t hdk hdt hno
    by_cases hdk' : d = k
    · subst hdk'
      simp only [ho, Option.bind_some] at hdt
      have hlt : t < n := by
        have := Array.all_eq_true_iff_forall_mem.1 hd o (Array.mem_of_getElem? ho)
        simpa [hdt] using this
      have : (a.put o.dst v).tmps.getD t undef = v := by
        rw [hdt]; simp [Act.put, h.size, hlt]
      rw [this]; exact List.mem_cons_self
    · have hd1 : d < k := by omega
      have hne : o.dst ≠ some t := by
        have := hno k hd1 (by omega)
        simpa [ho] using this
      rw [getD_put (fun d' he hdd => hne (by rw [he, hdd]))]
      exact List.mem_cons_of_mem _ (h.known d t hd1 hdt fun d' h1 h2 => hno d' h1 (by omega))

theorem depsOf_lt {i d : Nat} {t : Tmp} (h : (d, t) ∈ depsOf ops i) : d < i ∧ (ops[d]?).bind (·.dst) = some t := by
  unfold depsOf at h
  split at h
  · cases h
  · simp only [List.mem_filterMap, List.mem_range] at h
    obtain ⟨d', hd', hd⟩ := h
    split at hd
    · rename_i t' ht'
      split at hd
      · simp only [Option.some.injEq, Prod.mk.injEq] at hd
        obtain ⟨rfl, rfl⟩ := hd
        exact ⟨hd', ht'⟩
      · cases hd
    · cases hd

theorem LexW.lexR {w0 : World} {sp : Nat → Option SPred} {Q : Act → World → Prop} {n : Nat} (hs : ssaB ops = true) (hd : dstB ops n = true) :
    ∀ (l : List Oper) (k : Nat) (a : Act) (env : List (Nat × Value)), (∀ j, j < l.length → l[j]? = ops[k + j]?) → LexInv ops n k a env → LexW P ops w0 sp Q l k a env → LexR P ops w0 sp Q l k a env
  | [], _, _, _, _, _, h => h
  | o :: l, k, a, env, hl, inv, h => by
    have ho : ops[k]? = some o := by simpa using (hl 0 (by simp)).symm
    have hks : k < ops.size := (Array.getElem?_eq_some_iff.1 ho).1
    have next : ∀ v, LexW P ops w0 sp Q l (k + 1) (a.put o.dst v) ((k, v) :: env) → LexR P ops w0 sp Q l (k + 1) (a.put o.dst v) ((k, v) :: env) := fun v hv =>
      LexW.lexR hs hd l (k + 1) _ _ (fun j hj => by have := hl (j + 1) (by simp; omega); simpa [Nat.add_assoc, Nat.add_comm 1 j] using this) (inv.step ho hd v) hv
    unfold LexW at h
    cases hp : sp k with
    | none =>
      rw [hp] at h
      obtain ⟨v, hv, hn⟩ := h
      refine ⟨by unfold Can; rw [hp]; exact ⟨v, hv⟩, fun v' hv' => ?_⟩
      unfold Res at hv'
      rw [hp] at hv'
      obtain rfl := hv.uniq hv'
      exact next _ hn
    | some p =>
      rw [hp] at h
      obtain ⟨hw, hr, hn⟩ := h
      refine ⟨by
        unfold Can
        rw [hp]
        refine ⟨hw, fun q hq => ?_, hr⟩
        obtain ⟨hlt, hdst⟩ := depsOf_lt (ops := ops) (i := k) (d := q.1) (t := q.2) hq
        refine inv.known q.1 q.2 hlt hdst fun d' h1 h2 hc => ?_
        have := List.all_eq_true.1 (List.all_eq_true.1 (List.all_eq_true.1 hs k (List.mem_range.2 hks)) q hq) d' (List.mem_range.2 h2)
        simp only [Bool.or_eq_true, decide_eq_true_eq, bne_iff_ne, ne_eq] at this
        rcases this with h3 | h3
        · omega
        · exact h3 hc, fun v hv => ?_⟩
      unfold Res at hv
      rw [hp] at hv
      obtain ⟨w, _, _, hv⟩ := hv
      exact next _ (hn v ⟨w, hv⟩)

theorem lexInv0 (n : Nat) (a : Act) (h : a.tmps.size = n) : LexInv ops n 0 a [] := ⟨h, fun _ _ h => absurd h (Nat.not_lt_zero _)⟩

/-- What is said of the values of some operations, by their numbers. -/
def spOf (sps : List (Nat × SPred)) (k : Nat) : Option SPred := sps.lookup k

theorem wp_region_lex {id : Nat} {Q : Exit → Act → World → Prop} {a : Act} {w : World} {l : List Oper} (sps : List (Nat × SPred)) (hm : P.follows .mixedOrders = true)
    (hB : (Region.lexB .any l.toArray && ssaB l.toArray && dstB l.toArray a.tmps.size) = true)
    (h : LexW P l.toArray w.drew (spOf sps) (fun a' w' => Q .normal a' w') l 0 a []) : (Code.region id l.toArray true).wp P Q a w := by
  simp only [Bool.and_eq_true] at hB
  exact wp_region_rel (spOf sps) hm hB.1.1 (LexW.lexR hB.1.2 hB.2 l 0 a [] (by simp) (lexInv0 _ _ rfl) h)

theorem wp_region_lex_tail {id : Nat} {Q : Exit → Act → World → Prop} {a : Act} {w : World} {l : List Oper} (n : Nat) (sps : List (Nat × SPred)) (hm : P.follows .mixedOrders = true)
    (hB : (Region.lexTailB .any l.toArray n && ssaB l.toArray && dstB l.toArray a.tmps.size) = true)
    (h : LexW P l.toArray w.drew (spOf sps) (fun a' w' => wpList P l.toArray Q (l.drop n) a' w') (l.take n) 0 a []) : (Code.region id l.toArray true).wp P Q a w := by
  simp only [Bool.and_eq_true] at hB
  exact wp_region_rel_tail n (spOf sps) hm hB.1.1 (LexW.lexR hB.1.2 hB.2 _ 0 a [] (fun j hj => by
    have : j < n := by simp at hj; omega
    simp [this]) (lexInv0 _ _ rfl) h)

section
variable {w0 : World} {sp : Nat → Option SPred} {Q : Act → World → Prop} {o : Oper} {l : List Oper} {k : Nat} {a : Act} {env : List (Nat × Value)}

/-- An operation whose value is known and that leaves the world alone. -/
theorem LexW.pure {v : Value} (hsp : sp k = none) (hw : Region.wanted o (yielded ops a.tmps) = true) (hr : ∀ w, Ext w0 w → (execOp a.eval o).run P w = .ok (.value v) w)
    (h : LexW P ops w0 sp Q l (k + 1) (a.put o.dst v) ((k, v) :: env)) : LexW P ops w0 sp Q (o :: l) k a env := by
  unfold LexW; rw [hsp]; exact ⟨v, .inl ⟨hw, hr⟩, h⟩

theorem LexW.skip (hsp : sp k = none) (hw : Region.wanted o (yielded ops a.tmps) = false)
    (h : LexW P ops w0 sp Q l (k + 1) (a.put o.dst undef) ((k, undef) :: env)) : LexW P ops w0 sp Q (o :: l) k a env := by
  unfold LexW; rw [hsp]; exact ⟨undef, .inr ⟨hw, rfl⟩, h⟩

/-- A call whose value is known and that only extends the world. -/
theorem LexW.call {v : Value} {f : FuncId} {args : Array Value} (hsp : sp k = some (SPred.val v)) (hw : Region.wanted o (yielded ops a.tmps) = true) (hr : ∀ w, (execOp a.eval o).run P w = .ok (.enter f args) w)
    (hc : ∀ w, Ext w0 w → Dep sp (depsOf ops k) a w → Calls P f args w fun e w' => e = .returned v ∧ Ext w w')
    (h : LexW P ops w0 sp Q l (k + 1) (a.put o.dst v) ((k, v) :: env)) : LexW P ops w0 sp Q (o :: l) k a env := by
  unfold LexW; rw [hsp]
  refine ⟨hw, fun w he hd => ?_, fun v' ⟨w, hv⟩ => ?_⟩
  · unfold wpS; rw [hr w]; exact (hc w he hd).mono fun e w' ⟨h1, h2⟩ => ⟨v, h1, h2, rfl⟩
  · have hv' : v' = v := hv
    subst hv'
    exact h

/-- A call of whose value a predicate is known. -/
theorem LexW.callR {p : SPred} {f : FuncId} {args : Array Value} (hsp : sp k = some p) (hw : Region.wanted o (yielded ops a.tmps) = true) (hr : ∀ w, (execOp a.eval o).run P w = .ok (.enter f args) w)
    (hc : ∀ w, Ext w0 w → Dep sp (depsOf ops k) a w → Calls P f args w fun e w' => ∃ v, e = .returned v ∧ Ext w w' ∧ p.holds v w')
    (h : ∀ v, (∃ w, p.holds v w) → LexW P ops w0 sp Q l (k + 1) (a.put o.dst v) ((k, v) :: env)) : LexW P ops w0 sp Q (o :: l) k a env := by
  unfold LexW; rw [hsp]
  exact ⟨hw, fun w he hd => by unfold wpS; rw [hr w]; exact hc w he hd, h⟩

/-- Any other operation, of whose value a predicate is known. -/
theorem LexW.rel {p : SPred} (hsp : sp k = some p) (hw : Region.wanted o (yielded ops a.tmps) = true)
    (hr : ∀ w, Ext w0 w → Dep sp (depsOf ops k) a w → ∃ v w', (execOp a.eval o).run P w = .ok (.value v) w' ∧ Ext w w' ∧ p.holds v w')
    (h : ∀ v, (∃ w, p.holds v w) → LexW P ops w0 sp Q l (k + 1) (a.put o.dst v) ((k, v) :: env)) : LexW P ops w0 sp Q (o :: l) k a env := by
  unfold LexW; rw [hsp]
  exact ⟨hw, fun w he hd => by obtain ⟨v, w', h1, h2⟩ := hr w he hd; unfold wpS; rw [h1]; exact h2, h⟩

theorem LexW.nil (h : ∀ w, Ext w0 w → Known sp env w → Q a w) : LexW P ops w0 sp Q [] k a env := h

end
end

end Go.Proofs.Ytcocbainookkcaa

/-
  What is said of slices of integers, and of slices of such slices, in memory: readable, or owned by the call; how it lasts.
  No condition.
-/
namespace Go.Proofs.Ytcocbainookkcaa
set_option maxRecDepth 100000
open Go.RowKit

/-- The element at a place of a list of numbers. -/
def nth (xs : List Int) (i : Nat) : Int := xs.getD i 0
theorem nth_eq {xs : List Int} {i : Nat} (h : i < xs.length) : nth xs i = xs[i] := by simp [nth, h]
theorem nth_set {xs : List Int} {i j : Nat} {v : Int} (h : i < xs.length) : nth (xs.set i v) j = if i = j then v else nth xs j := by
  by_cases hij : i = j
  · subst hij; simp [nth, h]
  · simp [nth, hij]
theorem nth_replicate {n i : Nat} {v : Int} (h : i < n) : nth (List.replicate n v) i = v := by simp [nth, h]
theorem nth_append_left {xs ys : List Int} {i : Nat} (h : i < xs.length) : nth (xs ++ ys) i = nth xs i := by simp [nth, List.getElem?_append_left h]
theorem nth_append_len {xs : List Int} {v : Int} : nth (xs ++ [v]) xs.length = v := by simp [nth]
theorem nth_map {α : Type} {f : α → Int} {xs : List α} {i : Nat} (h : i < xs.length) : nth (xs.map f) i = f xs[i] := by simp [nth, h]
theorem ext_nth {xs ys : List Int} (h : xs.length = ys.length) (he : ∀ i, i < xs.length → nth xs i = nth ys i) : xs = ys := by
  apply List.ext_getElem h
  intro i h1 h2
  have := he i h1
  rwa [nth_eq h1, nth_eq h2] at this
theorem take_snoc (xs : List Int) (k : Nat) (h : k < xs.length) : xs.take (k + 1) = xs.take k ++ [nth xs k] := by
  rw [List.take_succ_eq_append_getElem h, nth_eq h]
theorem nth_mem {xs : List Int} {i : Nat} (h : i < xs.length) : nth xs i ∈ xs := by rw [nth_eq h]; exact List.getElem_mem h

/-! ### Cells -/

theorem lt_of_cell {w : World} {p : Addr} {v : Value} (h : w.cell? p = some v) : p.block < w.heap.size := World.block_lt_of_cell? w p h

/-- Cells that can be read. -/
def RdV (w : World) (a : Option Addr) (vs : List Value) : Prop :=
  ∀ i (h : i < vs.length), ∃ b off, a = some ⟨b, off, none⟩ ∧ w.cell? ⟨b, off + i, none⟩ = some vs[i]
theorem RdV.ext {w w' : World} {a : Option Addr} {vs : List Value} (h : RdV w a vs) (he : Ext w w') : RdV w' a vs := fun i hi =>
  let ⟨b, off, ha, hc⟩ := h i hi; ⟨b, off, ha, he.cell hc⟩

/-- n numbers that can be read. -/
def RdC (w : World) (a : Option Addr) (n : Nat) (xs : List Int) : Prop :=
  xs.length = n ∧ ∀ i, i < n → ∃ b off, a = some ⟨b, off, none⟩ ∧ w.cell? ⟨b, off + i, none⟩ = some (.int .i64 (nth xs i))
theorem RdC.ext {w w' : World} {a : Option Addr} {n : Nat} {xs : List Int} (h : RdC w a n xs) (he : Ext w w') : RdC w' a n xs :=
  ⟨h.1, fun i hi => let ⟨b, off, ha, hc⟩ := h.2 i hi; ⟨b, off, ha, he.cell hc⟩⟩

/-- n numbers in a row of the call's own, whose block's number is at least B. -/
def OwnC (B : Nat) (w : World) (a : Option Addr) (n cap : Nat) (xs : List Int) : Prop :=
  xs.length = n ∧ w.ownsRow B 2 1 (.slice a n cap) n (xs.map (.int .i64))

theorem OwnC.ext {B : Nat} {w w' : World} {a : Option Addr} {n cap : Nat} {xs : List Int} (h : OwnC B w a n cap xs) (he : Ext w w') : OwnC B w' a n cap xs := by
  obtain ⟨h1, h2, h3⟩ := h
  refine ⟨h1, h2, ?_⟩
  rcases h3 with h3 | ⟨g, c, cur, hv, hb, hh, h4⟩
  · exact .inl h3
  · exact .inr ⟨g, c, cur, hv, hb, he.heap hh, h4⟩
theorem OwnC.mono {B B' : Nat} {w : World} {a : Option Addr} {n cap : Nat} {xs : List Int} (h : OwnC B w a n cap xs) (hb : B' ≤ B) : OwnC B' w a n cap xs := by
  obtain ⟨h1, h2, h3⟩ := h
  refine ⟨h1, h2, ?_⟩
  rcases h3 with h3 | ⟨g, c, cur, hv, hb1, h4⟩
  · exact .inl h3
  · exact .inr ⟨g, c, cur, hv, Nat.le_trans hb hb1, h4⟩

/-- The row, laid open. -/
theorem OwnC.row {B : Nat} {w : World} {a : Option Addr} {n cap : Nat} {xs : List Int} (h : OwnC B w a n cap xs) (hn : 0 < n) :
    ∃ g cur, a = some ⟨g, 0, none⟩ ∧ B ≤ g ∧ g < w.heap.size ∧ w.heap[g]? = some (.cells cur 2 (0, 0)) ∧ n ≤ cap ∧ cur.size = cap ∧ ∀ i, i < n → cur[i]? = some (.int .i64 (nth xs i)) := by
  obtain ⟨h1, h2, h3⟩ := h
  rcases h3 with ⟨_, h3⟩ | ⟨g, c, cur, hv, hb, hh, hc1, hc2, hc3, hc4⟩
  · omega
  · simp only [Value.slice.injEq] at hv
    obtain ⟨rfl, _, rfl⟩ := hv
    have hlt : g < w.heap.size := by
      rcases Nat.lt_or_ge g w.heap.size with h | h
      · exact h
      · rw [Array.getElem?_eq_none h] at hh; cases hh
    refine ⟨g, cur, rfl, hb, hlt, hh, hc1, by omega, fun i hi => ?_⟩
    have h4 : (cur.toList.take (n * 1))[i]? = (xs.map (Value.int .i64))[i]? := by rw [hc4]
    rw [List.getElem?_take_of_lt (by omega), Array.getElem?_toList] at h4
    rw [h4]
    simp [nth_eq (show i < xs.length by omega), show i < xs.length by omega]

theorem OwnC.rd {B : Nat} {w : World} {a : Option Addr} {n cap : Nat} {xs : List Int} (h : OwnC B w a n cap xs) : RdC w a n xs := by
  refine ⟨h.1, fun i hi => ?_⟩
  obtain ⟨g, cur, ha, _, _, hh, _, _, hc⟩ := h.row (by omega)
  refine ⟨g, 0, ha, ?_⟩
  simp only [World.cell?, hh, Nat.zero_add]
  simpa using hc i hi

/-- What a store into an owned row leaves. -/
theorem OwnC.store {B : Nat} {w : World} {g n cap : Nat} {xs : List Int} (h : OwnC B w (some ⟨g, 0, none⟩) n cap xs) {j : Nat} (_hj : j < n) (v : Int) :
    OwnC B (w.setCell ⟨g, j, none⟩ (.int .i64 v)) (some ⟨g, 0, none⟩) n cap (xs.set j v) := by
  obtain ⟨h1, h2⟩ := h
  refine ⟨by simpa using h1, ?_⟩
  have := h2.stored j (.int .i64 v)
  rw [List.map_set]
  exact this.1

theorem OwnC.cell {B : Nat} {w : World} {g n cap : Nat} {xs : List Int} (h : OwnC B w (some ⟨g, 0, none⟩) n cap xs) {j : Nat} (hj : j < n) : w.cell? ⟨g, j, none⟩ = some (.int .i64 (nth xs j)) := by
  obtain ⟨b, off, ha, hc⟩ := h.rd.2 j hj
  simp only [Option.some.injEq, Addr.mk.injEq] at ha
  obtain ⟨rfl, rfl, _⟩ := ha
  simpa using hc
theorem OwnC.frozen {B : Nat} {w : World} {g n cap : Nat} {xs : List Int} (h : OwnC B w (some ⟨g, 0, none⟩) n cap xs) (j : Nat) : w.frozen? ⟨g, j, none⟩ = false := by
  exact h.2.frozenAt j

/-- An owned row does not feel a write elsewhere. -/
theorem OwnC.keep {B : Nat} {w w' : World} {a : Option Addr} {n cap : Nat} {xs : List Int} (h : OwnC B w a n cap xs) (hk : ∀ g, a = some ⟨g, 0, none⟩ → w'.heap[g]? = w.heap[g]?) : OwnC B w' a n cap xs := by
  obtain ⟨h1, h2, h3⟩ := h
  refine ⟨h1, h2, ?_⟩
  rcases h3 with h3 | ⟨g, c, cur, hv, hb, hh, h4⟩
  · exact .inl h3
  · refine .inr ⟨g, c, cur, hv, hb, ?_, h4⟩
    simp only [Value.slice.injEq] at hv
    rw [hk g hv.1]; exact hh

theorem OwnC.other {B : Nat} {w : World} {a : Option Addr} {n cap : Nat} {xs : List Int} (h : OwnC B w a n cap xs) {p : Addr} (hp : p.block < B) (v : Value) : OwnC B (w.setCell p v) a n cap xs := by
  obtain ⟨h1, h2, h3⟩ := h
  refine ⟨h1, h2, ?_⟩
  rcases h3 with h3 | ⟨g, c, cur, hv, hb, hh, h4⟩
  · exact .inl h3
  · exact .inr ⟨g, c, cur, hv, hb, by rw [Below.heap_setCell _ _ _ _ (by omega)]; exact hh, h4⟩
theorem Ext.trans' {a b c : World} (h : Ext a b) (k : Below a.heap.size b c) : Ext a c := Below.trans h k
theorem OwnC.base_le {B : Nat} {w : World} {g n cap : Nat} {xs : List Int} (h : OwnC B w (some ⟨g, 0, none⟩) n cap xs) : B ≤ g ∧ g < w.heap.size := by
  obtain ⟨h1, h2, h3⟩ := h
  rcases h3 with ⟨h3, _⟩ | ⟨g', c, cur, hv, hb, hh, h4⟩
  · cases h3
  · simp only [Value.slice.injEq, Option.some.injEq, Addr.mk.injEq] at hv
    obtain ⟨⟨rfl, _⟩, _⟩ := hv
    refine ⟨hb, ?_⟩
    rcases Nat.lt_or_ge g w.heap.size with h | h
    · exact h
    · rw [Array.getElem?_eq_none h] at hh; cases hh
theorem OwnC.base_of {B : Nat} {w : World} {a : Option Addr} {n cap : Nat} {xs : List Int} (h : OwnC B w a n cap xs) : ∀ g, a = some ⟨g, 0, none⟩ → B ≤ g ∧ g < w.heap.size := by
  rintro g rfl
  exact OwnC.base_le h
theorem own_nil (B : Nat) (w : World) : OwnC B w none 0 0 [] := ⟨rfl, World.ownsRow_nil _ _ _ _⟩

theorem Ext.setCell {a b : World} (h : Ext a b) {p : Addr} (hp : a.heap.size ≤ p.block) (u : Value) : Ext a (b.setCell p u) := Below.setCell h hp u
theorem Ext.grown {a w w' : World} {row : Option Nat} (h : Ext a w) (hg : w.grownBy w' row) (hr : ∀ k, row = some k → a.heap.size ≤ k) : Ext a w' := Below.grown h hg h.size hr
theorem Ext.size' {a b : World} (h : Ext a b) : a.heap.size ≤ b.heap.size := h.size
theorem Ext.lt {a b : World} (h : Ext a b) {k : Nat} (hk : k < a.heap.size) : k < b.heap.size := Nat.lt_of_lt_of_le hk h.size
theorem Ext.cells {W w1 : World} (hb : Ext W w1) : ∀ b o, b < W.heap.size → w1.cell? ⟨b, o, none⟩ = W.cell? ⟨b, o, none⟩ := fun b o h => Below.cell hb (p := ⟨b, o, none⟩) h
theorem Ext.frz {W w1 : World} (hb : Ext W w1) : ∀ b o, b < W.heap.size → w1.frozen? ⟨b, o, none⟩ = W.frozen? ⟨b, o, none⟩ := fun b o h => Below.frozen hb (p := ⟨b, o, none⟩) h
theorem ext_alloc (w : World) (o : Obj) : Ext w (w.alloc o) := (Ext.refl w).alloc o
theorem ext_drew (w : World) : Ext w w.drew := (Ext.refl w).drew

/-- A space whose squares can be read. -/
def SPred.sp (p : Int) (d : Nat) (qs : List Int) : SPred := ⟨fun v w => ∃ g, v = .agg #[.int .i64 p, .slice (some ⟨g, 0, none⟩) d d] ∧ RdC w (some ⟨g, 0, none⟩) d qs, fun _ _ _ ⟨g, hv, h⟩ he => ⟨g, hv, h.ext he⟩⟩
/-- A row of numbers of the call's own. -/
def SPred.own (B n : Nat) (xs : List Int) : SPred := ⟨fun v w => ∃ a cap, v = .slice a n cap ∧ OwnC B w a n cap xs, fun _ _ _ ⟨a, cap, hv, h⟩ he => ⟨a, cap, hv, h.ext he⟩⟩

theorem Try.infoI : (Try.prog.info? 2).map (fun i => (i.zero, i.size, i.bytes)) = some (some (.int .i64 0), 1, 8) := by kernel_rfl
theorem Try.infoR : (Try.prog.info? 24).map (fun i => (i.zero, i.size, i.bytes)) = some (some (.slice none 0 0), 1, 24) := by kernel_rfl

theorem ret_of {v v' : Value} (h : v = v') : Ending.returned v = .returned v' := by rw [h]
theorem ret_int {k : IntKind} {a b : Int} (h : a = b) : Ending.returned (.int k a) = .returned (.int k b) := by rw [h]
theorem ret_bool {a b : Bool} (h : a = b) : Ending.returned (.bool a) = .returned (.bool b) := by rw [h]

/-- A new row of zeros. -/
theorem make_ints (w : World) (n : Nat) (hn : n ≤ 4194304) :
    ∃ w', (Instr.makeSlice 24 (.int .i64 (n : Int)) (.int .i64 (n : Int))).run Try.prog w = .ok (.slice (some ⟨w.heap.size, 0, none⟩) n n) w' ∧
      OwnC w.heap.size w' (some ⟨w.heap.size, 0, none⟩) n n (List.replicate n 0) ∧ Ext w w' := by
  obtain ⟨i0, hi, hz0, hz1, hz2⟩ := info_parts Try.infoI
  obtain ⟨w', h1, h2, h3⟩ := run_make_full (P := Try.prog) w w.heap.size 24 2 i0 (.int .i64 0) 1 Try.underlying24 hi hz0 hz1 .i64 .i64 n (by rw [hz2]; omega) (by unfold maxLen; omega) (Nat.le_refl _)
  refine ⟨w', h1, ⟨by simp, ?_⟩, (Ext.refl w).grown h3 (fun k hk => by cases hk)⟩
  simp only [List.map_replicate]
  have : (madeCells (Value.int IntKind.i64 0).cells (n * 1)).toList = List.replicate n (Value.int .i64 0) := by
    rw [Nat.mul_one]; exact toList_madeCells_one _ _
  rw [this] at h2
  exact h2

end Go.Proofs.Ytcocbainookkcaa

/-
  Contracts of the small functions: numbers, checks of spaces and of multivectors, in the program and in the reference.
  No condition.
-/
namespace Go.Proofs.Ytcocbainookkcaa
set_option maxRecDepth 100000
open Go.RowKit

def primeB (p : Int) : Bool := p == 3 || p == 5 || p == 7 || p == 11 || p == 13
theorem prime_bd {p : Int} (h : primeB p = true) : 3 ≤ p ∧ p ≤ 13 := by simp [primeB] at h; omega
def inB (n l h : Int) : Bool := decide (l ≤ n ∧ n ≤ h)
def isB (p : Int) (xs : List Int) : Bool := xs.all fun x => inB x 0 (p - 1)
theorem isB_snoc (p : Int) (xs : List Int) (y : Int) : isB p (xs ++ [y]) = (isB p xs && inB y 0 (p - 1)) := by simp [isB]
theorem isB_false {p : Int} {xs : List Int} {k : Nat} (hk : k < xs.length) (h : inB (nth xs k) 0 (p - 1) = false) : isB p xs = false := by
  unfold isB; rw [Bool.eq_false_iff]; intro ha
  have := List.all_eq_true.1 ha (nth xs k) (nth_mem hk)
  rw [h] at this; cases this
theorem isB_nth {p : Int} {xs : List Int} (h : isB p xs = true) {i : Nat} (hi : i < xs.length) : 0 ≤ nth xs i ∧ nth xs i < p := by
  have := List.all_eq_true.1 h (nth xs i) (nth_mem hi)
  simp [inB] at this; omega

def spaceB (p : Int) (qs : List Int) : Bool := primeB p && inB qs.length 1 6 && isB p qs
def multiB (p : Int) (d : Nat) (xs : List Int) : Bool := decide (xs.length = 2 ^ d) && isB p xs
theorem space_of {p : Int} {qs : List Int} (h : spaceB p qs = true) : primeB p = true ∧ 1 ≤ qs.length ∧ qs.length ≤ 6 ∧ isB p qs = true := by
  simp only [spaceB, Bool.and_eq_true, inB, decide_eq_true_eq] at h
  exact ⟨h.1.1, by omega, by omega, h.2⟩
theorem multi_of {p : Int} {d : Nat} {xs : List Int} (h : multiB p d xs = true) : xs.length = 2 ^ d ∧ isB p xs = true := by
  simpa [multiB] using h
theorem pow_le64 {d : Nat} (h : d ≤ 6) : 2 ^ d ≤ 64 := Nat.pow_le_pow_right (by omega) h

/-! ### Slices of slices of integers, read -/
def nthR (rows : List (List Int)) (i : Nat) : List Int := rows.getD i []
theorem nthR_eq {rows : List (List Int)} {i : Nat} (h : i < rows.length) : nthR rows i = rows[i] := by simp [nthR, h]
def RdR (w : World) (a : Option Addr) (n : Nat) (rows : List (List Int)) : Prop :=
  rows.length = n ∧ ∀ i, i < n → ∃ b off ai ci, a = some ⟨b, off, none⟩ ∧ w.cell? ⟨b, off + i, none⟩ = some (.slice ai (nthR rows i).length ci) ∧ RdC w ai (nthR rows i).length (nthR rows i)
theorem RdR.ext {w w' : World} {a : Option Addr} {n : Nat} {rows : List (List Int)} (h : RdR w a n rows) (he : Ext w w') : RdR w' a n rows :=
  ⟨h.1, fun i hi => let ⟨b, off, ai, ci, ha, hc, hr⟩ := h.2 i hi; ⟨b, off, ai, ci, ha, he.cell hc, hr.ext he⟩⟩

/-- The code of a space and of multivectors. -/
def codeM (p : Int) (qs : List Int) (rows : List (List Int)) : Int := if spaceB p qs then (if rows.all (multiB p qs.length) then 0 else 2) else 1

/-! ### Numbers -/
theorem num_eq {p n : Int} (h1 : 1 ≤ p) (h2 : p ≤ 1000) : (wrap64 (n.tmod p + p)).tmod p = n % p := by
  have hlt : -p < n.tmod p := by
    have := Int.lt_tmod_of_pos n (b := p) (by omega); omega
  have hlt2 : n.tmod p < p := Int.tmod_lt_of_pos n (by omega)
  rw [IntWalk.wrap64_in (n.tmod p + p) ⟨by omega, by omega⟩]
  have e1 : (n.tmod p + p).tmod p = (n.tmod p + p) % p := Int.tmod_eq_emod_of_nonneg (by omega)
  have e2 : n = p * n.tdiv p + n.tmod p := (Int.mul_tdiv_add_tmod n p).symm
  rw [e1, Int.add_emod_right]
  conv => rhs; rw [e2]
  rw [Int.mul_add_emod_self_left]

set_option maxHeartbeats 400000 in
theorem c_inRange (n l h : Int) (w : World) :
    Calls Try.prog 112 #[.int .i64 n, .int .i64 l, .int .i64 h] w fun e w' => e = .returned (.bool (inB n l h)) ∧ Ext w w' := by
  go_enter Try.func112, Try.ntmps112
  go_wp2
  all_goals go_ret
  all_goals refine ⟨?_, Ext.refl _⟩
  all_goals simp [inB]; omega

set_option maxHeartbeats 400000 in
theorem c_isPrime (p : Int) (w : World) :
    Calls Try.prog 130 #[.int .i64 p] w fun e w' => e = .returned (.bool (primeB p)) ∧ Ext w w' := by
  go_enter Try.func130, Try.ntmps130
  go_wp2
  all_goals go_ret
  all_goals refine ⟨?_, Ext.refl _⟩
  all_goals simp_all [primeB]

set_option maxHeartbeats 400000 in
theorem c_length (a : Option Addr) (n cap : Nat) (w : World) :
    Calls Try.prog 133 #[.slice a n cap] w fun e w' => e = .returned (.int .i64 n) ∧ Ext w w' := by
  go_enter Try.func133, Try.ntmps133
  go_wp2
  go_ret
  exact ⟨rfl, Ext.refl _⟩

set_option maxHeartbeats 400000 in
theorem c_num (p n : Int) (w : World) (h1 : 1 ≤ p) (h2 : p ≤ 1000) :
    Calls Try.prog 64 #[.int .i64 p, .int .i64 n] w fun e w' => e = .returned (.int .i64 (n % p)) ∧ Ext w w' := by
  have HE := Lib.hid (num_eq (n := n) h1 h2)
  go_enter Try.func64, Try.ntmps64
  go_wp2
  go_ret
  exact ⟨ret_int HE.out, Ext.refl _⟩

set_option maxHeartbeats 400000 in
theorem c_is (p : Int) (a : Option Addr) (n cap : Nat) (xs : List Int) (w : World) (hp1 : 1 ≤ p) (hp2 : p ≤ 1000) (hl : n ≤ 4194304) (hx : RdC w a n xs) :
    Calls Try.prog 70 #[.int .i64 p, .slice a n cap] w fun e w' => e = .returned (.bool (isB p xs)) ∧ Ext w w' := by
  obtain ⟨hn, hx⟩ := hx
  have HX := Lib.hid hx
  have HN := Lib.hid hn
  clear hx hn
  go_enter Try.func70, Try.ntmps70
  go_wp2_with (fail)
  go_loopw [6, 9] (fun _ i wr => ∃ k : Nat, k ≤ n ∧ i = .int .i64 k ∧ isB p (xs.take k) = true ∧ Ext w wr) (fun _ i _ => n - (intOf i).toNat)
  case atStart => exact ⟨0, Nat.zero_le _, rfl, rfl, Ext.refl _⟩
  case round =>
    obtain ⟨k, hk, rfl, ht, hext⟩ := hrel
    have HT := Lib.hid ht; clear ht
    by_cases hlt : k < n
    · obtain ⟨b, off, rfl, hc⟩ := HX.out k hlt
      have hc' := hext.cell hc
      clear hc
      have HS := Lib.hid (take_snoc xs k (by rw [HN.out]; omega))
      cases hb : inB (nth xs k) 0 (p - 1)
      · have HB := Lib.hid hb
        go_wp2_with (go_at_call 112; refine (c_inRange _ _ _ _).mono ?_; rintro e w1 ⟨rfl, h1⟩)
        go_ret
        exact ⟨ret_bool (isB_false (by rw [HN.out]; exact hlt) HB.out).symm, hext.trans h1⟩
      · have HB := Lib.hid hb
        go_wp2_with (go_at_call 112; refine (c_inRange _ _ _ _).mono ?_; rintro e w1 ⟨rfl, h1⟩)
        go_roundw
        case rel => exact ⟨k + 1, by omega, by go_num, by rw [HS.out, isB_snoc, HT.out, HB.out]; rfl, hext.trans h1⟩
        case measure => simp [intOf]; omega
    · go_wp2_with (fail)
      go_ret
      have hh := HT.out
      rw [List.take_of_length_le (by rw [HN.out]; omega)] at hh
      exact ⟨ret_bool hh.symm, hext⟩

set_option maxHeartbeats 400000 in
theorem c_field (p : Int) (sq : Value) (w : World) :
    Calls Try.prog 63 #[.agg #[.int .i64 p, sq]] w fun e w' => e = .returned (.int .i64 p) ∧ Ext w w' := by
  go_enter Try.func63, Try.ntmps63
  go_wp2
  go_ret
  exact ⟨rfl, ext_alloc _ _⟩

set_option maxHeartbeats 400000 in
theorem c_dim (p : Int) (a : Option Addr) (n cap : Nat) (w : World) :
    Calls Try.prog 50 #[.agg #[.int .i64 p, .slice a n cap]] w fun e w' => e = .returned (.int .i64 n) ∧ Ext w w' := by
  go_enter Try.func50, Try.ntmps50
  go_wp2
  go_ret
  exact ⟨rfl, ext_alloc _ _⟩

/-! ### IsSpace -/
set_option maxHeartbeats 400000 in
theorem c_isSpace (p : Int) (a : Option Addr) (d cap : Nat) (qs : List Int) (w : World) (hl : d ≤ 4194304) (hq : RdC w a d qs) :
    Calls Try.prog 93 #[.agg #[.int .i64 p, .slice a d cap]] w fun e w' => e = .returned (.bool (spaceB p qs)) ∧ Ext w w' := by
  have hqw : RdC (w.alloc (.cells #[.int .i64 p, .slice a d cap] 26)).drew a d qs := hq.ext ((ext_alloc _ _).trans (ext_drew _))
  cases h1 : primeB p
  · have HF := Lib.hid (show spaceB p qs = false by simp [spaceB, h1])
    have H1 := Lib.hid h1
    clear h1
    go_enter Try.func93, Try.ntmps93
    go_wp2_with fail
    refine wp_region_lex [(2, .val (.bool false))] (by kernel_rfl) (by kernel_rfl) ?_
    repeat' first | (refine LexW.pure (v := ?_) rfl rfl (fun w1 he => ?_) ?_; rotate_left; (have hcc := Ext.cells he; go_simp; rfl); simp only [Act.put, List.setIfInBounds_toArray, List.set_cons_zero, List.set_cons_succ]) | (refine LexW.skip rfl rfl ?_; simp only [Act.put, List.setIfInBounds_toArray, List.set_cons_zero, List.set_cons_succ]) | (refine LexW.call (f := ?_) (args := ?_) rfl rfl (fun w1 => ?_) (fun w1 he hdep => ?_) ?_; rotate_left 2; (go_simp; refine ⟨?_, ?_⟩ <;> rfl); ( have H := c_isPrime p w1; rw [H1.out] at H; exact H); simp only [Act.put, List.setIfInBounds_toArray, List.set_cons_zero, List.set_cons_succ])
    refine LexW.nil (fun w1 he hk => ?_)
    go_wp2
    go_ret
    exact ⟨ret_bool HF.out.symm, (ext_alloc _ _).trans ((ext_drew _).trans he)⟩
  · have H1 := Lib.hid h1
    have hp := prime_bd h1
    clear h1
    cases h2 : inB (d : Int) 1 6
    · have HF := Lib.hid (show spaceB p qs = false by simp [spaceB, hq.1, h2])
      have H2 := Lib.hid h2
      clear h2
      go_enter Try.func93, Try.ntmps93
      go_wp2_with fail
      refine wp_region_lex [(2, .val (.bool true)), (6, .val (.int .i64 d)), (7, .val (.bool false))] (by kernel_rfl) (by kernel_rfl) ?_
      repeat' first | (refine LexW.pure (v := ?_) rfl rfl (fun w1 he => ?_) ?_; rotate_left; (have hcc := Ext.cells he; go_simp; rfl); simp only [Act.put, List.setIfInBounds_toArray, List.set_cons_zero, List.set_cons_succ]) | (refine LexW.skip rfl rfl ?_; simp only [Act.put, List.setIfInBounds_toArray, List.set_cons_zero, List.set_cons_succ]) | (refine LexW.call (f := ?_) (args := ?_) rfl rfl (fun w1 => ?_) (fun w1 he hdep => ?_) ?_; rotate_left 2; (go_simp; refine ⟨?_, ?_⟩ <;> rfl); ( first | (go_at_call 130; have H := c_isPrime p w1; rw [H1.out] at H; exact H) | (go_at_call 133; exact c_length _ _ _ _) | (go_at_call 112; have H := c_inRange (d : Int) 1 6 w1; rw [H2.out] at H; exact H)); simp only [Act.put, List.setIfInBounds_toArray, List.set_cons_zero, List.set_cons_succ])
      refine LexW.nil (fun w1 he hk => ?_)
      go_wp2
      go_ret
      exact ⟨ret_bool HF.out.symm, (ext_alloc _ _).trans ((ext_drew _).trans he)⟩
    · have HF := Lib.hid (show spaceB p qs = isB p qs by simp [spaceB, hq.1, h2, H1.out])
      have H2 := Lib.hid h2
      clear h2
      have HQ := Lib.hid hqw
      clear hqw
      go_enter Try.func93, Try.ntmps93
      go_wp2_with fail
      refine wp_region_lex [(2, .val (.bool true)), (6, .val (.int .i64 d)), (7, .val (.bool true)), (11, .val (.int .i64 p)), (14, .val (.bool (isB p qs)))] (by kernel_rfl) (by kernel_rfl) ?_
      repeat' first | (refine LexW.pure (v := ?_) rfl rfl (fun w1 he => ?_) ?_; rotate_left; (have hcc := Ext.cells he; go_simp; rfl); simp only [Act.put, List.setIfInBounds_toArray, List.set_cons_zero, List.set_cons_succ]) | (refine LexW.skip rfl rfl ?_; simp only [Act.put, List.setIfInBounds_toArray, List.set_cons_zero, List.set_cons_succ]) | (refine LexW.call (f := ?_) (args := ?_) rfl rfl (fun w1 => ?_) (fun w1 he hdep => ?_) ?_; rotate_left 2; (go_simp; refine ⟨?_, ?_⟩ <;> rfl); ( first | (go_at_call 130; have H := c_isPrime p w1; rw [H1.out] at H; exact H) | (go_at_call 133; exact c_length _ _ _ _) | (go_at_call 112; have H := c_inRange (d : Int) 1 6 w1; rw [H2.out] at H; exact H) | (go_at_call 63; exact c_field _ _ _) | (go_at_call 70; exact c_is _ _ _ _ _ _ (by omega) (by omega) hl (HQ.out.ext he))); simp only [Act.put, List.setIfInBounds_toArray, List.set_cons_zero, List.set_cons_succ])
      refine LexW.nil (fun w1 he hk => ?_)
      go_wp2
      go_ret
      exact ⟨ret_bool HF.out.symm, (ext_alloc _ _).trans ((ext_drew _).trans he)⟩

end Go.Proofs.Ytcocbainookkcaa

/-
  Contracts: checks of multivectors in the program.
  No condition.
-/
namespace Go.Proofs.Ytcocbainookkcaa
set_option maxRecDepth 100000
open Go.RowKit

/-- isMulti reports whether a list is a multivector. -/
theorem pow_wrap {d : Nat} (h : d ≤ 6) : wrap64 (2 ^ d) = ((2 ^ d : Nat) : Int) := by
  have : d = 0 ∨ d = 1 ∨ d = 2 ∨ d = 3 ∨ d = 4 ∨ d = 5 ∨ d = 6 := by omega
  rcases this with rfl | rfl | rfl | rfl | rfl | rfl | rfl <;> decide +kernel

set_option maxHeartbeats 400000 in
theorem c_isMulti (p : Int) (a : Option Addr) (d cap : Nat) (ax : Option Addr) (n cx : Nat) (xs : List Int) (w : World) (hp1 : 1 ≤ p) (hp2 : p ≤ 1000) (hd : d ≤ 6) (hl : n ≤ 4194304) (hx : RdC w ax n xs) :
    Calls Try.prog 124 #[.agg #[.int .i64 p, .slice a d cap], .slice ax n cx] w fun e w' => e = .returned (.bool (multiB p d xs)) ∧ Ext w w' := by
  obtain ⟨N, hN, hN2⟩ : ∃ N : Nat, wrap64 (2 ^ d) = (N : Int) ∧ N = 2 ^ d := ⟨_, pow_wrap hd, rfl⟩
  have HN := Lib.hid hN2
  clear hN2
  by_cases hc : n = N
  · have HF := Lib.hid (show multiB p d xs = isB p xs by simp [multiB, hx.1, hc, HN.out])
    subst hc
    have hcb : ((n : Int) == (n : Int)) = true := by simp
    go_enter Try.func124, Try.ntmps124
    go_wp2_with (first | (go_at_call 50; refine (c_dim _ _ _ _ _).mono ?_; rintro e w1 ⟨rfl, h1⟩; have hcc := Ext.cells h1) | (go_at_call 63; refine (c_field _ _ _).mono ?_; rintro e w2 ⟨rfl, h2⟩; have hcc2 := Ext.cells (h1.trans h2)) | (go_at_call 70; refine (c_is _ _ _ _ _ _ hp1 hp2 hl (hx.ext ((ext_alloc _ _).trans (h1.trans h2)))).mono ?_; rintro e w3 ⟨rfl, h3⟩))
    go_ret
    exact ⟨ret_bool HF.out.symm, (ext_alloc _ _).trans (h1.trans (h2.trans h3))⟩
  · have HF := Lib.hid (show multiB p d xs = false by simp [multiB, hx.1, ← HN.out, hc])
    have hcb : ((n : Int) == (N : Int)) = false := by simp; omega
    go_enter Try.func124, Try.ntmps124
    go_wp2_with (first | (go_at_call 50; refine (c_dim _ _ _ _ _).mono ?_; rintro e w1 ⟨rfl, h1⟩; have hcc := Ext.cells h1))
    go_ret
    exact ⟨ret_bool HF.out.symm, (ext_alloc _ _).trans h1⟩

/-! ### The library's search with a predicate -/
def firstIx (f : Nat → Bool) (n : Nat) : Int := match (List.range n).find? f with | some i => i | none => -1
theorem firstIx_hit {f : Nat → Bool} {n k : Nat} (hk : k < n) (hf : f k = true) (hb : ∀ j, j < k → f j = false) : firstIx f n = k := by
  unfold firstIx
  have : (List.range n).find? f = some k := by
    rw [List.find?_range_eq_some]
    exact ⟨hf, by simpa using hk, fun j hj => by simp [hb j hj]⟩
  rw [this]
theorem firstIx_none {f : Nat → Bool} {n : Nat} (hb : ∀ j, j < n → f j = false) : firstIx f n = -1 := by
  unfold firstIx
  have : (List.range n).find? f = none := by
    rw [List.find?_range_eq_none]
    exact fun j hj => by simp [hb j hj]
  rw [this]
theorem firstIx_bd (f : Nat → Bool) (n : Nat) : -1 ≤ firstIx f n := by
  unfold firstIx; split <;> omega
theorem firstIx_any (f : Nat → Bool) (n : Nat) : decide (0 ≤ firstIx f n) = (List.range n).any f := by
  by_cases h : ∃ k, k < n ∧ f k = true
  · obtain ⟨k, hk, hf⟩ := h
    have : (List.range n).any f = true := List.any_eq_true.2 ⟨k, List.mem_range.2 hk, hf⟩
    rw [this]
    unfold firstIx
    split
    · simp
    · rename_i h0; rw [List.find?_range_eq_none] at h0; have := h0 k hk; simp [hf] at this
  · have h' : ∀ j, j < n → f j = false := fun j hj => by
      cases hf : f j with
      | false => rfl
      | true => exact absurd ⟨j, hj, hf⟩ h
    rw [firstIx_none h']
    symm
    simp only [Int.reduceNeg, Int.reduceLE, decide_false]
    rw [Bool.eq_false_iff]
    intro ha
    obtain ⟨k, hk, hf⟩ := List.any_eq_true.1 ha
    rw [h' k (List.mem_range.1 hk)] at hf; cases hf

set_option maxHeartbeats 400000 in
set_option maxRecDepth 20000 in
theorem c_indexFunc (a : Option Addr) (n cap F : Nat) (caps : Array Value) (R : Nat → Value) (f : Nat → Bool) (w : World) (hl : n ≤ 4194304) (hcf : ∀ args w, (callFunc F args).run Try.prog w = .ok (.enter F args) w)
    (hR : ∀ i, i < n → ∃ b off, a = some ⟨b, off, none⟩ ∧ w.cell? ⟨b, off + i, none⟩ = some (R i))
    (hf : ∀ i, i < n → ∀ w1, Ext w w1 → Calls Try.prog F (#[R i] ++ caps) w1 fun e w2 => e = .returned (.bool (f i)) ∧ Ext w1 w2) :
    Calls Try.prog 143 #[.slice a n cap, .func (.func F) #[] caps] w fun e w' => e = .returned (.int .i64 (firstIx f n)) ∧ Ext w w' := by
  have HR := Lib.hid hR
  have HF := Lib.hid hf
  clear hR hf
  go_enter Try.func143, Try.ntmps143
  go_wp2_with (fail)
  go_loopw [5, 8] (fun _ i wr => ∃ k : Nat, k ≤ n ∧ i = .int .i64 k ∧ Hid (∀ j, j < k → f j = false) ∧ Ext w wr) (fun _ i _ => n - (intOf i).toNat)
  case atStart => exact ⟨0, Nat.zero_le _, rfl, Lib.hid (fun j hj => by omega), Ext.refl _⟩
  case round =>
    obtain ⟨k, hk, rfl, HT, hext⟩ := hrel
    by_cases hlt : k < n
    · obtain ⟨b, off, rfl, hc⟩ := HR.out k hlt
      have hc' := hext.cell hc
      clear hc
      cases hb : f k
      · have HB := Lib.hid hb
        have HFk := Lib.hid (HF.out k hlt wr hext)
        clear hb
        go_wp2_with ((with_reducible refine (HFk.out).mono ?_); rintro e w1 ⟨rfl, h1⟩; rw [HB.out])
        go_roundw
        case rel => exact ⟨k + 1, by omega, by go_num, Lib.hid (fun j hj => by
          by_cases hjk : j = k
          · subst hjk; exact HB.out
          · exact HT.out j (by omega)), hext.trans h1⟩
        case measure => simp [intOf]; omega
      · have HB := Lib.hid hb
        have HFk := Lib.hid (HF.out k hlt wr hext)
        clear hb
        go_wp2_with ((with_reducible refine (HFk.out).mono ?_); rintro e w1 ⟨rfl, h1⟩; rw [HB.out])
        go_ret
        exact ⟨ret_int (firstIx_hit hlt HB.out HT.out).symm, hext.trans h1⟩
    · go_wp2_with (fail)
      go_ret
      exact ⟨ret_int (firstIx_none (fun j hj => HT.out j (by omega))).symm, hext⟩

set_option maxHeartbeats 400000 in
theorem c_containsFunc (a : Option Addr) (n cap F : Nat) (caps : Array Value) (R : Nat → Value) (f : Nat → Bool) (w : World) (hl : n ≤ 4194304) (hcf : ∀ args w, (callFunc F args).run Try.prog w = .ok (.enter F args) w)
    (hR : ∀ i, i < n → ∃ b off, a = some ⟨b, off, none⟩ ∧ w.cell? ⟨b, off + i, none⟩ = some (R i))
    (hf : ∀ i, i < n → ∀ w1, Ext w w1 → Calls Try.prog F (#[R i] ++ caps) w1 fun e w2 => e = .returned (.bool (f i)) ∧ Ext w1 w2) :
    Calls Try.prog 114 #[.slice a n cap, .func (.func F) #[] caps] w fun e w' => e = .returned (.bool ((List.range n).any f)) ∧ Ext w w' := by
  have HR := Lib.hid hR
  have HF := Lib.hid hf
  have HA := Lib.hid (firstIx_any f n)
  have hbd := firstIx_bd f n
  clear hR hf
  go_enter Try.func114, Try.ntmps114
  go_wp2_with (go_at_call 143; refine (c_indexFunc _ _ _ _ _ _ _ _ hl hcf HR.out HF.out).mono ?_; rintro e w1 ⟨rfl, h1⟩)
  go_ret
  exact ⟨ret_bool HA.out, h1⟩

set_option maxHeartbeats 400000 in
theorem c_checkMultis1 (p : Int) (a : Option Addr) (d cap : Nat) (ax : Option Addr) (n cx : Nat) (xs : List Int) (q : Nat) (w : World) (hp1 : 1 ≤ p) (hp2 : p ≤ 1000) (hd : d ≤ 6) (hl : n ≤ 4194304) (hx : RdC w ax n xs)
    (hq0 : w.cell? ⟨q, 0, none⟩ = some (.int .i64 p)) (hq1 : w.cell? ⟨q, 1, none⟩ = some (.slice a d cap)) :
    Calls Try.prog 123 #[.slice ax n cx, .pointer (some ⟨q, 0, none⟩)] w fun e w' => e = .returned (.bool (!multiB p d xs)) ∧ Ext w w' := by
  go_enter Try.func123, Try.ntmps123
  go_wp2_with (go_at_call 124; refine (c_isMulti _ _ _ _ _ _ _ _ _ hp1 hp2 hd hl hx).mono ?_; rintro e w1 ⟨rfl, h1⟩)
  go_ret
  exact ⟨rfl, h1⟩

theorem any_not_all {α : Type} (g : α → Bool) (l : List α) : (List.range l.length).any (fun i => match l[i]? with | some x => !g x | none => false) = !l.all g := by
  rw [Bool.eq_iff_iff]
  simp only [List.any_eq_true, List.mem_range, Bool.not_eq_true', List.all_eq_false]
  constructor
  · rintro ⟨i, hi, h⟩
    rw [List.getElem?_eq_getElem hi] at h
    exact ⟨l[i], List.getElem_mem hi, by simpa using h⟩
  · rintro ⟨x, hx, h⟩
    obtain ⟨i, hi, rfl⟩ := List.getElem_of_mem hx
    exact ⟨i, hi, by rw [List.getElem?_eq_getElem hi]; simpa using h⟩

theorem any_rows (p : Int) (d n : Nat) (rows : List (List Int)) (hn : rows.length = n) : (List.range n).any (fun i => !multiB p d (nthR rows i)) = !rows.all (multiB p d) := by
  subst hn
  rw [← any_not_all]
  rw [Bool.eq_iff_iff]
  simp only [List.any_eq_true, List.mem_range]
  constructor
  · rintro ⟨i, hi, h⟩
    exact ⟨i, hi, by rw [List.getElem?_eq_getElem hi]; rw [nthR_eq hi] at h; exact h⟩
  · rintro ⟨i, hi, h⟩
    exact ⟨i, hi, by rw [List.getElem?_eq_getElem hi] at h; rw [nthR_eq hi]; exact h⟩

def rowV (ai : Nat → Option Addr) (ci : Nat → Nat) (rows : List (List Int)) (i : Nat) : Value := .slice (ai i) (nthR rows i).length (ci i)
theorem RdR.choose {w : World} {a : Option Addr} {n : Nat} {rows : List (List Int)} (h : RdR w a n rows) :
    ∃ (ai : Nat → Option Addr) (ci : Nat → Nat), (∀ i, i < n → ∃ b off, a = some ⟨b, off, none⟩ ∧ w.cell? ⟨b, off + i, none⟩ = some (rowV ai ci rows i)) ∧ ∀ i, i < n → RdC w (ai i) (nthR rows i).length (nthR rows i) := by
  obtain ⟨_, h⟩ := h
  refine ⟨fun i => if hi : i < n then Classical.choose (Classical.choose_spec (Classical.choose_spec (h i hi))) else none,
    fun i => if hi : i < n then Classical.choose (Classical.choose_spec (Classical.choose_spec (Classical.choose_spec (h i hi)))) else 0, fun i hi => ?_, fun i hi => ?_⟩
  · have hs := Classical.choose_spec (Classical.choose_spec (Classical.choose_spec (Classical.choose_spec (h i hi))))
    refine ⟨_, _, hs.1, ?_⟩
    rw [hs.2.1]
    simp only [rowV, hi, dif_pos]
  · have hs := Classical.choose_spec (Classical.choose_spec (Classical.choose_spec (Classical.choose_spec (h i hi))))
    simp only [hi, dif_pos]
    exact hs.2.2

set_option maxHeartbeats 400000 in
theorem c_checkMultis (p : Int) (a : Option Addr) (d cap : Nat) (qs : List Int) (al : Option Addr) (n cl : Nat) (rows : List (List Int)) (w : World) (hd : d ≤ 4194304) (hl : n ≤ 4194304) (hr : ∀ i, i < n → (nthR rows i).length ≤ 4194304)
    (hq : RdC w a d qs) (hx : RdR w al n rows) :
    Calls Try.prog 82 #[.agg #[.int .i64 p, .slice a d cap], .slice al n cl] w fun e w' => e = .returned (.int .i64 (codeM p qs rows)) ∧ Ext w w' := by
  cases hs : spaceB p qs
  · have HS := Lib.hid hs
    have HC := Lib.hid (show codeM p qs rows = 1 by simp [codeM, hs])
    clear hs
    go_enter Try.func82, Try.ntmps82
    go_wp2_with (go_at_call 93; refine (c_isSpace _ _ _ _ _ _ hd (hq.ext (ext_alloc _ _))).mono ?_; rintro e w1 ⟨rfl, h1⟩; rw [HS.out])
    go_ret
    exact ⟨ret_int HC.out.symm, (ext_alloc _ _).trans h1⟩
  · obtain ⟨hp, hd1, hd6, _⟩ := space_of hs
    have hpb := prime_bd hp
    have hdq := hq.1
    have HS := Lib.hid hs
    have HC := Lib.hid (show codeM p qs rows = if rows.all (multiB p d) then 0 else 2 by simp [codeM, hs, hdq])
    have HA := Lib.hid (any_rows p d n rows hx.1)
    have hd6' : d ≤ 6 := by omega
    clear hs hp hdq hd1 hd6
    obtain ⟨ai, ci, hR, hrow⟩ := hx.choose
    have HR := Lib.hid hR
    have HRow := Lib.hid hrow
    clear hR hrow
    cases ha : rows.all (multiB p d)
    all_goals
      have HAl := Lib.hid ha
      clear ha
      go_enter Try.func82, Try.ntmps82
      go_wp2_with (first | (go_at_call 93; refine (c_isSpace _ _ _ _ _ _ hd (hq.ext (ext_alloc _ _))).mono ?_; rintro e w1 ⟨rfl, h1⟩; rw [HS.out]; have hcc := Ext.cells h1) | (go_at_call 114; refine (c_containsFunc al n cl 123 #[.pointer (some ⟨w.heap.size, 0, none⟩)] (rowV ai ci rows) (fun i => !multiB p d (nthR rows i)) _ hl ?_ (fun i hi => ?_) (fun i hi w2 he => ?_)).mono ?_; rotate_right; rintro e w2 ⟨rfl, h2⟩; rw [HA.out, HAl.out]))
      rotate_left
      · intro args w; go_simp
      · obtain ⟨b, off, hb1, hb2⟩ := HR.out i hi
        exact ⟨b, off, hb1, ((ext_alloc _ _).trans h1).cell hb2⟩
      · refine c_checkMultis1 p a d cap _ _ _ _ _ _ (by omega) (by omega) hd6' (hr i hi) ((HRow.out i hi).ext ((ext_alloc _ _).trans (h1.trans he))) ?_ ?_
        · refine he.cell (h1.cell ?_); simp
        · refine he.cell (h1.cell ?_); simp
      go_ret
      refine ⟨ret_int ?_, (ext_alloc _ _).trans (h1.trans h2)⟩
      rw [HC.out, HAl.out]; rfl

/-- A row of one slice, laid by the call. -/
theorem rdR_one {w : World} {g : Nat} {a : Option Addr} {n cap : Nat} {xs : List Int} (hc : w.cell? ⟨g, 0, none⟩ = some (.slice a n cap)) (hx : RdC w a n xs) : RdR w (some ⟨g, 0, none⟩) 1 [xs] := by
  refine ⟨rfl, fun i hi => ?_⟩
  obtain rfl : i = 0 := by omega
  have : nthR [xs] 0 = xs := rfl
  rw [this, hx.1]
  exact ⟨g, 0, a, cap, rfl, hc, hx⟩
theorem rdR_two {w : World} {g : Nat} {a b : Option Addr} {n m ca cb : Nat} {xs ys : List Int} (hc : w.cell? ⟨g, 0, none⟩ = some (.slice a n ca)) (hd : w.cell? ⟨g, 1, none⟩ = some (.slice b m cb)) (hx : RdC w a n xs) (hy : RdC w b m ys) : RdR w (some ⟨g, 0, none⟩) 2 [xs, ys] := by
  refine ⟨rfl, fun i hi => ?_⟩
  have : i = 0 ∨ i = 1 := by omega
  rcases this with rfl | rfl
  · have : nthR [xs, ys] 0 = xs := rfl
    rw [this, hx.1]
    exact ⟨g, 0, a, ca, rfl, hc, hx⟩
  · have : nthR [xs, ys] 1 = ys := rfl
    rw [this, hy.1]
    exact ⟨g, 0, b, cb, rfl, hd, hy⟩
theorem len_one {xs : List Int} {n : Nat} (h : xs.length ≤ n) : ∀ i, i < 1 → (nthR [xs] i).length ≤ n := fun i hi => by
  obtain rfl : i = 0 := by omega
  exact h
theorem len_two {xs ys : List Int} {n : Nat} (h : xs.length ≤ n) (h' : ys.length ≤ n) : ∀ i, i < 2 → (nthR [xs, ys] i).length ≤ n := fun i hi => by
  have : i = 0 ∨ i = 1 := by omega
  rcases this with rfl | rfl
  · exact h
  · exact h'

theorem codeM_one {p : Int} {qs xs : List Int} (h : codeM p qs [xs] = 0) : spaceB p qs = true ∧ multiB p qs.length xs = true := by
  unfold codeM at h
  split at h
  · rename_i hs
    split at h
    · rename_i ha; exact ⟨hs, by simpa using ha⟩
    · omega
  · omega
theorem codeM_two {p : Int} {qs xs ys : List Int} (h : codeM p qs [xs, ys] = 0) : spaceB p qs = true ∧ multiB p qs.length xs = true ∧ multiB p qs.length ys = true := by
  unfold codeM at h
  split at h
  · rename_i hs
    split at h
    · rename_i ha; exact ⟨hs, by simpa using ha⟩
    · omega
  · omega

end Go.Proofs.Ytcocbainookkcaa

/-
  Bits of masks below 64: the walk's words for them, and the contracts of the functions that count them.
  No condition.
-/
namespace Go.Proofs.Ytcocbainookkcaa
set_option maxRecDepth 100000
open Go.RowKit

def popF : Nat → Nat → Nat
  | 0, _ => 0
  | f + 1, n => n % 2 + popF f (n / 2)
/-- The number of bits of a mask below 64. -/
def popc (n : Nat) : Nat := popF 6 n
theorem popc_le {n : Nat} (h : n < 64) : popc n ≤ 6 := by
  have : ∀ n, n < 64 → popc n ≤ 6 := by decide +kernel
  exact this n h

theorem bit_i (y k : Nat) (hy : y < 64) (hk : k < 6) : (bits BinOp.and IntKind.i64 ((y : Int) / 2 ^ k) 1 == 1) = y.testBit k := by
  have : ∀ y : Nat, y < 64 → ∀ k : Nat, k < 6 → (bits BinOp.and IntKind.i64 ((y : Int) / 2 ^ k) 1 == 1) = y.testBit k := by decide +kernel
  exact this y hy k hk
theorem bit_z (y k : Nat) (hy : y < 64) (hk : k < 6) : (bits BinOp.and IntKind.i64 ((y : Int) / 2 ^ k) 1 == 0) = !y.testBit k := by
  have : ∀ y : Nat, y < 64 → ∀ k : Nat, k < 6 → (bits BinOp.and IntKind.i64 ((y : Int) / 2 ^ k) 1 == 0) = !y.testBit k := by decide +kernel
  exact this y hy k hk
theorem shr_u (x k : Nat) (hx : x < 64) (hk : k < 6) : IntKind.u64.wrap ((x : Int) / 2 ^ (k + 1)) = ((x >>> (k + 1) : Nat) : Int) := by
  have : ∀ x : Nat, x < 64 → ∀ k : Nat, k < 6 → IntKind.u64.wrap ((x : Int) / 2 ^ (k + 1)) = ((x >>> (k + 1) : Nat) : Int) := by decide +kernel
  exact this x hx k hk
theorem shr_lt {x : Nat} (k : Nat) (hx : x < 64) : x >>> k < 64 := Nat.lt_of_le_of_lt (Nat.shiftRight_le x k) hx

set_option maxHeartbeats 400000 in
theorem c_ones64 (x : Nat) (w : World) (hx : x < 64) :
    Calls Try.prog 153 #[.int .u64 x] w fun e w' => e = .returned (.int .i64 (popc x)) ∧ Ext w w' := by
  go_enter Try.func153, Try.ntmps153
  go_wp2
  go_ret
  refine ⟨ret_int ?_, Ext.refl _⟩
  clear w
  revert hx
  revert x
  decide +kernel

set_option maxHeartbeats 400000 in
theorem c_ones (x : Nat) (w : World) (hx : x < 64) :
    Calls Try.prog 151 #[.int .u64 x] w fun e w' => e = .returned (.int .i64 (popc x)) ∧ Ext w w' := by
  go_enter Try.func151, Try.ntmps151
  go_wp2_with (go_at_call 153; refine (c_ones64 _ _ hx).mono ?_; rintro e w1 ⟨rfl, g1⟩)
  go_ret
  exact ⟨rfl, g1⟩

theorem conv_u (x : Nat) (hx : x < 64) : IntKind.u64.wrap (x : Int) = (x : Int) := by
  have : ∀ x : Nat, x < 64 → IntKind.u64.wrap (x : Int) = (x : Int) := by decide +kernel
  exact this x hx
set_option maxHeartbeats 400000 in
theorem c_grade (x : Nat) (w : World) (hx : x < 64) :
    Calls Try.prog 147 #[.int .i64 x] w fun e w' => e = .returned (.int .i64 (popc x)) ∧ Ext w w' := by
  have hcv := conv_u x hx
  have hpl := popc_le hx
  go_enter Try.func147, Try.ntmps147
  go_wp2_with (go_at_call 151; refine (c_ones _ _ hx).mono ?_; rintro e w1 ⟨rfl, g1⟩)
  go_ret
  exact ⟨rfl, g1⟩

theorem popF_step (f n : Nat) : popF (f + 1) n = n % 2 + popF f (n / 2) := rfl
theorem popF_zero (f : Nat) : popF f 0 = 0 := by
  induction f with
  | zero => rfl
  | succ f ih => simp [popF, ih]
theorem popF_le (f n : Nat) : popF f n ≤ f := by
  induction f generalizing n with
  | zero => simp [popF]
  | succ f ih => have := ih (n / 2); simp only [popF]; omega

set_option maxHeartbeats 400000 in
theorem s_grade (x : Nat) (w : World) (hx : x < 64) :
    Calls Try.prog 149 #[.int .i64 x] w fun e w' => e = .returned (.int .i64 (popc x)) ∧ Ext w w' := by
  go_enter Try.func149, Try.ntmps149
  go_wp2_with (fail)
  go_loopw [0, 3] (fun m n wr => ∃ (f y g : Nat), f ≤ 6 ∧ y < 2 ^ f ∧ y < 64 ∧ g ≤ 64 ∧ m = .int .i64 y ∧ n = .int .i64 g ∧ Hid (g + popF f y = popc x) ∧ Ext w wr) (fun m _ _ => (intOf m).toNat)
  case atStart => exact ⟨6, x, 0, Nat.le_refl _, hx, hx, by omega, rfl, rfl, Lib.hid (by simp [popc]), Ext.refl _⟩
  case round =>
    obtain ⟨f, y, g, hf, hy, hy64, hg, rfl, rfl, HG, hext⟩ := hrel
    have HY := Lib.hid hy
    clear hy
    by_cases h0 : 0 < y
    · have hgl : g ≤ 6 := by have := HG.out; have := popc_le hx; omega
      go_wp2_with (fail)
      go_roundw
      case rel =>
        cases f with
        | zero => have := HY.out; simp at this; omega
        | succ f =>
          refine ⟨f, y / 2, g + y % 2, by omega, ?_, by omega, by omega, by go_num, by go_num, Lib.hid ?_, hext⟩
          · have := HY.out; rw [Nat.pow_succ] at this; omega
          · have := HG.out; rw [popF_step] at this; omega
      case measure => simp [intOf]; omega
    · obtain rfl : y = 0 := by omega
      go_wp2_with (fail)
      go_ret
      refine ⟨ret_int ?_, hext⟩
      have := HG.out
      rw [popF_zero] at this
      have h2 : g = popc x := by simpa using this
      rw [h2]

end Go.Proofs.Ytcocbainookkcaa

/-
  Contracts: checks of spaces and multivectors in the reference.
  No condition.
-/
namespace Go.Proofs.Ytcocbainookkcaa
set_option maxRecDepth 100000
open Go.RowKit

set_option maxHeartbeats 400000 in
theorem s_prime (p : Int) (w : World) :
    Calls Try.prog 142 #[.int .i64 p] w fun e w' => e = .returned (.bool (primeB p)) ∧ Ext w w' := by
  go_enter Try.func142, Try.ntmps142
  go_wp2
  all_goals go_ret
  all_goals refine ⟨?_, Ext.refl _⟩
  all_goals simp_all [primeB]

set_option maxHeartbeats 400000 in
theorem s_in (n l h : Int) (w : World) :
    Calls Try.prog 75 #[.int .i64 n, .int .i64 l, .int .i64 h] w fun e w' => e = .returned (.bool (inB n l h)) ∧ Ext w w' := by
  go_enter Try.func75, Try.ntmps75
  go_wp2
  all_goals go_ret
  all_goals refine ⟨?_, Ext.refl _⟩
  all_goals simp [inB]; omega

set_option maxHeartbeats 400000 in
theorem s_numbers (p : Int) (a : Option Addr) (n cap : Nat) (xs : List Int) (w : World) (hp1 : 1 ≤ p) (hp2 : p ≤ 1000) (hl : n ≤ 4194304) (hx : RdC w a n xs) :
    Calls Try.prog 139 #[.int .i64 p, .slice a n cap] w fun e w' => e = .returned (.bool (isB p xs)) ∧ Ext w w' := by
  obtain ⟨hn, hx⟩ := hx
  have HX := Lib.hid hx
  have HN := Lib.hid hn
  clear hx hn
  go_enter Try.func139, Try.ntmps139
  go_wp2_with (fail)
  go_loopw [5] (fun i wr => ∃ k : Nat, k ≤ n ∧ i = .int .i64 k ∧ isB p (xs.take k) = true ∧ Ext w wr) (fun i _ => n - (intOf i).toNat)
  case atStart => exact ⟨0, Nat.zero_le _, rfl, rfl, Ext.refl _⟩
  case round =>
    obtain ⟨k, hk, rfl, ht, hext⟩ := hrel
    have HT := Lib.hid ht; clear ht
    by_cases hlt : k < n
    · obtain ⟨b, off, rfl, hc⟩ := HX.out k hlt
      have hc' := hext.cell hc
      clear hc
      have HS := Lib.hid (take_snoc xs k (by rw [HN.out]; omega))
      cases hb : inB (nth xs k) 0 (p - 1)
      · have HB := Lib.hid hb
        go_wp2_with (go_at_call 75; refine (s_in _ _ _ _).mono ?_; rintro e w1 ⟨rfl, h1⟩)
        go_ret
        exact ⟨ret_bool (isB_false (by rw [HN.out]; exact hlt) HB.out).symm, hext.trans h1⟩
      · have HB := Lib.hid hb
        go_wp2_with (go_at_call 75; refine (s_in _ _ _ _).mono ?_; rintro e w1 ⟨rfl, h1⟩)
        go_roundw
        case rel => exact ⟨k + 1, by omega, by go_num, by rw [HS.out, isB_snoc, HT.out, HB.out]; rfl, hext.trans h1⟩
        case measure => simp [intOf]; omega
    · go_wp2_with (fail)
      go_ret
      have hh := HT.out
      rw [List.take_of_length_le (by rw [HN.out]; omega)] at hh
      exact ⟨ret_bool hh.symm, hext⟩

set_option maxHeartbeats 400000 in
theorem s_is (p : Int) (a : Option Addr) (d cap : Nat) (qs : List Int) (w : World) (hl : d ≤ 4194304) (hq : RdC w a d qs) :
    Calls Try.prog 113 #[.agg #[.int .i64 p, .slice a d cap]] w fun e w' => e = .returned (.bool (spaceB p qs)) ∧ Ext w w' := by
  cases h1 : primeB p
  · have HF := Lib.hid (show spaceB p qs = false by simp [spaceB, h1])
    have H1 := Lib.hid h1
    clear h1
    go_enter Try.func113, Try.ntmps113
    go_wp2_with (go_at_call 142; refine (s_prime _ _).mono ?_; rintro e w1 ⟨rfl, g1⟩; rw [H1.out]; have hcc := Ext.cells g1)
    go_ret
    exact ⟨ret_bool HF.out.symm, (ext_alloc _ _).trans g1⟩
  · have H1 := Lib.hid h1
    have hp := prime_bd h1
    clear h1
    cases h2 : inB (d : Int) 1 6
    · have HF := Lib.hid (show spaceB p qs = false by simp [spaceB, hq.1, h2])
      have H2 := Lib.hid h2
      clear h2
      go_enter Try.func113, Try.ntmps113
      go_wp2_with (first | (go_at_call 142; refine (s_prime _ _).mono ?_; rintro e w1 ⟨rfl, g1⟩; rw [H1.out]; have hcc := Ext.cells g1) | (go_at_call 75; refine (s_in _ _ _ _).mono ?_; rintro e w2 ⟨rfl, g2⟩; rw [H2.out]; have hcc2 := Ext.cells (g1.trans g2)))
      go_ret
      exact ⟨ret_bool HF.out.symm, (ext_alloc _ _).trans (g1.trans g2)⟩
    · have HF := Lib.hid (show spaceB p qs = isB p qs by simp [spaceB, hq.1, h2, H1.out])
      have H2 := Lib.hid h2
      clear h2
      go_enter Try.func113, Try.ntmps113
      go_wp2_with (first | (go_at_call 142; refine (s_prime _ _).mono ?_; rintro e w1 ⟨rfl, g1⟩; rw [H1.out]; have hcc := Ext.cells g1) | (go_at_call 75; refine (s_in _ _ _ _).mono ?_; rintro e w2 ⟨rfl, g2⟩; rw [H2.out]; have hcc2 := Ext.cells (g1.trans g2)) | (go_at_call 139; refine (s_numbers _ _ _ _ _ _ (by omega) (by omega) hl (hq.ext ((ext_alloc _ _).trans (g1.trans g2)))).mono ?_; rintro e w3 ⟨rfl, g3⟩))
      go_ret
      exact ⟨ret_bool HF.out.symm, (ext_alloc _ _).trans (g1.trans (g2.trans g3))⟩

set_option maxHeartbeats 400000 in
theorem s_size (p : Int) (a : Option Addr) (d cap : Nat) (w : World) (hd : d ≤ 6) :
    Calls Try.prog 150 #[.agg #[.int .i64 p, .slice a d cap]] w fun e w' => e = .returned (.int .i64 ((2 ^ d : Nat) : Int)) ∧ Ext w w' := by
  have HW := Lib.hid (pow_wrap hd)
  go_enter Try.func150, Try.ntmps150
  go_wp2
  go_ret
  refine ⟨ret_int ?_, ext_alloc _ _⟩
  rw [← HW.out]

theorem all_false {p : Int} {d n k : Nat} {rows : List (List Int)} (hn : rows.length = n) (hk : k < n) (h : multiB p d (nthR rows k) = false) : rows.all (multiB p d) = false := by
  rw [List.all_eq_false]
  subst hn
  exact ⟨rows[k], List.getElem_mem hk, by rw [nthR_eq hk] at h; simp [h]⟩
theorem all_true {p : Int} {d n : Nat} {rows : List (List Int)} (hn : rows.length = n) (h : ∀ j, j < n → multiB p d (nthR rows j) = true) : rows.all (multiB p d) = true := by
  rw [List.all_eq_true]
  intro x hx
  obtain ⟨i, hi, rfl⟩ := List.getElem_of_mem hx
  have := h i (by omega)
  rwa [nthR_eq hi] at this

end Go.Proofs.Ytcocbainookkcaa

/-
  The factor of a product of two blades, in plain numbers; the contracts of the two functions that compute it.
  No condition.
-/
namespace Go.Proofs.Ytcocbainookkcaa
set_option maxRecDepth 100000
open Go.RowKit

/-- How many swaps, and the product of the common squares, behind k places. -/
def facS (p : Int) (qs : List Int) (a b : Nat) : Nat → Nat × Int
  | 0 => (0, 1)
  | k + 1 => if b.testBit k then ((facS p qs a b k).1 + popc (a >>> (k + 1)), if a.testBit k then (facS p qs a b k).2 * nth qs k % p else (facS p qs a b k).2) else facS p qs a b k
def sgn (p : Int) (s : Nat) (o : Int) : Int := if s % 2 = 1 then (-o) % p else o
/-- The factor of the product of the blades a and b. -/
def fac (p : Int) (qs : List Int) (a b : Nat) : Int := sgn p (facS p qs a b qs.length).1 (facS p qs a b qs.length).2

theorem facS_bd {p : Int} {qs : List Int} {a b : Nat} (hp : 3 ≤ p) (ha : a < 64) (k : Nat) : (facS p qs a b k).1 ≤ 6 * k ∧ 0 ≤ (facS p qs a b k).2 ∧ (facS p qs a b k).2 < p := by
  induction k with
  | zero => simp [facS]; omega
  | succ k ih =>
    unfold facS
    have h1 := popc_le (shr_lt (k + 1) ha)
    have h2 := Int.emod_nonneg ((facS p qs a b k).2 * nth qs k) (show p ≠ 0 by omega)
    have h3 := Int.emod_lt_of_pos ((facS p qs a b k).2 * nth qs k) (show 0 < p by omega)
    split
    · refine ⟨by dsimp only; omega, ?_⟩
      dsimp only
      split <;> omega
    · omega
theorem sgn_bd {p o : Int} {s : Nat} (hp : 3 ≤ p) (h0 : 0 ≤ o) (h1 : o < p) : 0 ≤ sgn p s o ∧ sgn p s o < p := by
  unfold sgn
  split
  · exact ⟨Int.emod_nonneg _ (by omega), Int.emod_lt_of_pos _ (by omega)⟩
  · exact ⟨h0, h1⟩
theorem fac_bd {p : Int} {qs : List Int} {a b : Nat} (hp : 3 ≤ p) (ha : a < 64) : 0 ≤ fac p qs a b ∧ fac p qs a b < p := by
  have := facS_bd (qs := qs) (b := b) hp ha qs.length
  exact sgn_bd hp this.2.1 this.2.2

theorem facS_no {p : Int} {qs : List Int} {a b k : Nat} (h : b.testBit k = false) : facS p qs a b (k + 1) = facS p qs a b k := by simp [facS, h]
theorem facS_one {p : Int} {qs : List Int} {a b k : Nat} (h : b.testBit k = true) (h' : a.testBit k = false) : facS p qs a b (k + 1) = ((facS p qs a b k).1 + popc (a >>> (k + 1)), (facS p qs a b k).2) := by simp [facS, h, h']
theorem facS_two {p : Int} {qs : List Int} {a b k : Nat} (h : b.testBit k = true) (h' : a.testBit k = true) : facS p qs a b (k + 1) = ((facS p qs a b k).1 + popc (a >>> (k + 1)), (facS p qs a b k).2 * nth qs k % p) := by simp [facS, h, h']

theorem mul_bd {p x y : Int} (hp : p ≤ 1000) (hx0 : 0 ≤ x) (hx : x < p) (hy0 : 0 ≤ y) (hy : y < p) : 0 ≤ x * y ∧ x * y ≤ 1000000 := by
  refine ⟨Int.mul_nonneg hx0 hy0, ?_⟩
  have h1 : x * y ≤ 1000 * y := Int.mul_le_mul_of_nonneg_right (by omega) hy0
  omega

set_option maxHeartbeats 1000000 in
theorem c_factor (p : Int) (a : Option Addr) (d cap : Nat) (qs : List Int) (x y : Nat) (w : World) (hd : d ≤ 6) (hp1 : 3 ≤ p) (hp2 : p ≤ 1000) (hx : x < 64) (hy : y < 64) (hq : RdC w a d qs) (hqb : isB p qs = true) :
    Calls Try.prog 146 #[.agg #[.int .i64 p, .slice a d cap], .int .i64 x, .int .i64 y] w fun e w' => e = .returned (.int .i64 (fac p qs x y)) ∧ Ext w w' := by
  have HQ := Lib.hid hq.2
  have HN := Lib.hid hq.1
  have HB := Lib.hid hqb
  clear hq hqb
  go_enter Try.func146, Try.ntmps146
  go_wp2_with (go_at_call 50; refine (c_dim _ _ _ _ _).mono ?_; rintro e w1 ⟨rfl, g1⟩)
  have hs0 : w1.cell? ⟨w.heap.size, 0, none⟩ = some (.int .i64 p) := g1.cell (by simp)
  have hs1 : w1.cell? ⟨w.heap.size, 1, none⟩ = some (.slice a d cap) := g1.cell (by simp)
  have HS0 := Lib.hid hs0
  have HS1 := Lib.hid hs1
  have G1 := Lib.hid ((ext_alloc w (.cells #[.int .i64 p, .slice a d cap] 26)).trans g1)
  clear g1 hs0 hs1
  go_loopw [7, 8, 9, 12] (fun s o _ i wr => ∃ k : Nat, k ≤ d ∧ i = .int .i64 k ∧ s = .int .i64 (facS p qs x y k).1 ∧ o = .int .i64 (facS p qs x y k).2 ∧ Ext w1 wr) (fun _ _ _ i _ => d - (intOf i).toNat)
  case atStart => exact ⟨0, Nat.zero_le _, rfl, rfl, rfl, Ext.refl _⟩
  case round =>
    obtain ⟨k, hk, rfl, rfl, rfl, hext⟩ := hrel
    obtain ⟨hf1, hf2, hf3⟩ := facS_bd (qs := qs) (b := y) hp1 hx k
    obtain ⟨S, hS⟩ : ∃ S, S = (facS p qs x y k).1 := ⟨_, rfl⟩
    obtain ⟨O, hO⟩ : ∃ O, O = (facS p qs x y k).2 := ⟨_, rfl⟩
    rw [← hS] at hf1 ⊢
    rw [← hO] at hf2 hf3 ⊢
    have HS := Lib.hid hS
    have HO := Lib.hid hO
    clear hS hO
    by_cases hlt : k < d
    · have hy1 := bit_i y k hy (by omega)
      have hx1 := bit_i x k hx (by omega)
      have hsh := shr_u x k hx (by omega)
      have hpl := popc_le (shr_lt (k + 1) hx)
      obtain ⟨b, off, ha, hc⟩ := HQ.out k hlt
      have Hc := Lib.hid ((G1.out.trans (hext)).cell hc)
      have hqk := isB_nth HB.out (i := k) (by rw [HN.out]; exact hlt)
      clear hc
      have hmul := mul_bd (x := O) (y := nth qs k) hp2 hf2 hf3 hqk.1 hqk.2
      cases hyb : y.testBit k
      · have HYB := Lib.hid hyb
        rw [hyb] at hy1
        clear hyb hx1 hsh ha
        go_wp2_with (fail)
        go_roundw
        case rel => exact ⟨k + 1, by omega, by go_num, by rw [facS_no HYB.out, HS.out], by rw [facS_no HYB.out, HO.out], hext⟩
        case measure => simp [intOf]; omega
      · have HYB := Lib.hid hyb
        rw [hyb] at hy1
        clear hyb
        cases hxb : x.testBit k
        · have HXB := Lib.hid hxb
          rw [hxb] at hx1
          clear hxb ha
          go_wp2_with (go_at_call 151; refine (c_ones (x >>> (k + 1)) _ (shr_lt _ hx)).mono ?_; rintro e w2 ⟨rfl, g2⟩)
          go_roundw
          case rel => exact ⟨k + 1, by omega, by go_num, by rw [facS_one HYB.out HXB.out, HS.out]; go_num, by rw [facS_one HYB.out HXB.out, HO.out], hext.trans g2⟩
          case measure => simp [intOf]; omega
        · have HXB := Lib.hid hxb
          rw [hxb] at hx1
          clear hxb
          subst ha
          go_wp2_with (go_at_call 151; refine (c_ones (x >>> (k + 1)) _ (shr_lt _ hx)).mono ?_; rintro e w2 ⟨rfl, g2⟩)
          refine wp_region_lex [(1, .val (.int .i64 p)), (9, .val (.int .i64 (O * nth qs k % p)))] (by kernel_rfl) (by kernel_rfl) ?_
          have X2 := Lib.hid (g2.trans (ext_drew _))
          have Y2 := Lib.hid (hext.trans X2.out)
          have hw : IntKind.i64.wrap (O * nth qs k) = O * nth qs k := IntWalk.i64_in _ (by omega)
          repeat' first | (refine LexW.pure (v := ?_) rfl rfl (fun w1 he => ?_) ?_; rotate_left; ( have e1 := (Y2.out.trans he).cell HS0.out; have e2 := (Y2.out.trans he).cell HS1.out; have e3 := (X2.out.trans he).cell Hc.out; go_simp; rfl); simp only [Act.put, List.setIfInBounds_toArray, List.set_cons_zero, List.set_cons_succ]) | (refine LexW.call (f := ?_) (args := ?_) rfl rfl (fun w1 => ?_) (fun w1 he hdep => ?_) ?_; rotate_left 2; (go_simp; refine ⟨?_, ?_⟩ <;> rfl); ( first | (go_at_call 63; exact c_field _ _ _) | (go_at_call 64; exact c_num _ _ _ (by omega) hp2)); simp only [Act.put, List.setIfInBounds_toArray, List.set_cons_zero, List.set_cons_succ])
          refine LexW.nil (fun w3 he hk => ?_)
          go_wp2_with (fail)
          go_roundw
          case rel => exact ⟨k + 1, by omega, by go_num, by rw [facS_two HYB.out HXB.out, HS.out]; go_num, by rw [facS_two HYB.out HXB.out, HO.out], Y2.out.trans he⟩
          case measure => simp [intOf]; omega
    · have hkd : k = d := by omega
      have e1 := hext.cell HS0.out
      have e2 := hext.cell HS1.out
      by_cases hodd : S % 2 = 1
      · have ht : (((S : Int) % 2) == 1) = true := by simp; omega
        have HF := Lib.hid (show fac p qs x y = (-O) % p by simp only [fac, sgn]; rw [HN.out, ← hkd, ← HS.out, if_pos hodd, ← HO.out])
        clear hkd hodd
        go_wp2_with (first | (go_at_call 63; refine (c_field _ _ _).mono ?_; rintro e w2 ⟨rfl, g2⟩) | (go_at_call 64; refine (c_num _ _ _ (by omega) hp2).mono ?_; rintro e w3 ⟨rfl, g3⟩))
        go_ret
        exact ⟨ret_int HF.out.symm, G1.out.trans (hext.trans (g2.trans g3))⟩
      · have ht : (((S : Int) % 2) == 1) = false := by simp; omega
        have HF := Lib.hid (show fac p qs x y = O by simp only [fac, sgn]; rw [HN.out, ← hkd, ← HS.out, if_neg hodd, ← HO.out])
        clear hkd hodd
        go_wp2_with (fail)
        go_ret
        exact ⟨ret_int HF.out.symm, G1.out.trans hext⟩

/-! ### The reference's way: it turns the first mask as it goes -/
def aS (a b : Nat) : Nat → Nat
  | 0 => a
  | k + 1 => if b.testBit k then aS a b k ^^^ (1 <<< k) else aS a b k
theorem aS_all (a b k : Nat) (ha : a < 64) (hb : b < 64) (hk : k < 6) : aS a b k < 64 ∧ aS a b k >>> (k + 1) = a >>> (k + 1) ∧ (aS a b k).testBit k = a.testBit k := by
  have : ∀ a : Nat, a < 64 → ∀ b : Nat, b < 64 → ∀ k : Nat, k < 6 → aS a b k < 64 ∧ aS a b k >>> (k + 1) = a >>> (k + 1) ∧ (aS a b k).testBit k = a.testBit k := by decide +kernel
  exact this a ha b hb k hk

theorem aS_no {a b k : Nat} (h : b.testBit k = false) : aS a b (k + 1) = aS a b k := by simp [aS, h]
theorem aS_yes {a b k : Nat} (h : b.testBit k = true) : aS a b (k + 1) = aS a b k ^^^ (1 <<< k) := by simp [aS, h]
theorem xor_i (A k : Nat) (hA : A < 64) (hk : k < 6) : bits BinOp.xor IntKind.i64 (A : Int) (IntKind.i64.wrap (2 ^ k)) = ((A ^^^ (1 <<< k) : Nat) : Int) := by
  have : ∀ A : Nat, A < 64 → ∀ k : Nat, k < 6 → bits BinOp.xor IntKind.i64 (A : Int) (IntKind.i64.wrap (2 ^ k)) = ((A ^^^ (1 <<< k) : Nat) : Int) := by decide +kernel
  exact this A hA k hk
theorem xor_i' (A k : Nat) (hA : A < 64) (hk : k < 6) : bits BinOp.xor IntKind.i64 (A : Int) (wrap64 (2 ^ k)) = ((A ^^^ (1 <<< k) : Nat) : Int) := by
  have : ∀ A : Nat, A < 64 → ∀ k : Nat, k < 6 → bits BinOp.xor IntKind.i64 (A : Int) (wrap64 (2 ^ k)) = ((A ^^^ (1 <<< k) : Nat) : Int) := by decide +kernel
  exact this A hA k hk
theorem shr_i (A k : Nat) : (A : Int) / 2 ^ (k + 1) = ((A >>> (k + 1) : Nat) : Int) := by
  rw [Nat.shiftRight_eq_div_pow]; simp
theorem sgn_odd {p o : Int} {s g : Nat} (hg : g % 2 = 1) (h0 : 0 ≤ o) (h1 : o < p) : sgn p (s + g) o = (p - sgn p s o) % p := by
  unfold sgn
  by_cases hs : s % 2 = 1
  · rw [if_neg (by omega), if_pos hs, Int.sub_emod_emod, Int.sub_neg, Int.add_emod_left, Int.emod_eq_of_lt h0 h1]
  · rw [if_pos (by omega), if_neg hs, Int.sub_eq_add_neg, Int.add_emod_left]
theorem sgn_even {p o : Int} {s g : Nat} (hg : ¬ g % 2 = 1) : sgn p (s + g) o = sgn p s o := by
  unfold sgn
  by_cases hs : s % 2 = 1
  · rw [if_pos (by omega), if_pos hs]
  · rw [if_neg (by omega), if_neg hs]
theorem sgn_mul {p o q : Int} {s : Nat} : sgn p s (o * q % p) = sgn p s o * q % p := by
  unfold sgn
  by_cases hs : s % 2 = 1
  · rw [if_pos hs, if_pos hs]
    rw [Int.mul_emod ((-o) % p), Int.emod_emod, ← Int.mul_emod, Int.neg_mul]
    have := Int.sub_emod_emod 0 (o * q) p
    simpa using this
  · rw [if_neg hs, if_neg hs]

end Go.Proofs.Ytcocbainookkcaa
