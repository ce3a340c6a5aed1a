/-
  Regions that draw their order of evaluation, walked once in the order of the text: every operation is shown in whatever world extends the region's first one, and what it hands on is said by a predicate that stays true when the world is extended.
  No condition. General over every program.
-/
import Derived.StillTail
import Derived.WalkKit
namespace Go.Proofs.YtdccileoiiafmaaDoor
set_option maxRecDepth 100000
open Go.RowKit

/-- The world has only been extended: what was there is as it was. -/
abbrev Ext (w w' : World) : Prop := Below w.heap.size w w'

theorem Ext.refl (w : World) : Ext w w := Below.refl _ _
theorem Ext.trans {a b c : World} (h : Ext a b) (k : Ext b c) : Ext a c := Below.trans h (Below.mono k h.size)
theorem Ext.alloc {a b : World} (h : Ext a b) (o : Obj) : Ext a (b.alloc o) := Below.alloc h h.size o
theorem Ext.drew {a b : World} (h : Ext a b) : Ext a b.drew := Below.drew h
theorem Ext.cell {w w' : World} (h : Ext w w') {p : Addr} {v : Value} (hc : w.cell? p = some v) : w'.cell? p = some v :=
  (Below.cell h (World.block_lt_of_cell? w p hc)).trans hc
theorem Ext.heap {w w' : World} (h : Ext w w') {k : Nat} {o : Obj} (hc : w.heap[k]? = some o) : w'.heap[k]? = some o := by
  have : k < w.heap.size := by
    rcases Nat.lt_or_ge k w.heap.size with h1 | h1
    · exact h1
    · rw [Array.getElem?_eq_none h1] at hc; cases hc
  exact (h.block k this).trans hc

/-- What is said of a value in a world, and stays true when the world is extended. -/
structure SPred where
  holds : Value → World → Prop
  st : ∀ v w w', holds v w → Ext w w' → holds v w'

/-- This very value. -/
def SPred.val (v0 : Value) : SPred := ⟨fun v _ => v = v0, fun _ _ _ h _ => h⟩

section
variable {P : Program} {ops : Array Oper} {md : Region.Mode}

/-- One operation hands on a value, in a world, of which R holds; it does not panic. -/
def wpS (P : Program) (o : Oper) (a : Act) (w : World) (R : Value → World → Prop) : Prop :=
  match (execOp a.eval o).run P w with
  | .ok (.value v) w' => R v w'
  | .ok .skip w' => R undef w'
  | .ok (.enter f args) w' => Calls P f args w' fun e w'' => ∃ v, e = .returned v ∧ R v w''
  | _ => False

theorem wpS_some {o : Oper} {a : Act} {w : World} {R : Value → World → Prop} (h : wpS P o a w R) : ∃ v w', R v w' := by
  unfold wpS at h
  split at h
  · exact ⟨_, _, h⟩
  · exact ⟨_, _, h⟩
  · obtain ⟨e, w', fr, ⟨v, _, hr⟩, _⟩ := h []
    exact ⟨_, _, hr⟩
  · exact h.elim

theorem wp_of_wpS {o : Oper} {a : Act} {w : World} {R : Value → World → Prop} {K : Act → World → Prop} {Q : Exit → Act → World → Prop} (h : wpS P o a w R) (hk : ∀ v w', R v w' → K (a.put o.dst v) w') : o.wp P a w K Q := by
  unfold wpS at h
  unfold Oper.wp
  split at h
  · rename_i hr; rw [hr]; exact hk _ _ h
  · rename_i hr; rw [hr]; exact hk _ _ h
  · rename_i hr; rw [hr]
    exact Calls.mono h fun e w'' ⟨v, he, hr⟩ => by subst he; exact hk _ _ hr
  · exact h.elim

/-- The temporaries that operation i reads and that an earlier operation of the region writes. -/
def depsOf (ops : Array Oper) (i : Nat) : List (Nat × Tmp) :=
  match ops[i]? with
  | none => []
  | some o => (List.range i).filterMap fun d => match (ops[d]?).bind (·.dst) with
      | some t => if (o.looksAt ops).contains t then some (d, t) else none
      | none => none

theorem depsOf_spec {i d : Nat} {t : Tmp} {o : Oper} (ho : ops[i]? = some o) (h : (d, t) ∈ depsOf ops i) : t ∈ o.looksAt ops ∧ ∃ od, ops[d]? = some od ∧ od.dst = some t := by
  simp only [depsOf, ho, List.mem_filterMap, List.mem_range] at h
  obtain ⟨d', _, hd⟩ := h
  split at hd
  · rename_i t' ht'
    split at hd
    · rename_i hc
      simp only [Option.some.injEq, Prod.mk.injEq] at hd
      obtain ⟨rfl, rfl⟩ := hd
      refine ⟨by simpa using hc, ?_⟩
      cases hod : ops[d']? with
      | none => simp [hod] at ht'
      | some od => exact ⟨od, rfl, by simpa [hod] using ht'⟩
    · cases hd
  · cases hd

/-- What is said of a value: nothing, where none was given. -/
def holdsO (s : Option SPred) (v : Value) (w : World) : Prop := match s with | none => True | some p => p.holds v w
theorem holdsO.ext {s : Option SPred} {v : Value} {w w' : World} (h : holdsO s v w) (he : Ext w w') : holdsO s v w' := by
  cases s with
  | none => trivial
  | some p => exact p.st _ _ _ h he

def Dep (sp : Nat → Option SPred) (l : List (Nat × Tmp)) (a : Act) (w : World) : Prop := ∀ p ∈ l, holdsO (sp p.1) (a.tmps.getD p.2 undef) w
def DepIn (env : List (Nat × Value)) (l : List (Nat × Tmp)) (a : Act) : Prop := ∀ p ∈ l, (p.1, a.tmps.getD p.2 undef) ∈ env
/-- All that is known of the values so far. -/
def Known (sp : Nat → Option SPred) (env : List (Nat × Value)) (w : World) : Prop := ∀ p ∈ env, holdsO (sp p.1) p.2 w

theorem Known.dep {sp : Nat → Option SPred} {env : List (Nat × Value)} {w : World} (h : Known sp env w) {l : List (Nat × Tmp)} {a : Act} (hd : DepIn env l a) : Dep sp l a w := fun p hp => h _ (hd p hp)
theorem Known.ext {sp : Nat → Option SPred} {env : List (Nat × Value)} {w w' : World} (h : Known sp env w) (he : Ext w w') : Known sp env w' := fun p hp => (h p hp).ext he
theorem Known.cons {sp : Nat → Option SPred} {env : List (Nat × Value)} {w : World} (h : Known sp env w) {i : Nat} {v : Value} (hv : holdsO (sp i) v w) : Known sp ((i, v) :: env) w := fun p hp => by
  rcases List.mem_cons.1 hp with rfl | hp
  · exact hv
  · exact h p hp

theorem getD_put {a : Act} {dst : Option Tmp} {v : Value} {t : Tmp} (h : ∀ d, dst = some d → d ≠ t) : (a.put dst v).tmps.getD t undef = a.tmps.getD t undef := by
  cases dst with
  | none => rfl
  | some d => simp [Act.put, Array.getElem?_setIfInBounds_ne (h d rfl)]

variable (P ops) in
/-- The operation yields this very value in every world that extends the first one (or is passed over). -/
def Sure (w0 : World) (o : Oper) (a : Act) (v : Value) : Prop :=
  (Region.wanted o (yielded ops a.tmps) = true ∧ ∀ w, Ext w0 w → (execOp a.eval o).run P w = .ok (.value v) w) ∨ (Region.wanted o (yielded ops a.tmps) = false ∧ v = undef)

theorem Sure.uniq {w0 : World} {o : Oper} {a : Act} {v v' : Value} (h : Sure P ops w0 o a v) (h' : Sure P ops w0 o a v') : v = v' := by
  rcases h with ⟨hw, hr⟩ | ⟨hw, rfl⟩ <;> rcases h' with ⟨hw', hr'⟩ | ⟨hw', rfl⟩
  · have h1 := hr w0 (Ext.refl _)
    have h2 := hr' w0 (Ext.refl _)
    rw [h1] at h2
    simpa using h2
  · rw [hw] at hw'; cases hw'
  · rw [hw] at hw'; cases hw'
  · rfl

variable (P ops) in
/-- Operation i can be carried out in a state. -/
def Can (w0 : World) (sp : Nat → Option SPred) (i : Nat) (o : Oper) (a : Act) (env : List (Nat × Value)) : Prop :=
  match sp i with
  | none => ∃ v, Sure P ops w0 o a v
  | some p => Region.wanted o (yielded ops a.tmps) = true ∧ DepIn env (depsOf ops i) a ∧ ∀ w, Ext w0 w → Dep sp (depsOf ops i) a w → wpS P o a w fun v w' => Ext w w' ∧ p.holds v w'

variable (P ops) in
/-- What it may yield. -/
def Res (w0 : World) (sp : Nat → Option SPred) (i : Nat) (o : Oper) (a : Act) (env : List (Nat × Value)) (v : Value) : Prop :=
  match sp i with
  | none => Sure P ops w0 o a v
  | some p => ∃ w, Ext w0 w ∧ Known sp env w ∧ p.holds v w

theorem wpS_put {w : World} {R : Value → World → Prop} {oj : Oper} (hs : ∀ cs b, oj.op ≠ .select cs b) (a : Act) (dst : Option Tmp) (v : Value) (h : ∀ d, dst = some d → d ∉ oj.looksAt ops) : wpS P oj (a.put dst v) w R = wpS P oj a w R := by
  unfold wpS; rw [execOp_put oj hs a dst v h]

theorem Sure_put {w0 : World} {oj : Oper} (hs : ∀ cs b, oj.op ≠ .select cs b) (a : Act) (dst : Option Tmp) (v u : Value) (h : ∀ d, dst = some d → d ∉ oj.looksAt ops) : Sure P ops w0 oj (a.put dst v) u ↔ Sure P ops w0 oj a u := by
  unfold Sure; rw [execOp_put oj hs a dst v h, wanted_put (ops := ops) oj a dst v h]

theorem Dep_put {sp : Nat → Option SPred} {j : Nat} {oj : Oper} (hj : ops[j]? = some oj) (a : Act) (dst : Option Tmp) (v : Value) (w : World) (h : ∀ d, dst = some d → d ∉ oj.looksAt ops) :
    Dep sp (depsOf ops j) (a.put dst v) w ↔ Dep sp (depsOf ops j) a w := by
  constructor
  · intro hd p hp
    have := hd p hp
    rwa [getD_put (fun d he hdt => h d he (by rw [hdt]; exact (depsOf_spec hj hp).1))] at this
  · intro hd p hp
    rw [getD_put (fun d he hdt => h d he (by rw [hdt]; exact (depsOf_spec hj hp).1))]
    exact hd p hp

section
variable {w0 : World} {sp : Nat → Option SPred} {i j : Nat} {oi oj : Oper} {a : Act} {v vj : Value} {env : List (Nat × Value)}

/-- What can be carried out behind i, apart from it, can be carried out ahead of it. -/
theorem Can.back (hi : ops[i]? = some oi) (hj : ops[j]? = some oj) (hap : oi.apart ops oj = true)
    (hsj : ∀ cs b, oj.op ≠ .select cs b) (h : Can P ops w0 sp j oj (a.put oi.dst v) ((i, v) :: env)) : Can P ops w0 sp j oj a env := by
  obtain ⟨h1, h2, h3⟩ := Oper.apart_spec hap
  unfold Can at *
  cases hsp : sp j with
  | none =>
    rw [hsp] at h
    obtain ⟨u, hu⟩ := h
    exact ⟨u, (Sure_put hsj a oi.dst v u h1).1 hu⟩
  | some p =>
    rw [hsp] at h
    obtain ⟨hw, hd, hr⟩ := h
    rw [wanted_put (ops := ops) oj a oi.dst v h1] at hw
    refine ⟨hw, fun q hq => ?_, fun w he hdp => ?_⟩
    · have hin := hd q hq
      obtain ⟨hl, od, hod, hdt⟩ := depsOf_spec hj hq
      rw [getD_put (fun d he hdd => h1 d he (by rw [hdd]; exact hl))] at hin
      rcases List.mem_cons.1 hin with heq | hin
      · have : q.1 = i := congrArg Prod.fst heq
        rw [this, hi] at hod
        obtain rfl := Option.some.inj hod
        exact absurd hl (h1 _ hdt)
      · exact hin
    · have := hr w he ((Dep_put hj a oi.dst v w h1).2 hdp)
      rwa [wpS_put hsj a oi.dst v h1] at this

theorem Can.fore (hi : ops[i]? = some oi) (hap : oi.apart ops oj = true)
    (hsi : ∀ cs b, oi.op ≠ .select cs b) (h : Can P ops w0 sp i oi a env) : Can P ops w0 sp i oi (a.put oj.dst v) ((j, v) :: env) := by
  obtain ⟨h1, h2, h3⟩ := Oper.apart_spec hap
  unfold Can at *
  cases hsp : sp i with
  | none =>
    rw [hsp] at h
    obtain ⟨u, hu⟩ := h
    exact ⟨u, (Sure_put hsi a oj.dst v u h3).2 hu⟩
  | some p =>
    rw [hsp] at h
    obtain ⟨hw, hd, hr⟩ := h
    rw [← wanted_put (ops := ops) oi a oj.dst v h3] at hw
    refine ⟨hw, fun q hq => ?_, fun w he hdp => ?_⟩
    · obtain ⟨hl, od, hod, hdt⟩ := depsOf_spec hi hq
      rw [getD_put (fun d he hdd => h3 d he (by rw [hdd]; exact hl))]
      exact List.mem_cons_of_mem _ (hd q hq)
    · have := hr w he ((Dep_put hi a oj.dst v w h3).1 hdp)
      rwa [wpS_put hsi a oj.dst v h3]

theorem Res.joint (hap : oi.apart ops oj = true) (hsi : ∀ cs b, oi.op ≠ .select cs b) (hsj : ∀ cs b, oj.op ≠ .select cs b)
    (h1 : Res P ops w0 sp j oj a env vj) (h2 : Res P ops w0 sp i oi (a.put oj.dst vj) ((j, vj) :: env) v) :
    Res P ops w0 sp i oi a env v ∧ Res P ops w0 sp j oj (a.put oi.dst v) ((i, v) :: env) vj := by
  obtain ⟨g1, g2, g3⟩ := Oper.apart_spec hap
  unfold Res at *
  cases hpi : sp i with
  | none =>
    rw [hpi] at h2
    refine ⟨(Sure_put hsi a oj.dst vj v g3).1 h2, ?_⟩
    cases hpj : sp j with
    | none => rw [hpj] at h1; exact (Sure_put hsj a oi.dst v vj g1).2 h1
    | some q =>
      rw [hpj] at h1
      obtain ⟨w, he, hk, hv⟩ := h1
      exact ⟨w, he, hk.cons (by rw [hpi]; trivial), hv⟩
  | some p =>
    rw [hpi] at h2
    obtain ⟨w, he, hk, hv⟩ := h2
    have hk' : Known sp env w := fun q hq => hk q (List.mem_cons_of_mem _ hq)
    refine ⟨⟨w, he, hk', hv⟩, ?_⟩
    cases hpj : sp j with
    | none => rw [hpj] at h1; exact (Sure_put hsj a oi.dst v vj g1).2 h1
    | some q =>
      have hq := hk (j, vj) List.mem_cons_self
      simp only [hpj] at hq
      exact ⟨w, he, hk'.cons (by rw [hpi]; exact hv), hq⟩

theorem Can.some_res (h : Can P ops w0 sp i oi a env) (hsat : ∃ w, Ext w0 w ∧ Known sp env w) : ∃ v, Res P ops w0 sp i oi a env v := by
  unfold Can at h
  unfold Res
  cases hp : sp i with
  | none => rw [hp] at h; exact h
  | some p =>
    rw [hp] at h
    obtain ⟨hw, hd, hr⟩ := h
    obtain ⟨w, he, hk⟩ := hsat
    obtain ⟨v, w', he', hv⟩ := wpS_some (hr w he (hk.dep hd))
    exact ⟨v, w', he.trans he', hk.ext he', hv⟩

theorem Res.sat (h : Res P ops w0 sp i oi a env v) (hsat : ∃ w, Ext w0 w ∧ Known sp env w) : ∃ w, Ext w0 w ∧ Known sp ((i, v) :: env) w := by
  unfold Res at h
  cases hp : sp i with
  | none =>
    obtain ⟨w, he, hk⟩ := hsat
    exact ⟨w, he, hk.cons (by rw [hp]; trivial)⟩
  | some p =>
    rw [hp] at h
    obtain ⟨w, he, hk, hv⟩ := h
    exact ⟨w, he, hk.cons (by rw [hp]; exact hv)⟩

theorem Res.weak {env' : List (Nat × Value)} (hs : ∀ p ∈ env, p ∈ env') (h : Res P ops w0 sp i oi a env' v) : Res P ops w0 sp i oi a env v := by
  unfold Res at *
  cases hp : sp i with
  | none => rw [hp] at h; exact h
  | some p =>
    rw [hp] at h
    obtain ⟨w, he, hk, hv⟩ := h
    exact ⟨w, he, fun q hq => hk q (hs q hq), hv⟩
theorem Can.weak {env' : List (Nat × Value)} (hs : ∀ p ∈ env, p ∈ env') (h : Can P ops w0 sp i oi a env) : Can P ops w0 sp i oi a env' := by
  unfold Can at *
  cases hp : sp i with
  | none => rw [hp] at h; exact h
  | some p =>
    rw [hp] at h
    exact ⟨h.1, fun q hq => hs _ (h.2.1 q hq), h.2.2⟩
end

variable (P ops md) in
/-- Whatever order is picked, till the first n have been carried out. -/
def AnyR (w0 : World) (sp : Nat → Option SPred) (n : Nat) (L : Array Bool → Act → World → Prop) : Nat → Array Bool → Act → List (Nat × Value) → Prop
  | 0, listed, a, env => ∀ w, Ext w0 w → Known sp env w → L listed a w
  | f + 1, listed, a, env => Region.ready md ops listed ≠ [] ∧ ∀ i ∈ Region.ready md ops listed, i < n ∧ ∀ o, ops[i]? = some o →
      Can P ops w0 sp i o a env ∧ ∀ v, Res P ops w0 sp i o a env v → AnyR w0 sp n L f (listed.setIfInBounds i true) (a.put o.dst v) ((i, v) :: env)

theorem AnyR.env {w0 : World} {sp : Nat → Option SPred} {n : Nat} {L : Array Bool → Act → World → Prop} : ∀ (f : Nat) (listed : Array Bool) (a : Act) (env env' : List (Nat × Value)), (∀ p ∈ env, p ∈ env') →
    AnyR P ops md w0 sp n L f listed a env → AnyR P ops md w0 sp n L f listed a env'
  | 0, _, _, _, _, hs, h => fun w he hk => h w he fun p hp => hk p (hs p hp)
  | f + 1, listed, a, env, env', hs, h => ⟨h.1, fun i hi => ⟨(h.2 i hi).1, fun o ho => by
      obtain ⟨hc, hr⟩ := (h.2 i hi).2 o ho
      refine ⟨Can.weak hs hc, fun v hv => ?_⟩
      exact AnyR.env f _ _ _ _ (fun p hp => by
        rcases List.mem_cons.1 hp with rfl | hp
        · exact List.mem_cons_self
        · exact List.mem_cons_of_mem _ (hs p hp)) (hr v (Res.weak hs hv))⟩⟩

theorem AnyR.sound {w0 : World} {sp : Nat → Option SPred} {n g : Nat} {L : Array Bool → Act → World → Prop} {Q : Exit → Act → World → Prop} (hL : ∀ listed a w, L listed a w → wpAny P md ops Q g listed a w) :
    ∀ (f : Nat) (listed : Array Bool) (a : Act) (env : List (Nat × Value)) (w : World), Ext w0 w → Known sp env w → AnyR P ops md w0 sp n L f listed a env → wpAny P md ops Q (f + g) listed a w
  | 0, _, _, _, w, he, hk, h => by rw [Nat.zero_add]; exact hL _ _ _ (h w he hk)
  | f + 1, listed, a, env, w, he, hk, h => by
    rw [show f + 1 + g = (f + g) + 1 by omega]
    refine ⟨fun h0 => absurd h0 h.1, fun i hi => ?_⟩
    unfold wpOp
    split
    · rename_i hn
      obtain ⟨_, o, ho, _⟩ := mem_ready.1 hi
      rw [hn] at ho; cases ho
    · rename_i o ho
      obtain ⟨hc, hr⟩ := (h.2 i hi).2 o ho
      unfold Can at hc
      cases hp : sp i with
      | none =>
        rw [hp] at hc
        obtain ⟨v, hv⟩ := hc
        have hk' : Known sp ((i, v) :: env) w := hk.cons (by rw [hp]; trivial)
        have hres : Res P ops w0 sp i o a env v := by unfold Res; rw [hp]; exact hv
        have hnext := AnyR.sound hL f _ _ _ w he hk' (hr v hres)
        rcases hv with ⟨hw, hrun⟩ | ⟨hw, rfl⟩
        · rw [if_pos hw]
          refine .inl ?_
          unfold Oper.wp
          rw [hrun w he]
          exact hnext
        · rw [if_neg (by rw [hw]; decide)]
          exact hnext
      | some p =>
        rw [hp] at hc
        obtain ⟨hw, hd, hrr⟩ := hc
        rw [if_pos hw]
        refine .inl (wp_of_wpS (hrr w he (hk.dep hd)) fun v w' ⟨he', hv⟩ => ?_)
        exact AnyR.sound hL f _ _ _ w' (he.trans he') ((hk.ext he').cons (by rw [hp]; exact hv)) (hr v (by unfold Res; rw [hp]; exact ⟨w', he.trans he', hk.ext he', hv⟩))

theorem AnyR.first {w0 : World} {sp : Nat → Option SPred} {n i : Nat} {oi : Oper} {L : Array Bool → Act → World → Prop} (hi : ops[i]? = some oi) (hsel : ∀ (j : Nat) (o : Oper) cs b, ops[j]? = some o → o.op ≠ .select cs b)
    (hlt : ∀ listed, HeadInv md ops n listed → listed.getD i true = false → ∀ j ∈ Region.ready md ops listed, j < n)
    (hdone : ∀ listed a w, L listed a w → ∀ j ∈ Region.ready md ops listed, n ≤ j) :
    ∀ (f : Nat) (listed : Array Bool) (a : Act) (env : List (Nat × Value)), HeadInv md ops n listed →
      (∀ j oj, ops[j]? = some oj → j ≠ i → listed.getD j true = false → (∀ e ∈ oj.after, Region.binds md e = true → e.on ≠ i) → oi.apart ops oj = true) →
      i ∈ Region.ready md ops listed → (∃ w, Ext w0 w ∧ Known sp env w) → Can P ops w0 sp i oi a env →
      (∀ v, Res P ops w0 sp i oi a env v → AnyR P ops md w0 sp n L f (listed.setIfInBounds i true) (a.put oi.dst v) ((i, v) :: env)) →
      AnyR P ops md w0 sp n L (f + 1) listed a env := by
  intro f
  induction f with
  | zero =>
    intro listed a env inv _ hr hsat hc H
    have hun := (mem_ready.1 hr).1
    refine ⟨fun h => (by rw [h] at hr; cases hr), fun j hj => ⟨hlt listed inv hun j hj, fun oj hoj => ?_⟩⟩
    by_cases hji : j = i
    · subst hji
      obtain rfl := Option.some.inj (hi.symm.trans hoj)
      exact ⟨hc, H⟩
    · exfalso
      obtain ⟨v, hv⟩ := hc.some_res hsat
      obtain ⟨w, he, hk⟩ := hv.sat hsat
      have h0 := H v hv w he hk
      have h1 := hdone _ _ _ h0 j (ready_mono hj hji)
      have h2 := hlt listed inv hun j hj
      omega
  | succ f ih =>
    intro listed a env inv hfree hr hsat hc H
    have hun := (mem_ready.1 hr).1
    refine ⟨fun h => (by rw [h] at hr; cases hr), fun j hj => ⟨hlt listed inv hun j hj, fun oj hoj => ?_⟩⟩
    by_cases hji : j = i
    · subst hji
      obtain rfl := Option.some.inj (hi.symm.trans hoj)
      exact ⟨hc, H⟩
    · obtain ⟨hjun, oj', hoj', hall⟩ := mem_ready.1 hj
      obtain rfl := Option.some.inj (hoj.symm.trans hoj')
      have hjn := hlt listed inv hun j hj
      have hnot : ∀ e ∈ oj.after, Region.binds md e = true → e.on ≠ i := fun e he hb heq => by
        have h1 := hall e he hb
        rw [heq, getD_both hun] at h1
        cases h1
      have hap := hfree j oj hoj hji hjun hnot
      obtain ⟨h1, h2, h3⟩ := Oper.apart_spec hap
      have hsi : ∀ cs b, oi.op ≠ .select cs b := fun cs b => hsel i oi cs b hi
      have hsj : ∀ cs b, oj.op ≠ .select cs b := fun cs b => hsel j oj cs b hoj
      obtain ⟨v0, hv0⟩ := hc.some_res hsat
      have hcj := ((H v0 hv0).2 j (ready_mono hj hji)).2 oj hoj
      refine ⟨hcj.1.back hi hoj hap hsj, fun vj hvj => ?_⟩
      refine ih (listed.setIfInBounds j true) (a.put oj.dst vj) ((j, vj) :: env) (inv.set hj hjn) ?_ (ready_mono hr (Ne.symm hji)) (hvj.sat hsat) (hc.fore hi hap hsi) ?_
      · intro k ok hk hki hun' hno
        refine hfree k ok hk hki ?_ hno
        by_cases hjk : j = k
        · subst hjk; exact hjun
        · rw [getD_set_ne true hjk] at hun'; exact hun'
      · intro v hv
        obtain ⟨hv1, hvj1⟩ := Res.joint hap hsi hsj hvj hv
        have := (((H v hv1).2 j (ready_mono hj hji)).2 oj hoj).2 vj hvj1
        rw [Array.setIfInBounds_comm _ _ hji, ← Act.put_comm a v vj h2]
        refine AnyR.env _ _ _ _ _ ?_ this
        intro p hp
        rcases List.mem_cons.1 hp with rfl | hp
        · exact List.mem_cons_of_mem _ List.mem_cons_self
        · rcases List.mem_cons.1 hp with rfl | hp
          · exact List.mem_cons_self
          · exact List.mem_cons_of_mem _ (List.mem_cons_of_mem _ hp)

variable (P ops) in
/-- The walk in the order of the text. -/
def LexR (w0 : World) (sp : Nat → Option SPred) (Q : Act → World → Prop) : List Oper → Nat → Act → List (Nat × Value) → Prop
  | [], _, a, env => ∀ w, Ext w0 w → Known sp env w → Q a w
  | o :: l, k, a, env => Can P ops w0 sp k o a env ∧ ∀ v, Res P ops w0 sp k o a env v → LexR w0 sp Q l (k + 1) (a.put o.dst v) ((k, v) :: env)

theorem LexR.any {w0 : World} {sp : Nat → Option SPred} {n : Nat} {B : Array Bool → Bool} {Lq : Act → World → Prop} (hsel : Region.noSelect ops = true)
    (hlt : ∀ i, i < n → ∀ listed, HeadInv md ops n listed → listed.getD i true = false → ∀ j ∈ Region.ready md ops listed, j < n)
    (hdone : ∀ listed, B listed = true → ∀ j ∈ Region.ready md ops listed, n ≤ j)
    (hd : Nat → Nat → Array Bool → Bool) (h0 : ∀ listed, hd 0 n listed = true → B listed = true)
    (h1 : ∀ f k listed, hd (f + 1) k listed = true → ((Region.ready md ops listed).contains k = true ∧ Region.free md ops listed k = true) ∧ hd f (k + 1) (listed.setIfInBounds k true) = true) :
    ∀ (l : List Oper) (k : Nat) (listed : Array Bool) (a : Act) (env : List (Nat × Value)), (∀ j, j < l.length → l[j]? = ops[k + j]?) → k + l.length = n → HeadInv md ops n listed →
    (∃ w, Ext w0 w ∧ Known sp env w) → hd l.length k listed = true → LexR P ops w0 sp Lq l k a env →
    AnyR P ops md w0 sp n (fun listed' a' w' => B listed' = true ∧ Lq a' w') l.length listed a env
  | [], k, listed, a, env, _, hk0, _, _, hB, h => fun w he hk => ⟨h0 _ (by obtain rfl : k = n := (by simpa using hk0); exact hB), h w he hk⟩
  | o :: l, k, listed, a, env, hl, hk, inv, hsat, hB, h => by
    have ho : ops[k]? = some o := by simpa using (hl 0 (by simp)).symm
    obtain ⟨⟨hr, hf⟩, hB'⟩ := h1 _ _ _ (by simpa using hB)
    have hkn : k < n := by simp only [List.length_cons] at hk; omega
    have hr' : k ∈ Region.ready md ops listed := by simpa using hr
    exact AnyR.first ho (Region.noSelect_spec hsel) (hlt k hkn) (fun listed' a' w' hL => hdone _ hL.1) l.length listed a env inv (Region.free_spec ho hf) hr' hsat h.1
      fun v hv => LexR.any hsel hlt hdone hd h0 h1 l (k + 1) _ _ _ (fun j hj => by have := hl (j + 1) (by simp; omega); simpa [Nat.add_assoc, Nat.add_comm 1 j] using this) (by simp only [List.length_cons] at hk; omega) (inv.set hr' hkn)
        (hv.sat hsat) hB' (h.2 v hv)

theorem headInv0 (l : List Oper) (n : Nat) : HeadInv md l.toArray n (Array.replicate l.toArray.size false) :=
  ⟨by simp, fun j oj _ hl => (by rw [getD_replicate_false] at hl; cases hl), fun t _ ht => getD_in (by simpa using ht) (getD_replicate_false _ _)⟩

/-- A region that draws its order, all of whose operations only extend the world. -/
theorem wp_region_rel {id : Nat} {Q : Exit → Act → World → Prop} {a : Act} {w : World} {l : List Oper} (sp : Nat → Option SPred) (hm : P.follows .mixedOrders = true) (hB : Region.lexB .any l.toArray = true)
    (h : LexR P l.toArray w.drew sp (fun a' w' => Q .normal a' w') l 0 a []) : (Code.region id l.toArray true).wp P Q a w := by
  simp only [Region.lexB, Bool.and_eq_true] at hB
  have H := LexR.any (md := .any) (n := l.toArray.size) (B := fun listed => (Region.ready .any l.toArray listed).isEmpty) hB.1
    (fun i _ listed _ _ j hj => by obtain ⟨_, o, ho, _⟩ := mem_ready.1 hj; exact (Array.getElem?_eq_some_iff.1 ho).1)
    (fun listed hb j hj => by simp only [List.isEmpty_iff] at hb; rw [hb] at hj; cases hj)
    (fun f k listed => Region.lexFrom .any l.toArray f k listed) (fun listed hh => by simpa [Region.lexFrom] using hh)
    (fun f k listed hh => by simpa [Region.lexFrom] using hh) l 0 _ a [] (by simp) (by simp) (headInv0 l _) ⟨w.drew, Ext.refl _, fun p hp => by cases hp⟩ (by simpa using hB.2) h
  refine wp_region_any hm ?_
  have := AnyR.sound (Q := Q) (g := 0) (fun listed a' w' hL => (⟨by simpa using hL.1, hL.2⟩ : wpAny P .any l.toArray Q 0 listed a' w')) _ _ _ _ w.drew (Ext.refl _) (fun p hp => by cases hp) H
  simpa using this

/-- .. whose operations from number n on go one after another behind all others. -/
theorem wp_region_rel_tail {id : Nat} {Q : Exit → Act → World → Prop} {a : Act} {w : World} {l : List Oper} (n : Nat) (sp : Nat → Option SPred) (hm : P.follows .mixedOrders = true) (hB : Region.lexTailB .any l.toArray n = true)
    (h : LexR P l.toArray w.drew sp (fun a' w' => wpList P l.toArray Q (l.drop n) a' w') (l.take n) 0 a []) : (Code.region id l.toArray true).wp P Q a w := by
  simp only [Region.lexTailB, Bool.and_eq_true, decide_eq_true_eq] at hB
  obtain ⟨⟨⟨⟨hsel, hn⟩, hs⟩, hc⟩, hlex⟩ := hB
  have hn' : n < l.length := by simpa using hn
  have htl : (l.take n).length = n := by simp; omega
  have hdl : (l.drop n).length = l.toArray.size - n := by simp
  have H := LexR.any (md := .any) (n := n) (B := fun listed => Region.seqB .any l.toArray (l.toArray.size - n) n listed) hsel
    (fun i hin listed inv hun j hj => by
      rcases Nat.lt_or_ge j n with h | h
      · exact h
      · exact absurd hj (tail_waits hs hc hn inv _ i rfl hin hun j h))
    (fun listed hb => seqB_ready hb)
    (fun f k listed => Region.lexHead .any l.toArray (l.toArray.size - n) f k listed) (fun listed hh => by simpa [Region.lexHead] using hh)
    (fun f k listed hh => by simpa [Region.lexHead] using hh) (l.take n) 0 _ a [] (fun j hj => by
      have hj' : j < n := by rw [htl] at hj; exact hj
      simp [hj']) (by simpa using htl) (headInv0 l _) ⟨w.drew, Ext.refl _, fun p hp => by cases hp⟩ (by rw [htl]; exact hlex) h
  refine wp_region_any hm ?_
  have := AnyR.sound (Q := Q) (g := l.toArray.size - n) (fun listed a' w' hL => by
    have := wpAny_of_seq (md := .any) (Q' := Q) (l.drop n) n listed a' w' (fun j => by simp [List.getElem?_drop]) (by rw [hdl]; exact hL.1) hL.2
    rwa [hdl] at this) _ _ _ _ w.drew (Ext.refl _) (fun p hp => by cases hp) H
  rw [htl, show n + (l.toArray.size - n) = l.toArray.size by omega] at this
  exact this
end

/-! ### The walk without the bookkeeping -/

/-- No temporary that is read is written twice ahead of its reader. -/
def ssaB (ops : Array Oper) : Bool :=
  (List.range ops.size).all fun k => (depsOf ops k).all fun p => (List.range k).all fun d => decide (d ≤ p.1) || ((ops[d]?).bind (·.dst)) != some p.2
def dstB (ops : Array Oper) (n : Nat) : Bool := ops.all fun o => match o.dst with | some d => decide (d < n) | none => true

section
variable {P : Program} {ops : Array Oper}

variable (P ops) in
def LexW (w0 : World) (sp : Nat → Option SPred) (Q : Act → World → Prop) : List Oper → Nat → Act → List (Nat × Value) → Prop
  | [], _, a, env => ∀ w, Ext w0 w → Known sp env w → Q a w
  | o :: l, k, a, env => match sp k with
    | none => ∃ v, Sure P ops w0 o a v ∧ LexW w0 sp Q l (k + 1) (a.put o.dst v) ((k, v) :: env)
    | some p => Region.wanted o (yielded ops a.tmps) = true ∧ (∀ w, Ext w0 w → Dep sp (depsOf ops k) a w → wpS P o a w fun v w' => Ext w w' ∧ p.holds v w') ∧
        ∀ v, (∃ w, p.holds v w) → LexW w0 sp Q l (k + 1) (a.put o.dst v) ((k, v) :: env)

structure LexInv (ops : Array Oper) (n k : Nat) (a : Act) (env : List (Nat × Value)) : Prop where
  size : a.tmps.size = n
  known : ∀ d t, d < k → (ops[d]?).bind (·.dst) = some t → (∀ d', d < d' → d' < k → (ops[d']?).bind (·.dst) ≠ some t) → (d, a.tmps.getD t undef) ∈ env

theorem LexInv.step {n k : Nat} {a : Act} {env : List (Nat × Value)} (h : LexInv ops n k a env) {o : Oper} (ho : ops[k]? = some o) (hd : dstB ops n = true) (v : Value) : LexInv ops n (k + 1) (a.put o.dst v) ((k, v) :: env) := by
  constructor
  · cases o.dst <;> simp [Act.put, h.size]
  · intro d t hdk hdt hno
    by_cases hdk' : d = k
    · subst hdk'
      simp only [ho, Option.bind_some] at hdt
      have hlt : t < n := by
        have := Array.all_eq_true_iff_forall_mem.1 hd o (Array.mem_of_getElem? ho)
        simpa [hdt] using this
      have : (a.put o.dst v).tmps.getD t undef = v := by
        rw [hdt]; simp [Act.put, h.size, hlt]
      rw [this]; exact List.mem_cons_self
    · have hd1 : d < k := by omega
      have hne : o.dst ≠ some t := by
        have := hno k hd1 (by omega)
        simpa [ho] using this
      rw [getD_put (fun d' he hdd => hne (by rw [he, hdd]))]
      exact List.mem_cons_of_mem _ (h.known d t hd1 hdt fun d' h1 h2 => hno d' h1 (by omega))

theorem depsOf_lt {i d : Nat} {t : Tmp} (h : (d, t) ∈ depsOf ops i) : d < i ∧ (ops[d]?).bind (·.dst) = some t := by
  unfold depsOf at h
  split at h
  · cases h
  · simp only [List.mem_filterMap, List.mem_range] at h
    obtain ⟨d', hd', hd⟩ := h
    split at hd
    · rename_i t' ht'
      split at hd
      · simp only [Option.some.injEq, Prod.mk.injEq] at hd
        obtain ⟨rfl, rfl⟩ := hd
        exact ⟨hd', ht'⟩
      · cases hd
    · cases hd

theorem LexW.lexR {w0 : World} {sp : Nat → Option SPred} {Q : Act → World → Prop} {n : Nat} (hs : ssaB ops = true) (hd : dstB ops n = true) :
    ∀ (l : List Oper) (k : Nat) (a : Act) (env : List (Nat × Value)), (∀ j, j < l.length → l[j]? = ops[k + j]?) → LexInv ops n k a env → LexW P ops w0 sp Q l k a env → LexR P ops w0 sp Q l k a env
  | [], _, _, _, _, _, h => h
  | o :: l, k, a, env, hl, inv, h => by
    have ho : ops[k]? = some o := by simpa using (hl 0 (by simp)).symm
    have hks : k < ops.size := (Array.getElem?_eq_some_iff.1 ho).1
    have next : ∀ v, LexW P ops w0 sp Q l (k + 1) (a.put o.dst v) ((k, v) :: env) → LexR P ops w0 sp Q l (k + 1) (a.put o.dst v) ((k, v) :: env) := fun v hv =>
      LexW.lexR hs hd l (k + 1) _ _ (fun j hj => by have := hl (j + 1) (by simp; omega); simpa [Nat.add_assoc, Nat.add_comm 1 j] using this) (inv.step ho hd v) hv
    unfold LexW at h
    cases hp : sp k with
    | none =>
      rw [hp] at h
      obtain ⟨v, hv, hn⟩ := h
      refine ⟨by unfold Can; rw [hp]; exact ⟨v, hv⟩, fun v' hv' => ?_⟩
      unfold Res at hv'
      rw [hp] at hv'
      obtain rfl := hv.uniq hv'
      exact next _ hn
    | some p =>
      rw [hp] at h
      obtain ⟨hw, hr, hn⟩ := h
      refine ⟨by
        unfold Can
        rw [hp]
        refine ⟨hw, fun q hq => ?_, hr⟩
        obtain ⟨hlt, hdst⟩ := depsOf_lt (ops := ops) (i := k) (d := q.1) (t := q.2) hq
        refine inv.known q.1 q.2 hlt hdst fun d' h1 h2 hc => ?_
        have := List.all_eq_true.1 (List.all_eq_true.1 (List.all_eq_true.1 hs k (List.mem_range.2 hks)) q hq) d' (List.mem_range.2 h2)
        simp only [Bool.or_eq_true, decide_eq_true_eq, bne_iff_ne, ne_eq] at this
        rcases this with h3 | h3
        · omega
        · exact h3 hc, fun v hv => ?_⟩
      unfold Res at hv
      rw [hp] at hv
      obtain ⟨w, _, _, hv⟩ := hv
      exact next _ (hn v ⟨w, hv⟩)

theorem lexInv0 (n : Nat) (a : Act) (h : a.tmps.size = n) : LexInv ops n 0 a [] := ⟨h, fun _ _ h => absurd h (Nat.not_lt_zero _)⟩

/-- What is said of the values of some operations, by their numbers. -/
def spOf (sps : List (Nat × SPred)) (k : Nat) : Option SPred := sps.lookup k

theorem wp_region_lex {id : Nat} {Q : Exit → Act → World → Prop} {a : Act} {w : World} {l : List Oper} (sps : List (Nat × SPred)) (hm : P.follows .mixedOrders = true)
    (hB : (Region.lexB .any l.toArray && ssaB l.toArray && dstB l.toArray a.tmps.size) = true)
    (h : LexW P l.toArray w.drew (spOf sps) (fun a' w' => Q .normal a' w') l 0 a []) : (Code.region id l.toArray true).wp P Q a w := by
  simp only [Bool.and_eq_true] at hB
  exact wp_region_rel (spOf sps) hm hB.1.1 (LexW.lexR hB.1.2 hB.2 l 0 a [] (by simp) (lexInv0 _ _ rfl) h)

theorem wp_region_lex_tail {id : Nat} {Q : Exit → Act → World → Prop} {a : Act} {w : World} {l : List Oper} (n : Nat) (sps : List (Nat × SPred)) (hm : P.follows .mixedOrders = true)
    (hB : (Region.lexTailB .any l.toArray n && ssaB l.toArray && dstB l.toArray a.tmps.size) = true)
    (h : LexW P l.toArray w.drew (spOf sps) (fun a' w' => wpList P l.toArray Q (l.drop n) a' w') (l.take n) 0 a []) : (Code.region id l.toArray true).wp P Q a w := by
  simp only [Bool.and_eq_true] at hB
  exact wp_region_rel_tail n (spOf sps) hm hB.1.1 (LexW.lexR hB.1.2 hB.2 _ 0 a [] (fun j hj => by
    have : j < n := by simp at hj; omega
    simp [this]) (lexInv0 _ _ rfl) h)

section
variable {w0 : World} {sp : Nat → Option SPred} {Q : Act → World → Prop} {o : Oper} {l : List Oper} {k : Nat} {a : Act} {env : List (Nat × Value)}

/-- An operation whose value is known and that leaves the world alone. -/
theorem LexW.pure {v : Value} (hsp : sp k = none) (hw : Region.wanted o (yielded ops a.tmps) = true) (hr : ∀ w, Ext w0 w → (execOp a.eval o).run P w = .ok (.value v) w)
    (h : LexW P ops w0 sp Q l (k + 1) (a.put o.dst v) ((k, v) :: env)) : LexW P ops w0 sp Q (o :: l) k a env := by
  unfold LexW; rw [hsp]; exact ⟨v, .inl ⟨hw, hr⟩, h⟩

theorem LexW.skip (hsp : sp k = none) (hw : Region.wanted o (yielded ops a.tmps) = false)
    (h : LexW P ops w0 sp Q l (k + 1) (a.put o.dst undef) ((k, undef) :: env)) : LexW P ops w0 sp Q (o :: l) k a env := by
  unfold LexW; rw [hsp]; exact ⟨undef, .inr ⟨hw, rfl⟩, h⟩

/-- A call whose value is known and that only extends the world. -/
theorem LexW.call {v : Value} {f : FuncId} {args : Array Value} (hsp : sp k = some (SPred.val v)) (hw : Region.wanted o (yielded ops a.tmps) = true) (hr : ∀ w, (execOp a.eval o).run P w = .ok (.enter f args) w)
    (hc : ∀ w, Ext w0 w → Dep sp (depsOf ops k) a w → Calls P f args w fun e w' => e = .returned v ∧ Ext w w')
    (h : LexW P ops w0 sp Q l (k + 1) (a.put o.dst v) ((k, v) :: env)) : LexW P ops w0 sp Q (o :: l) k a env := by
  unfold LexW; rw [hsp]
  refine ⟨hw, fun w he hd => ?_, fun v' ⟨w, hv⟩ => ?_⟩
  · unfold wpS; rw [hr w]; exact (hc w he hd).mono fun e w' ⟨h1, h2⟩ => ⟨v, h1, h2, rfl⟩
  · have hv' : v' = v := hv
    subst hv'
    exact h

/-- A call of whose value a predicate is known. -/
theorem LexW.callR {p : SPred} {f : FuncId} {args : Array Value} (hsp : sp k = some p) (hw : Region.wanted o (yielded ops a.tmps) = true) (hr : ∀ w, (execOp a.eval o).run P w = .ok (.enter f args) w)
    (hc : ∀ w, Ext w0 w → Dep sp (depsOf ops k) a w → Calls P f args w fun e w' => ∃ v, e = .returned v ∧ Ext w w' ∧ p.holds v w')
    (h : ∀ v, (∃ w, p.holds v w) → LexW P ops w0 sp Q l (k + 1) (a.put o.dst v) ((k, v) :: env)) : LexW P ops w0 sp Q (o :: l) k a env := by
  unfold LexW; rw [hsp]
  exact ⟨hw, fun w he hd => by unfold wpS; rw [hr w]; exact hc w he hd, h⟩

/-- Any other operation, of whose value a predicate is known. -/
theorem LexW.rel {p : SPred} (hsp : sp k = some p) (hw : Region.wanted o (yielded ops a.tmps) = true)
    (hr : ∀ w, Ext w0 w → Dep sp (depsOf ops k) a w → ∃ v w', (execOp a.eval o).run P w = .ok (.value v) w' ∧ Ext w w' ∧ p.holds v w')
    (h : ∀ v, (∃ w, p.holds v w) → LexW P ops w0 sp Q l (k + 1) (a.put o.dst v) ((k, v) :: env)) : LexW P ops w0 sp Q (o :: l) k a env := by
  unfold LexW; rw [hsp]
  exact ⟨hw, fun w he hd => by obtain ⟨v, w', h1, h2⟩ := hr w he hd; unfold wpS; rw [h1]; exact h2, h⟩

theorem LexW.nil (h : ∀ w, Ext w0 w → Known sp env w → Q a w) : LexW P ops w0 sp Q [] k a env := h

end
end

end Go.Proofs.YtdccileoiiafmaaDoor
