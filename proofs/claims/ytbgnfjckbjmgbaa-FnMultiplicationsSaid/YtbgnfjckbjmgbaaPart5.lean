/-
  Contracts and plain laws, part 5: StabE, Src, Draw, Top5B, DrawV.
  No condition.
-/
import Derived.Test.YtbgnfjckbjmgbaaPart0
import Derived.Laws.Bits64b
import Derived.Test.YtbgnfjckbjmgbaaPart4
import Derived.Test.YtbgnfjckbjmgbaaPart3
/-
  Regions that draw their order of evaluation, walked once in the order of the text, where operations change the world by a relation that the proof chooses (so also a block of its own that calls write).
  No condition. General over every program.
-/
namespace Go.Proofs.Ytbgnfjckbjmgbaa.Chg
open Go.RowKit

/-- A relation between worlds that holds from a world to itself and goes on. -/
structure Rel where
  r : World → World → Prop
  refl : ∀ w, r w w
  trans : ∀ {a b c}, r a b → r b c → r a c

variable {E : Rel}

/-- What is said of a value in a world, and stays true when the world is extended. -/
structure SPred (E : Rel) where
  holds : Value → World → Prop
  st : ∀ v w w', holds v w → E.r w w' → holds v w'

/-- This very value. -/
def SPred.val (v0 : Value) : SPred E := ⟨fun v _ => v = v0, fun _ _ _ h _ => h⟩

section
variable {P : Program} {ops : Array Oper} {md : Region.Mode}

/-- One operation hands on a value, in a world, of which R holds; it does not panic. -/
def wpS (P : Program) (o : Oper) (a : Act) (w : World) (R : Value → World → Prop) : Prop :=
  match (execOp a.eval o).run P w with
  | .ok (.value v) w' => R v w'
  | .ok .skip w' => R undef w'
  | .ok (.enter f args) w' => Calls P f args w' fun e w'' => ∃ v, e = .returned v ∧ R v w''
  | _ => False

theorem wpS_some {o : Oper} {a : Act} {w : World} {R : Value → World → Prop} (h : wpS P o a w R) : ∃ v w', R v w' := by
  unfold wpS at h
  split at h
  · exact ⟨_, _, h⟩
  · exact ⟨_, _, h⟩
  · obtain ⟨e, w', fr, ⟨v, _, hr⟩, _⟩ := h []
    exact ⟨_, _, hr⟩
  · exact h.elim

theorem wp_of_wpS {o : Oper} {a : Act} {w : World} {R : Value → World → Prop} {K : Act → World → Prop} {Q : Exit → Act → World → Prop} (h : wpS P o a w R) (hk : ∀ v w', R v w' → K (a.put o.dst v) w') : o.wp P a w K Q := by
  unfold wpS at h
  unfold Oper.wp
  split at h
  · rename_i hr; rw [hr]; exact hk _ _ h
  · rename_i hr; rw [hr]; exact hk _ _ h
  · rename_i hr; rw [hr]
    exact Calls.mono h fun e w'' ⟨v, he, hr⟩ => by subst he; exact hk _ _ hr
  · exact h.elim

/-- The temporaries that operation i reads and that an earlier operation of the region writes. -/
def depsOf (ops : Array Oper) (i : Nat) : List (Nat × Tmp) :=
  match ops[i]? with
  | none => []
  | some o => (List.range i).filterMap fun d => match (ops[d]?).bind (·.dst) with
      | some t => if (o.looksAt ops).contains t then some (d, t) else none
      | none => none

theorem depsOf_spec {i d : Nat} {t : Tmp} {o : Oper} (ho : ops[i]? = some o) (h : (d, t) ∈ depsOf ops i) : t ∈ o.looksAt ops ∧ ∃ od, ops[d]? = some od ∧ od.dst = some t := by
  simp only [depsOf, ho, List.mem_filterMap, List.mem_range] at h
  obtain ⟨d', _, hd⟩ := h
  split at hd
  · rename_i t' ht'
    split at hd
    · rename_i hc
      simp only [Option.some.injEq, Prod.mk.injEq] at hd
      obtain ⟨rfl, rfl⟩ := hd
      refine ⟨by simpa using hc, ?_⟩
      cases hod : ops[d']? with
      | none => simp [hod] at ht'
      | some od => exact ⟨od, rfl, by simpa [hod] using ht'⟩
    · cases hd
  · cases hd

/-- What is said of a value: nothing, where none was given. -/
def holdsO (s : Option (SPred E)) (v : Value) (w : World) : Prop := match s with | none => True | some p => p.holds v w
theorem holdsO.ext {s : Option (SPred E)} {v : Value} {w w' : World} (h : holdsO s v w) (he : E.r w w') : holdsO s v w' := by
  cases s with
  | none => trivial
  | some p => exact p.st _ _ _ h he

def Dep (sp : Nat → Option (SPred E)) (l : List (Nat × Tmp)) (a : Act) (w : World) : Prop := ∀ p ∈ l, holdsO (sp p.1) (a.tmps.getD p.2 undef) w
def DepIn (env : List (Nat × Value)) (l : List (Nat × Tmp)) (a : Act) : Prop := ∀ p ∈ l, (p.1, a.tmps.getD p.2 undef) ∈ env
/-- All that is known of the values so far. -/
def Known (sp : Nat → Option (SPred E)) (env : List (Nat × Value)) (w : World) : Prop := ∀ p ∈ env, holdsO (sp p.1) p.2 w

theorem Known.dep {sp : Nat → Option (SPred E)} {env : List (Nat × Value)} {w : World} (h : Known sp env w) {l : List (Nat × Tmp)} {a : Act} (hd : DepIn env l a) : Dep sp l a w := fun p hp => h _ (hd p hp)
theorem Known.ext {sp : Nat → Option (SPred E)} {env : List (Nat × Value)} {w w' : World} (h : Known sp env w) (he : E.r w w') : Known sp env w' := fun p hp => (h p hp).ext he
theorem Known.cons {sp : Nat → Option (SPred E)} {env : List (Nat × Value)} {w : World} (h : Known sp env w) {i : Nat} {v : Value} (hv : holdsO (sp i) v w) : Known sp ((i, v) :: env) w := fun p hp => by
  rcases List.mem_cons.1 hp with rfl | hp
  · exact hv
  · exact h p hp

theorem getD_put {a : Act} {dst : Option Tmp} {v : Value} {t : Tmp} (h : ∀ d, dst = some d → d ≠ t) : (a.put dst v).tmps.getD t undef = a.tmps.getD t undef := by
  cases dst with
  | none => rfl
  | some d => simp [Act.put, Array.getElem?_setIfInBounds_ne (h d rfl)]

variable (E P ops) in
/-- The operation yields this very value in every world that extends the first one (or is passed over). -/
def Sure (w0 : World) (o : Oper) (a : Act) (v : Value) : Prop :=
  (Region.wanted o (yielded ops a.tmps) = true ∧ ∀ w, E.r w0 w → (execOp a.eval o).run P w = .ok (.value v) w) ∨ (Region.wanted o (yielded ops a.tmps) = false ∧ v = undef)

theorem Sure.uniq {w0 : World} {o : Oper} {a : Act} {v v' : Value} (h : Sure E P ops w0 o a v) (h' : Sure E P ops w0 o a v') : v = v' := by
  rcases h with ⟨hw, hr⟩ | ⟨hw, rfl⟩ <;> rcases h' with ⟨hw', hr'⟩ | ⟨hw', rfl⟩
  · have h1 := hr w0 (E.refl _)
    have h2 := hr' w0 (E.refl _)
    rw [h1] at h2
    simpa using h2
  · rw [hw] at hw'; cases hw'
  · rw [hw] at hw'; cases hw'
  · rfl

variable (P ops) in
/-- Operation i can be carried out in a state. -/
def Can (w0 : World) (sp : Nat → Option (SPred E)) (i : Nat) (o : Oper) (a : Act) (env : List (Nat × Value)) : Prop :=
  match sp i with
  | none => ∃ v, Sure E P ops w0 o a v
  | some p => Region.wanted o (yielded ops a.tmps) = true ∧ DepIn env (depsOf ops i) a ∧ ∀ w, E.r w0 w → Dep sp (depsOf ops i) a w → wpS P o a w fun v w' => E.r w w' ∧ p.holds v w'

variable (P ops) in
/-- What it may yield. -/
def Res (w0 : World) (sp : Nat → Option (SPred E)) (i : Nat) (o : Oper) (a : Act) (env : List (Nat × Value)) (v : Value) : Prop :=
  match sp i with
  | none => Sure E P ops w0 o a v
  | some p => ∃ w, E.r w0 w ∧ Known sp env w ∧ p.holds v w

theorem wpS_put {w : World} {R : Value → World → Prop} {oj : Oper} (hs : ∀ cs b, oj.op ≠ .select cs b) (a : Act) (dst : Option Tmp) (v : Value) (h : ∀ d, dst = some d → d ∉ oj.looksAt ops) : wpS P oj (a.put dst v) w R = wpS P oj a w R := by
  unfold wpS; rw [execOp_put oj hs a dst v h]

theorem Sure_put {w0 : World} {oj : Oper} (hs : ∀ cs b, oj.op ≠ .select cs b) (a : Act) (dst : Option Tmp) (v u : Value) (h : ∀ d, dst = some d → d ∉ oj.looksAt ops) : Sure E P ops w0 oj (a.put dst v) u ↔ Sure E P ops w0 oj a u := by
  unfold Sure; rw [execOp_put oj hs a dst v h, wanted_put (ops := ops) oj a dst v h]

theorem Dep_put {sp : Nat → Option (SPred E)} {j : Nat} {oj : Oper} (hj : ops[j]? = some oj) (a : Act) (dst : Option Tmp) (v : Value) (w : World) (h : ∀ d, dst = some d → d ∉ oj.looksAt ops) :
    Dep sp (depsOf ops j) (a.put dst v) w ↔ Dep sp (depsOf ops j) a w := by
  constructor
  · intro hd p hp
    have := hd p hp
    rwa [getD_put (fun d he hdt => h d he (by rw [hdt]; exact (depsOf_spec hj hp).1))] at this
  · intro hd p hp
    rw [getD_put (fun d he hdt => h d he (by rw [hdt]; exact (depsOf_spec hj hp).1))]
    exact hd p hp

section
variable {w0 : World} {sp : Nat → Option (SPred E)} {i j : Nat} {oi oj : Oper} {a : Act} {v vj : Value} {env : List (Nat × Value)}

/-- What can be carried out behind i, apart from it, can be carried out ahead of it. -/
theorem Can.back (hi : ops[i]? = some oi) (hj : ops[j]? = some oj) (hap : oi.apart ops oj = true)
    (hsj : ∀ cs b, oj.op ≠ .select cs b) (h : Can P ops w0 sp j oj (a.put oi.dst v) ((i, v) :: env)) : Can P ops w0 sp j oj a env := by
  obtain ⟨h1, h2, h3⟩ := Oper.apart_spec hap
  unfold Can at *
  cases hsp : sp j with
  | none =>
    rw [hsp] at h
    obtain ⟨u, hu⟩ := h
    exact ⟨u, (Sure_put hsj a oi.dst v u h1).1 hu⟩
  | some p =>
    rw [hsp] at h
    obtain ⟨hw, hd, hr⟩ := h
    rw [wanted_put (ops := ops) oj a oi.dst v h1] at hw
    refine ⟨hw, fun q hq => ?_, fun w he hdp => ?_⟩
    · have hin := hd q hq
      obtain ⟨hl, od, hod, hdt⟩ := depsOf_spec hj hq
      rw [getD_put (fun d he hdd => h1 d he (by rw [hdd]; exact hl))] at hin
      rcases List.mem_cons.1 hin with heq | hin
      · have : q.1 = i := congrArg Prod.fst heq
        rw [this, hi] at hod
        obtain rfl := Option.some.inj hod
        exact absurd hl (h1 _ hdt)
      · exact hin
    · have := hr w he ((Dep_put hj a oi.dst v w h1).2 hdp)
      rwa [wpS_put hsj a oi.dst v h1] at this

theorem Can.fore (hi : ops[i]? = some oi) (hap : oi.apart ops oj = true)
    (hsi : ∀ cs b, oi.op ≠ .select cs b) (h : Can P ops w0 sp i oi a env) : Can P ops w0 sp i oi (a.put oj.dst v) ((j, v) :: env) := by
  obtain ⟨h1, h2, h3⟩ := Oper.apart_spec hap
  unfold Can at *
  cases hsp : sp i with
  | none =>
    rw [hsp] at h
    obtain ⟨u, hu⟩ := h
    exact ⟨u, (Sure_put hsi a oj.dst v u h3).2 hu⟩
  | some p =>
    rw [hsp] at h
    obtain ⟨hw, hd, hr⟩ := h
    rw [← wanted_put (ops := ops) oi a oj.dst v h3] at hw
    refine ⟨hw, fun q hq => ?_, fun w he hdp => ?_⟩
    · obtain ⟨hl, od, hod, hdt⟩ := depsOf_spec hi hq
      rw [getD_put (fun d he hdd => h3 d he (by rw [hdd]; exact hl))]
      exact List.mem_cons_of_mem _ (hd q hq)
    · have := hr w he ((Dep_put hi a oj.dst v w h3).1 hdp)
      rwa [wpS_put hsi a oj.dst v h3]

theorem Res.joint (hap : oi.apart ops oj = true) (hsi : ∀ cs b, oi.op ≠ .select cs b) (hsj : ∀ cs b, oj.op ≠ .select cs b)
    (h1 : Res P ops w0 sp j oj a env vj) (h2 : Res P ops w0 sp i oi (a.put oj.dst vj) ((j, vj) :: env) v) :
    Res P ops w0 sp i oi a env v ∧ Res P ops w0 sp j oj (a.put oi.dst v) ((i, v) :: env) vj := by
  obtain ⟨g1, g2, g3⟩ := Oper.apart_spec hap
  unfold Res at *
  cases hpi : sp i with
  | none =>
    rw [hpi] at h2
    refine ⟨(Sure_put hsi a oj.dst vj v g3).1 h2, ?_⟩
    cases hpj : sp j with
    | none => rw [hpj] at h1; exact (Sure_put hsj a oi.dst v vj g1).2 h1
    | some q =>
      rw [hpj] at h1
      obtain ⟨w, he, hk, hv⟩ := h1
      exact ⟨w, he, hk.cons (by rw [hpi]; trivial), hv⟩
  | some p =>
    rw [hpi] at h2
    obtain ⟨w, he, hk, hv⟩ := h2
    have hk' : Known sp env w := fun q hq => hk q (List.mem_cons_of_mem _ hq)
    refine ⟨⟨w, he, hk', hv⟩, ?_⟩
    cases hpj : sp j with
    | none => rw [hpj] at h1; exact (Sure_put hsj a oi.dst v vj g1).2 h1
    | some q =>
      have hq := hk (j, vj) List.mem_cons_self
      simp only [hpj] at hq
      exact ⟨w, he, hk'.cons (by rw [hpi]; exact hv), hq⟩

theorem Can.some_res (h : Can P ops w0 sp i oi a env) (hsat : ∃ w, E.r w0 w ∧ Known sp env w) : ∃ v, Res P ops w0 sp i oi a env v := by
  unfold Can at h
  unfold Res
  cases hp : sp i with
  | none => rw [hp] at h; exact h
  | some p =>
    rw [hp] at h
    obtain ⟨hw, hd, hr⟩ := h
    obtain ⟨w, he, hk⟩ := hsat
    obtain ⟨v, w', he', hv⟩ := wpS_some (hr w he (hk.dep hd))
    exact ⟨v, w', E.trans he he', hk.ext he', hv⟩

theorem Res.sat (h : Res P ops w0 sp i oi a env v) (hsat : ∃ w, E.r w0 w ∧ Known sp env w) : ∃ w, E.r w0 w ∧ Known sp ((i, v) :: env) w := by
  unfold Res at h
  cases hp : sp i with
  | none =>
    obtain ⟨w, he, hk⟩ := hsat
    exact ⟨w, he, hk.cons (by rw [hp]; trivial)⟩
  | some p =>
    rw [hp] at h
    obtain ⟨w, he, hk, hv⟩ := h
    exact ⟨w, he, hk.cons (by rw [hp]; exact hv)⟩

theorem Res.weak {env' : List (Nat × Value)} (hs : ∀ p ∈ env, p ∈ env') (h : Res P ops w0 sp i oi a env' v) : Res P ops w0 sp i oi a env v := by
  unfold Res at *
  cases hp : sp i with
  | none => rw [hp] at h; exact h
  | some p =>
    rw [hp] at h
    obtain ⟨w, he, hk, hv⟩ := h
    exact ⟨w, he, fun q hq => hk q (hs q hq), hv⟩
theorem Can.weak {env' : List (Nat × Value)} (hs : ∀ p ∈ env, p ∈ env') (h : Can P ops w0 sp i oi a env) : Can P ops w0 sp i oi a env' := by
  unfold Can at *
  cases hp : sp i with
  | none => rw [hp] at h; exact h
  | some p =>
    rw [hp] at h
    exact ⟨h.1, fun q hq => hs _ (h.2.1 q hq), h.2.2⟩
end

variable (P ops md) in
/-- Whatever order is picked, till the first n have been carried out. -/
def AnyR (w0 : World) (sp : Nat → Option (SPred E)) (n : Nat) (L : Array Bool → Act → World → Prop) : Nat → Array Bool → Act → List (Nat × Value) → Prop
  | 0, listed, a, env => ∀ w, E.r w0 w → Known sp env w → L listed a w
  | f + 1, listed, a, env => Region.ready md ops listed ≠ [] ∧ ∀ i ∈ Region.ready md ops listed, i < n ∧ ∀ o, ops[i]? = some o →
      Can P ops w0 sp i o a env ∧ ∀ v, Res P ops w0 sp i o a env v → AnyR w0 sp n L f (listed.setIfInBounds i true) (a.put o.dst v) ((i, v) :: env)

theorem AnyR.env {w0 : World} {sp : Nat → Option (SPred E)} {n : Nat} {L : Array Bool → Act → World → Prop} : ∀ (f : Nat) (listed : Array Bool) (a : Act) (env env' : List (Nat × Value)), (∀ p ∈ env, p ∈ env') →
    AnyR P ops md w0 sp n L f listed a env → AnyR P ops md w0 sp n L f listed a env'
  | 0, _, _, _, _, hs, h => fun w he hk => h w he fun p hp => hk p (hs p hp)
  | f + 1, listed, a, env, env', hs, h => ⟨h.1, fun i hi => ⟨(h.2 i hi).1, fun o ho => by
      obtain ⟨hc, hr⟩ := (h.2 i hi).2 o ho
      refine ⟨Can.weak hs hc, fun v hv => ?_⟩
      exact AnyR.env f _ _ _ _ (fun p hp => by
        rcases List.mem_cons.1 hp with rfl | hp
        · exact List.mem_cons_self
        · exact List.mem_cons_of_mem _ (hs p hp)) (hr v (Res.weak hs hv))⟩⟩

theorem AnyR.sound {w0 : World} {sp : Nat → Option (SPred E)} {n g : Nat} {L : Array Bool → Act → World → Prop} {Q : Exit → Act → World → Prop} (hL : ∀ listed a w, L listed a w → wpAny P md ops Q g listed a w) :
    ∀ (f : Nat) (listed : Array Bool) (a : Act) (env : List (Nat × Value)) (w : World), E.r w0 w → Known sp env w → AnyR P ops md w0 sp n L f listed a env → wpAny P md ops Q (f + g) listed a w
  | 0, _, _, _, w, he, hk, h => by rw [Nat.zero_add]; exact hL _ _ _ (h w he hk)
  | f + 1, listed, a, env, w, he, hk, h => by
    rw [show f + 1 + g = (f + g) + 1 by omega]
    refine ⟨fun h0 => absurd h0 h.1, fun i hi => ?_⟩
    unfold wpOp
    split
    · rename_i hn
      obtain ⟨_, o, ho, _⟩ := mem_ready.1 hi
      rw [hn] at ho; cases ho
    · rename_i o ho
      obtain ⟨hc, hr⟩ := (h.2 i hi).2 o ho
      unfold Can at hc
      cases hp : sp i with
      | none =>
        rw [hp] at hc
        obtain ⟨v, hv⟩ := hc
        have hk' : Known sp ((i, v) :: env) w := hk.cons (by rw [hp]; trivial)
        have hres : Res P ops w0 sp i o a env v := by unfold Res; rw [hp]; exact hv
        have hnext := AnyR.sound hL f _ _ _ w he hk' (hr v hres)
        rcases hv with ⟨hw, hrun⟩ | ⟨hw, rfl⟩
        · rw [if_pos hw]
          refine .inl ?_
          unfold Oper.wp
          rw [hrun w he]
          exact hnext
        · rw [if_neg (by rw [hw]; decide)]
          exact hnext
      | some p =>
        rw [hp] at hc
        obtain ⟨hw, hd, hrr⟩ := hc
        rw [if_pos hw]
        refine .inl (wp_of_wpS (hrr w he (hk.dep hd)) fun v w' ⟨he', hv⟩ => ?_)
        exact AnyR.sound hL f _ _ _ w' (E.trans he he') ((hk.ext he').cons (by rw [hp]; exact hv)) (hr v (by unfold Res; rw [hp]; exact ⟨w', E.trans he he', hk.ext he', hv⟩))

theorem AnyR.first {w0 : World} {sp : Nat → Option (SPred E)} {n i : Nat} {oi : Oper} {L : Array Bool → Act → World → Prop} (hi : ops[i]? = some oi) (hsel : ∀ (j : Nat) (o : Oper) cs b, ops[j]? = some o → o.op ≠ .select cs b)
    (hlt : ∀ listed, HeadInv md ops n listed → listed.getD i true = false → ∀ j ∈ Region.ready md ops listed, j < n)
    (hdone : ∀ listed a w, L listed a w → ∀ j ∈ Region.ready md ops listed, n ≤ j) :
    ∀ (f : Nat) (listed : Array Bool) (a : Act) (env : List (Nat × Value)), HeadInv md ops n listed →
      (∀ j oj, ops[j]? = some oj → j ≠ i → listed.getD j true = false → (∀ e ∈ oj.after, Region.binds md e = true → e.on ≠ i) → oi.apart ops oj = true) →
      i ∈ Region.ready md ops listed → (∃ w, E.r w0 w ∧ Known sp env w) → Can P ops w0 sp i oi a env →
      (∀ v, Res P ops w0 sp i oi a env v → AnyR P ops md w0 sp n L f (listed.setIfInBounds i true) (a.put oi.dst v) ((i, v) :: env)) →
      AnyR P ops md w0 sp n L (f + 1) listed a env := by
  intro f
  induction f with
  | zero =>
    intro listed a env inv _ hr hsat hc H
    have hun := (mem_ready.1 hr).1
    refine ⟨fun h => (by rw [h] at hr; cases hr), fun j hj => ⟨hlt listed inv hun j hj, fun oj hoj => ?_⟩⟩
    by_cases hji : j = i
    · subst hji
      obtain rfl := Option.some.inj (hi.symm.trans hoj)
      exact ⟨hc, H⟩
    · exfalso
      obtain ⟨v, hv⟩ := hc.some_res hsat
      obtain ⟨w, he, hk⟩ := hv.sat hsat
      have h0 := H v hv w he hk
      have h1 := hdone _ _ _ h0 j (ready_mono hj hji)
      have h2 := hlt listed inv hun j hj
      omega
  | succ f ih =>
    intro listed a env inv hfree hr hsat hc H
    have hun := (mem_ready.1 hr).1
    refine ⟨fun h => (by rw [h] at hr; cases hr), fun j hj => ⟨hlt listed inv hun j hj, fun oj hoj => ?_⟩⟩
    by_cases hji : j = i
    · subst hji
      obtain rfl := Option.some.inj (hi.symm.trans hoj)
      exact ⟨hc, H⟩
    · obtain ⟨hjun, oj', hoj', hall⟩ := mem_ready.1 hj
      obtain rfl := Option.some.inj (hoj.symm.trans hoj')
      have hjn := hlt listed inv hun j hj
      have hnot : ∀ e ∈ oj.after, Region.binds md e = true → e.on ≠ i := fun e he hb heq => by
        have h1 := hall e he hb
        rw [heq, getD_both hun] at h1
        cases h1
      have hap := hfree j oj hoj hji hjun hnot
      obtain ⟨h1, h2, h3⟩ := Oper.apart_spec hap
      have hsi : ∀ cs b, oi.op ≠ .select cs b := fun cs b => hsel i oi cs b hi
      have hsj : ∀ cs b, oj.op ≠ .select cs b := fun cs b => hsel j oj cs b hoj
      obtain ⟨v0, hv0⟩ := hc.some_res hsat
      have hcj := ((H v0 hv0).2 j (ready_mono hj hji)).2 oj hoj
      refine ⟨hcj.1.back hi hoj hap hsj, fun vj hvj => ?_⟩
      refine ih (listed.setIfInBounds j true) (a.put oj.dst vj) ((j, vj) :: env) (inv.set hj hjn) ?_ (ready_mono hr (Ne.symm hji)) (hvj.sat hsat) (hc.fore hi hap hsi) ?_
      · intro k ok hk hki hun' hno
        refine hfree k ok hk hki ?_ hno
        by_cases hjk : j = k
        · subst hjk; exact hjun
        · rw [getD_set_ne true hjk] at hun'; exact hun'
      · intro v hv
        obtain ⟨hv1, hvj1⟩ := Res.joint hap hsi hsj hvj hv
        have := (((H v hv1).2 j (ready_mono hj hji)).2 oj hoj).2 vj hvj1
        rw [Array.setIfInBounds_comm _ _ hji, ← Act.put_comm a v vj h2]
        refine AnyR.env _ _ _ _ _ ?_ this
        intro p hp
        rcases List.mem_cons.1 hp with rfl | hp
        · exact List.mem_cons_of_mem _ List.mem_cons_self
        · rcases List.mem_cons.1 hp with rfl | hp
          · exact List.mem_cons_self
          · exact List.mem_cons_of_mem _ (List.mem_cons_of_mem _ hp)

variable (P ops) in
/-- The walk in the order of the text. -/
def LexR (w0 : World) (sp : Nat → Option (SPred E)) (Q : Act → World → Prop) : List Oper → Nat → Act → List (Nat × Value) → Prop
  | [], _, a, env => ∀ w, E.r w0 w → Known sp env w → Q a w
  | o :: l, k, a, env => Can P ops w0 sp k o a env ∧ ∀ v, Res P ops w0 sp k o a env v → LexR w0 sp Q l (k + 1) (a.put o.dst v) ((k, v) :: env)

theorem LexR.any {w0 : World} {sp : Nat → Option (SPred E)} {n : Nat} {B : Array Bool → Bool} {Lq : Act → World → Prop} (hsel : Region.noSelect ops = true)
    (hlt : ∀ i, i < n → ∀ listed, HeadInv md ops n listed → listed.getD i true = false → ∀ j ∈ Region.ready md ops listed, j < n)
    (hdone : ∀ listed, B listed = true → ∀ j ∈ Region.ready md ops listed, n ≤ j)
    (hd : Nat → Nat → Array Bool → Bool) (h0 : ∀ listed, hd 0 n listed = true → B listed = true)
    (h1 : ∀ f k listed, hd (f + 1) k listed = true → ((Region.ready md ops listed).contains k = true ∧ Region.free md ops listed k = true) ∧ hd f (k + 1) (listed.setIfInBounds k true) = true) :
    ∀ (l : List Oper) (k : Nat) (listed : Array Bool) (a : Act) (env : List (Nat × Value)), (∀ j, j < l.length → l[j]? = ops[k + j]?) → k + l.length = n → HeadInv md ops n listed →
    (∃ w, E.r w0 w ∧ Known sp env w) → hd l.length k listed = true → LexR P ops w0 sp Lq l k a env →
    AnyR P ops md w0 sp n (fun listed' a' w' => B listed' = true ∧ Lq a' w') l.length listed a env
  | [], k, listed, a, env, _, hk0, _, _, hB, h => fun w he hk => ⟨h0 _ (by obtain rfl : k = n := (by simpa using hk0); exact hB), h w he hk⟩
  | o :: l, k, listed, a, env, hl, hk, inv, hsat, hB, h => by
    have ho : ops[k]? = some o := by simpa using (hl 0 (by simp)).symm
    obtain ⟨⟨hr, hf⟩, hB'⟩ := h1 _ _ _ (by simpa using hB)
    have hkn : k < n := by simp only [List.length_cons] at hk; omega
    have hr' : k ∈ Region.ready md ops listed := by simpa using hr
    exact AnyR.first ho (Region.noSelect_spec hsel) (hlt k hkn) (fun listed' a' w' hL => hdone _ hL.1) l.length listed a env inv (Region.free_spec ho hf) hr' hsat h.1
      fun v hv => LexR.any hsel hlt hdone hd h0 h1 l (k + 1) _ _ _ (fun j hj => by have := hl (j + 1) (by simp; omega); simpa [Nat.add_assoc, Nat.add_comm 1 j] using this) (by simp only [List.length_cons] at hk; omega) (inv.set hr' hkn)
        (hv.sat hsat) hB' (h.2 v hv)

theorem headInv0 (l : List Oper) (n : Nat) : HeadInv md l.toArray n (Array.replicate l.toArray.size false) :=
  ⟨by simp, fun j oj _ hl => (by rw [getD_replicate_false] at hl; cases hl), fun t _ ht => getD_in (by simpa using ht) (getD_replicate_false _ _)⟩

/-- A region that draws its order, all of whose operations only extend the world. -/
theorem wp_region_rel {id : Nat} {Q : Exit → Act → World → Prop} {a : Act} {w : World} {l : List Oper} (sp : Nat → Option (SPred E)) (hm : P.follows .mixedOrders = true) (hB : Region.lexB .any l.toArray = true)
    (h : LexR P l.toArray w.drew sp (fun a' w' => Q .normal a' w') l 0 a []) : (Code.region id l.toArray true).wp P Q a w := by
  simp only [Region.lexB, Bool.and_eq_true] at hB
  have H := LexR.any (md := .any) (n := l.toArray.size) (B := fun listed => (Region.ready .any l.toArray listed).isEmpty) hB.1
    (fun i _ listed _ _ j hj => by obtain ⟨_, o, ho, _⟩ := mem_ready.1 hj; exact (Array.getElem?_eq_some_iff.1 ho).1)
    (fun listed hb j hj => by simp only [List.isEmpty_iff] at hb; rw [hb] at hj; cases hj)
    (fun f k listed => Region.lexFrom .any l.toArray f k listed) (fun listed hh => by simpa [Region.lexFrom] using hh)
    (fun f k listed hh => by simpa [Region.lexFrom] using hh) l 0 _ a [] (by simp) (by simp) (headInv0 l _) ⟨w.drew, E.refl _, fun p hp => by cases hp⟩ (by simpa using hB.2) h
  refine wp_region_any hm ?_
  have := AnyR.sound (Q := Q) (g := 0) (fun listed a' w' hL => (⟨by simpa using hL.1, hL.2⟩ : wpAny P .any l.toArray Q 0 listed a' w')) _ _ _ _ w.drew (E.refl _) (fun p hp => by cases hp) H
  simpa using this

/-- .. whose operations from number n on go one after another behind all others. -/
theorem wp_region_rel_tail {id : Nat} {Q : Exit → Act → World → Prop} {a : Act} {w : World} {l : List Oper} (n : Nat) (sp : Nat → Option (SPred E)) (hm : P.follows .mixedOrders = true) (hB : Region.lexTailB .any l.toArray n = true)
    (h : LexR P l.toArray w.drew sp (fun a' w' => wpList P l.toArray Q (l.drop n) a' w') (l.take n) 0 a []) : (Code.region id l.toArray true).wp P Q a w := by
  simp only [Region.lexTailB, Bool.and_eq_true, decide_eq_true_eq] at hB
  obtain ⟨⟨⟨⟨hsel, hn⟩, hs⟩, hc⟩, hlex⟩ := hB
  have hn' : n < l.length := by simpa using hn
  have htl : (l.take n).length = n := by simp; omega
  have hdl : (l.drop n).length = l.toArray.size - n := by simp
  have H := LexR.any (md := .any) (n := n) (B := fun listed => Region.seqB .any l.toArray (l.toArray.size - n) n listed) hsel
    (fun i hin listed inv hun j hj => by
      rcases Nat.lt_or_ge j n with h | h
      · exact h
      · exact absurd hj (tail_waits hs hc hn inv _ i rfl hin hun j h))
    (fun listed hb => seqB_ready hb)
    (fun f k listed => Region.lexHead .any l.toArray (l.toArray.size - n) f k listed) (fun listed hh => by simpa [Region.lexHead] using hh)
    (fun f k listed hh => by simpa [Region.lexHead] using hh) (l.take n) 0 _ a [] (fun j hj => by
      have hj' : j < n := by rw [htl] at hj; exact hj
      simp [hj']) (by simpa using htl) (headInv0 l _) ⟨w.drew, E.refl _, fun p hp => by cases hp⟩ (by rw [htl]; exact hlex) h
  refine wp_region_any hm ?_
  have := AnyR.sound (Q := Q) (g := l.toArray.size - n) (fun listed a' w' hL => by
    have := wpAny_of_seq (md := .any) (Q' := Q) (l.drop n) n listed a' w' (fun j => by simp [List.getElem?_drop]) (by rw [hdl]; exact hL.1) hL.2
    rwa [hdl] at this) _ _ _ _ w.drew (E.refl _) (fun p hp => by cases hp) H
  rw [htl, show n + (l.toArray.size - n) = l.toArray.size by omega] at this
  exact this
end

/-! ### The walk without the bookkeeping -/

/-- No temporary that is read is written twice ahead of its reader. -/
def ssaB (ops : Array Oper) : Bool :=
  (List.range ops.size).all fun k => (depsOf ops k).all fun p => (List.range k).all fun d => decide (d ≤ p.1) || ((ops[d]?).bind (·.dst)) != some p.2
def dstB (ops : Array Oper) (n : Nat) : Bool := ops.all fun o => match o.dst with | some d => decide (d < n) | none => true

section
variable {P : Program} {ops : Array Oper}

variable (P ops) in
def LexW (w0 : World) (sp : Nat → Option (SPred E)) (Q : Act → World → Prop) : List Oper → Nat → Act → List (Nat × Value) → Prop
  | [], _, a, env => ∀ w, E.r w0 w → Known sp env w → Q a w
  | o :: l, k, a, env => match sp k with
    | none => ∃ v, Sure E P ops w0 o a v ∧ LexW w0 sp Q l (k + 1) (a.put o.dst v) ((k, v) :: env)
    | some p => Region.wanted o (yielded ops a.tmps) = true ∧ (∀ w, E.r w0 w → Dep sp (depsOf ops k) a w → wpS P o a w fun v w' => E.r w w' ∧ p.holds v w') ∧
        ∀ v, (∃ w, p.holds v w) → LexW w0 sp Q l (k + 1) (a.put o.dst v) ((k, v) :: env)

structure LexInv (ops : Array Oper) (n k : Nat) (a : Act) (env : List (Nat × Value)) : Prop where
  size : a.tmps.size = n
  known : ∀ d t, d < k → (ops[d]?).bind (·.dst) = some t → (∀ d', d < d' → d' < k → (ops[d']?).bind (·.dst) ≠ some t) → (d, a.tmps.getD t undef) ∈ env

theorem LexInv.step {n k : Nat} {a : Act} {env : List (Nat × Value)} (h : LexInv ops n k a env) {o : Oper} (ho : ops[k]? = some o) (hd : dstB ops n = true) (v : Value) : LexInv ops n (k + 1) (a.put o.dst v) ((k, v) :: env) := by
  constructor
  · cases o.dst <;> simp [Act.put, h.size]
  · intro d t hdk hdt hno
    by_cases hdk' : d = k
    · subst hdk'
      simp only [ho, Option.bind_some] at hdt
      have hlt : t < n := by
        have := Array.all_eq_true_iff_forall_mem.1 hd o (Array.mem_of_getElem? ho)
        simpa [hdt] using this
      have : (a.put o.dst v).tmps.getD t undef = v := by
        rw [hdt]; simp [Act.put, h.size, hlt]
      rw [this]; exact List.mem_cons_self
    · have hd1 : d < k := by omega
      have hne : o.dst ≠ some t := by
        have := hno k hd1 (by omega)
        simpa [ho] using this
      rw [getD_put (fun d' he hdd => hne (by rw [he, hdd]))]
      exact List.mem_cons_of_mem _ (h.known d t hd1 hdt fun d' h1 h2 => hno d' h1 (by omega))

theorem depsOf_lt {i d : Nat} {t : Tmp} (h : (d, t) ∈ depsOf ops i) : d < i ∧ (ops[d]?).bind (·.dst) = some t := by
  unfold depsOf at h
  split at h
  · cases h
  · simp only [List.mem_filterMap, List.mem_range] at h
    obtain ⟨d', hd', hd⟩ := h
    split at hd
    · rename_i t' ht'
      split at hd
      · simp only [Option.some.injEq, Prod.mk.injEq] at hd
        obtain ⟨rfl, rfl⟩ := hd
        exact ⟨hd', ht'⟩
      · cases hd
    · cases hd

theorem LexW.lexR {w0 : World} {sp : Nat → Option (SPred E)} {Q : Act → World → Prop} {n : Nat} (hs : ssaB ops = true) (hd : dstB ops n = true) :
    ∀ (l : List Oper) (k : Nat) (a : Act) (env : List (Nat × Value)), (∀ j, j < l.length → l[j]? = ops[k + j]?) → LexInv ops n k a env → LexW P ops w0 sp Q l k a env → LexR P ops w0 sp Q l k a env
  | [], _, _, _, _, _, h => h
  | o :: l, k, a, env, hl, inv, h => by
    have ho : ops[k]? = some o := by simpa using (hl 0 (by simp)).symm
    have hks : k < ops.size := (Array.getElem?_eq_some_iff.1 ho).1
    have next : ∀ v, LexW P ops w0 sp Q l (k + 1) (a.put o.dst v) ((k, v) :: env) → LexR P ops w0 sp Q l (k + 1) (a.put o.dst v) ((k, v) :: env) := fun v hv =>
      LexW.lexR hs hd l (k + 1) _ _ (fun j hj => by have := hl (j + 1) (by simp; omega); simpa [Nat.add_assoc, Nat.add_comm 1 j] using this) (inv.step ho hd v) hv
    unfold LexW at h
    cases hp : sp k with
    | none =>
      rw [hp] at h
      obtain ⟨v, hv, hn⟩ := h
      refine ⟨by unfold Can; rw [hp]; exact ⟨v, hv⟩, fun v' hv' => ?_⟩
      unfold Res at hv'
      rw [hp] at hv'
      obtain rfl := hv.uniq hv'
      exact next _ hn
    | some p =>
      rw [hp] at h
      obtain ⟨hw, hr, hn⟩ := h
      refine ⟨by
        unfold Can
        rw [hp]
        refine ⟨hw, fun q hq => ?_, hr⟩
        obtain ⟨hlt, hdst⟩ := depsOf_lt (ops := ops) (i := k) (d := q.1) (t := q.2) hq
        refine inv.known q.1 q.2 hlt hdst fun d' h1 h2 hc => ?_
        have := List.all_eq_true.1 (List.all_eq_true.1 (List.all_eq_true.1 hs k (List.mem_range.2 hks)) q hq) d' (List.mem_range.2 h2)
        simp only [Bool.or_eq_true, decide_eq_true_eq, bne_iff_ne, ne_eq] at this
        rcases this with h3 | h3
        · omega
        · exact h3 hc, fun v hv => ?_⟩
      unfold Res at hv
      rw [hp] at hv
      obtain ⟨w, _, _, hv⟩ := hv
      exact next _ (hn v ⟨w, hv⟩)

theorem lexInv0 (n : Nat) (a : Act) (h : a.tmps.size = n) : LexInv ops n 0 a [] := ⟨h, fun _ _ h => absurd h (Nat.not_lt_zero _)⟩

/-- What is said of the values of some operations, by their numbers. -/
def spOf (sps : List (Nat × SPred E)) (k : Nat) : Option (SPred E) := sps.lookup k

theorem wp_region_lex {id : Nat} {Q : Exit → Act → World → Prop} {a : Act} {w : World} {l : List Oper} (sps : List (Nat × SPred E)) (hm : P.follows .mixedOrders = true)
    (hB : (Region.lexB .any l.toArray && ssaB l.toArray && dstB l.toArray a.tmps.size) = true)
    (h : LexW P l.toArray w.drew (spOf sps) (fun a' w' => Q .normal a' w') l 0 a []) : (Code.region id l.toArray true).wp P Q a w := by
  simp only [Bool.and_eq_true] at hB
  exact wp_region_rel (spOf sps) hm hB.1.1 (LexW.lexR hB.1.2 hB.2 l 0 a [] (by simp) (lexInv0 _ _ rfl) h)

theorem wp_region_lex_tail {id : Nat} {Q : Exit → Act → World → Prop} {a : Act} {w : World} {l : List Oper} (n : Nat) (sps : List (Nat × SPred E)) (hm : P.follows .mixedOrders = true)
    (hB : (Region.lexTailB .any l.toArray n && ssaB l.toArray && dstB l.toArray a.tmps.size) = true)
    (h : LexW P l.toArray w.drew (spOf sps) (fun a' w' => wpList P l.toArray Q (l.drop n) a' w') (l.take n) 0 a []) : (Code.region id l.toArray true).wp P Q a w := by
  simp only [Bool.and_eq_true] at hB
  exact wp_region_rel_tail n (spOf sps) hm hB.1.1 (LexW.lexR hB.1.2 hB.2 _ 0 a [] (fun j hj => by
    have : j < n := by simp at hj; omega
    simp [this]) (lexInv0 _ _ rfl) h)

section
variable {w0 : World} {sp : Nat → Option (SPred E)} {Q : Act → World → Prop} {o : Oper} {l : List Oper} {k : Nat} {a : Act} {env : List (Nat × Value)}

/-- An operation whose value is known and that leaves the world alone. -/
theorem LexW.pure {v : Value} (hsp : sp k = none) (hw : Region.wanted o (yielded ops a.tmps) = true) (hr : ∀ w, E.r w0 w → (execOp a.eval o).run P w = .ok (.value v) w)
    (h : LexW P ops w0 sp Q l (k + 1) (a.put o.dst v) ((k, v) :: env)) : LexW P ops w0 sp Q (o :: l) k a env := by
  unfold LexW; rw [hsp]; exact ⟨v, .inl ⟨hw, hr⟩, h⟩

theorem LexW.skip (hsp : sp k = none) (hw : Region.wanted o (yielded ops a.tmps) = false)
    (h : LexW P ops w0 sp Q l (k + 1) (a.put o.dst undef) ((k, undef) :: env)) : LexW P ops w0 sp Q (o :: l) k a env := by
  unfold LexW; rw [hsp]; exact ⟨undef, .inr ⟨hw, rfl⟩, h⟩

/-- A call whose value is known and that only extends the world. -/
theorem LexW.call {v : Value} {f : FuncId} {args : Array Value} (hsp : sp k = some (SPred.val v)) (hw : Region.wanted o (yielded ops a.tmps) = true) (hr : ∀ w, (execOp a.eval o).run P w = .ok (.enter f args) w)
    (hc : ∀ w, E.r w0 w → Dep sp (depsOf ops k) a w → Calls P f args w fun e w' => e = .returned v ∧ E.r w w')
    (h : LexW P ops w0 sp Q l (k + 1) (a.put o.dst v) ((k, v) :: env)) : LexW P ops w0 sp Q (o :: l) k a env := by
  unfold LexW; rw [hsp]
  refine ⟨hw, fun w he hd => ?_, fun v' ⟨w, hv⟩ => ?_⟩
  · unfold wpS; rw [hr w]; exact (hc w he hd).mono fun e w' ⟨h1, h2⟩ => ⟨v, h1, h2, rfl⟩
  · have hv' : v' = v := hv
    subst hv'
    exact h

/-- A call of whose value a predicate is known. -/
theorem LexW.callR {p : SPred E} {f : FuncId} {args : Array Value} (hsp : sp k = some p) (hw : Region.wanted o (yielded ops a.tmps) = true) (hr : ∀ w, (execOp a.eval o).run P w = .ok (.enter f args) w)
    (hc : ∀ w, E.r w0 w → Dep sp (depsOf ops k) a w → Calls P f args w fun e w' => ∃ v, e = .returned v ∧ E.r w w' ∧ p.holds v w')
    (h : ∀ v, (∃ w, p.holds v w) → LexW P ops w0 sp Q l (k + 1) (a.put o.dst v) ((k, v) :: env)) : LexW P ops w0 sp Q (o :: l) k a env := by
  unfold LexW; rw [hsp]
  exact ⟨hw, fun w he hd => by unfold wpS; rw [hr w]; exact hc w he hd, h⟩

/-- Any other operation, of whose value a predicate is known. -/
theorem LexW.rel {p : SPred E} (hsp : sp k = some p) (hw : Region.wanted o (yielded ops a.tmps) = true)
    (hr : ∀ w, E.r w0 w → Dep sp (depsOf ops k) a w → ∃ v w', (execOp a.eval o).run P w = .ok (.value v) w' ∧ E.r w w' ∧ p.holds v w')
    (h : ∀ v, (∃ w, p.holds v w) → LexW P ops w0 sp Q l (k + 1) (a.put o.dst v) ((k, v) :: env)) : LexW P ops w0 sp Q (o :: l) k a env := by
  unfold LexW; rw [hsp]
  exact ⟨hw, fun w he hd => by obtain ⟨v, w', h1, h2⟩ := hr w he hd; unfold wpS; rw [h1]; exact h2, h⟩

theorem LexW.nil (h : ∀ w, E.r w0 w → Known sp env w → Q a w) : LexW P ops w0 sp Q [] k a env := h

end
end

end Go.Proofs.Ytbgnfjckbjmgbaa.Chg

/-
  Sources of drawn numbers: what is known of them in memory, and what a draw leaves of the world.
  No condition.
-/
namespace Go.Proofs.Ytbgnfjckbjmgbaa
set_option maxRecDepth 100000
open Go.RowKit

/-- A source: its block, and the slice of its code. -/
structure SrcP where
  g : Nat
  ca : Option Addr
  n : Nat
  cap : Nat

/-- n bytes that can be read, apart from a block. -/
def RdB (w : World) (g : Nat) (ca : Option Addr) (n : Nat) : Prop :=
  ∀ i, i < n → ∃ b off, ∃ z : Int, ca = some ⟨b, off, none⟩ ∧ b ≠ g ∧ w.cell? ⟨b, off + i, none⟩ = some (.int .u8 z) ∧ 0 ≤ z ∧ z ≤ 255

structure Src (S : SrcP) (w : World) : Prop where
  len : S.n ≤ 4096
  c0 : w.cell? ⟨S.g, 0, none⟩ = some (.slice S.ca S.n S.cap)
  c1 : ∃ t : Nat, t ≤ S.n ∧ w.cell? ⟨S.g, 1, none⟩ = some (.int .i64 t)
  c2 : ∃ h : Int, w.cell? ⟨S.g, 2, none⟩ = some (.int .u64 h)
  fz : ∀ j, w.frozen? ⟨S.g, j, none⟩ = false
  rd : RdB w S.g S.ca S.n

theorem Src.lt {S : SrcP} {w : World} (h : Src S w) : S.g < w.heap.size := lt_of_cell h.c0

/-- All blocks but the source's are as they were, and the source is one still. -/
structure Drw (S : SrcP) (w w' : World) : Prop where
  os : w'.os = w.os
  tape : w'.tape = w.tape
  output : w'.output = w.output
  size : w.heap.size ≤ w'.heap.size
  block : ∀ k, k < w.heap.size → k ≠ S.g → w'.heap[k]? = w.heap[k]?
  src : Src S w → Src S w'

theorem Drw.refl (S : SrcP) (w : World) : Drw S w w := ⟨rfl, rfl, rfl, Nat.le_refl _, fun _ _ _ => rfl, id⟩
theorem Drw.trans {S : SrcP} {a b c : World} (h : Drw S a b) (k : Drw S b c) : Drw S a c :=
  ⟨k.os.trans h.os, k.tape.trans h.tape, k.output.trans h.output, Nat.le_trans h.size k.size, fun i hi hg => (k.block i (Nat.lt_of_lt_of_le hi h.size) hg).trans (h.block i hi hg), fun hs => k.src (h.src hs)⟩

theorem RdB.block {w w' : World} {g n : Nat} {ca : Option Addr} (h : RdB w g ca n) (hb : ∀ k, k < w.heap.size → k ≠ g → w'.heap[k]? = w.heap[k]?) : RdB w' g ca n := fun i hi => by
  obtain ⟨b, off, z, h1, h2, h3, h4⟩ := h i hi
  exact ⟨b, off, z, h1, h2, by rw [World.cell?_of_block (w := w) (hb b (lt_of_cell h3) h2)]; exact h3, h4⟩

/-- What lies below the first world's size is left alone afterwards. -/
theorem Drw.below {S : SrcP} {W w w' : World} (h : Drw S W w) (k : Below W.heap.size w w') : Drw S W w' := by
  refine ⟨k.os.trans h.os, k.tape.trans h.tape, k.output.trans h.output, Nat.le_trans h.size k.size, fun i hi hg => (k.block i hi).trans (h.block i hi hg), fun hs => ?_⟩
  have hw := h.src hs
  have hg := k.block S.g hs.lt
  refine ⟨hw.len, ?_, ?_, ?_, fun j => ?_, fun i hi => ?_⟩
  · rw [World.cell?_of_block (w := w) hg]; exact hw.c0
  · obtain ⟨t, ht, hc⟩ := hw.c1
    exact ⟨t, ht, by rw [World.cell?_of_block (w := w) hg]; exact hc⟩
  · obtain ⟨t, hc⟩ := hw.c2
    exact ⟨t, by rw [World.cell?_of_block (w := w) hg]; exact hc⟩
  · rw [World.frozen?_of_block (w := w) hg]; exact hw.fz j
  · obtain ⟨b, off, z, h1, h2, h3, h4⟩ := hs.rd i hi
    have hb := lt_of_cell h3
    exact ⟨b, off, z, h1, h2, by rw [World.cell?_of_block (w := w) (k.block b hb), World.cell?_of_block (w := W) (h.block b hb h2)]; exact h3, h4⟩

theorem Drw.of_ext {S : SrcP} {w w' : World} (h : Ext w w') : Drw S w w' := (Drw.refl S w).below h
theorem Drw.ext {S : SrcP} {W w w' : World} (h : Drw S W w) (k : Ext w w') : Drw S W w' := h.below (Below.mono k h.size)
theorem Drw.alloc {S : SrcP} {W w : World} (h : Drw S W w) (o : Obj) : Drw S W (w.alloc o) := h.ext (ext_alloc _ _)
theorem Drw.drew {S : SrcP} {W w : World} (h : Drw S W w) : Drw S W w.drew := h.ext (ext_drew _)
theorem Drw.setCell {S : SrcP} {W w : World} (h : Drw S W w) {p : Addr} (hp : W.heap.size ≤ p.block) (u : Value) : Drw S W (w.setCell p u) := h.below ((Below.refl _ _).setCell hp u)
theorem Drw.grown {S : SrcP} {W w w' : World} {row : Option Nat} (h : Drw S W w) (hg : w.grownBy w' row) (hr : ∀ k, row = some k → W.heap.size ≤ k) : Drw S W w' := h.below ((Below.refl _ _).grown hg h.size hr)
theorem Drw.cell {S : SrcP} {w w' : World} (h : Drw S w w') {p : Addr} {v : Value} (hp : p.block ≠ S.g) (hc : w.cell? p = some v) : w'.cell? p = some v := by
  rw [World.cell?_of_block (w := w) (h.block p.block (lt_of_cell hc) hp)]; exact hc
theorem Drw.frz {S : SrcP} {w w' : World} (h : Drw S w w') {p : Addr} (hl : p.block < w.heap.size) (hp : p.block ≠ S.g) : w'.frozen? p = w.frozen? p :=
  World.frozen?_of_block (w := w) (h.block p.block hl hp)
theorem Drw.own {S : SrcP} {B : Nat} {w w' : World} {a : Option Addr} {n cap : Nat} {xs : List Int} (h : Drw S w w') (ho : OwnC B w a n cap xs) (hB : S.g < B) : OwnC B w' a n cap xs :=
  ho.keep fun g hg => by
    have := ho.base_of g hg
    exact h.block g this.2 (by omega)
/-- A draw behind the making of the source. -/
theorem Drw.toExt {S : SrcP} {W w w' : World} (h : Drw S w w') (he : Ext W w) (hg : W.heap.size ≤ S.g) : Ext W w' :=
  he.trans' ⟨h.os, h.tape, h.output, h.size, fun k hk => h.block k (Nat.lt_of_lt_of_le hk he.size) (by omega)⟩

/-- As a relation for walks. -/
def Drw.rel (S : SrcP) : Chg.Rel := ⟨Drw S, Drw.refl S, Drw.trans⟩

def NextR (n r : Int) : Prop := (n < 1 → r = 0) ∧ (1 ≤ n → 0 ≤ r ∧ r < n)

theorem src_set {S : SrcP} {w : World} (h : Src S w) {j : Nat} {v : Value} (h0 : j = 1 → ∃ t : Nat, t ≤ S.n ∧ v = .int .i64 t) (h1 : j = 2 → ∃ x, v = .int .u64 x) (hj : j = 1 ∨ j = 2) : Drw S w (w.setCell ⟨S.g, j, none⟩ v) := by
  have hb : ∀ k, k < w.heap.size → k ≠ S.g → (w.setCell ⟨S.g, j, none⟩ v).heap[k]? = w.heap[k]? := fun k _ hk => Below.heap_setCell _ _ _ _ hk
  refine ⟨rfl, rfl, rfl, by simp [World.setCell], hb, fun hs => ?_⟩
  obtain ⟨t, ht, c1⟩ := h.c1
  obtain ⟨x, c2⟩ := h.c2
  have c0 := h.c0
  rcases hj with rfl | rfl
  · obtain ⟨t', ht', rfl⟩ := h0 rfl
    exact ⟨h.len, by go_simp, ⟨t', ht', by go_simp⟩, ⟨x, by go_simp⟩, fun i => by have := h.fz i; go_simp, h.rd.block hb⟩
  · obtain ⟨x', rfl⟩ := h1 rfl
    exact ⟨h.len, by go_simp, ⟨t, ht, by go_simp⟩, ⟨x', by go_simp⟩, fun i => by have := h.fz i; go_simp, h.rd.block hb⟩

theorem src_h {S : SrcP} {w : World} (h : Src S w) (x : Int) : Drw S w (w.setCell ⟨S.g, 2, none⟩ (.int .u64 x)) := src_set h (fun h => by omega) (fun _ => ⟨x, rfl⟩) (.inr rfl)
theorem u64_bd (E : Int) : 0 ≤ IntKind.u64.wrap E ∧ IntKind.u64.wrap E ≤ 18446744073709551615 := by
  simp [IntKind.wrap, IntKind.bits, IntKind.signed]; omega
theorem draw_bd (E : Int) : ∃ x : Int, wrap64 (bits BinOp.and IntKind.u64 (IntKind.u64.wrap E / 8589934592) 16777215) = x ∧ 0 ≤ x ∧ x ≤ 16777215 := by
  refine ⟨_, rfl, ?_⟩
  have h := u64_bd E
  obtain ⟨A, hA⟩ : ∃ A : Nat, IntKind.u64.wrap E / 8589934592 = (A : Int) := ⟨(IntKind.u64.wrap E / 8589934592).toNat, by omega⟩
  rw [hA, show (16777215 : Int) = ((16777215 : Nat) : Int) from rfl, bits_and_u64_nat _ _ (by omega) (by omega)]
  have h2 : A &&& 16777215 ≤ 16777215 := Nat.and_le_right
  have h3 : wrap64 ((A &&& 16777215 : Nat) : Int) = ((A &&& 16777215 : Nat) : Int) := by unfold wrap64; omega
  rw [h3]
  omega
theorem next_of {n x : Int} (h : ¬ n < 1) (_h0 : 0 ≤ x) : NextR n (x % n) := ⟨fun h' => absurd h' h, fun _ => ⟨Int.emod_nonneg _ (by omega), Int.emod_lt_of_pos _ (by omega)⟩⟩

set_option maxHeartbeats 1000000 in
theorem s_next (S : SrcP) (n : Int) (w : World) (hS : Src S w) (hn : n ≤ 9223372036854775807) :
    Calls Try.prog 101 #[.pointer (some ⟨S.g, 0, none⟩), .int .i64 n] w fun e w' => ∃ r, e = .returned (.int .i64 r) ∧ NextR n r ∧ Drw S w w' := by
  by_cases h1 : n < 1
  · go_enter Try.func101, Try.ntmps101
    go_wp2_with (fail)
    go_ret
    exact ⟨0, rfl, ⟨fun _ => rfl, fun h => by omega⟩, Drw.refl _ _⟩
  · obtain ⟨t, ht, c1⟩ := hS.c1
    obtain ⟨h, c2⟩ := hS.c2
    have c0 := hS.c0
    have f2 := hS.fz 2
    obtain ⟨x, hx, hx0, hx1⟩ := draw_bd (IntKind.u64.wrap (h * 6364136223846793005) + 1442695040888963407)
    obtain ⟨V, hV⟩ : ∃ V, V = Value.int IntKind.u64 (IntKind.u64.wrap (IntKind.u64.wrap (h * 6364136223846793005) + 1442695040888963407)) := ⟨_, rfl⟩
    obtain ⟨W, hW⟩ : ∃ W, W = w.setCell ⟨S.g, 2, none⟩ V := ⟨_, rfl⟩
    have D1 : Drw S w W := by rw [hW]; exact src_set hS (fun h => by omega) (fun _ => ⟨_, hV⟩) (.inr rfl)
    have e0 : W.cell? ⟨S.g, 0, none⟩ = some (.slice S.ca S.n S.cap) := by rw [hW]; go_simp
    have e1 : W.cell? ⟨S.g, 1, none⟩ = some (.int .i64 t) := by rw [hW]; go_simp
    have hS1 := D1.src hS
    have HS := Lib.hid hS1
    have HD := Lib.hid D1
    have HX := Lib.hid hx
    have HW := Lib.hid (by rw [hW, hV] : W = w.setCell ⟨S.g, 2, none⟩ (Value.int IntKind.u64 (IntKind.u64.wrap (IntKind.u64.wrap (h * 6364136223846793005) + 1442695040888963407))))
    have f1 := hS1.fz 1
    have hl := hS1.len
    clear hS hx D1 hS1 hW hV
    by_cases h2 : t < S.n
    · obtain ⟨b, off, z, hca, hbg, hcb, hz0, hz1⟩ := HS.out.rd t h2
      have E0 := Lib.hid ((ext_drew W).cell e0)
      have E1 := Lib.hid ((ext_drew W).cell e1)
      have EB := Lib.hid ((ext_drew W).cell hcb)
      have hnn : (n == 0) = false := by simp; omega
      rw [hca] at E0
      have HR := Lib.hid (next_of (n := n) (x := x + z) h1 (by omega))
      go_enter Try.func101, Try.ntmps101
      go_wp2_with (fail)
      rw [HX.out, ← HW.out]
      clear c0 c1 c2 f2 e0 hcb
      refine wp_region_lex [] (by kernel_rfl) (by kernel_rfl) ?_
      repeat' first | (refine LexW.pure (v := ?_) rfl rfl (fun w1 he => ?_) ?_; rotate_left; ( have x0 := he.cell E0.out; have x1 := he.cell E1.out; go_simp; rfl); simp only [Act.put, List.setIfInBounds_toArray, List.set_cons_zero, List.set_cons_succ])
      refine LexW.nil (fun w2 he hk => ?_)
      have X2 := Lib.hid ((ext_drew W).trans he)
      have F1 := Lib.hid ((ext_drew w2).cell (he.cell E0.out))
      have F2 := Lib.hid ((ext_drew w2).cell (he.cell E1.out))
      have F3 := Lib.hid ((ext_drew w2).cell (he.cell EB.out))
      clear he hk
      go_wp2_with (fail)
      refine wp_region_lex [] (by kernel_rfl) (by kernel_rfl) ?_
      repeat' first | (refine LexW.pure (v := ?_) rfl rfl (fun w1 he => ?_) ?_; rotate_left; ( have x0 := he.cell F1.out; have x1 := he.cell F2.out; have x2 := he.cell F3.out; go_simp; rfl); simp only [Act.put, List.setIfInBounds_toArray, List.set_cons_zero, List.set_cons_succ])
      refine LexW.nil (fun w3 he hk => ?_)
      have X3 := Lib.hid (X2.out.trans ((ext_drew w2).trans he))
      have y1 := he.cell F2.out
      have fz1 : w3.frozen? ⟨S.g, 1, none⟩ = false := by rw [X3.out.frz _ _ HS.out.lt]; exact f1
      clear he hk
      go_wp2_with (fail)
      go_ret
      refine ⟨_, rfl, ?_, ?_⟩
      · skip
        exact HR.out
      · have hS3 := (Drw.of_ext X3.out).src HS.out
        exact (HD.out.ext X3.out).trans (src_set hS3 (fun _ => ⟨t + 1, by omega, by go_num⟩) (fun h => by omega) (.inl rfl))
    · have E0 := Lib.hid ((ext_drew W).cell e0)
      have E1 := Lib.hid ((ext_drew W).cell e1)
      have hnn : (n == 0) = false := by simp; omega
      have HR := Lib.hid (next_of (n := n) (x := x) h1 (by omega))
      go_enter Try.func101, Try.ntmps101
      go_wp2_with (fail)
      rw [HX.out, ← HW.out]
      clear c0 c1 c2 f2 e0
      refine wp_region_lex [] (by kernel_rfl) (by kernel_rfl) ?_
      repeat' first | (refine LexW.pure (v := ?_) rfl rfl (fun w1 he => ?_) ?_; rotate_left; ( have x0 := he.cell E0.out; have x1 := he.cell E1.out; go_simp; rfl); simp only [Act.put, List.setIfInBounds_toArray, List.set_cons_zero, List.set_cons_succ])
      refine LexW.nil (fun w2 he hk => ?_)
      have X2 := Lib.hid ((ext_drew W).trans he)
      clear he hk
      go_wp2_with (fail)
      go_ret
      exact ⟨_, rfl, HR.out, HD.out.ext X2.out⟩
set_option maxHeartbeats 1000000 in
theorem l_below (S : SrcP) (n : Int) (w : World) (hS : Src S w) (hn : n ≤ 9223372036854775807) :
    Calls Try.prog 31 #[.pointer (some ⟨S.g, 0, none⟩), .int .i64 n] w fun e w' => ∃ r, e = .returned (.int .i64 r) ∧ NextR n r ∧ Drw S w w' := by
  by_cases h1 : n < 1
  · go_enter Try.func31, Try.ntmps31
    go_wp2_with (fail)
    go_ret
    exact ⟨0, rfl, ⟨fun _ => rfl, fun h => by omega⟩, Drw.refl _ _⟩
  · obtain ⟨t, ht, c1⟩ := hS.c1
    obtain ⟨h, c2⟩ := hS.c2
    have c0 := hS.c0
    have f2 := hS.fz 2
    obtain ⟨x, hx, hx0, hx1⟩ := draw_bd (IntKind.u64.wrap (h * 6364136223846793005) + 1442695040888963407)
    obtain ⟨V, hV⟩ : ∃ V, V = Value.int IntKind.u64 (IntKind.u64.wrap (IntKind.u64.wrap (h * 6364136223846793005) + 1442695040888963407)) := ⟨_, rfl⟩
    obtain ⟨W, hW⟩ : ∃ W, W = w.setCell ⟨S.g, 2, none⟩ V := ⟨_, rfl⟩
    have D1 : Drw S w W := by rw [hW]; exact src_set hS (fun h => by omega) (fun _ => ⟨_, hV⟩) (.inr rfl)
    have e0 : W.cell? ⟨S.g, 0, none⟩ = some (.slice S.ca S.n S.cap) := by rw [hW]; go_simp
    have e1 : W.cell? ⟨S.g, 1, none⟩ = some (.int .i64 t) := by rw [hW]; go_simp
    have hS1 := D1.src hS
    have HS := Lib.hid hS1
    have HD := Lib.hid D1
    have HX := Lib.hid hx
    have HW := Lib.hid (by rw [hW, hV] : W = w.setCell ⟨S.g, 2, none⟩ (Value.int IntKind.u64 (IntKind.u64.wrap (IntKind.u64.wrap (h * 6364136223846793005) + 1442695040888963407))))
    have f1 := hS1.fz 1
    have hl := hS1.len
    clear hS hx D1 hS1 hW hV
    by_cases h2 : t < S.n
    · obtain ⟨b, off, z, hca, hbg, hcb, hz0, hz1⟩ := HS.out.rd t h2
      have E0 := Lib.hid ((ext_drew W).cell e0)
      have E1 := Lib.hid ((ext_drew W).cell e1)
      have EB := Lib.hid ((ext_drew W).cell hcb)
      have hnn : (n == 0) = false := by simp; omega
      rw [hca] at E0
      have HR := Lib.hid (next_of (n := n) (x := x + z) h1 (by omega))
      go_enter Try.func31, Try.ntmps31
      go_wp2_with (fail)
      rw [HX.out, ← HW.out]
      clear c0 c1 c2 f2 e0 hcb
      refine wp_region_lex [] (by kernel_rfl) (by kernel_rfl) ?_
      repeat' first | (refine LexW.pure (v := ?_) rfl rfl (fun w1 he => ?_) ?_; rotate_left; ( have x0 := he.cell E0.out; have x1 := he.cell E1.out; go_simp; rfl); simp only [Act.put, List.setIfInBounds_toArray, List.set_cons_zero, List.set_cons_succ])
      refine LexW.nil (fun w2 he hk => ?_)
      have X2 := Lib.hid ((ext_drew W).trans he)
      have F1 := Lib.hid ((ext_drew w2).cell (he.cell E0.out))
      have F2 := Lib.hid ((ext_drew w2).cell (he.cell E1.out))
      have F3 := Lib.hid ((ext_drew w2).cell (he.cell EB.out))
      clear he hk
      go_wp2_with (fail)
      refine wp_region_lex [] (by kernel_rfl) (by kernel_rfl) ?_
      repeat' first | (refine LexW.pure (v := ?_) rfl rfl (fun w1 he => ?_) ?_; rotate_left; ( have x0 := he.cell F1.out; have x1 := he.cell F2.out; have x2 := he.cell F3.out; go_simp; rfl); simp only [Act.put, List.setIfInBounds_toArray, List.set_cons_zero, List.set_cons_succ])
      refine LexW.nil (fun w3 he hk => ?_)
      have X3 := Lib.hid (X2.out.trans ((ext_drew w2).trans he))
      have y1 := he.cell F2.out
      have fz1 : w3.frozen? ⟨S.g, 1, none⟩ = false := by rw [X3.out.frz _ _ HS.out.lt]; exact f1
      clear he hk
      go_wp2_with (fail)
      go_ret
      refine ⟨_, rfl, ?_, ?_⟩
      · skip
        exact HR.out
      · have hS3 := (Drw.of_ext X3.out).src HS.out
        exact (HD.out.ext X3.out).trans (src_set hS3 (fun _ => ⟨t + 1, by omega, by go_num⟩) (fun h => by omega) (.inl rfl))
    · have E0 := Lib.hid ((ext_drew W).cell e0)
      have E1 := Lib.hid ((ext_drew W).cell e1)
      have hnn : (n == 0) = false := by simp; omega
      have HR := Lib.hid (next_of (n := n) (x := x) h1 (by omega))
      go_enter Try.func31, Try.ntmps31
      go_wp2_with (fail)
      rw [HX.out, ← HW.out]
      clear c0 c1 c2 f2 e0
      refine wp_region_lex [] (by kernel_rfl) (by kernel_rfl) ?_
      repeat' first | (refine LexW.pure (v := ?_) rfl rfl (fun w1 he => ?_) ?_; rotate_left; ( have x0 := he.cell E0.out; have x1 := he.cell E1.out; go_simp; rfl); simp only [Act.put, List.setIfInBounds_toArray, List.set_cons_zero, List.set_cons_succ])
      refine LexW.nil (fun w2 he hk => ?_)
      have X2 := Lib.hid ((ext_drew W).trans he)
      clear he hk
      go_wp2_with (fail)
      go_ret
      exact ⟨_, rfl, HR.out, HD.out.ext X2.out⟩


/-- n bytes that can be read. -/
def RdY (w : World) (ca : Option Addr) (n : Nat) : Prop :=
  ∀ i, i < n → ∃ b off, ∃ z : Int, ca = some ⟨b, off, none⟩ ∧ w.cell? ⟨b, off + i, none⟩ = some (.int .u8 z) ∧ 0 ≤ z ∧ z ≤ 255
theorem RdY.ext {w w' : World} {ca : Option Addr} {n : Nat} (h : RdY w ca n) (he : Ext w w') : RdY w' ca n := fun i hi => by
  obtain ⟨b, off, z, h1, h2, h3⟩ := h i hi
  exact ⟨b, off, z, h1, he.cell h2, h3⟩

set_option maxHeartbeats 1000000 in
theorem s_from (ca : Option Addr) (n cap : Nat) (w : World) (hn : n ≤ 4096) (hb : RdY w ca n) :
    Calls Try.prog 70 #[.slice ca n cap] w fun e w' => ∃ g, e = .returned (.pointer (some ⟨g, 0, none⟩)) ∧ w.heap.size ≤ g ∧ Src ⟨g, ca, n, cap⟩ w' ∧ Ext w w' := by
  obtain ⟨g, hg⟩ : ∃ g, g = w.heap.size := ⟨_, rfl⟩
  have HG := Lib.hid hg
  have HB := Lib.hid hb
  clear hb
  go_enter Try.func70, Try.ntmps70
  go_wp2_with (fail)
  rw [← hg]
  go_loopw [4] (fun i wr => ∃ (k : Nat), k ≤ n ∧ i = .int .i64 k ∧ Src ⟨g, ca, n, cap⟩ wr ∧ Ext w wr) (fun i _ => n - (intOf i).toNat)
  case atStart =>
    refine ⟨0, Nat.zero_le _, rfl, ?_, ext_alloc _ _⟩
    refine ⟨hn, by rw [HG.out]; simp, ⟨0, Nat.zero_le _, by rw [HG.out]; simp⟩, ⟨_, by rw [HG.out]; simp; rfl⟩, fun j => by rw [HG.out]; simp, fun i hi => ?_⟩
    obtain ⟨b, off, z, h1, h2, h3⟩ := HB.out i hi
    exact ⟨b, off, z, h1, by have := lt_of_cell h2; have := HG.out; dsimp only at *; omega, (ext_alloc _ _).cell h2, h3⟩
  case round =>
    obtain ⟨k, hk, rfl, hS, hext⟩ := hrel
    have HS := Lib.hid hS
    have HE := Lib.hid hext
    clear hext hg
    by_cases hlt : k < n
    · obtain ⟨h, c2⟩ := hS.c2
      obtain ⟨b, off, z, rfl, hbg, hc, hz0, hz1⟩ := hS.rd k hlt
      have C2 := Lib.hid ((ext_drew _).cell c2)
      have CB := Lib.hid ((ext_drew _).cell hc)
      have hk6 : k < 4096 := by omega
      clear hS c2 hc
      go_wp2_with (fail)
      refine wp_region_lex_tail 15 [] (by kernel_rfl) (by kernel_rfl) ?_
      simp only [List.take, List.drop]
      repeat' first | (refine LexW.pure (v := ?_) rfl rfl (fun w1 he => ?_) ?_; rotate_left; ( have x0 := he.cell C2.out; have x1 := he.cell CB.out; go_simp; rfl); simp only [Act.put, List.setIfInBounds_toArray, List.set_cons_zero, List.set_cons_succ])
      refine LexW.nil (fun w2 he hkn => ?_)
      have X2 := Lib.hid ((ext_drew _).trans he)
      have hS2 := (Drw.of_ext X2.out).src HS.out
      have fz := hS2.fz 2
      have c2 := he.cell C2.out
      have HS2 := Lib.hid hS2
      clear he hkn hS2
      go_wp2_with (fail)
      go_roundw
      case rel =>
        exact ⟨k + 1, by omega, by go_num, (src_h HS2.out _).src HS2.out, (src_h HS2.out _).toExt (HE.out.trans X2.out) (by have := HG.out; dsimp only; omega)⟩
      case measure => simp [intOf]; omega
    · go_wp2_with (fail)
      go_ret
      exact ⟨g, rfl, by have := HG.out; omega, HS.out, HE.out⟩
set_option maxHeartbeats 1000000 in
theorem l_roll (ca : Option Addr) (n cap : Nat) (sd : Int) (w : World) (hn : n ≤ 4096) (hb : RdY w ca n) :
    Calls Try.prog 27 #[.slice ca n cap, .int .u64 sd] w fun e w' => ∃ g, e = .returned (.pointer (some ⟨g, 0, none⟩)) ∧ w.heap.size ≤ g ∧ Src ⟨g, ca, n, cap⟩ w' ∧ Ext w w' := by
  obtain ⟨g, hg⟩ : ∃ g, g = w.heap.size := ⟨_, rfl⟩
  have HG := Lib.hid hg
  have HB := Lib.hid hb
  clear hb
  go_enter Try.func27, Try.ntmps27
  go_wp2_with (fail)
  rw [← hg]
  go_loopw [6] (fun i wr => ∃ (k : Nat), k ≤ n ∧ i = .int .i64 k ∧ Src ⟨g, ca, n, cap⟩ wr ∧ Ext w wr) (fun i _ => n - (intOf i).toNat)
  case atStart =>
    refine ⟨0, Nat.zero_le _, rfl, ?_, ext_alloc _ _⟩
    refine ⟨hn, by rw [HG.out]; simp, ⟨0, Nat.zero_le _, by rw [HG.out]; simp⟩, ⟨_, by rw [HG.out]; simp; rfl⟩, fun j => by rw [HG.out]; simp, fun i hi => ?_⟩
    obtain ⟨b, off, z, h1, h2, h3⟩ := HB.out i hi
    exact ⟨b, off, z, h1, by have := lt_of_cell h2; have := HG.out; dsimp only at *; omega, (ext_alloc _ _).cell h2, h3⟩
  case round =>
    obtain ⟨k, hk, rfl, hS, hext⟩ := hrel
    have HS := Lib.hid hS
    have HE := Lib.hid hext
    clear hext hg
    by_cases hlt : k < n
    · obtain ⟨h, c2⟩ := hS.c2
      obtain ⟨b, off, z, rfl, hbg, hc, hz0, hz1⟩ := hS.rd k hlt
      have C2 := Lib.hid ((ext_drew _).cell c2)
      have CB := Lib.hid ((ext_drew _).cell hc)
      have hk6 : k < 4096 := by omega
      clear hS c2 hc
      go_wp2_with (fail)
      refine wp_region_lex_tail 15 [] (by kernel_rfl) (by kernel_rfl) ?_
      simp only [List.take, List.drop]
      repeat' first | (refine LexW.pure (v := ?_) rfl rfl (fun w1 he => ?_) ?_; rotate_left; ( have x0 := he.cell C2.out; have x1 := he.cell CB.out; go_simp; rfl); simp only [Act.put, List.setIfInBounds_toArray, List.set_cons_zero, List.set_cons_succ])
      refine LexW.nil (fun w2 he hkn => ?_)
      have X2 := Lib.hid ((ext_drew _).trans he)
      have hS2 := (Drw.of_ext X2.out).src HS.out
      have fz := hS2.fz 2
      have c2 := he.cell C2.out
      have HS2 := Lib.hid hS2
      clear he hkn hS2
      go_wp2_with (fail)
      go_roundw
      case rel =>
        exact ⟨k + 1, by omega, by go_num, (src_h HS2.out _).src HS2.out, (src_h HS2.out _).toExt (HE.out.trans X2.out) (by have := HG.out; dsimp only; omega)⟩
      case measure => simp [intOf]; omega
    · go_wp2_with (fail)
      go_ret
      exact ⟨g, rfl, by have := HG.out; omega, HS.out, HE.out⟩
end Go.Proofs.Ytbgnfjckbjmgbaa

/-
  Draws of numbers, lists and spaces: what they leave.
  No condition.
-/
namespace Go.Proofs.Ytbgnfjckbjmgbaa
set_option maxRecDepth 100000
open Go.RowKit

/-- The cells of a row that is written out. -/
theorem rdC_lit (w : World) (T : TypeId) (xs : List Int) : RdC (w.alloc (.cells (xs.map (.int .i64)).toArray T)) (some ⟨w.heap.size, 0, none⟩) xs.length xs := by
  refine ⟨rfl, fun i hi => ⟨w.heap.size, 0, rfl, ?_⟩⟩
  simp [hi, nth_eq hi]

theorem nth_in {xs : List Int} {i : Nat} (h : i < xs.length) : nth xs i ∈ xs := nth_mem h

set_option maxHeartbeats 400000 in
theorem s_pick (S : SrcP) (b m cap : Nat) (xs : List Int) (w : World) (hS : Src S w) (hm : 0 < m) (hm2 : m ≤ 1000) (hx : RdC w (some ⟨b, 0, none⟩) m xs) (hb : b ≠ S.g) :
    Calls Try.prog 100 #[.pointer (some ⟨S.g, 0, none⟩), .slice (some ⟨b, 0, none⟩) m cap] w fun e w' => ∃ r, e = .returned (.int .i64 r) ∧ r ∈ xs ∧ Drw S w w' := by
  have HX := Lib.hid hx
  clear hx
  go_enter Try.func100, Try.ntmps100
  have arm : ∀ r : Int, NextR m r → ∃ k : Nat, r = (k : Int) ∧ k < m ∧ w.cell? ⟨b, k, none⟩ = some (.int .i64 (nth xs k)) := by
    intro r hr
    have hr1 := hr.2 (by omega)
    refine ⟨r.toNat, by omega, by omega, ?_⟩
    obtain ⟨b', o', hab, hc⟩ := HX.out.2 r.toNat (by omega)
    simp only [Option.some.injEq, Addr.mk.injEq] at hab
    obtain ⟨rfl, rfl, _⟩ := hab
    simpa using hc
  have hm0 : (m : Int) ≤ 9223372036854775807 := by omega
  go_wp2_with (go_at_call 101; refine (s_next S m _ hS hm0).mono ?_; rintro e w1 ⟨r, rfl, hr, g1⟩; obtain ⟨k, rfl, hk, hc⟩ := arm r hr; have hc1 := g1.cell (p := ⟨b, k, none⟩) hb hc)
  go_ret
  exact ⟨_, rfl, nth_mem (by rw [HX.out.1]; exact hk), g1⟩

set_option maxHeartbeats 400000 in
theorem s_drawPrime (S : SrcP) (w : World) (hS : Src S w) :
    Calls Try.prog 163 #[.pointer (some ⟨S.g, 0, none⟩)] w fun e w' => ∃ p, e = .returned (.int .i64 p) ∧ primeB p = true ∧ 3 ≤ p ∧ p ≤ 13 ∧ Drw S w w' := by
  have hlt := hS.lt
  go_enter Try.func163, Try.ntmps163
  go_wp2_with (go_at_call 100; refine Calls.mono (s_pick S _ _ _ _ _ ((Drw.of_ext (ext_alloc _ _)).src hS) (by omega) (by omega) (rdC_lit w _ [3, 5, 7, 11, 13, 3, 5, 7]) (Nat.ne_of_gt hlt)) ?_; rintro e w1 ⟨r, rfl, hr, g1⟩)
  go_ret
  have hp : primeB r = true ∧ 3 ≤ r ∧ r ≤ 13 := by
    simp only [List.mem_cons, List.not_mem_nil, or_false] at hr
    rcases hr with rfl | rfl | rfl | rfl | rfl | rfl | rfl | rfl <;> decide +kernel
  exact ⟨r, rfl, hp.1, hp.2.1, hp.2.2, (Drw.of_ext (ext_alloc _ _)).trans g1⟩
set_option maxHeartbeats 1000000 in
theorem s_dlist (S : SrcP) (p : Int) (n : Nat) (w : World) (hS : Src S w) (hp : p ≤ 9223372036854775807) (hn : n ≤ 1000) :
    Calls Try.prog 180 #[.pointer (some ⟨S.g, 0, none⟩), .int .i64 p, .int .i64 n] w fun e w' => ∃ a cap xs, e = .returned (.slice a n cap) ∧ OwnC w.heap.size w' a n cap xs ∧ (1 ≤ p → isB p xs = true) ∧ Drw S w w' := by
  have HS := Lib.hid hS
  have hlt := hS.lt
  clear hS
  go_enter Try.func180, Try.ntmps180
  go_wp2_with (fail)
  go_loopw [2, 7] (fun i o wr => ∃ (k : Nat) (a : Option Addr) (cap : Nat) (xs : List Int), k ≤ n ∧ i = .int .i64 ((n - k : Nat) : Int) ∧ o = .slice a k cap ∧ OwnC w.heap.size wr a k cap xs ∧ Hid (1 ≤ p → isB p xs = true) ∧ Hid (Drw S w wr)) (fun i o _ => (intOf i).toNat)
  case atStart => exact ⟨0, _, 0, [], Nat.zero_le _, by simp, rfl, own_empty w, Lib.hid (fun _ => by simp [isB]), Lib.hid (Drw.of_ext (ext_alloc _ _))⟩
  case round =>
    obtain ⟨k, a, cap, xs, hk, rfl, rfl, ho, HB, HD⟩ := hrel
    have HO := Lib.hid ho
    clear ho
    by_cases hkn : k < n
    · obtain ⟨m, hm⟩ : ∃ m : Nat, n - k = m + 1 := ⟨n - k - 1, by omega⟩
      rw [hm]
      go_wp2_with (first | (go_at_call 101; refine (s_next S p wr (HD.out.src HS.out) hp).mono ?_; rintro e w1 ⟨r, rfl, hr, g1⟩; have HR := Lib.hid hr; have G1 := Lib.hid g1; clear hr g1) | (at_builtin; refine wpList_push rfl (.tmp 13) (.tmp 17) rfl rfl rfl (v := r) ((G1.out.own HO.out hlt).ext (ext_alloc _ _)) ?hc ?hn ?hB ?hk))
      case hc => simp
      case hn => omega
      case hB => exact Nat.le_trans HD.out.size (Nat.le_trans G1.out.size (by simp))
      case hk =>
        intro g' cap' w3 ho3 hg3 he3
        have HO3 := Lib.hid ho3
        have HD3 := Lib.hid (((HD.out.trans G1.out).alloc _).grown hg3 (fun k hk => HO.out.blk k hk))
        clear ho3 hg3 he3
        go_wp2_with (fail)
        go_roundw
        case rel => exact ⟨k + 1, _, cap', _, by omega, by go_num, rfl, HO3.out, Lib.hid (fun h => by
          have h1 := HB.out h
          have h2 := HR.out.2 h
          unfold isB at h1 ⊢
          rw [List.all_append, h1]
          simp [inB]; omega), HD3⟩
        case measure => simp [intOf]
    · have hk0 : n - k = 0 := by omega
      rw [hk0]
      go_wp2_with (fail)
      go_ret
      obtain rfl : k = n := by omega
      exact ⟨a, cap, xs, rfl, HO.out, HB.out, HD.out⟩
set_option maxHeartbeats 1000000 in
theorem l_list5 (S : SrcP) (p : Int) (n : Nat) (w : World) (hS : Src S w) (hp : p ≤ 9223372036854775807) (hn : n ≤ 1000) :
    Calls Try.prog 28 #[.pointer (some ⟨S.g, 0, none⟩), .int .i64 n, .int .i64 p] w fun e w' => ∃ a cap xs, e = .returned (.slice a n cap) ∧ OwnC w.heap.size w' a n cap xs ∧ (1 ≤ p → isB p xs = true) ∧ Drw S w w' := by
  have HS := Lib.hid hS
  have hlt := hS.lt
  clear hS
  go_enter Try.func28, Try.ntmps28
  go_wp2_with (fail)
  go_loopw [1, 7] (fun i o wr => ∃ (k : Nat) (a : Option Addr) (cap : Nat) (xs : List Int), k ≤ n ∧ i = .int .i64 ((n - k : Nat) : Int) ∧ o = .slice a k cap ∧ OwnC w.heap.size wr a k cap xs ∧ Hid (1 ≤ p → isB p xs = true) ∧ Hid (Drw S w wr)) (fun i o _ => (intOf i).toNat)
  case atStart => exact ⟨0, _, 0, [], Nat.zero_le _, by simp, rfl, own_empty w, Lib.hid (fun _ => by simp [isB]), Lib.hid (Drw.of_ext (ext_alloc _ _))⟩
  case round =>
    obtain ⟨k, a, cap, xs, hk, rfl, rfl, ho, HB, HD⟩ := hrel
    have HO := Lib.hid ho
    clear ho
    by_cases hkn : k < n
    · obtain ⟨m, hm⟩ : ∃ m : Nat, n - k = m + 1 := ⟨n - k - 1, by omega⟩
      rw [hm]
      go_wp2_with (first | (go_at_call 31; refine (l_below S p wr (HD.out.src HS.out) hp).mono ?_; rintro e w1 ⟨r, rfl, hr, g1⟩; have HR := Lib.hid hr; have G1 := Lib.hid g1; clear hr g1) | (at_builtin; refine wpList_push rfl (.tmp 13) (.tmp 17) rfl rfl rfl (v := r) ((G1.out.own HO.out hlt).ext (ext_alloc _ _)) ?hc ?hn ?hB ?hk))
      case hc => simp
      case hn => omega
      case hB => exact Nat.le_trans HD.out.size (Nat.le_trans G1.out.size (by simp))
      case hk =>
        intro g' cap' w3 ho3 hg3 he3
        have HO3 := Lib.hid ho3
        have HD3 := Lib.hid (((HD.out.trans G1.out).alloc _).grown hg3 (fun k hk => HO.out.blk k hk))
        clear ho3 hg3 he3
        go_wp2_with (fail)
        go_roundw
        case rel => exact ⟨k + 1, _, cap', _, by omega, by go_num, rfl, HO3.out, Lib.hid (fun h => by
          have h1 := HB.out h
          have h2 := HR.out.2 h
          unfold isB at h1 ⊢
          rw [List.all_append, h1]
          simp [inB]; omega), HD3⟩
        case measure => simp [intOf]
    · have hk0 : n - k = 0 := by omega
      rw [hk0]
      go_wp2_with (fail)
      go_ret
      obtain rfl : k = n := by omega
      exact ⟨a, cap, xs, rfl, HO.out, HB.out, HD.out⟩

/-- A struct of a prime and a slice in a block. -/
structure SpAt (w : World) (O : Nat) (p : Int) (v : Value) : Prop where
  c0 : w.cell? ⟨O, 0, none⟩ = some (.int .i64 p)
  c1 : w.cell? ⟨O, 1, none⟩ = some v
  f0 : w.frozen? ⟨O, 0, none⟩ = false
  f1 : w.frozen? ⟨O, 1, none⟩ = false
theorem SpAt.block {w w' : World} {O : Nat} {p : Int} {v : Value} (h : SpAt w O p v) (hb : w'.heap[O]? = w.heap[O]?) : SpAt w' O p v :=
  ⟨by rw [World.cell?_of_block (w := w) hb]; exact h.c0, by rw [World.cell?_of_block (w := w) hb]; exact h.c1, by rw [World.frozen?_of_block (w := w) hb]; exact h.f0, by rw [World.frozen?_of_block (w := w) hb]; exact h.f1⟩
theorem SpAt.lt {w : World} {O : Nat} {p : Int} {v : Value} (h : SpAt w O p v) : O < w.heap.size := lt_of_cell h.c0
theorem SpAt.below {w w' : World} {O B : Nat} {p : Int} {v : Value} (h : SpAt w O p v) (hb : Below B w w') (hO : O < B) : SpAt w' O p v := h.block (hb.block O hO)
theorem SpAt.ext {w w' : World} {O : Nat} {p : Int} {v : Value} (h : SpAt w O p v) (hb : Ext w w') : SpAt w' O p v := h.below hb h.lt
theorem SpAt.drw {S : SrcP} {w w' : World} {O : Nat} {p : Int} {v : Value} (h : SpAt w O p v) (hd : Drw S w w') (ho : O ≠ S.g) : SpAt w' O p v := h.block (hd.block O h.lt ho)
theorem SpAt.set0 {w : World} {O : Nat} {p : Int} {v : Value} (h : SpAt w O p v) (q : Int) : SpAt (w.setCell ⟨O, 0, none⟩ (.int .i64 q)) O q v := by
  obtain ⟨h0, h1, h2, h3⟩ := h
  exact ⟨by go_simp, by go_simp, by go_simp, by go_simp⟩
theorem SpAt.set1 {w : World} {O : Nat} {p : Int} {v : Value} (h : SpAt w O p v) (u : Value) : SpAt (w.setCell ⟨O, 1, none⟩ u) O p u := by
  obtain ⟨h0, h1, h2, h3⟩ := h
  exact ⟨by go_simp, by go_simp, by go_simp, by go_simp⟩
theorem SpAt.other {w : World} {O : Nat} {p : Int} {v : Value} (h : SpAt w O p v) {q : Addr} (hq : q.block ≠ O) (u : Value) : SpAt (w.setCell q u) O p v := h.block (Below.heap_setCell _ _ _ _ (Ne.symm hq))

/-- The length of the slice in a block's second cell. -/
def lenAt (w : World) (O : Nat) : Nat := match w.cell? ⟨O, 1, none⟩ with | some (.slice _ n _) => n | _ => 0
theorem lenAt_of {w : World} {O : Nat} {p : Int} {a : Option Addr} {n c : Nat} (h : SpAt w O p (.slice a n c)) : lenAt w O = n := by simp [lenAt, h.c1]

set_option maxHeartbeats 4000000 in
theorem s_any (S : SrcP) (m : Nat) (w : World) (hS : Src S w) (hm1 : 1 ≤ m) (hm : m ≤ 6) :
    Calls Try.prog 99 #[.pointer (some ⟨S.g, 0, none⟩), .int .i64 m] w fun e w' => ∃ p a d cap qs, e = .returned (.agg #[.int .i64 p, .slice a d cap]) ∧ primeB p = true ∧ 3 ≤ p ∧ p ≤ 13 ∧ 1 ≤ d ∧ d ≤ m ∧ isB p qs = true ∧ OwnC w.heap.size w' a d cap qs ∧ Drw S w w' := by
  have HS := Lib.hid hS
  have hlt := hS.lt
  clear hS
  obtain ⟨W, hW⟩ : ∃ W, W = w.alloc (.cells #[.int .i64 0, .slice none 0 0] 26) := ⟨_, rfl⟩
  have gW : Ext w W := by rw [hW]; exact ext_alloc _ _
  have hR : SpAt W w.heap.size 0 (.slice none 0 0) := by rw [hW]; exact ⟨by simp, by simp, by simp, by simp⟩
  have HR := Lib.hid hR
  have GW := Lib.hid gW
  have HW := Lib.hid hW
  clear hR gW hW
  go_enter Try.func99, Try.ntmps99
  go_wp2_with (fail)
  rw [← HW.out]
  refine Calls.mono (s_drawPrime S W ((Drw.of_ext GW.out).src HS.out)) ?_
  rintro e w1 ⟨p, rfl, hpr, hp1, hp2, g1⟩
  have HR1 := Lib.hid (HR.out.drw g1 (Nat.ne_of_gt hlt))
  have G1 := Lib.hid ((Drw.of_ext GW.out).trans g1)
  clear g1
  go_wp2_with (fail)
  obtain ⟨W2, hW2⟩ : ∃ W2, W2 = w1.alloc (.cells #[.int .i64 p, .slice none 0 0] 26) := ⟨_, rfl⟩
  obtain ⟨O, hO⟩ : ∃ O, O = w1.heap.size := ⟨_, rfl⟩
  have gW2 : Ext w1 W2 := by rw [hW2]; exact ext_alloc _ _
  have hOA : SpAt W2 O p (.slice none 0 0) := by rw [hW2, hO]; exact ⟨by simp, by simp, by simp, by simp⟩
  rw [← hW2, ← hO]
  have hOw : w.heap.size < O := by rw [hO]; exact HR1.out.lt
  have HOA := Lib.hid hOA
  have HR2 := Lib.hid (HR1.out.ext gW2)
  have G2 := Lib.hid (G1.out.ext gW2)
  have hm0 : (m : Int) ≤ 9223372036854775807 := by omega
  have hgO : O ≠ S.g := by omega
  have hgR : w.heap.size ≠ S.g := by omega
  clear hW2 hO gW2 hOA HR1 G1
  refine Calls.mono (s_next S m W2 (G2.out.src HS.out) hm0) ?_
  rintro e w2 ⟨r0, rfl, hr0, g2⟩
  obtain ⟨N, hN, hN1, hN2⟩ : ∃ N : Nat, 1 + r0 = (N : Int) ∧ 1 ≤ N ∧ N ≤ m := ⟨(1 + r0).toNat, by have := hr0.2 (by omega); omega, by have := hr0.2 (by omega); omega, by have := hr0.2 (by omega); omega⟩
  have HR3 := Lib.hid (HR2.out.drw g2 hgR)
  have HO3 := Lib.hid (HOA.out.drw g2 hgO)
  have G3 := Lib.hid (G2.out.trans g2)
  have hwN : IntKind.i64.wrap (1 + r0) = N := by rw [hN]; exact IntWalk.i64_in _ (by omega)
  have hwN' : wrap64 (1 + r0) = N := by rw [hN]; unfold wrap64; omega
  clear g2 hr0 HR2 HOA G2
  go_wp2_with (fail)
  go_loopw [7] (fun i wr => ∃ (k : Nat) (a : Option Addr) (cap : Nat) (qs : List Int), k ≤ N ∧ i = .int .i64 ((N - k : Nat) : Int) ∧ Hid (SpAt wr w.heap.size 0 (.slice none 0 0)) ∧ Hid (SpAt wr O p (.slice a k cap)) ∧ Hid (OwnC (O + 1) wr a k cap qs) ∧ Hid (isB p qs = true) ∧ Hid (Drw S w wr)) (fun i _ => (intOf i).toNat)
  case atStart => exact ⟨0, none, 0, [], Nat.zero_le _, by simp, HR3, HO3, Lib.hid (own_nil _ _), Lib.hid (by simp [isB]), G3⟩
  case round =>
    obtain ⟨k, a, cap, qs, hk, rfl, HR, HO, HQ, HB, HD⟩ := hrel
    clear HR3 HO3 G3
    by_cases hkn : k < N
    · obtain ⟨j, hj⟩ : ∃ j : Nat, N - k = j + 1 := ⟨N - k - 1, by omega⟩
      rw [hj]
      have hp3 : p - 1 ≤ 9223372036854775807 := by omega
      have hwp : wrap64 (p - 1) = p - 1 := by unfold wrap64; omega
      go_wp2_with (fail)
      refine Calls.mono (s_next S (p - 1) wr (HD.out.src HS.out) hp3) ?_
      rintro e w3 ⟨r1, rfl, hr1, g3⟩
      have hr1' := hr1.2 (by omega)
      have HR4 := Lib.hid (HR.out.drw g3 hgR)
      have HO4 := Lib.hid (HO.out.drw g3 hgO)
      have HQ4 := Lib.hid (g3.own HQ.out (by omega))
      have HD4 := Lib.hid (HD.out.trans g3)
      have hwr : wrap64 (1 + r1) = 1 + r1 := by unfold wrap64; omega
      clear g3 hr1 HR HO HQ HD
      go_wp2_with (fail)
      refine Calls.mono (s_pick S w3.heap.size 4 4 [1, p - 1, 1 + r1, 1] _ ((HD4.out.alloc _).src HS.out) (by decide) (by decide) (rdC_lit w3 _ [1, p - 1, 1 + r1, 1]) (by have := HD4.out.size; omega)) ?_
      rintro e w4 ⟨r2, rfl, hr2, g4⟩
      have hr2' : 0 ≤ r2 ∧ r2 < p := by
        simp only [List.mem_cons, List.not_mem_nil, or_false] at hr2
        omega
      have HR5 := Lib.hid ((HR4.out.ext (ext_alloc _ _)).drw g4 hgR)
      have HO5 := Lib.hid ((HO4.out.ext (ext_alloc _ _)).drw g4 hgO)
      have HQ5 := Lib.hid (g4.own (HQ4.out.ext (ext_alloc _ _)) (by omega))
      have HD5 := Lib.hid ((HD4.out.alloc _).trans g4)
      clear g4 hr2 HR4 HO4 HQ4 HD4
      go_wp2_with (fail)
      refine Calls.mono (s_next S 10 w4 (HD5.out.src HS.out) (by decide)) ?_
      rintro e w5 ⟨r3, rfl, hr3, g5⟩
      have HR6 := Lib.hid (HR5.out.drw g5 hgR)
      have HO6 := Lib.hid (HO5.out.drw g5 hgO)
      have HQ6 := Lib.hid (g5.own HQ5.out (by omega))
      have HD6 := Lib.hid (HD5.out.trans g5)
      have c1 := HO6.out.c1
      clear g5 hr3 HR5 HO5 HQ5 HD5
      have h0 : (0 : Int) ≤ 0 ∧ (0 : Int) < p := by omega
      by_cases hb : r3 = 0
      · have hbb : (r3 == 0) = true := by simp [hb]
        go_wp2_with (at_builtin; refine wpList_push rfl (.tmp 35) (.tmp 37) rfl rfl rfl (v := 0) (HQ6.out.ext (ext_alloc _ _)) ?hc ?hn ?hB ?hk)
        case hc => simp
        case hn => omega
        case hB => have := HO6.out.lt; simp; omega
        case hk =>
          intro g' cap' w6 ho6 hg6 he6
          have hbl : Below (O + 1) w5 w6 := (Below.refl _ _).trans (((Below.refl (O + 1) _).alloc (by have := HO6.out.lt; omega) _).grown hg6 (by have := HO6.out.lt; simp; omega) (fun k hk => HQ6.out.blk k hk))
          have HO7 := Lib.hid (HO6.out.below hbl (by omega))
          have HR7 := Lib.hid (HR6.out.below hbl (by omega))
          have HD7 := Lib.hid (HD6.out.below (hbl.mono (by omega)))
          have HQ7 := Lib.hid ho6
          have c1' := HO7.out.c1
          have f1' := HO7.out.f1
          clear hbl ho6 hg6 he6 c1
          go_wp2_with (fail)
          go_roundw
          case rel => exact ⟨k + 1, _, cap', _, by omega, by go_num, Lib.hid (HR7.out.other (by simp; omega) _), Lib.hid (HO7.out.set1 _), Lib.hid (HQ7.out.other (by simp) _), Lib.hid (by
              have h1 := HB.out
              unfold isB at h1 ⊢
              rw [List.all_append, h1]
              simp [inB]; omega), Lib.hid (HD7.out.setCell (by simp; omega) _)⟩
          case measure => simp [intOf]
      · have hbb : (r3 == 0) = false := by simp [hb]
        go_wp2_with (at_builtin; refine wpList_push rfl (.tmp 35) (.tmp 37) rfl rfl rfl (v := r2) (HQ6.out.ext (ext_alloc _ _)) ?hc ?hn ?hB ?hk)
        case hc => simp
        case hn => omega
        case hB => have := HO6.out.lt; simp; omega
        case hk =>
          intro g' cap' w6 ho6 hg6 he6
          have hbl : Below (O + 1) w5 w6 := (Below.refl _ _).trans (((Below.refl (O + 1) _).alloc (by have := HO6.out.lt; omega) _).grown hg6 (by have := HO6.out.lt; simp; omega) (fun k hk => HQ6.out.blk k hk))
          have HO7 := Lib.hid (HO6.out.below hbl (by omega))
          have HR7 := Lib.hid (HR6.out.below hbl (by omega))
          have HD7 := Lib.hid (HD6.out.below (hbl.mono (by omega)))
          have HQ7 := Lib.hid ho6
          have c1' := HO7.out.c1
          have f1' := HO7.out.f1
          clear hbl ho6 hg6 he6 c1
          go_wp2_with (fail)
          go_roundw
          case rel => exact ⟨k + 1, _, cap', _, by omega, by go_num, Lib.hid (HR7.out.other (by simp; omega) _), Lib.hid (HO7.out.set1 _), Lib.hid (HQ7.out.other (by simp) _), Lib.hid (by
              have h1 := HB.out
              unfold isB at h1 ⊢
              rw [List.all_append, h1]
              simp [inB]; omega), Lib.hid (HD7.out.setCell (by simp; omega) _)⟩
          case measure => simp [intOf]
    · have hk0 : N - k = 0 := by omega
      rw [hk0]
      obtain rfl : k = N := by omega
      have o0 := HO.out.c0
      have o1 := HO.out.c1
      have r0 := HR.out.c0
      have r1 := HR.out.c1
      have f0 := HR.out.f0
      have f1 := HR.out.f1
      go_wp2_with (fail)
      refine bodyPost_ret (v := .agg #[.int .i64 p, .slice a k cap]) (by simp [results, Try.results99, go_sem, r0, r1]) rfl ⟨p, a, k, cap, qs, rfl, hpr, hp1, hp2, hN1, hN2, HB.out, ?_, ?_⟩
      · exact ((HQ.out.other (by simp; omega) _).other (by simp; omega) _).mono (by omega)
      · exact (HD.out.setCell (by simp) _).setCell (by simp) _

set_option maxHeartbeats 1000000 in
theorem s_draw3 (S : SrcP) (w : World) (hS : Src S w) :
    Calls Try.prog 137 #[.pointer (some ⟨S.g, 0, none⟩)] w fun e w' => ∃ p a d cap qs, e = .returned (.agg #[.int .i64 p, .slice a d cap]) ∧ primeB p = true ∧ 3 ≤ p ∧ p ≤ 13 ∧ 1 ≤ d ∧ d ≤ 6 ∧ isB p qs = true ∧ OwnC w.heap.size w' a d cap qs ∧ Drw S w w' := by
  have HS := Lib.hid hS
  have hlt := hS.lt
  clear hS
  obtain ⟨W, hW⟩ : ∃ W, W = w.alloc (.cells #[.int .i64 0, .slice none 0 0] 26) := ⟨_, rfl⟩
  have gW : Ext w W := by rw [hW]; exact ext_alloc _ _
  have HZ := Lib.hid (show W.heap.size = w.heap.size + 1 by rw [hW]; simp)
  have HR := Lib.hid (show SpAt W w.heap.size 0 (.slice none 0 0) by rw [hW]; exact ⟨by simp, by simp, by simp, by simp⟩)
  have HW := Lib.hid hW
  have GW := Lib.hid (Drw.of_ext (S := S) gW)
  have hgR : w.heap.size ≠ S.g := by omega
  clear gW hW
  go_enter Try.func137, Try.ntmps137
  go_wp2_with (fail)
  rw [← HW.out]
  refine Calls.mono (s_pick S (w.heap.size + 1) 5 5 [2, 3, 3, 4, 6] _ ((GW.out.alloc _).src HS.out) (by decide) (by decide) (by rw [← HZ.out]; exact rdC_lit W _ [2, 3, 3, 4, 6]) (by omega)) ?_
  rintro e w2 ⟨r, rfl, hr, g2⟩
  obtain ⟨m, rfl, hm1, hm2⟩ : ∃ m : Nat, r = (m : Int) ∧ 1 ≤ m ∧ m ≤ 6 := by
    refine ⟨r.toNat, ?_⟩
    simp only [List.mem_cons, List.not_mem_nil, or_false] at hr
    omega
  have HR2 := Lib.hid ((HR.out.ext (ext_alloc _ _)).drw g2 hgR)
  have G2 := Lib.hid ((GW.out.alloc _).trans g2)
  clear g2 hr HR
  go_wp2_with (fail)
  refine Calls.mono (s_any S m w2 (G2.out.src HS.out) hm1 hm2) ?_
  rintro e w3 ⟨p, a, d, cap, qs, rfl, hpr, hp1, hp2, hd1, hd2, hqb, ho, g3⟩
  have r0 := (HR2.out.drw g3 hgR).c0
  have r1 := (HR2.out.drw g3 hgR).c1
  have f0 := (HR2.out.drw g3 hgR).f0
  have f1 := (HR2.out.drw g3 hgR).f1
  have hlw := HR2.out.lt
  have HO := Lib.hid ho
  have G3 := Lib.hid (G2.out.trans g3)
  clear ho g3
  go_wp2_with (fail)
  refine bodyPost_ret (v := .agg #[.int .i64 p, .slice a d cap]) (by simp [results, Try.results137, go_sem, r0, r1]) rfl ⟨p, a, d, cap, qs, rfl, hpr, hp1, hp2, hd1, by omega, hqb, ?_, ?_⟩
  · exact ((HO.out.other (by simp; omega) _).other (by simp; omega) _).mono (by omega)
  · exact (G3.out.setCell (by simp) _).setCell (by simp) _

namespace Chg
/-- A written row that is not the source. -/
def SPred.lit (S : SrcP) (n : Nat) (xs : List Int) : SPred (Drw.rel S) :=
  ⟨fun v w => ∃ b, v = .slice (some ⟨b, 0, none⟩) n n ∧ RdC w (some ⟨b, 0, none⟩) n xs ∧ b ≠ S.g, fun _ _ _ ⟨b, h1, h2, h3⟩ he => ⟨b, h1, ⟨h2.1, fun i hi => by
    obtain ⟨b', o, hb, hc⟩ := h2.2 i hi
    simp only [Option.some.injEq, Addr.mk.injEq] at hb
    obtain ⟨rfl, rfl, _⟩ := hb
    exact ⟨b, 0, rfl, Drw.cell he h3 hc⟩⟩, h3⟩⟩
/-- Some number. -/
def SPred.some_ (S : SrcP) : SPred (Drw.rel S) := ⟨fun v _ => ∃ r, v = .int .i64 r, fun _ _ _ h _ => h⟩
/-- A number from 0 on below another one. -/
def SPred.lt (S : SrcP) (n : Int) : SPred (Drw.rel S) := ⟨fun v _ => ∃ r, v = .int .i64 r ∧ 0 ≤ r ∧ r < n, fun _ _ _ h _ => h⟩
end Chg

set_option maxHeartbeats 4000000 in
theorem s_spoil3 (S : SrcP) (w : World) (hS : Src S w) :
    Calls Try.prog 71 #[.pointer (some ⟨S.g, 0, none⟩)] w fun e w' => ∃ p a d cap qs, e = .returned (.agg #[.int .i64 p, .slice a d cap]) ∧ 0 ≤ p ∧ p ≤ 17 ∧ d ≤ 7 ∧ OwnC w.heap.size w' a d cap qs ∧ Drw S w w' := by
  have HS := Lib.hid hS
  have hlt := hS.lt
  clear hS
  obtain ⟨W, hW⟩ : ∃ W, W = w.alloc (.cells #[.int .i64 0, .slice none 0 0] 26) := ⟨_, rfl⟩
  have gW : Ext w W := by rw [hW]; exact ext_alloc _ _
  have HZ := Lib.hid (show W.heap.size = w.heap.size + 1 by rw [hW]; simp)
  have HR := Lib.hid (show SpAt W w.heap.size 0 (.slice none 0 0) by rw [hW]; exact ⟨by simp, by simp, by simp, by simp⟩)
  have HW := Lib.hid hW
  have GW := Lib.hid (Drw.of_ext (S := S) gW)
  have hgR : w.heap.size ≠ S.g := by omega
  clear gW hW
  go_enter Try.func71, Try.ntmps71
  go_wp2_with (fail)
  rw [← HW.out]
  refine Calls.mono (s_draw3 S W (GW.out.src HS.out)) ?_
  rintro e w1 ⟨p, a, d, cap, qs, rfl, hpr, hp1, hp2, hd1, hd2, hqb, ho, g1⟩
  obtain ⟨W2, hW2⟩ : ∃ W2, W2 = w1.alloc (.cells #[.int .i64 p, .slice a d cap] 26) := ⟨_, rfl⟩
  obtain ⟨O, hO⟩ : ∃ O, O = w1.heap.size := ⟨_, rfl⟩
  have gW2 : Ext w1 W2 := by rw [hW2]; exact ext_alloc _ _
  have hOA : SpAt W2 O p (.slice a d cap) := by rw [hW2, hO]; exact ⟨by simp, by simp, by simp, by simp⟩
  have HR1 := Lib.hid ((HR.out.drw g1 hgR).ext gW2)
  have hoB : OwnC (w.heap.size + 1) w1 a d cap qs := by rw [← HZ.out]; exact ho
  have HQ1 := Lib.hid (hoB.ext gW2)
  have G1 := Lib.hid ((GW.out.trans g1).ext gW2)
  have hOw : w.heap.size < O := by rw [hO]; exact (HR.out.drw g1 hgR).lt
  have hOQ : ∀ g, a = some ⟨g, 0, none⟩ → w.heap.size + 1 ≤ g ∧ g < O := fun g hg => by have := ho.base_of g hg; have := HZ.out; omega
  have hgO : O ≠ S.g := by omega
  go_wp2_with (fail)
  rw [← hW2, ← hO]
  have HOA := Lib.hid hOA
  clear hO gW2 ho hoB g1 hW2 hOA HR
  refine Calls.mono (s_next S 40 W2 (G1.out.src HS.out) (by decide)) ?_
  rintro e w2 ⟨r, rfl, hr, g2⟩
  have HR2 := Lib.hid (HR1.out.drw g2 hgR)
  have HO2 := Lib.hid (HOA.out.drw g2 hgO)
  have HQ2 := Lib.hid (g2.own HQ1.out (by omega))
  have G2 := Lib.hid (G1.out.trans g2)
  clear g2 HR1 HOA HQ1 G1 hr
  by_cases h0 : r = 0
  · subst h0
    go_wp2_with (fail)
    refine Calls.mono (s_pick S w2.heap.size 4 4 [4, 1, 17, 0] _ ((G2.out.alloc _).src HS.out) (by decide) (by decide) (rdC_lit w2 _ [4, 1, 17, 0]) (by have := HO2.out.lt; omega)) ?_
    rintro e w3 ⟨q, rfl, hq, g3⟩
    have hq' : 0 ≤ q ∧ q ≤ 17 := by
      simp only [List.mem_cons, List.not_mem_nil, or_false] at hq
      omega
    have HR3 := Lib.hid ((HR2.out.ext (ext_alloc _ _)).drw g3 hgR)
    have HO3 := Lib.hid ((HO2.out.ext (ext_alloc _ _)).drw g3 hgO)
    have HQ3 := Lib.hid (g3.own (HQ2.out.ext (ext_alloc _ _)) (by omega))
    have G3 := Lib.hid ((G2.out.alloc _).trans g3)
    clear g3 HR2 HO2 HQ2 G2 hq
    have o0 := HO3.out.c0
    have o1 := HO3.out.c1
    have of0 := HO3.out.f0
    have of1 := HO3.out.f1
    have r0 := HR3.out.c0
    have r1 := HR3.out.c1
    have f0 := HR3.out.f0
    have f1 := HR3.out.f1
    go_wp2_with (fail)
    refine bodyPost_ret (v := .agg #[.int .i64 q, .slice a d cap]) (by simp [results, Try.results71, go_sem, r0, r1]) rfl ⟨q, a, d, cap, qs, rfl, hq'.1, hq'.2, by omega, ?_, ?_⟩
    · exact (((HQ3.out.keep (fun g hg => Below.heap_setCell _ _ _ _ (by have := hOQ g hg; simp; omega))).other (by simp) _).other (by simp) _).mono (by omega)
    · exact ((G3.out.setCell (by simp; omega) _).setCell (by simp) _).setCell (by simp) _
  by_cases h1 : r = 1
  · subst h1
    obtain ⟨g, rfl⟩ : ∃ g, a = some ⟨g, 0, none⟩ := by
      obtain ⟨g, _, hg, _⟩ := HQ2.out.row (by omega)
      exact ⟨g, hg⟩
    have hgq := hOQ g rfl
    have hdp : 0 < d := by omega
    have HO3 := Lib.hid (HO2.out.ext (ext_drew _))
    have HS2 := Lib.hid (G2.out.drew.src HS.out)
    have hqc := HQ2.out.cell (j := 0) (by omega)
    have HC := Lib.hid ((ext_drew w2).cell hqc)
    clear hqc
    go_wp2_with (fail)
    refine Chg.wp_region_lex_tail (E := Drw.rel S) 8 [(5, .lit S 2 [-1, p]), (6, .some_ S)] (by kernel_rfl) (by kernel_rfl) ?_
    simp only [List.take, List.drop]
    (refine Chg.LexW.pure (v := ?_) rfl rfl (fun w1 he => ?_) ?_; rotate_left; ( have he' : Drw S w2.drew _ := he; have x0 := he'.cell (p := ⟨O, 0, none⟩) hgO HO3.out.c0; have x1 := he'.cell (p := ⟨O, 1, none⟩) hgO HO3.out.c1; have x2 := he'.cell (p := ⟨g, 0, none⟩) (by show g ≠ S.g; omega) HC.out; go_simp; rfl); simp only [Act.put, List.setIfInBounds_toArray, List.set_cons_zero, List.set_cons_succ])
    (refine Chg.LexW.pure (v := ?_) rfl rfl (fun w1 he => ?_) ?_; rotate_left; ( have he' : Drw S w2.drew _ := he; have x0 := he'.cell (p := ⟨O, 0, none⟩) hgO HO3.out.c0; have x1 := he'.cell (p := ⟨O, 1, none⟩) hgO HO3.out.c1; have x2 := he'.cell (p := ⟨g, 0, none⟩) (by show g ≠ S.g; omega) HC.out; go_simp; rfl); simp only [Act.put, List.setIfInBounds_toArray, List.set_cons_zero, List.set_cons_succ])
    (refine Chg.LexW.pure (v := ?_) rfl rfl (fun w1 he => ?_) ?_; rotate_left; ( have he' : Drw S w2.drew _ := he; have x0 := he'.cell (p := ⟨O, 0, none⟩) hgO HO3.out.c0; have x1 := he'.cell (p := ⟨O, 1, none⟩) hgO HO3.out.c1; have x2 := he'.cell (p := ⟨g, 0, none⟩) (by show g ≠ S.g; omega) HC.out; go_simp; rfl); simp only [Act.put, List.setIfInBounds_toArray, List.set_cons_zero, List.set_cons_succ])
    (refine Chg.LexW.pure (v := ?_) rfl rfl (fun w1 he => ?_) ?_; rotate_left; ( have he' : Drw S w2.drew _ := he; have x0 := he'.cell (p := ⟨O, 0, none⟩) hgO HO3.out.c0; have x1 := he'.cell (p := ⟨O, 1, none⟩) hgO HO3.out.c1; have x2 := he'.cell (p := ⟨g, 0, none⟩) (by show g ≠ S.g; omega) HC.out; go_simp; rfl); simp only [Act.put, List.setIfInBounds_toArray, List.set_cons_zero, List.set_cons_succ])
    (refine Chg.LexW.pure (v := ?_) rfl rfl (fun w1 he => ?_) ?_; rotate_left; ( have he' : Drw S w2.drew _ := he; have x0 := he'.cell (p := ⟨O, 0, none⟩) hgO HO3.out.c0; have x1 := he'.cell (p := ⟨O, 1, none⟩) hgO HO3.out.c1; have x2 := he'.cell (p := ⟨g, 0, none⟩) (by show g ≠ S.g; omega) HC.out; go_simp; rfl); simp only [Act.put, List.setIfInBounds_toArray, List.set_cons_zero, List.set_cons_succ])
    (refine Chg.LexW.rel rfl rfl (fun w1 he hdep => ?_) (fun v hv => ?_); ( have he' : Drw S w2.drew _ := he; exact ⟨.slice (some ⟨w1.heap.size, 0, none⟩) 2 2, w1.alloc (.cells #[.int .i64 (-1), .int .i64 p] 2), (by go_simp), Drw.of_ext (ext_alloc _ _), _, rfl, rdC_lit w1 _ [-1, p], (by have := he'.size; have := HS2.out.lt; omega)⟩); simp only [Act.put, List.setIfInBounds_toArray, List.set_cons_zero, List.set_cons_succ])
    obtain ⟨_, b5, rfl, _⟩ := hv
    (refine Chg.LexW.callR (f := ?_) (args := ?_) rfl rfl (fun w1 => ?_) (fun w1 he hdep => ?_) (fun v hv => ?_); rotate_left 2; (go_simp; refine ⟨?_, ?_⟩ <;> rfl); ( have he' : Drw S w2.drew _ := he; obtain ⟨_, q5, r5, r5'⟩ : (Chg.SPred.lit S 2 [-1, p]).holds (.slice (some ⟨b5, 0, none⟩) 2 2) w1 := hdep (5, 21) (by decide +kernel); cases q5; refine Calls.mono (s_pick S b5 2 2 [-1, p] w1 (he'.src HS2.out) (by decide) (by decide) r5 r5') ?_; rintro e w3 ⟨q, rfl, _, x3⟩; exact ⟨_, rfl, x3, q, rfl⟩); simp only [Act.put, List.setIfInBounds_toArray, List.set_cons_zero, List.set_cons_succ])
    obtain ⟨_, q, rfl⟩ := hv
    (refine Chg.LexW.pure (v := ?_) rfl rfl (fun w1 he => ?_) ?_; rotate_left; ( have he' : Drw S w2.drew _ := he; have x0 := he'.cell (p := ⟨O, 0, none⟩) hgO HO3.out.c0; have x1 := he'.cell (p := ⟨O, 1, none⟩) hgO HO3.out.c1; have x2 := he'.cell (p := ⟨g, 0, none⟩) (by show g ≠ S.g; omega) HC.out; go_simp; rfl); simp only [Act.put, List.setIfInBounds_toArray, List.set_cons_zero, List.set_cons_succ])
    refine Chg.LexW.nil (fun w3 he hkn => ?_)
    have he' : Drw S w2.drew w3 := he
    have HR3 := Lib.hid ((HR2.out.ext (ext_drew _)).drw he' hgR)
    have HO4 := Lib.hid (HO3.out.drw he' hgO)
    have HQ3 := Lib.hid (he'.own (HQ2.out.ext (ext_drew _)) (by omega))
    have G3 := Lib.hid (G2.out.drew.trans he')
    have hq0 := HQ3.out.cell (j := 0) (by omega)
    have hqf := HQ3.out.frozen 0
    have o0 := HO4.out.c0
    have o1 := HO4.out.c1
    have of0 := HO4.out.f0
    have of1 := HO4.out.f1
    have r0 := HR3.out.c0
    have r1 := HR3.out.c1
    have f0 := HR3.out.f0
    have f1 := HR3.out.f1
    clear he he' hkn
    go_wp2_with (fail)
    refine bodyPost_ret (v := .agg #[.int .i64 p, .slice (some ⟨g, 0, none⟩) d cap]) (by simp [results, Try.results71, go_sem, r0, r1]) rfl ⟨p, some ⟨g, 0, none⟩, d, cap, qs.set 0 q, rfl, by omega, by omega, by omega, ?_, ?_⟩
    · exact (((HQ3.out.store (j := 0) (by omega) q).other (by simp) _).other (by simp) _).mono (by omega)
    · exact ((G3.out.setCell (by simp; omega) _).setCell (by simp) _).setCell (by simp) _
  by_cases h2 : r = 2
  · subst h2
    have lO := HO2.out.lt
    have lR := HR2.out.lt
    have o0 := HO2.out.c0
    have o1 := HO2.out.c1
    have of0 := HO2.out.f0
    have of1 := HO2.out.f1
    have r0 := HR2.out.c0
    have r1 := HR2.out.c1
    have f0 := HR2.out.f0
    have f1 := HR2.out.f1
    go_wp2_with (fail)
    have HF := (((HR2.out.other (q := ⟨O, 1, none⟩) (by simp; omega) (.slice (some ⟨w2.heap.size, 0, none⟩) 0 0)).set0 p).set1 (.slice (some ⟨w2.heap.size, 0, none⟩) 0 0)).ext (ext_alloc _ (.cells #[] 2))
    have r0' := HF.c0
    have r1' := HF.c1
    refine bodyPost_ret (v := .agg #[.int .i64 p, .slice (some ⟨w2.heap.size, 0, none⟩) 0 0]) (by simp [results, Try.results71, go_sem, r0', r1']) rfl ⟨p, _, 0, 0, [], rfl, by omega, by omega, by omega, ?_, ?_⟩
    · have h := own_empty (((w2.setCell ⟨O, 1, none⟩ (.slice (some ⟨w2.heap.size, 0, none⟩) 0 0)).setCell ⟨w.heap.size, 0, none⟩ (.int .i64 p)).setCell ⟨w.heap.size, 1, none⟩ (.slice (some ⟨w2.heap.size, 0, none⟩) 0 0))
      simp only [World.size_setCell] at h
      exact h.mono (by omega)
    · exact (((G2.out.setCell (by simp; omega) _).setCell (by simp) _).setCell (by simp) _).alloc _
  by_cases h3 : r = 3
  · subst h3
    have HW2 := Lib.hid HW
    go_wp2_with (fail)
    go_loopw [] (fun wr => ∃ (a' : Option Addr) (k cap' : Nat) (xs : List Int), k ≤ 7 ∧ 1 ≤ k ∧ Hid (SpAt wr w.heap.size 0 (.slice none 0 0)) ∧ Hid (SpAt wr O p (.slice a' k cap')) ∧ Hid (∀ g, a' = some ⟨g, 0, none⟩ → g ≠ O) ∧ Hid (OwnC (w.heap.size + 1) wr a' k cap' xs) ∧ Hid (Drw S w wr)) (fun wr => 7 - lenAt wr O)
    case atStart => exact ⟨a, d, cap, qs, by omega, hd1, HR2, HO2, Lib.hid (fun g hg => by have := hOQ g hg; omega), HQ2, G2⟩
    case round =>
      obtain ⟨a', k, cap', xs, hk, hk1, HR, HO, HN, HQ, HD⟩ := hrel
      clear HR2 HO2 HQ2 G2
      have o0 := HO.out.c0
      have o1 := HO.out.c1
      have of0 := HO.out.f0
      have of1 := HO.out.f1
      have hla := lenAt_of HO.out
      have hlO := HO.out.lt
      by_cases hlt7 : k < 7
      · go_wp2_with (at_builtin; refine wpList_push rfl (.tmp 35) (.tmp 36) rfl rfl rfl (v := 1) (HQ.out.ext (ext_alloc _ _)) ?hc ?hn ?hB ?hk)
        case hc => simp
        case hn => omega
        case hB => have := HR.out.lt; simp; omega
        case hk =>
          intro g' cap2 w6 ho6 hg6 he6
          have hb6 : w6.heap[O]? = wr.heap[O]? := by
            have h1 := hg6.block O (by simp; omega) (fun e => by
              rcases HQ.out.2.2 with ⟨h3, _⟩ | ⟨g, c, cur, hv, _⟩
              · rw [h3] at e; simp [Value.ownBlock] at e
              · simp only [Value.slice.injEq] at hv
                rw [hv.1] at e
                simp only [Value.ownBlock, Option.some.injEq] at e
                exact HN.out g hv.1 e.symm)
            rw [h1]; exact Below.heap_alloc _ _ _ hlO
          have hbl : Below (w.heap.size + 1) wr w6 := (Below.refl _ _).trans (((Below.refl (w.heap.size + 1) _).alloc (by omega) _).grown hg6 (by simp; omega) (fun k hk => HQ.out.blk k hk))
          have HO7 := Lib.hid (HO.out.block hb6)
          have HR7 := Lib.hid (HR.out.below hbl (by omega))
          have HD7 := Lib.hid (HD.out.below (hbl.mono (by omega)))
          have HQ7 := Lib.hid ho6
          have HN7 := Lib.hid (show ∀ g, (some ⟨g', 0, none⟩ : Option Addr) = some ⟨g, 0, none⟩ → g ≠ O from fun g hg h => by
            simp only [Option.some.injEq, Addr.mk.injEq, and_self, and_true] at hg
            have h1 := HQ7.out.cell (j := 1) (by omega)
            have h2 := HO7.out.c1
            rw [hg, h, h2] at h1
            cases h1)
          have c1' := HO7.out.c1
          have f1' := HO7.out.f1
          clear hbl ho6 hg6 he6 o0 o1 of0 of1 hb6
          go_wp2_with (fail)
          go_roundw
          case rel => exact ⟨_, k + 1, cap2, _, by omega, by omega, Lib.hid (HR7.out.other (by simp; omega) _), Lib.hid (HO7.out.set1 _), HN7, Lib.hid (HQ7.out.keep (fun g hg => Below.heap_setCell _ _ _ _ (HN7.out g hg))), Lib.hid (HD7.out.setCell (by simp; omega) _)⟩
          case measure =>
            rw [hla, lenAt_of (HO7.out.set1 _)]
            omega
      · have r0 := HR.out.c0
        have r1 := HR.out.c1
        have f0 := HR.out.f0
        have f1 := HR.out.f1
        go_wp2_with (fail)
        refine bodyPost_ret (v := .agg #[.int .i64 p, .slice a' k cap']) (by simp [results, Try.results71, go_sem, r0, r1]) rfl ⟨p, a', k, cap', xs, rfl, by omega, by omega, by omega, ?_, ?_⟩
        · exact ((HQ.out.other (by simp) _).other (by simp) _).mono (by omega)
        · exact (HD.out.setCell (by simp) _).setCell (by simp) _
  · have b0 : (r == 0) = false := by simp [h0]
    have b1 : (r == 1) = false := by simp [h1]
    have b2 : (r == 2) = false := by simp [h2]
    have b3 : (r == 3) = false := by simp [h3]
    have o0 := HO2.out.c0
    have o1 := HO2.out.c1
    have of0 := HO2.out.f0
    have of1 := HO2.out.f1
    have r0 := HR2.out.c0
    have r1 := HR2.out.c1
    have f0 := HR2.out.f0
    have f1 := HR2.out.f1
    go_wp2_with (fail)
    refine bodyPost_ret (v := .agg #[.int .i64 p, .slice a d cap]) (by simp [results, Try.results71, go_sem, r0, r1]) rfl ⟨p, a, d, cap, qs, rfl, by omega, by omega, by omega, ?_, ?_⟩
    · exact ((HQ2.out.other (by simp) _).other (by simp) _).mono (by omega)
    · exact (G2.out.setCell (by simp) _).setCell (by simp) _
end Go.Proofs.Ytbgnfjckbjmgbaa

/-
  Listed functions of multivectors at good arguments.
  No condition.
-/
namespace Go.Proofs.Ytbgnfjckbjmgbaa
set_option maxRecDepth 100000
open Go.RowKit

theorem OwnC.addr {B : Nat} {w : World} {a : Option Addr} {n cap : Nat} {xs : List Int} (h : OwnC B w a n cap xs) (hn : 0 < n) : ∃ g, a = some ⟨g, 0, none⟩ := by
  obtain ⟨g, _, hg, _⟩ := h.row hn
  exact ⟨g, hg⟩

set_option maxHeartbeats 1000000 in
theorem c_AddMultivectors_ok {N : Nat} (p : Int) (a : Option Addr) (d cap : Nat) (qs : List Int) (ax : Option Addr) (cx : Nat) (x : List Int) (ay : Option Addr) (cy : Nat) (y : List Int) (w : World) (hN : N = 2 ^ d) (hs : spaceB p qs = true) (hq : RdC w a d qs) (hx : RdC w ax N x) (hy : RdC w ay N y) (hgx : Good p N x) (hgy : Good p N y) :
    Calls Try.prog 29 #[.agg #[.int .i64 p, .slice a d cap], .slice ax N cx, .slice ay N cy] w fun e w' => ∃ g rc, e = .returned (.tuple #[.slice (some ⟨g, 0, none⟩) N rc, .int .i64 0]) ∧ OwnC w.heap.size w' (some ⟨g, 0, none⟩) N rc (plusL p x y 1 N) ∧ Ext w w' := by
  obtain ⟨hpr, hd1, hd6, hqb⟩ := space_of hs
  have hpb := prime_bd hpr
  rw [hq.1] at hd6
  have hN6 : N ≤ 64 := by rw [hN]; exact pow_le64 hd6
  have hN1 : 0 < N := by rw [hN]; exact pow_pos' d
  have HC := Lib.hid (show codeM p qs [x, y] = 0 from codeM_two0 hs (by rw [hq.1, ← hN]; exact hgx) (by rw [hq.1, ← hN]; exact hgy))
  have hcb : ((0 : Int) != 0) = false := by simp
  have HQB := Lib.hid hqb
  have HN := Lib.hid hN
  clear hN hqb hs
  go_enter Try.func29, Try.ntmps29
  go_wp2_with (fail)
  refine Calls.mono (c_checkMultis p a d cap qs _ 2 _ [x, y] _ (by omega) (by omega) (len_two (by rw [hx.1]; omega) (by rw [hy.1]; omega)) (hq.ext ((ext_alloc _ _).alloc _)) (rdR_two (a := ax) (b := ay) (n := N) (m := N) (ca := cx) (cb := cy) (by simp) (by simp) (hx.ext ((ext_alloc _ _).alloc _)) (hy.ext ((ext_alloc _ _).alloc _)))) ?_
  rintro e w1 ⟨rfl, g1⟩
  rw [HC.out]
  have q0 : w1.cell? ⟨w.heap.size, 0, none⟩ = some (.int .i64 p) := g1.cell (by simp)
  have q1 : w1.cell? ⟨w.heap.size, 1, none⟩ = some (.slice a d cap) := g1.cell (by simp)
  have G1 := Lib.hid (((ext_alloc w _).alloc _).trans g1)
  clear g1
  go_wp2_with (fail)
  refine Calls.mono (c_field p _ w1) ?_
  rintro e w2 ⟨rfl, g2⟩
  have G2 := Lib.hid (G1.out.trans g2)
  have q0' := g2.cell q0
  have q1' := g2.cell q1
  clear g2
  go_wp2_with (fail)
  refine Calls.mono (c_plus p ax ay N cx cy x y 1 w2 hpb.1 (by omega) (by omega) (by omega) (hx.ext G2.out) (hy.ext G2.out) hgx hgy) ?_
  rintro e w3 ⟨g, rc, rfl, ho, g3⟩
  go_wp2_with (fail)
  go_ret2
  exact ⟨g, rc, rfl, ho.mono G2.out.size, G2.out.trans g3⟩
set_option maxHeartbeats 1000000 in
theorem c_ReverseOf_ok {N : Nat} (p : Int) (a : Option Addr) (d cap : Nat) (qs : List Int) (ax : Option Addr) (cx : Nat) (x : List Int) (w : World) (hN : N = 2 ^ d) (hs : spaceB p qs = true) (hq : RdC w a d qs) (hx : RdC w ax N x) (hgx : Good p N x) :
    Calls Try.prog 37 #[.agg #[.int .i64 p, .slice a d cap], .slice ax N cx] w fun e w' => ∃ g rc, e = .returned (.tuple #[.slice (some ⟨g, 0, none⟩) N rc, .int .i64 0]) ∧ OwnC w.heap.size w' (some ⟨g, 0, none⟩) N rc (signL p revB x N) ∧ Ext w w' := by
  obtain ⟨hpr, hd1, hd6, hqb⟩ := space_of hs
  have hpb := prime_bd hpr
  rw [hq.1] at hd6
  have hN6 : N ≤ 64 := by rw [hN]; exact pow_le64 hd6
  have hN1 : 0 < N := by rw [hN]; exact pow_pos' d
  have HC := Lib.hid (show codeM p qs [x] = 0 from codeM_one0 hs (by rw [hq.1, ← hN]; exact hgx))
  have hcb : ((0 : Int) != 0) = false := by simp
  have HQB := Lib.hid hqb
  have HN := Lib.hid hN
  obtain ⟨bx, ox, rfl, _⟩ := hx.2 0 hN1
  clear hN hqb hs
  go_enter Try.func37, Try.ntmps37
  go_wp2_with (fail)
  refine Calls.mono (c_checkMultis p a d cap qs _ 1 _ [x] _ (by omega) (by omega) (len_one (by rw [hx.1]; omega)) (hq.ext ((ext_alloc _ _).alloc _)) (rdR_one (a := _) (n := N) (cap := cx) (by simp) (hx.ext ((ext_alloc _ _).alloc _)))) ?_
  rintro e w1 ⟨rfl, g1⟩
  rw [HC.out]
  have q0 : w1.cell? ⟨w.heap.size, 0, none⟩ = some (.int .i64 p) := g1.cell (by simp)
  have q1 : w1.cell? ⟨w.heap.size, 1, none⟩ = some (.slice a d cap) := g1.cell (by simp)
  have G1 := Lib.hid (((ext_alloc w _).alloc _).trans g1)
  clear g1
  go_wp2_with (fail)
  refine Calls.mono (c_reverse p _ d cap bx ox N cx x w1 hpb.1 (by omega) hN1 hN6 (hx.ext G1.out) hgx) ?_
  rintro e w2 ⟨g, rc, rfl, ho, g2⟩
  go_wp2_with (fail)
  go_ret2
  exact ⟨g, rc, rfl, ho.mono G1.out.size, G1.out.trans g2⟩
set_option maxHeartbeats 1000000 in
theorem c_ScalarOf_ok {N : Nat} (p : Int) (a : Option Addr) (d cap : Nat) (qs : List Int) (ax : Option Addr) (cx : Nat) (x : List Int) (w : World) (hN : N = 2 ^ d) (hs : spaceB p qs = true) (hq : RdC w a d qs) (hx : RdC w ax N x) (hgx : Good p N x) :
    Calls Try.prog 30 #[.agg #[.int .i64 p, .slice a d cap], .slice ax N cx] w fun e w' => e = .returned (.tuple #[.int .i64 (nth x 0), .int .i64 0]) ∧ Ext w w' := by
  obtain ⟨hpr, hd1, hd6, hqb⟩ := space_of hs
  have hpb := prime_bd hpr
  rw [hq.1] at hd6
  have hN6 : N ≤ 64 := by rw [hN]; exact pow_le64 hd6
  have hN1 : 0 < N := by rw [hN]; exact pow_pos' d
  have HC := Lib.hid (show codeM p qs [x] = 0 from codeM_one0 hs (by rw [hq.1, ← hN]; exact hgx))
  have hcb : ((0 : Int) != 0) = false := by simp
  have HQB := Lib.hid hqb
  have HN := Lib.hid hN
  obtain ⟨bx, ox, rfl, hcx⟩ := hx.2 0 hN1
  clear hN hqb hs
  go_enter Try.func30, Try.ntmps30
  go_wp2_with (fail)
  refine Calls.mono (c_checkMultis p a d cap qs _ 1 _ [x] _ (by omega) (by omega) (len_one (by rw [hx.1]; omega)) (hq.ext ((ext_alloc _ _).alloc _)) (rdR_one (a := _) (n := N) (cap := cx) (by simp) (hx.ext ((ext_alloc _ _).alloc _)))) ?_
  rintro e w1 ⟨rfl, g1⟩
  rw [HC.out]
  have q0 : w1.cell? ⟨w.heap.size, 0, none⟩ = some (.int .i64 p) := g1.cell (by simp)
  have q1 : w1.cell? ⟨w.heap.size, 1, none⟩ = some (.slice a d cap) := g1.cell (by simp)
  have G1 := Lib.hid (((ext_alloc w _).alloc _).trans g1)
  clear g1
  have hcx1 : w1.cell? ⟨bx, ox, none⟩ = some (.int .i64 (nth x 0)) := by simpa using G1.out.cell hcx
  go_wp2_with (fail)
  go_ret2
  exact ⟨rfl, G1.out⟩
set_option maxHeartbeats 1000000 in
theorem c_ScaleMultivector_ok {N : Nat} (p : Int) (a : Option Addr) (d cap : Nat) (qs : List Int) (ax : Option Addr) (cx : Nat) (x : List Int) (k : Int) (w : World) (hN : N = 2 ^ d) (hs : spaceB p qs = true) (hq : RdC w a d qs) (hx : RdC w ax N x) (hgx : Good p N x) (hk0 : 0 ≤ k) (hk1 : k < p) :
    Calls Try.prog 54 #[.agg #[.int .i64 p, .slice a d cap], .slice ax N cx, .int .i64 k] w fun e w' => ∃ g rc, e = .returned (.tuple #[.slice (some ⟨g, 0, none⟩) N rc, .int .i64 0]) ∧ OwnC w.heap.size w' (some ⟨g, 0, none⟩) N rc (scaleL p x k N) ∧ Ext w w' := by
  obtain ⟨hpr, hd1, hd6, hqb⟩ := space_of hs
  have hpb := prime_bd hpr
  rw [hq.1] at hd6
  have hN6 : N ≤ 64 := by rw [hN]; exact pow_le64 hd6
  have hN1 : 0 < N := by rw [hN]; exact pow_pos' d
  have HC := Lib.hid (show codeM p qs [x] = 0 from codeM_one0 hs (by rw [hq.1, ← hN]; exact hgx))
  have hcb : ((0 : Int) != 0) = false := by simp
  have HQB := Lib.hid hqb
  have HN := Lib.hid hN
  clear hN hqb hs
  go_enter Try.func54, Try.ntmps54
  go_wp2_with (fail)
  refine Calls.mono (c_checkMultis p a d cap qs _ 1 _ [x] _ (by omega) (by omega) (len_one (by rw [hx.1]; omega)) (hq.ext ((ext_alloc _ _).alloc _)) (rdR_one (a := _) (n := N) (cap := cx) (by simp) (hx.ext ((ext_alloc _ _).alloc _)))) ?_
  rintro e w1 ⟨rfl, g1⟩
  rw [HC.out]
  have q0 : w1.cell? ⟨w.heap.size, 0, none⟩ = some (.int .i64 p) := g1.cell (by simp)
  have q1 : w1.cell? ⟨w.heap.size, 1, none⟩ = some (.slice a d cap) := g1.cell (by simp)
  have G1 := Lib.hid (((ext_alloc w _).alloc _).trans g1)
  clear g1
  go_wp2_with (fail)
  refine Calls.mono (c_field p _ w1) ?_
  rintro e w2 ⟨rfl, g2⟩
  have G2 := Lib.hid (G1.out.trans g2)
  have q0' := g2.cell q0
  have q1' := g2.cell q1
  clear g2
  go_wp2_with (fail)
  refine Calls.mono (c_is p _ 1 1 [k] _ (by omega) (by omega) (by omega) (rdC_lit w2 _ [k])) ?_
  rintro e w3 ⟨rfl, g3⟩
  have hkb : isB p [k] = true := by simp [isB, inB]; omega
  rw [hkb]
  have G3 := Lib.hid (G2.out.trans ((ext_alloc _ _).trans g3))
  have q0'' := g3.cell ((ext_alloc _ _).cell q0')
  have q1'' := g3.cell ((ext_alloc _ _).cell q1')
  clear g3
  go_wp2_with (fail)
  refine Calls.mono (c_field p _ w3) ?_
  rintro e w4 ⟨rfl, g4⟩
  have G4 := Lib.hid (G3.out.trans g4)
  clear g4
  go_wp2_with (fail)
  refine Calls.mono (c_scaled p ax N cx x k w4 hpb.1 (by omega) (by omega) (by omega) (hx.ext G4.out) hgx) ?_
  rintro e w5 ⟨g, rc, rfl, ho, g5⟩
  go_wp2_with (fail)
  go_ret2
  exact ⟨g, rc, rfl, ho.mono G4.out.size, G4.out.trans g5⟩
set_option maxHeartbeats 1000000 in
theorem c_IsMultivector (p : Int) (a : Option Addr) (d cap : Nat) (qs : List Int) (ax : Option Addr) (n cx : Nat) (xs : List Int) (w : World) (hd : d ≤ 4194304) (hl : n ≤ 4194304) (hq : RdC w a d qs) (hx : RdC w ax n xs) :
    Calls Try.prog 25 #[.agg #[.int .i64 p, .slice a d cap], .slice ax n cx] w fun e w' => e = .returned (.bool (spaceB p qs && multiB p d xs)) ∧ Ext w w' := by
  go_enter Try.func25, Try.ntmps25
  go_wp2_with (fail)
  refine Calls.mono (c_isSpace p a d cap qs _ hd (hq.ext (ext_alloc _ _))) ?_
  rintro e w1 ⟨rfl, g1⟩
  have q0 : w1.cell? ⟨w.heap.size, 0, none⟩ = some (.int .i64 p) := g1.cell (by simp)
  have q1 : w1.cell? ⟨w.heap.size, 1, none⟩ = some (.slice a d cap) := g1.cell (by simp)
  have G1 := Lib.hid ((ext_alloc w _).trans g1)
  clear g1
  cases hs : spaceB p qs
  · go_wp2_with (fail)
    go_ret
    exact ⟨by rw [hs]; rfl, G1.out⟩
  · obtain ⟨hpr, hd1, hd6, hqb⟩ := space_of hs
    have hpb := prime_bd hpr
    rw [hq.1] at hd6
    go_wp2_with (fail)
    refine Calls.mono (c_isMulti p a d cap ax n cx xs w1 (by omega) (by omega) hd6 hl (hx.ext G1.out)) ?_
    rintro e w2 ⟨rfl, g2⟩
    go_wp2_with (fail)
    go_ret
    exact ⟨by rw [hs]; rfl, G1.out.trans g2⟩
set_option maxHeartbeats 1000000 in
theorem s_IsMultivector (p : Int) (a : Option Addr) (d cap : Nat) (qs : List Int) (ax : Option Addr) (n cx : Nat) (xs : List Int) (w : World) (hd : d ≤ 4194304) (hl : n ≤ 4194304) (hq : RdC w a d qs) (hx : RdC w ax n xs) :
    Calls Try.prog 26 #[.agg #[.int .i64 p, .slice a d cap], .slice ax n cx] w fun e w' => e = .returned (.bool (spaceB p qs && multiB p d xs)) ∧ Ext w w' := by
  go_enter Try.func26, Try.ntmps26
  go_wp2_with (fail)
  first
  | refine Calls.mono (s_is4 p a d cap qs ax n cx xs _ hd hl (hq.ext (ext_alloc _ _)) (hx.ext (ext_alloc _ _))) ?_
    rintro e w1 ⟨rfl, g1⟩
    go_wp2_with (fail)
    go_ret
    exact ⟨rfl, (ext_alloc _ _).trans g1⟩
  | refine Calls.mono (s_is4 p a d cap qs ax n cx xs _ hd hl hq hx) ?_
    rintro e w1 ⟨rfl, g1⟩
    go_wp2_with (fail)
    go_ret
    exact ⟨rfl, g1⟩
end Go.Proofs.Ytbgnfjckbjmgbaa

/-
  Draws of vectors.
  No condition.
-/
namespace Go.Proofs.Ytbgnfjckbjmgbaa
set_option maxRecDepth 100000
open Go.RowKit

set_option maxHeartbeats 4000000 in
theorem s_vec (S : SrcP) (p : Int) (n : Nat) (w : World) (hS : Src S w) (hp : p ≤ 1000000) (hn : n ≤ 100) :
    Calls Try.prog 138 #[.pointer (some ⟨S.g, 0, none⟩), .int .i64 p, .int .i64 n] w fun e w' => ∃ a cap m xs, e = .returned (.slice a m cap) ∧ m ≤ n + 1 ∧ OwnC w.heap.size w' a m cap xs ∧ Drw S w w' := by
  have HS := Lib.hid hS
  have hlt := hS.lt
  clear hS
  by_cases hp1 : p < 1
  · skip
    go_enter Try.func138, Try.ntmps138
    go_wp2_with (fail)
    refine Calls.mono (s_dlist S 3 n w HS.out (by omega) (by omega)) ?_
    rintro e w1 ⟨a, cap, xs, rfl, ho, _, g1⟩
    have HO := Lib.hid ho
    have G1 := Lib.hid g1
    clear ho g1
    go_wp2_with (fail)
    refine Calls.mono (s_next S 24 w1 (G1.out.src HS.out) (by decide)) ?_
    rintro e w2 ⟨r, rfl, hr, g2⟩
    have HO2 := Lib.hid (g2.own HO.out hlt)
    have G2 := Lib.hid (G1.out.trans g2)
    clear g2 HO G1 hr
    by_cases h0 : r = 0
    · subst h0
      go_wp2_with (at_builtin; refine wpList_push rfl (.tmp 18) (.tmp 19) rfl rfl rfl (v := 0) (HO2.out.ext (ext_alloc _ _)) ?hc ?hn ?hB ?hk)
      case hc => simp
      case hn => omega
      case hB => have := G2.out.size; simp; omega
      case hk =>
        intro g' cap2 w6 ho6 hg6 he6
        have HO3 := Lib.hid ho6
        have G3 := Lib.hid ((G2.out.alloc _).grown hg6 (fun k hk => HO2.out.blk k hk))
        clear ho6 hg6 he6
        go_wp2_with (fail)
        go_ret
        exact ⟨_, _, n + 1, _, rfl, Nat.le_refl _, HO3.out, G3.out⟩
    by_cases h1 : r = 1
    · subst h1
      by_cases hn0 : 0 < n
      · obtain ⟨g, _, rfl, _⟩ := HO2.out.row hn0
        have hgb := HO2.out.base_le
        go_wp2_with (fail)
        refine Calls.mono (s_pick S w2.heap.size 2 2 [-1, 3] _ ((G2.out.alloc _).src HS.out) (by decide) (by decide) (rdC_lit w2 _ [-1, 3]) (by have := G2.out.size; omega)) ?_
        rintro e w3 ⟨q, rfl, _, g3⟩
        have HO3 := Lib.hid (g3.own (HO2.out.ext (ext_alloc _ _)) hlt)
        have G3 := Lib.hid ((G2.out.alloc _).trans g3)
        have hc0 := HO3.out.cell hn0
        have hf0 := HO3.out.frozen 0
        clear g3 HO2 G2
        go_wp2_with (fail)
        go_ret
        exact ⟨_, _, n, _, rfl, by omega, HO3.out.store hn0 q, G3.out.setCell hgb.1 _⟩
      · go_wp2_with (fail)
        go_ret
        exact ⟨_, _, n, _, rfl, by omega, HO2.out, G2.out⟩
    · have b0 : (r == 0) = false := by simp [h0]
      have b1 : (r == 1) = false := by simp [h1]
      go_wp2_with (fail)
      go_ret
      exact ⟨_, _, n, _, rfl, by omega, HO2.out, G2.out⟩
  · skip
    go_enter Try.func138, Try.ntmps138
    go_wp2_with (fail)
    refine Calls.mono (s_dlist S p n w HS.out (by omega) (by omega)) ?_
    rintro e w1 ⟨a, cap, xs, rfl, ho, _, g1⟩
    have HO := Lib.hid ho
    have G1 := Lib.hid g1
    clear ho g1
    go_wp2_with (fail)
    refine Calls.mono (s_next S 24 w1 (G1.out.src HS.out) (by decide)) ?_
    rintro e w2 ⟨r, rfl, hr, g2⟩
    have HO2 := Lib.hid (g2.own HO.out hlt)
    have G2 := Lib.hid (G1.out.trans g2)
    clear g2 HO G1 hr
    by_cases h0 : r = 0
    · subst h0
      go_wp2_with (at_builtin; refine wpList_push rfl (.tmp 18) (.tmp 19) rfl rfl rfl (v := 0) (HO2.out.ext (ext_alloc _ _)) ?hc ?hn ?hB ?hk)
      case hc => simp
      case hn => omega
      case hB => have := G2.out.size; simp; omega
      case hk =>
        intro g' cap2 w6 ho6 hg6 he6
        have HO3 := Lib.hid ho6
        have G3 := Lib.hid ((G2.out.alloc _).grown hg6 (fun k hk => HO2.out.blk k hk))
        clear ho6 hg6 he6
        go_wp2_with (fail)
        go_ret
        exact ⟨_, _, n + 1, _, rfl, Nat.le_refl _, HO3.out, G3.out⟩
    by_cases h1 : r = 1
    · subst h1
      by_cases hn0 : 0 < n
      · obtain ⟨g, _, rfl, _⟩ := HO2.out.row hn0
        have hgb := HO2.out.base_le
        go_wp2_with (fail)
        refine Calls.mono (s_pick S w2.heap.size 2 2 [-1, p] _ ((G2.out.alloc _).src HS.out) (by decide) (by decide) (rdC_lit w2 _ [-1, p]) (by have := G2.out.size; omega)) ?_
        rintro e w3 ⟨q, rfl, _, g3⟩
        have HO3 := Lib.hid (g3.own (HO2.out.ext (ext_alloc _ _)) hlt)
        have G3 := Lib.hid ((G2.out.alloc _).trans g3)
        have hc0 := HO3.out.cell hn0
        have hf0 := HO3.out.frozen 0
        clear g3 HO2 G2
        go_wp2_with (fail)
        go_ret
        exact ⟨_, _, n, _, rfl, by omega, HO3.out.store hn0 q, G3.out.setCell hgb.1 _⟩
      · go_wp2_with (fail)
        go_ret
        exact ⟨_, _, n, _, rfl, by omega, HO2.out, G2.out⟩
    · have b0 : (r == 0) = false := by simp [h0]
      have b1 : (r == 1) = false := by simp [h1]
      go_wp2_with (fail)
      go_ret
      exact ⟨_, _, n, _, rfl, by omega, HO2.out, G2.out⟩
set_option maxHeartbeats 1000000 in
theorem s_drawVec (S : SrcP) (p : Int) (a : Option Addr) (d cap : Nat) (w : World) (hS : Src S w) (hp : p ≤ 1000000) (hd : d ≤ 100) :
    Calls Try.prog 72 #[.pointer (some ⟨S.g, 0, none⟩), .agg #[.int .i64 p, .slice a d cap]] w fun e w' => ∃ a cap m xs, e = .returned (.slice a m cap) ∧ m ≤ d + 1 ∧ OwnC w.heap.size w' a m cap xs ∧ Drw S w w' := by
  have HS := Lib.hid (Drw.of_ext (ext_alloc w (.cells #[.int .i64 p, .slice a d cap] 26)) |>.src hS)
  clear hS
  go_enter Try.func72, Try.ntmps72
  go_wp2_with (fail)
  refine Calls.mono (s_vec S p d _ HS.out hp hd) ?_
  rintro e w1 ⟨a1, cap1, m, xs, rfl, hm, ho, g1⟩
  go_wp2_with (fail)
  go_ret
  exact ⟨_, _, m, xs, rfl, hm, ho.mono (by simp), (Drw.of_ext (ext_alloc _ _)).trans g1⟩
end Go.Proofs.Ytbgnfjckbjmgbaa
