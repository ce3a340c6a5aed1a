/-
  Contracts and plain laws, part 9: Orth, Float, AppR, SumM, MapK, Solve, Kernel, KernelS, Ann.
  No condition.
-/
import Derived.Test.YtnabpmafcflljaaPart8
import Derived.Test.YtnabpmafcflljaaPart2
import Derived.Test.YtnabpmafcflljaaPart0
import Derived.Test.YtnabpmafcflljaaPart4
import Derived.Test.YtnabpmafcflljaaPart3
import Derived.Maps.AppendAt
import Derived.Maps.OwnSet
import Derived.Maps.RangeWalk
import Derived.Test.YtnabpmafcflljaaPart5
import Derived.Test.YtnabpmafcflljaaPart1
/-
  The checks of orthogonal matrices.
  No condition.
-/
namespace Go.Proofs.Ytnabpmafcflljaa
set_option maxRecDepth 100000
open Go.RowKit

def code8 (p : Int) (qs : List Int) (rows : List (List Int)) : Int := if spaceB p qs = true then (if regB qs = true then (if isoB p qs rows qs.length = true then 0 else 2) else 5) else 1
theorem code8_zero {p : Int} {qs : List Int} {rows : List (List Int)} (h : code8 p qs rows = 0) : spaceB p qs = true ∧ regB qs = true ∧ isoB p qs rows qs.length = true := by
  unfold code8 at h
  split at h
  · rename_i h1
    split at h
    · rename_i h2
      split at h
      · rename_i h3; exact ⟨h1, h2, h3⟩
      · cases h
    · cases h
  · cases h
theorem code8_A {p : Int} {qs : List Int} {rows : List (List Int)} (h : spaceB p qs = false) : code8 p qs rows = 1 := by unfold code8; rw [h]; rfl
theorem code8_B {p : Int} {qs : List Int} {rows : List (List Int)} (h : spaceB p qs = true) (h2 : regB qs = false) : code8 p qs rows = 5 := by unfold code8; rw [h, h2]; rfl
theorem code8_C {p : Int} {qs : List Int} {rows : List (List Int)} (h : spaceB p qs = true) (h2 : regB qs = true) : code8 p qs rows = if isoB p qs rows qs.length = true then 0 else 2 := by unfold code8; rw [h, h2]; rfl

set_option maxHeartbeats 2000000 in
theorem c_checkOrth (p : Int) (a : Option Addr) (d cap : Nat) (qs : List Int) (ax1 : Option Addr) (n1 cx1 : Nat) (xs1 : List (List Int)) (w : World) (hd : d ≤ 4194304) (hn1 : n1 ≤ 4194304) (hr1 : ∀ i, i < n1 → (nthR xs1 i).length ≤ 4194304) (hq : RdC w a d qs) (hx1 : RdR w ax1 n1 xs1) :
    Calls Try.prog 44 #[.agg #[.int .i64 p, .slice a d cap], .slice ax1 n1 cx1] w fun e w' => e = .returned (.int .i64 (code8 p qs xs1)) ∧ Ext w w' := by
  have HQ := Lib.hid hq
  have HX := Lib.hid hx1
  have HR := Lib.hid hr1
  clear hq hx1 hr1
  go_enter Try.func44, Try.ntmps44
  go_wp2_with (fail)
  refine Calls.mono (c_isSpace p a d cap qs _ hd (HQ.out.ext (ext_alloc _ _))) ?_
  rintro e w1 ⟨rfl, g1⟩
  have G := Lib.hid ((ext_alloc w (.cells #[.int .i64 p, .slice a d cap] 30)).trans g1)
  have s0 : w1.cell? ⟨w.heap.size, 0, none⟩ = some (.int .i64 p) := g1.cell (by simp)
  have s1 : w1.cell? ⟨w.heap.size, 1, none⟩ = some (.slice a d cap) := g1.cell (by simp)
  clear g1
  cases hs : spaceB p qs
  · have HC := Lib.hid (code8_A (rows := xs1) hs)
    clear hs
    go_wp2_with (fail)
    go_ret
    exact ⟨ret_int HC.out.symm, G.out⟩
  have HS := Lib.hid hs
  clear hs
  go_wp2_with (fail)
  refine Calls.mono (c_regular p a d cap qs _ hd (HQ.out.ext G.out)) ?_
  rintro e w2 ⟨rfl, g2⟩
  replace s0 := g2.cell s0
  replace s1 := g2.cell s1
  replace G := Lib.hid (G.out.trans g2)
  clear g2
  cases hrg : regB qs
  · have HC := Lib.hid (code8_B (rows := xs1) HS.out hrg)
    clear hrg
    go_wp2_with (fail)
    go_ret
    exact ⟨ret_int HC.out.symm, G.out⟩
  have HC := Lib.hid (code8_C (rows := xs1) HS.out hrg)
  clear hrg
  go_wp2_with (fail)
  refine Calls.mono (c_isometry p a d cap qs ax1 n1 cx1 xs1 _ HS.out hn1 HR.out (HQ.out.ext G.out) (HX.out.ext G.out)) ?_
  rintro e w3 ⟨rfl, g3⟩
  replace G := Lib.hid (G.out.trans g3)
  have HD := Lib.hid HQ.out.1
  clear g3
  cases hi : isoB p qs xs1 d
  · have HI := Lib.hid hi
    clear hi
    go_wp2_with (fail)
    go_ret
    exact ⟨ret_int (by rw [HC.out, HD.out, HI.out]; rfl), G.out⟩
  · have HI := Lib.hid hi
    clear hi
    go_wp2_with (fail)
    go_ret
    exact ⟨ret_int (by rw [HC.out, HD.out, HI.out]; rfl), G.out⟩

set_option maxHeartbeats 2000000 in
theorem s_IsOrth (p : Int) (a : Option Addr) (d cap : Nat) (qs : List Int) (ax1 : Option Addr) (n1 cx1 : Nat) (xs1 : List (List Int)) (w : World) (hd : d ≤ 4194304) (hn1 : n1 ≤ 4194304) (hr1 : ∀ i, i < n1 → (nthR xs1 i).length ≤ 4194304) (hq : RdC w a d qs) (hx1 : RdR w ax1 n1 xs1) (B : Bool) (C : Int) (hB : B = (spaceB p qs && regB qs && isoB p qs xs1 qs.length)) (hC : C = if spaceB p qs = true then (if regB qs = true then 0 else 5) else 1) :
    Calls Try.prog 78 #[.agg #[.int .i64 p, .slice a d cap], .slice ax1 n1 cx1] w fun e w' => e = .returned (.tuple #[.bool B, .int .i64 C]) ∧ Ext w w' := by
  have HQ := Lib.hid hq
  have HX := Lib.hid hx1
  have HR := Lib.hid hr1
  have HB := Lib.hid hB
  have HC := Lib.hid hC
  clear hq hx1 hr1 hB hC
  go_enter Try.func78, Try.ntmps78
  go_wp2_with (fail)
  refine Calls.mono (s_is p a d cap qs _ hd (HQ.out.ext (ext_alloc _ _))) ?_
  rintro e w1 ⟨rfl, g1⟩
  have G := Lib.hid ((ext_alloc w (.cells #[.int .i64 p, .slice a d cap] 30)).trans g1)
  have s0 : w1.cell? ⟨w.heap.size, 0, none⟩ = some (.int .i64 p) := g1.cell (by simp)
  have s1 : w1.cell? ⟨w.heap.size, 1, none⟩ = some (.slice a d cap) := g1.cell (by simp)
  clear g1
  cases hs : spaceB p qs
  · have HB2 := Lib.hid (show B = false by rw [HB.out, hs]; rfl)
    have HC2 := Lib.hid (show C = 1 by rw [HC.out, hs]; rfl)
    clear hs
    go_wp2_with (fail)
    go_ret2
    exact ⟨by rw [HB2.out, HC2.out]; rfl, G.out⟩
  have HS := Lib.hid hs
  clear hs
  obtain ⟨hpr, _, hd6, hqb⟩ := space_of HS.out
  have hpb := prime_bd hpr
  have HD := Lib.hid HQ.out.1
  rw [HD.out] at hd6
  have HDZ := Lib.hid (disc_reg hpr hqb)
  have HQB := Lib.hid hqb
  clear hpr hqb
  go_wp2_with (fail)
  refine Calls.mono (s_disc p a d cap qs _ (by omega) (by omega) (by omega) (HQ.out.ext G.out) HQB.out) ?_
  rintro e w2 ⟨rfl, g2⟩
  replace s0 := g2.cell s0
  replace s1 := g2.cell s1
  replace G := Lib.hid (G.out.trans g2)
  clear g2
  obtain ⟨dz, hdz⟩ : ∃ x, x = discL p qs := ⟨_, rfl⟩
  rw [← hdz] at HDZ ⊢
  clear hdz
  cases hrg : regB qs
  · have hz : (dz == 0) = true := by rw [HDZ.out, hrg]; rfl
    have HB2 := Lib.hid (show B = false by rw [HB.out, HS.out, hrg]; rfl)
    have HC2 := Lib.hid (show C = 5 by rw [HC.out, HS.out, hrg]; rfl)
    clear hrg
    go_wp2_with (fail)
    go_ret2
    exact ⟨by rw [HB2.out, HC2.out]; rfl, G.out⟩
  have HB2 := Lib.hid (show B = isoB p qs xs1 d by rw [HB.out, HS.out, hrg, HD.out]; rfl)
  have HC2 := Lib.hid (show C = 0 by rw [HC.out, HS.out, hrg]; rfl)
  have hz : (dz == 0) = false := by rw [HDZ.out, hrg]; rfl
  clear hrg
  go_wp2_with (fail)
  go_at_call 56
  have H8 : Calls Try.prog 56 #[.agg #[.int .i64 p, .slice a d cap], .slice ax1 n1 cx1] w2 fun e w' => e = .returned (.bool (isoB p qs xs1 d)) ∧ Ext w2 w' := by
    have HQ2 := Lib.hid (HQ.out.ext G.out)
    have HX2 := Lib.hid (HX.out.ext G.out)
    clear s0 s1
    go_enter Try.func56, Try.ntmps56
    go_wp2_with (fail)
    refine Calls.mono (s_isometry p a d cap qs ax1 n1 cx1 xs1 _ HS.out hn1 HR.out (HQ2.out.ext (ext_alloc _ _)) (HX2.out.ext (ext_alloc _ _))) ?_
    rintro e w3 ⟨rfl, g3⟩
    go_wp2_with (fail)
    go_ret
    exact ⟨rfl, (ext_alloc _ _).trans g3⟩
  refine Calls.mono H8 ?_
  rintro e w3 ⟨rfl, g3⟩
  replace G := Lib.hid (G.out.trans g3)
  clear g3 H8
  go_wp2_with (fail)
  go_ret2
  exact ⟨by rw [HB2.out, HC2.out]; rfl, G.out⟩
set_option maxHeartbeats 2000000 in
theorem s_code8 (p : Int) (a : Option Addr) (d cap : Nat) (qs : List Int) (ax1 : Option Addr) (n1 cx1 : Nat) (xs1 : List (List Int)) (w : World) (hd : d ≤ 4194304) (hn1 : n1 ≤ 4194304) (hr1 : ∀ i, i < n1 → (nthR xs1 i).length ≤ 4194304) (hq : RdC w a d qs) (hx1 : RdR w ax1 n1 xs1) :
    Calls Try.prog 41 #[.agg #[.int .i64 p, .slice a d cap], .slice ax1 n1 cx1] w fun e w' => e = .returned (.int .i64 (code8 p qs xs1)) ∧ Ext w w' := by
  have HQ := Lib.hid hq
  have HX := Lib.hid hx1
  have HR := Lib.hid hr1
  clear hq hx1 hr1
  go_enter Try.func41, Try.ntmps41
  go_wp2_with (fail)
  obtain ⟨B, hB⟩ : ∃ x, x = (spaceB p qs && regB qs && isoB p qs xs1 qs.length) := ⟨_, rfl⟩
  obtain ⟨C, hC⟩ : ∃ x : Int, x = if spaceB p qs = true then (if regB qs = true then 0 else 5) else 1 := ⟨_, rfl⟩
  have HB := Lib.hid hB
  have HC0 := Lib.hid hC
  refine Calls.mono (s_IsOrth p a d cap qs ax1 n1 cx1 xs1 _ hd hn1 HR.out (HQ.out.ext (ext_alloc _ _)) (HX.out.ext (ext_alloc _ _)) B C hB hC) ?_
  rintro e w1 ⟨rfl, g1⟩
  clear hB hC
  have G := Lib.hid ((ext_alloc w (.cells #[.int .i64 p, .slice a d cap] 30)).trans g1)
  clear g1
  by_cases h0 : C = 0
  · have hcb : (C == 0) = true := by simp [h0]
    have HCZ := Lib.hid (show code8 p qs xs1 = if B = true then 0 else 2 by
      have hc := HC0.out
      rw [h0] at hc
      unfold code8
      cases hs : spaceB p qs
      · rw [hs] at hc; cases hc
      · cases hr : regB qs
        · rw [hs, hr] at hc; cases hc
        · have hb := HB.out
          rw [hs, hr] at hb
          rw [hb]; rfl)
    clear h0
    cases B
    · go_wp2_with (fail)
      go_ret
      exact ⟨ret_int (by rw [HCZ.out]; rfl), G.out⟩
    · have HC1 := Lib.hid (show C = 0 by simpa using hcb)
      go_wp2_with (fail)
      go_ret
      exact ⟨ret_int (by rw [HCZ.out, HC1.out]; rfl), G.out⟩
  · have hcb : (C == 0) = false := by simp [h0]
    have HCZ := Lib.hid (show code8 p qs xs1 = C by
      have hc := HC0.out
      unfold code8
      cases hs : spaceB p qs
      · rw [hs] at hc; exact hc.symm
      · cases hr : regB qs
        · rw [hs, hr] at hc; exact hc.symm
        · rw [hs, hr] at hc; exact absurd hc h0)
    clear h0
    go_wp2_with (fail)
    go_ret
    exact ⟨ret_int HCZ.out.symm, G.out⟩
end Go.Proofs.Ytnabpmafcflljaa

/-
  A region whose first operation is a move that may be carried out at any time: it is carried out first.
  No condition. General over every program.
-/
namespace Go.Proofs.Ytnabpmafcflljaa
set_option maxRecDepth 100000
open Go.RowKit

/-- The exit is normal. -/
def strictQ (Q : Exit → Act → World → Prop) : Exit → Act → World → Prop := fun e a w => e = .normal ∧ Q .normal a w
theorem strictQ_normal {Q : Exit → Act → World → Prop} {a : Act} {w : World} (h : Q .normal a w) : strictQ Q .normal a w := ⟨rfl, h⟩

section
variable {P : Program} {ops : Array Oper} {md : Region.Mode} {Q : Exit → Act → World → Prop}
theorem not_letsOut : ¬ LetsOut (strictQ Q) := fun ⟨_, _, h, _⟩ => by cases h
theorem wp_strict {o : Oper} {a : Act} {w : World} {K K' : Act → World → Prop} (h : ∀ a w, K a w → K' a w) (hh : o.wp P a w K (strictQ Q)) : o.wp P a w K' Q := by
  unfold Oper.wp at *
  generalize (execOp a.eval o).run P w = r at *
  cases r with
  | ok n w' =>
    cases n <;> simp only [Oper.upon] at hh ⊢ <;>
      first
        | exact h _ _ hh
        | exact Calls.mono hh (fun e w'' he => by
            cases e with
            | returned v => exact h _ _ he
            | panicked c => exact absurd he.1 (by simp)
            | outgrown => exact absurd he not_letsOut)
        | exact Rows.mono hh (fun _ _ he => h _ _ he)
  | halt x w' =>
    cases x <;> simp only [Oper.upon] at hh ⊢ <;> first | exact hh.elim | exact absurd hh.1 (by simp) | exact hh
theorem wpOp_strict {i : Nat} {a : Act} {w : World} {K K' : Act → World → Prop} (h : ∀ a w, K a w → K' a w) (hh : wpOp P ops (strictQ Q) i K a w) : wpOp P ops Q i K' a w := by
  unfold wpOp at *
  split
  · exact h _ _ (by simpa [*] using hh)
  · rename_i o ho
    simp only [ho] at hh
    split
    · rename_i hw
      simp only [hw, if_true] at hh
      rcases hh with hh | hh
      · exact .inl (wp_strict h hh)
      · exact absurd hh.2 not_letsOut
    · rename_i hw; simp only [hw] at hh; exact h _ _ hh
theorem wpAny_strict : ∀ (f : Nat) (listed : Array Bool) (a : Act) (w : World), wpAny P md ops (strictQ Q) f listed a w → wpAny P md ops Q f listed a w
  | 0, _, _, _, h => ⟨h.1, h.2.2⟩
  | f + 1, _, _, _, h => ⟨fun h0 => (h.1 h0).2, fun i hi => wpOp_strict (fun a w => wpAny_strict f _ a w) (h.2 i hi)⟩

def Region.sinkB1 (md : Region.Mode) (ops : Array Oper) (m n : Nat) : Bool :=
  (List.range n).all fun i => decide (i < m) || (List.range (n + 1)).any fun j => decide (i < j) && Region.waitsFor md ops j i
theorem tail_waits1 {m n : Nat} {listed : Array Bool} (hs : Region.sinkB1 md ops m n = true) (hc : Region.chainB md ops n = true) (hn : n < ops.size) (inv : HeadInv md ops n listed) :
    ∀ (d i : Nat), n - i = d → m ≤ i → i < n → listed.getD i true = false → ∀ t, n ≤ t → t ∉ Region.ready md ops listed := by
  intro d
  induction d using Nat.strongRecOn with
  | _ d ih =>
    intro i hd hm hi hun t ht hr
    obtain ⟨_, ot, hot, hall⟩ := mem_ready.1 hr
    have htlt : t < ops.size := (Array.getElem?_eq_some_iff.1 hot).1
    by_cases htn : t = n
    · subst htn
      have h1 := List.all_eq_true.1 hs i (List.mem_range.2 hi)
      simp only [Bool.or_eq_true, decide_eq_true_eq] at h1
      obtain ⟨j, hj, hj2⟩ := List.any_eq_true.1 (h1.resolve_left (by omega))
      simp only [Bool.and_eq_true, decide_eq_true_eq] at hj2
      obtain ⟨oj, hoj, e, he, hb, hon⟩ := Region.waitsFor_spec hj2.2
      have hjle : j ≤ t := by have := List.mem_range.1 hj; omega
      by_cases hjt : j = t
      · subst hjt
        have : oj = ot := Option.some.inj (hoj.symm.trans hot)
        subst this
        have h2 := hall e he hb
        rw [hon, getD_both hun] at h2
        cases h2
      · cases hl : listed.getD j false with
        | true =>
          have h2 := inv.closed j oj hoj hl e he hb
          rw [hon, getD_both hun] at h2
          cases h2
        | false =>
          have hjs : j < listed.size := by rw [inv.size]; omega
          exact ih (t - j) (by omega) j rfl (by omega) (by omega) (getD_in hjs hl) t (Nat.le_refl _) hr
    · have h1 := List.all_eq_true.1 hc t (List.mem_range.2 htlt)
      simp only [Bool.or_eq_true, decide_eq_true_eq] at h1
      rcases h1 with h1 | h1
      · omega
      · obtain ⟨o', ho', e, he, hb, hon⟩ := Region.waitsFor_spec h1
        have : o' = ot := Option.some.inj (ho'.symm.trans hot)
        subst this
        have h2 := hall e he hb
        rw [hon, getD_both (inv.tail (t - 1) (by omega) (by omega))] at h2
        cases h2

theorem LexR.any1 {w0 : World} {sp : Nat → Option SPred} {m n : Nat} {B : Array Bool → Bool} {Lq : Act → World → Prop} (hsel : Region.noSelect ops = true)
    (hlt : ∀ i, m ≤ i → i < n → ∀ listed, HeadInv md ops n listed → listed.getD i true = false → ∀ j ∈ Region.ready md ops listed, j < n)
    (hdone : ∀ listed, B listed = true → ∀ j ∈ Region.ready md ops listed, n ≤ j)
    (hd : Nat → Nat → Array Bool → Bool) (h0 : ∀ listed, hd 0 n listed = true → B listed = true)
    (h1 : ∀ f k listed, hd (f + 1) k listed = true → ((Region.ready md ops listed).contains k = true ∧ Region.free md ops listed k = true) ∧ hd f (k + 1) (listed.setIfInBounds k true) = true) :
    ∀ (l : List Oper) (k : Nat) (listed : Array Bool) (a : Act) (env : List (Nat × Value)), m ≤ k → (∀ j, j < l.length → l[j]? = ops[k + j]?) → k + l.length = n → HeadInv md ops n listed →
    (∃ w, Ext w0 w ∧ Known sp env w) → hd l.length k listed = true → LexR P ops w0 sp Lq l k a env →
    AnyR P ops md w0 sp n (fun listed' a' w' => B listed' = true ∧ Lq a' w') l.length listed a env
  | [], k, listed, a, env, _, _, hk0, _, _, hB, h => fun w he hk => ⟨h0 _ (by obtain rfl : k = n := (by simpa using hk0); exact hB), h w he hk⟩
  | o :: l, k, listed, a, env, hmk, hl, hk, inv, hsat, hB, h => by
    have ho : ops[k]? = some o := by simpa using (hl 0 (by simp)).symm
    obtain ⟨⟨hr, hf⟩, hB'⟩ := h1 _ _ _ (by simpa using hB)
    have hkn : k < n := by simp only [List.length_cons] at hk; omega
    have hr' : k ∈ Region.ready md ops listed := by simpa using hr
    exact AnyR.first ho (Region.noSelect_spec hsel) (hlt k hmk hkn) (fun listed' a' w' hL => hdone _ hL.1) l.length listed a env inv (Region.free_spec ho hf) hr' hsat h.1
      fun v hv => LexR.any1 hsel hlt hdone hd h0 h1 l (k + 1) _ _ _ (by omega) (fun j hj => by have := hl (j + 1) (by simp; omega); simpa [Nat.add_assoc, Nat.add_comm 1 j] using this) (by simp only [List.length_cons] at hk; omega) (inv.set hr' hkn)
        (hv.sat hsat) hB' (h.2 v hv)
end

def Region.tail1B (ops : Array Oper) (n N : Nat) : Bool :=
  Region.noSelect ops && decide (n < ops.size) && decide (1 ≤ n) && Region.sinkB1 .any ops 1 n && Region.chainB .any ops n && ((Region.ready .any ops (Array.replicate ops.size false)).contains 0 && Region.free .any ops (Array.replicate ops.size false) 0) &&
    Region.lexHead .any ops (ops.size - n) (n - 1) 1 ((Array.replicate ops.size false).setIfInBounds 0 true) && ssaB ops && dstB ops N

/-- The first operation is a move; the operations from number n on go one after another behind all others but it. -/
theorem wp_region_lex_tail1 {P : Program} {id : Nat} {Q : Exit → Act → World → Prop} {a : Act} {w : World} {o0 : Oper} {l : List Oper} (n : Nat) (sps : List (Nat × SPred)) (v0 : Value) (hm : P.follows .mixedOrders = true)
    (hB : Region.tail1B (o0 :: l).toArray n a.tmps.size = true) (hsp : spOf sps 0 = none) (hw : Region.wanted o0 (yielded (o0 :: l).toArray a.tmps) = true) (hy : ∀ w, (execOp a.eval o0).run P w = .ok (.value v0) w)
    (h : LexW P (o0 :: l).toArray w.drew (spOf sps) (fun a' w' => wpList P (o0 :: l).toArray (strictQ Q) ((o0 :: l).drop n) a' w') (((o0 :: l).take n).drop 1) 1 (a.put o0.dst v0) [(0, v0)]) : (Code.region id (o0 :: l).toArray true).wp P Q a w := by
  simp only [Region.tail1B, Bool.and_eq_true, decide_eq_true_eq] at hB
  obtain ⟨⟨⟨⟨⟨⟨⟨⟨hsel, hn⟩, hn1⟩, hs⟩, hc⟩, hr0, hf0⟩, hlex⟩, hssa⟩, hdst⟩ := hB
  obtain ⟨ops, hops⟩ : ∃ ops, ops = (o0 :: l).toArray := ⟨_, rfl⟩
  have h0 : ops[0]? = some o0 := by rw [hops]; simp
  rw [← hops] at hn hsel hs hc hr0 hf0 hlex hssa hdst hw h ⊢
  have hsize : ops.size = l.length + 1 := by rw [hops]; simp
  obtain ⟨L, hL⟩ : ∃ L, L = o0 :: l := ⟨_, rfl⟩
  have hLl : L.length = ops.size := by rw [hL, hsize, List.length_cons]
  rw [← hL] at h
  have hget : ∀ j, L[j]? = ops[j]? := fun j => by rw [hL, hops, List.getElem?_toArray]
  have htl : ((L.take n).drop 1).length = n - 1 := by simp; omega
  have hdl : (L.drop n).length = ops.size - n := by simp; omega
  have inv0 : HeadInv .any ops n (Array.replicate ops.size false) := by rw [hops]; exact headInv0 _ n
  have inv1 := inv0.set (by simpa using hr0) (show 0 < n by omega)
  have linv : LexInv ops a.tmps.size 1 (a.put o0.dst v0) [(0, v0)] := (lexInv0 (ops := ops) a.tmps.size a rfl).step h0 hdst v0
  have hk1 : Known (spOf sps) [(0, v0)] w.drew := fun p hp => by
    simp only [List.mem_singleton] at hp
    subst hp
    simp only [hsp, holdsO]
  have hR := LexW.lexR hssa hdst _ 1 _ _ (fun j hj => by
    rw [htl] at hj
    rw [List.getElem?_drop, List.getElem?_take_of_lt (by omega), hget]) linv h
  have H := LexR.any1 (md := .any) (m := 1) (n := n) (B := fun listed => Region.seqB .any ops (ops.size - n) n listed) hsel
    (fun i hi1 hin listed inv hun j hj => by
      rcases Nat.lt_or_ge j n with h | h
      · exact h
      · exact absurd hj (tail_waits1 hs hc hn inv _ i rfl hi1 hin hun j h))
    (fun listed hb => seqB_ready hb)
    (fun f k listed => Region.lexHead .any ops (ops.size - n) f k listed) (fun listed hh => by simpa [Region.lexHead] using hh)
    (fun f k listed hh => by simpa [Region.lexHead] using hh) ((L.take n).drop 1) 1 _ _ [(0, v0)] (Nat.le_refl _) (fun j hj => by
      rw [htl] at hj
      rw [List.getElem?_drop, List.getElem?_take_of_lt (by omega), hget]) (by rw [htl]; omega) inv1 ⟨w.drew, Ext.refl _, hk1⟩ (by rw [htl]; exact hlex) hR
  refine wp_region_any hm ?_
  have S := AnyR.sound (Q := strictQ Q) (g := ops.size - n) (fun listed a' w' hL' => by
    have := wpAny_of_seq (md := .any) (Q' := strictQ Q) (L.drop n) n listed a' w' (fun j => by rw [List.getElem?_drop, hget]) (by rw [hdl]; exact hL'.1) hL'.2
    rwa [hdl] at this) _ _ _ _ w.drew (Ext.refl _) hk1 H
  rw [htl, show n - 1 + (ops.size - n) = ops.size - 1 by omega] at S
  have T := wpAny_take (md := .any) (Q := strictQ Q) (fuel := ops.size - 1) (listed := Array.replicate ops.size false) h0 hsel hf0 hr0 (fun c a w hq => absurd hq.1 (by simp)) (.inl ⟨hw, hy⟩) S
  rw [show ops.size - 1 + 1 = ops.size by omega] at T
  exact wpAny_strict _ _ _ _ T

end Go.Proofs.Ytnabpmafcflljaa

/-
  append of rows to rows; sums of matrices.
  No condition.
-/
namespace Go.Proofs.Ytnabpmafcflljaa
set_option maxRecDepth 100000
open Go.RowKit

/-- append of rows of the call's own. -/
theorem run_appendRows {B : Nat} {w0 w : World} {ra : Option Addr} {n cap : Nat} {rows : List (List Int)} {g2 m c2 : Nat} {rows2 : List (List Int)} (hown : OwnR B w0 ra n cap rows) (he : Ext w0 w) (hx : OwnR w0.heap.size w (some ⟨g2, 0, none⟩) m c2 rows2) (hm : 0 < m) (hn : n ≤ 4194304) (hml : m ≤ 4194304) (hB : B ≤ w0.heap.size) (ty : TypeId) :
    ∃ g' cap' w', (Builtin.append_ #[25, 25] ty #[.slice ra n cap, .slice (some ⟨g2, 0, none⟩) m c2]).run Try.prog w = .ok (.slice (some ⟨g', 0, none⟩) (n + m) cap') w' ∧
      OwnR B w' (some ⟨g', 0, none⟩) (n + m) cap' (rows ++ rows2) ∧ (∀ W : World, W.heap.size ≤ B → Ext W w → Ext W w') := by
  obtain ⟨i0, hi, hz0, hz1, hz2⟩ := info_parts Try.infoR
  have hown0 := hown
  obtain ⟨h1, vs, h2, hap, h4⟩ := hown
  obtain ⟨x1, us, x2, xap, x4⟩ := hx
  have h2' := ownsRow_ext h2 he
  have hvl : vs.length = n := by have := h2.1; omega
  have hul : us.length = m := by have := x2.1; omega
  have hcell : ∀ j u, us[j]? = some u → w.cell? ⟨g2, j, none⟩ = some u := fun j u hj => by
    have hjl : j < m := by
      rcases Nat.lt_or_ge j m with h | h
      · exact h
      · rw [List.getElem?_eq_none (by omega)] at hj; cases hj
    rcases x2.2 with ⟨_, h3⟩ | ⟨g, c, cur, hv, hb, hh, hc1, hc2, hc3, hc4⟩
    · omega
    · simp only [Value.slice.injEq] at hv
      obtain ⟨hv1, _, _⟩ := hv
      cases hv1
      rw [← hc4, List.getElem?_take_of_lt (by omega), Array.getElem?_toList] at hj
      simp only [World.cell?, hh]
      simpa using hj
  obtain ⟨v', w', hr, h5, h6, _⟩ := run_append_own (P := Try.prog) w B 25 ty 22 i0 (.slice none 0 0) 1 24 Try.underlying25 hi hz0 hz1 hz2 rfl (by decide) (.slice ra n cap) n vs h2'
    ⟨g2, 0, none⟩ m c2 us (by omega) (fun j u hj => by
      have := hcell j u hj
      by_cases hj0 : j = 0
      · subst hj0; simpa [Addr.add] using this
      · simpa [Addr.add, hj0] using this) (fun u hu => by
        obtain ⟨j, hj, rfl⟩ := List.getElem_of_mem hu
        obtain ⟨ai, ci, h7, _⟩ := x4 j (by omega)
        rw [List.getElem?_eq_getElem hj] at h7
        rw [Option.some.inj h7]; rfl) (by unfold maxLen; omega) (by omega) (Nat.le_trans hB he.size)
  have form : ∃ g cap, v' = .slice (some ⟨g, 0, none⟩) (n + m) cap := by
    rcases h5.2 with ⟨_, h3⟩ | ⟨g, c, cur, hv, _⟩
    · omega
    · exact ⟨g, c, hv⟩
  obtain ⟨g', cap', rfl⟩ := form
  refine ⟨g', cap', w', hr, ⟨by simp [h1, x1], vs ++ us, h5, ?_, fun i hin => ?_⟩, fun W hW hE => hE.grown h6 fun k hk => Nat.le_trans hW (hown0.blk k hk)⟩
  · intro i k g1 n1 c1 n2 c2 hik hi hk
    have old : ∀ l n3 c3, l < n → vs[l]? = some (Value.slice (some ⟨g1, 0, none⟩) n3 c3) → g1 < w0.heap.size := fun l n3 c3 hl e => by
      obtain ⟨ai, ci, h5, h6⟩ := h4 l hl
      rw [h5] at e
      simp only [Option.some.injEq, Value.slice.injEq] at e
      exact (h6.base_of g1 e.1).2
    have new : ∀ l n3 c3, us[l]? = some (Value.slice (some ⟨g1, 0, none⟩) n3 c3) → w0.heap.size ≤ g1 := fun l n3 c3 e => by
      have hl : l < m := by
        rcases Nat.lt_or_ge l m with h | h
        · exact h
        · rw [List.getElem?_eq_none (by omega)] at e; cases e
      obtain ⟨ai, ci, h5, h6⟩ := x4 l hl
      rw [h5] at e
      simp only [Option.some.injEq, Value.slice.injEq] at e
      exact (h6.base_of g1 e.1).1
    by_cases li : i < n
    · rw [List.getElem?_append_left (by omega)] at hi
      by_cases lk : k < n
      · rw [List.getElem?_append_left (by omega)] at hk
        exact hap i k g1 _ _ _ _ hik hi hk
      · rw [List.getElem?_append_right (by omega)] at hk
        have := new _ _ _ hk; have := old i _ _ li hi; omega
    · rw [List.getElem?_append_right (by omega)] at hi
      by_cases lk : k < n
      · rw [List.getElem?_append_left (by omega)] at hk
        have := new _ _ _ hi; have := old k _ _ lk hk; omega
      · rw [List.getElem?_append_right (by omega)] at hk
        exact xap _ _ g1 _ _ _ _ (by omega) hi hk
  · by_cases hlt : i < n
    · obtain ⟨ai, ci, h7, h8⟩ := h4 i hlt
      have e : nthR (rows ++ rows2) i = nthR rows i := by simp [nthR, List.getElem?_append_left (show i < rows.length by omega)]
      rw [e]
      exact ⟨ai, ci, by rw [List.getElem?_append_left (by omega)]; exact h7, (h8.ext he).grown h6 (own_apart h2' (h8.ext he))⟩
    · obtain ⟨ai, ci, h7, h8⟩ := x4 (i - n) (by omega)
      have e : nthR (rows ++ rows2) i = nthR rows2 (i - n) := by
        unfold nthR
        rw [List.getD_eq_getElem?_getD, List.getD_eq_getElem?_getD, List.getElem?_append_right (by omega), h1]
      rw [e]
      exact ⟨ai, ci, by rw [List.getElem?_append_right (by omega), hvl]; exact h7, (h8.mono hB).grown h6 (own_apart h2' h8)⟩

theorem append_emptyN (w : World) (b t : Addr) (m c : Nat) (us : List Value) (ty : TypeId) (hul : us.length = m) (hn : ∀ j u, us[j]? = some u → w.cell? (t.add j) = some u) (hm : 0 < m) (hml : m ≤ 4194304) :
    (Builtin.append_ #[25, 25] ty #[.slice (some b) 0 0, .slice (some t) m c]).run Try.prog w =
    (Builtin.append_ #[25, 25] ty #[.slice none 0 0, .slice (some t) m c]).run Try.prog w := by
  obtain ⟨i0, hi, hz0, hz1, hz2⟩ := info_parts Try.infoR
  have e : Builtin.nextslicecap (0 + m) 0 * i0.bytes ≤ 281474976710656 := by
    rw [hz2]; unfold Builtin.nextslicecap; rw [if_pos (by omega)]; omega
  rw [run_append_grow (P := Try.prog) w 25 ty 22 i0 (.slice none 0 0) Try.underlying25 hi hz0 b 0 0 [] (by simp) (fun j u hj => by simp at hj) t m c us (by simp [hz1, hul]) hn (by omega) (by omega) e,
    run_append_nil (P := Try.prog) w 25 ty 22 i0 (.slice none 0 0) Try.underlying25 hi hz0 t m c us (by simp [hz1, hul]) hn (by omega) (by omega) (by rw [hz2]; omega)]
  simp

/-- The cells of owned rows. -/
theorem ownR_cells {B : Nat} {w : World} {g m c : Nat} {rows : List (List Int)} (h : OwnR B w (some ⟨g, 0, none⟩) m c rows) (hm : 0 < m) : ∃ us : List Value, us.length = m ∧ ∀ j u, us[j]? = some u → w.cell? ((⟨g, 0, none⟩ : Addr).add j) = some u := by
  obtain ⟨x1, us, x2, xap, x4⟩ := h
  have hul : us.length = m := by have := x2.1; omega
  refine ⟨us, hul, fun j u hj => ?_⟩
  have hjl : j < m := by
    rcases Nat.lt_or_ge j m with h | h
    · exact h
    · rw [List.getElem?_eq_none (by omega)] at hj; cases hj
  have hc : w.cell? ⟨g, j, none⟩ = some u := by
    rcases x2.2 with ⟨_, h3⟩ | ⟨g, c, cur, hv, hb, hh, hc1, hc2, hc3, hc4⟩
    · omega
    · simp only [Value.slice.injEq] at hv
      obtain ⟨hv1, _, _⟩ := hv
      cases hv1
      rw [← hc4, List.getElem?_take_of_lt (by omega), Array.getElem?_toList] at hj
      simp only [World.cell?, hh]
      simpa using hj
  by_cases hj0 : j = 0
  · subst hj0; simpa [Addr.add] using hc
  · simpa [Addr.add, hj0] using hc

theorem run_appendRowsW {B : Nat} {w0 w : World} {ra : Option Addr} {n cap : Nat} {rows : List (List Int)} {g2 m c2 : Nat} {rows2 : List (List Int)} (hown : OwnW B w0 ra n cap rows) (he : Ext w0 w) (hx : OwnR w0.heap.size w (some ⟨g2, 0, none⟩) m c2 rows2) (hm : 0 < m) (hn : n ≤ 4194304) (hml : m ≤ 4194304) (hB : B ≤ w0.heap.size) (ty : TypeId) :
    ∃ g' cap' w', (Builtin.append_ #[25, 25] ty #[.slice ra n cap, .slice (some ⟨g2, 0, none⟩) m c2]).run Try.prog w = .ok (.slice (some ⟨g', 0, none⟩) (n + m) cap') w' ∧
      OwnR B w' (some ⟨g', 0, none⟩) (n + m) cap' (rows ++ rows2) ∧ (∀ W : World, W.heap.size ≤ B → Ext W w → Ext W w') := by
  rcases hown with ⟨rfl, rfl, rfl, g0, rfl⟩ | hown
  · obtain ⟨us, hul, hcs⟩ := ownR_cells hx hm
    obtain ⟨g', cap', w', h1, h2, h4⟩ := run_appendRows (OwnR.nil B w0) he hx hm hn hml hB ty
    exact ⟨g', cap', w', by rw [append_emptyN w _ _ m c2 us ty hul hcs hm hml]; exact h1, h2, h4⟩
  · exact run_appendRows hown he hx hm hn hml hB ty

theorem wpList_appendRowsW {ops : Array Oper} {rest : List Oper} {o : Oper} {a : Act} {Q : Exit → Act → World → Prop} {w0 w : World} (hgd : o.guard = none) (s x : Operand)
    (ho : o.op = .call { callee := .builtin .append, args := #[s, x], argTypes := #[25, 25] })
    {B : Nat} {ra : Option Addr} {n cap : Nat} {rows : List (List Int)} {g2 m c2 : Nat} {rows2 : List (List Int)} (hs : a.eval s = .slice ra n cap) (hx : a.eval x = .slice (some ⟨g2, 0, none⟩) m c2)
    (hown : OwnW B w0 ra n cap rows) (he : Ext w0 w) (hxs : OwnR w0.heap.size w (some ⟨g2, 0, none⟩) m c2 rows2) (hm : 0 < m) (hn : n ≤ 4194304) (hml : m ≤ 4194304) (hB : B ≤ w0.heap.size)
    (h : ∀ g' cap' w', OwnR B w' (some ⟨g', 0, none⟩) (n + m) cap' (rows ++ rows2) → (∀ W : World, W.heap.size ≤ B → Ext W w → Ext W w') →
      wpList Try.prog ops Q rest (a.put o.dst (.slice (some ⟨g', 0, none⟩) (n + m) cap')) w') : wpList Try.prog ops Q (o :: rest) a w := by
  refine wpList_plain hgd fun K hK => ?_
  obtain ⟨g', cap', w', hr, h1, h3⟩ := run_appendRowsW hown he hxs hm hn hml hB o.type
  unfold Oper.wp execOp
  simp only [ho, resolve, invoke, builtin, Sem.run_bind, Sem.run_pure, Result.andThen_ok, List.map_toArray, List.map_cons, List.map_nil, hs, hx, hr]
  exact hK _ _ (h g' cap' w' h1 h3)

theorem run_pushR_at {B : Nat} {w0 w : World} {ra : Option Addr} {n cap : Nat} {rows : List (List Int)} {b : Option Addr} {m c : Nat} {xs : List Int} {g : Nat} (hown : OwnR B w0 ra n cap rows) (he : Ext w0 w) (hc : w.cell? ⟨g, 0, none⟩ = some (.slice b m c)) (hx : OwnC w0.heap.size w b m c xs) (hn : n ≤ 4194304) (hB : B ≤ w0.heap.size) (ty : TypeId) :
    ∃ g' cap' w', (Builtin.append_ #[25, 25] ty #[.slice ra n cap, .slice (some ⟨g, 0, none⟩) 1 1]).run Try.prog w = .ok (.slice (some ⟨g', 0, none⟩) (n + 1) cap') w' ∧
      OwnR B w' (some ⟨g', 0, none⟩) (n + 1) cap' (rows ++ [xs]) ∧ w.grownBy w' (Value.slice ra n cap).ownBlock ∧ (g' = w.heap.size ∨ (Value.slice ra n cap).ownBlock = some g') ∧ (∀ W : World, W.heap.size ≤ B → Ext W w → Ext W w') := by
  obtain ⟨i0, hi, hz0, hz1, hz2⟩ := info_parts Try.infoR
  have hown0 := hown
  obtain ⟨h1, vs, h2, hap, h4⟩ := hown
  have h2' := ownsRow_ext h2 he
  have hvl : vs.length = n := by have := h2.1; omega
  obtain ⟨v', w', hr, h5, h6, _, hbk⟩ := run_append_own_at (P := Try.prog) w B 25 ty 22 i0 (.slice none 0 0) 1 24 Try.underlying25 hi hz0 hz1 hz2 rfl (by decide) (.slice ra n cap) n vs h2'
    ⟨g, 0, none⟩ 1 1 [.slice b m c] rfl (fun j u hj => by
      cases j with
      | zero => simp only [List.getElem?_cons_zero, Option.some.injEq] at hj; subst hj; simpa [Addr.add] using hc
      | succ j => simp at hj) (fun u hu => by simp only [List.mem_singleton] at hu; subst hu; rfl) (by unfold maxLen; omega) (by omega) (Nat.le_trans hB he.size)
  have form : ∃ g cap, v' = .slice (some ⟨g, 0, none⟩) (n + 1) cap := by
    rcases h5.2 with ⟨_, h3⟩ | ⟨g, c, cur, hv, _⟩
    · omega
    · exact ⟨g, c, hv⟩
  obtain ⟨g', cap', rfl⟩ := form
  refine ⟨g', cap', w', hr, ⟨by simp [h1], vs ++ [.slice b m c], h5, ?_, fun i hin => ?_⟩, h6, hbk.elim (fun h => .inr h.symm) (fun h => .inl (Option.some.inj h)), fun W hW hE => hE.grown h6 fun k hk => Nat.le_trans hW (hown0.blk k hk)⟩
  · intro i k g1 n1 c1 n2 c2 hik hi hk
    have old : ∀ l n3 c3, l < n → vs[l]? = some (.slice (some ⟨g1, 0, none⟩) n3 c3) → g1 < w0.heap.size := fun l n3 c3 hl e => by
      obtain ⟨ai, ci, h5, h6⟩ := h4 l hl
      rw [h5] at e
      simp only [Option.some.injEq, Value.slice.injEq] at e
      exact (h6.base_of g1 e.1).2
    have new : (some (Value.slice b m c)) = some (.slice (some ⟨g1, 0, none⟩) n1 c1) ∨ (some (Value.slice b m c)) = some (.slice (some ⟨g1, 0, none⟩) n2 c2) → w0.heap.size ≤ g1 := fun e => by
      rcases e with e | e
      all_goals
        simp only [Option.some.injEq, Value.slice.injEq] at e
        exact (hx.base_of g1 e.1).1
    rcases Nat.lt_trichotomy i n with li | li | li
    · rw [List.getElem?_append_left (by omega)] at hi
      rcases Nat.lt_trichotomy k n with lk | lk | lk
      · rw [List.getElem?_append_left (by omega)] at hk
        exact hap i k g1 _ _ _ _ hik hi hk
      · rw [lk, ← hvl, List.getElem?_concat_length] at hk
        have := new (.inr hk); have := old i _ _ li hi; omega
      · rw [List.getElem?_eq_none (by simp; omega)] at hk; cases hk
    · rw [li, ← hvl, List.getElem?_concat_length] at hi
      rcases Nat.lt_trichotomy k n with lk | lk | lk
      · rw [List.getElem?_append_left (by omega)] at hk
        have := new (.inl hi); have := old k _ _ lk hk; omega
      · omega
      · rw [List.getElem?_eq_none (by simp; omega)] at hk; cases hk
    · rw [List.getElem?_eq_none (by simp; omega)] at hi; cases hi
  · by_cases hlt : i < n
    · obtain ⟨ai, ci, h7, h8⟩ := h4 i hlt
      have e : nthR (rows ++ [xs]) i = nthR rows i := by simp [nthR, List.getElem?_append_left (show i < rows.length by omega)]
      rw [e]
      exact ⟨ai, ci, by rw [List.getElem?_append_left (by omega)]; exact h7, (h8.ext he).grown h6 (own_apart h2' (h8.ext he))⟩
    · obtain rfl : i = n := by omega
      have e : nthR (rows ++ [xs]) i = xs := by simp [nthR, ← h1]
      rw [e, hx.1]
      exact ⟨b, c, by rw [← hvl]; simp, (hx.mono hB).grown h6 (own_apart h2' hx)⟩

theorem wpList_pushR_at {ops : Array Oper} {rest : List Oper} {o : Oper} {a : Act} {Q : Exit → Act → World → Prop} {w0 w : World} (hgd : o.guard = none) (s x : Operand)
    (ho : o.op = .call { callee := .builtin .append, args := #[s, x], argTypes := #[25, 25] })
    {B : Nat} {ra : Option Addr} {n cap : Nat} {rows : List (List Int)} {b : Option Addr} {m c : Nat} {xs : List Int} {g : Nat} (hs : a.eval s = .slice ra n cap) (hx : a.eval x = .slice (some ⟨g, 0, none⟩) 1 1)
    (hown : OwnR B w0 ra n cap rows) (he : Ext w0 w) (hxs : OwnC w0.heap.size w b m c xs) (hc : w.cell? ⟨g, 0, none⟩ = some (.slice b m c)) (hn : n ≤ 4194304) (hB : B ≤ w0.heap.size)
    (h : ∀ g' cap' w', OwnR B w' (some ⟨g', 0, none⟩) (n + 1) cap' (rows ++ [xs]) → w.grownBy w' (Value.slice ra n cap).ownBlock → (g' = w.heap.size ∨ (Value.slice ra n cap).ownBlock = some g') → (∀ W : World, W.heap.size ≤ B → Ext W w → Ext W w') →
      wpList Try.prog ops Q rest (a.put o.dst (.slice (some ⟨g', 0, none⟩) (n + 1) cap')) w') : wpList Try.prog ops Q (o :: rest) a w := by
  refine wpList_plain hgd fun K hK => ?_
  obtain ⟨g', cap', w', hr, h1, h2, h2b, h3⟩ := run_pushR_at hown he hc hxs hn hB o.type
  unfold Oper.wp execOp
  simp only [ho, resolve, invoke, builtin, Sem.run_bind, Sem.run_pure, Result.andThen_ok, List.map_toArray, List.map_cons, List.map_nil, hs, hx, hr]
  exact hK _ _ (h g' cap' w' h1 h2 h2b h3)

/-- Owned rows stay, where another list of rows is grown. -/
theorem OwnR.grown2 {B B2 : Nat} {w w' : World} {a ra : Option Addr} {n cap m c : Nat} {rows rows2 : List (List Int)} (h : OwnR B w a n cap rows) (h2 : OwnR B2 w ra m c rows2) (hg : w.grownBy w' (Value.slice ra m c).ownBlock) (hne : ∀ g, a = some ⟨g, 0, none⟩ → (Value.slice ra m c).ownBlock ≠ some g) : OwnR B w' a n cap rows := by
  have hlt := h.base_of
  obtain ⟨h1, vs, hv, hap, h4⟩ := h
  obtain ⟨_, us, hu, _⟩ := h2
  refine ⟨h1, vs, ⟨hv.1, ?_⟩, hap, fun i hi => ?_⟩
  · rcases hv.2 with h3 | ⟨g, c, cur, hv, hb, hh, h4⟩
    · exact .inl h3
    · refine .inr ⟨g, c, cur, hv, hb, ?_, h4⟩
      simp only [Value.slice.injEq] at hv
      rw [hg.block g (hlt g hv.1).2 (fun e => hne g hv.1 e.symm)]; exact hh
  · obtain ⟨ai, ci, h5, h6⟩ := h4 i hi
    exact ⟨ai, ci, h5, h6.grown hg (own_apart hu h6)⟩

/-! ### Sums of matrices -/
def sumM (p : Int) (A B : List (List Int)) (k : Int) (m n : Nat) : List (List Int) := (List.range n).map fun i => plusL p (nthR A i) (nthR B i) k m
theorem sumM_succ (p : Int) (A B : List (List Int)) (k : Int) (m n : Nat) : sumM p A B k m (n + 1) = sumM p A B k m n ++ [plusL p (nthR A n) (nthR B n) k m] := by simp [sumM, List.range_succ]
theorem sumM_len (p : Int) (A B : List (List Int)) (k : Int) (m n : Nat) : (sumM p A B k m n).length = n := by simp [sumM]
theorem sumM_nth {p : Int} {A B : List (List Int)} {k : Int} {m n i : Nat} (h : i < n) : nthR (sumM p A B k m n) i = plusL p (nthR A i) (nthR B i) k m := by
  unfold sumM; rw [nthR_map (by simpa using h)]; simp
theorem sumM_good {p : Int} {A B : List (List Int)} {k : Int} {m n : Nat} (hp : 1 ≤ p) : RowsG p m (sumM p A B k m n) := fun i hi => by
  rw [sumM_len] at hi
  rw [sumM_nth hi]
  exact plus_good hp

end Go.Proofs.Ytnabpmafcflljaa

/-
  Sums of matrices in the program.
  No condition.
-/
namespace Go.Proofs.Ytnabpmafcflljaa
set_option maxRecDepth 100000
open Go.RowKit

set_option maxHeartbeats 4000000 in
set_option maxRecDepth 100000 in
theorem c_sum (p : Int) (aa ab : Option Addr) (m n ca cb : Nat) (A B : List (List Int)) (kk : Int) (w : World) (hp1 : 3 ≤ p) (hp2 : p ≤ 1000) (hkk : -1000 ≤ kk ∧ kk ≤ 1000) (hm : m ≤ 4194303) (hn : n ≤ 4194303) (hA : RdR w aa n A) (hB : RdR w ab n B) (hGA : RowsG p m A) (hGB : RowsG p m B) :
    Calls Try.prog 47 #[.int .i64 p, .slice aa n ca, .slice ab n cb, .int .i64 kk] w fun e w' => ∃ g rc, e = .returned (.slice (some ⟨g, 0, none⟩) n rc) ∧ OwnR w.heap.size w' (some ⟨g, 0, none⟩) n rc (sumM p A B kk m n) ∧ Ext w w' := by
  have HA := Lib.hid hA
  have HB := Lib.hid hB
  have HGA := Lib.hid hGA
  have HGB := Lib.hid hGB
  clear hA hB hGA hGB
  go_enter Try.func47, Try.ntmps47
  go_wp2_with (fail)
  go_loopw [9, 14] (fun s i wr => ∃ (k g rc : Nat), k ≤ n ∧ i = .int .i64 k ∧ s = .slice (some ⟨g, 0, none⟩) k rc ∧ OwnR w.heap.size wr (some ⟨g, 0, none⟩) k rc (sumM p A B kk m k) ∧ Ext w wr) (fun _ i _ => n - (intOf i).toNat)
  case atStart => exact ⟨0, _, _, Nat.zero_le _, rfl, rfl, ownR_empty w, ext_alloc _ _⟩
  case round =>
    obtain ⟨k, g, rc, hk, rfl, rfl, hown, hext⟩ := hrel
    have HOwn := Lib.hid hown
    have HExt := Lib.hid hext
    clear hown hext
    by_cases hlt : k < n
    · have hltA : k < A.length := by have := HA.out.1; omega
      have hltB : k < B.length := by have := HB.out.1; omega
      obtain ⟨ba, oa, ai, ci, hab, hc, hri⟩ := HA.out.2 k hlt
      cases hab
      obtain ⟨bb, ob, bi, di, hbb, hd, hrj⟩ := HB.out.2 k hlt
      cases hbb
      rw [(HGA.out k hltA).1] at hc hri
      rw [(HGB.out k hltB).1] at hd hrj
      have HCa := Lib.hid ((HExt.out.trans (ext_drew wr)).cell hc)
      have HCb := Lib.hid ((HExt.out.trans (ext_drew wr)).cell hd)
      have HRa := Lib.hid (hri.ext (HExt.out.trans (ext_drew wr)))
      have HRb := Lib.hid (hrj.ext (HExt.out.trans (ext_drew wr)))
      clear hc hri hd hrj
      go_wp2_with (fail)
      refine wp_region_lex_tail1 12 [(11, .ownS wr.heap.size m (plusL p (nthR A k) (nthR B k) kk m))] (.slice (some ⟨g, 0, none⟩) k rc) (by kernel_rfl) (by kernel_rfl) rfl rfl (fun w1 => by go_simp) ?_
      simp only [List.take, List.drop]
      simp only [Act.put, List.setIfInBounds_toArray, List.set_cons_zero, List.set_cons_succ]
      (refine LexW.pure (v := ?_) rfl rfl (fun w1 he => ?_) ?_; rotate_left; ( have e1 := he.cell HCa.out; have e2 := he.cell HCb.out; go_simp; rfl); simp only [Act.put, List.setIfInBounds_toArray, List.set_cons_zero, List.set_cons_succ])
      (refine LexW.pure (v := ?_) rfl rfl (fun w1 he => ?_) ?_; rotate_left; ( have e1 := he.cell HCa.out; have e2 := he.cell HCb.out; go_simp; rfl); simp only [Act.put, List.setIfInBounds_toArray, List.set_cons_zero, List.set_cons_succ])
      (refine LexW.pure (v := ?_) rfl rfl (fun w1 he => ?_) ?_; rotate_left; ( have e1 := he.cell HCa.out; have e2 := he.cell HCb.out; go_simp; rfl); simp only [Act.put, List.setIfInBounds_toArray, List.set_cons_zero, List.set_cons_succ])
      (refine LexW.pure (v := ?_) rfl rfl (fun w1 he => ?_) ?_; rotate_left; ( have e1 := he.cell HCa.out; have e2 := he.cell HCb.out; go_simp; rfl); simp only [Act.put, List.setIfInBounds_toArray, List.set_cons_zero, List.set_cons_succ])
      (refine LexW.pure (v := ?_) rfl rfl (fun w1 he => ?_) ?_; rotate_left; ( have e1 := he.cell HCa.out; have e2 := he.cell HCb.out; go_simp; rfl); simp only [Act.put, List.setIfInBounds_toArray, List.set_cons_zero, List.set_cons_succ])
      (refine LexW.pure (v := ?_) rfl rfl (fun w1 he => ?_) ?_; rotate_left; ( have e1 := he.cell HCa.out; have e2 := he.cell HCb.out; go_simp; rfl); simp only [Act.put, List.setIfInBounds_toArray, List.set_cons_zero, List.set_cons_succ])
      (refine LexW.pure (v := ?_) rfl rfl (fun w1 he => ?_) ?_; rotate_left; ( have e1 := he.cell HCa.out; have e2 := he.cell HCb.out; go_simp; rfl); simp only [Act.put, List.setIfInBounds_toArray, List.set_cons_zero, List.set_cons_succ])
      (refine LexW.pure (v := ?_) rfl rfl (fun w1 he => ?_) ?_; rotate_left; ( have e1 := he.cell HCa.out; have e2 := he.cell HCb.out; go_simp; rfl); simp only [Act.put, List.setIfInBounds_toArray, List.set_cons_zero, List.set_cons_succ])
      (refine LexW.pure (v := ?_) rfl rfl (fun w1 he => ?_) ?_; rotate_left; ( have e1 := he.cell HCa.out; have e2 := he.cell HCb.out; go_simp; rfl); simp only [Act.put, List.setIfInBounds_toArray, List.set_cons_zero, List.set_cons_succ])
      (refine LexW.pure (v := ?_) rfl rfl (fun w1 he => ?_) ?_; rotate_left; ( have e1 := he.cell HCa.out; have e2 := he.cell HCb.out; go_simp; rfl); simp only [Act.put, List.setIfInBounds_toArray, List.set_cons_zero, List.set_cons_succ])
      (refine LexW.callR (f := ?_) (args := ?_) rfl rfl (fun w1 => ?_) (fun w1 he hdep => ?_) (fun v hv => ?_); rotate_left 2; (go_simp; refine ⟨?_, ?_⟩ <;> rfl); ( refine (c_plus p _ _ m _ _ (nthR A k) (nthR B k) kk w1 hp1 hp2 hkk (by omega) (HRa.out.ext he) (HRb.out.ext he) (HGA.out k hltA) (HGB.out k hltB)).mono ?_; rintro e w2 ⟨g, rc, rfl, ho, g2⟩; exact ⟨_, rfl, g2, g, rc, rfl, ho.mono (Nat.le_trans (ext_drew wr).size he.size)⟩); simp only [Act.put, List.setIfInBounds_toArray, List.set_cons_zero, List.set_cons_succ])
      obtain ⟨_, g28, c28, rfl, _⟩ := hv
      refine LexW.nil (fun w3 he hkn => ?_)
      obtain ⟨_, _, q28, r28⟩ : (SPred.ownS wr.heap.size m (plusL p (nthR A k) (nthR B k) kk m)).holds (.slice (some ⟨g28, 0, none⟩) m c28) w3 := hkn (11, _) (by simp)
      cases q28
      have R28 := Lib.hid r28
      have HE := Lib.hid ((ext_drew wr).trans he)
      clear he hkn r28
      go_wp2_with (at_builtin; refine wpList_pushR (w0 := wr) rfl (.tmp 17) (.tmp 29) rfl rfl rfl HOwn.out (HE.out.trans (ext_alloc _ _)) (R28.out.ext (ext_alloc _ _)) ?hc (by omega) HExt.out.size ?hk)
      case hc => exact cell_new _ _ rfl _ _
      case hk =>
        intro g5 c5 w5 ho5 hg5 he5
        have HO5 := Lib.hid ho5
        have HE5 := Lib.hid (he5 w (Nat.le_refl _) ((HExt.out.trans HE.out).alloc _))
        clear ho5 hg5 he5
        go_wp2_with (fail)
        refine strictQ_normal ?_
        go_wp2_with (fail)
        go_roundw
        case rel => exact ⟨k + 1, g5, c5, by omega, by go_num, rfl, by rw [sumM_succ]; exact HO5.out, HE5.out⟩
        case measure => simp [intOf]; omega
    · obtain rfl : n = k := by omega
      go_wp2_with (fail)
      go_ret
      exact ⟨_, _, rfl, HOwn.out, HExt.out⟩

end Go.Proofs.Ytnabpmafcflljaa

/-
  The map of the places of the first numbers of a reduced basis; a vector of the kernel filled in an order that nobody knows.
  No condition.
-/
namespace Go.Proofs.Ytnabpmafcflljaa
set_option maxRecDepth 100000
open Go.RowKit

theorem keyI (x : Int) : WideAt.IsKeyLit (.int .i64 x) := trivial
/-- The map as read when the first k rows have been gone through. -/
def plD (red : List (List Int)) : Nat → DataW Unit
  | 0 => .map []
  | i + 1 => (plD red i).put (.int .i64 (leadN (nthR red i))) (.lit (.int .i64 i))
theorem plD_map (red : List (List Int)) : ∀ k, Maps.IsMap (plD red k)
  | 0 => Maps.isMap_empty
  | k + 1 => (plD_map red k).put _ _
theorem plD_has (red : List (List Int)) (x : Int) : ∀ k, Maps.has (plD red k) (.int .i64 x) = true ↔ ∃ i : Nat, i < k ∧ ((leadN (nthR red i) : Nat) : Int) = x
  | 0 => by
    constructor
    · intro h; cases h
    · rintro ⟨i, hi, _⟩; omega
  | k + 1 => by
    unfold plD
    by_cases h : ((leadN (nthR red k) : Nat) : Int) = x
    · subst h
      exact ⟨fun _ => ⟨k, by omega, rfl⟩, fun _ => Maps.has_put_same (plD_map red k) (keyI _) _⟩
    · rw [Maps.has_put_other (fun e => h (by injection e with _ e2; exact e2.symm)), plD_has red x k]
      constructor
      · rintro ⟨i, hi, e⟩; exact ⟨i, by omega, e⟩
      · rintro ⟨i, hi, e⟩
        refine ⟨i, ?_, e⟩
        rcases Nat.lt_or_ge i k with h1 | h1
        · exact h1
        · obtain rfl : i = k := by omega
          exact absurd e h
theorem plD_at {p : Int} {m : Nat} {red : List (List Int)} {c : Nat → Nat} (hb : Basis p m red c) (z : DataW Unit) : ∀ k, k ≤ red.length → ∀ i, i < k → (plD red k).atKey (.int .i64 (leadN (nthR red i))) z = .lit (.int .i64 i)
  | 0, _, i, hi => by omega
  | k + 1, hk, i, hi => by
    unfold plD
    by_cases h : i = k
    · subst h
      exact Maps.atKey_put_same (plD_map red i) (keyI _) _ _
    · rw [Maps.atKey_put_other (fun e => by
        injection e with _ e2
        have h1 := hb.leadN (i := i) (by omega)
        have h2 := hb.leadN (i := k) (by omega)
        rw [h1, h2] at e2
        exact h (hb.inj (by omega) (by omega) (by omega)))]
      exact plD_at hb z k (by omega) i (by omega)
theorem plD_entry {p : Int} {m : Nat} {red : List (List Int)} {cc : Nat → Nat} (hb : Basis p m red cc) {x c : Int} (h : ∀ zd, (plD red red.length).atKey (.int .i64 x) zd = .lit (.int .i64 c)) : ∃ i : Nat, i < red.length ∧ c = (i : Int) ∧ x = ((leadN (nthR red i) : Nat) : Int) := by
  have hh := Maps.has_true_of_atKey (D := plD red red.length) (k := .int .i64 x) (y := .lit (.int .i64 c)) h
  obtain ⟨i, hi, e⟩ := (plD_has red x red.length).1 hh
  refine ⟨i, hi, ?_, e.symm⟩
  have h1 := plD_at hb (.lit (.int .i64 0)) red.length (Nat.le_refl _) i hi
  rw [e, h] at h1
  injection h1 with h2
  injection h2
theorem plD_piv {red : List (List Int)} {t : Nat} : Maps.has (plD red red.length) (.int .i64 t) = (pivIx red t).isSome := by
  rw [Bool.eq_iff_iff, plD_has]
  cases h : pivIx red t with
  | none =>
    simp only [Option.isSome_none, Bool.false_eq_true, iff_false, not_exists, not_and]
    intro i hi e
    exact pivIx_none h i hi (by omega)
  | some i =>
    obtain ⟨h1, h2⟩ := pivIx_some h
    simp only [Option.isSome_some, iff_true]
    exact ⟨i, h1, by omega⟩

/-- The vector while some entries are still to come. -/
def kerE (p : Int) (red : List (List Int)) (f : Nat) (left : Lit → Bool) (t : Nat) : Int := if t = f then 1 else match pivIx red t with | some i => if left (.int .i64 t) = true then 0 else (-(nth (nthR red i) f)) % p | none => 0
def kerP (p : Int) (n : Nat) (red : List (List Int)) (f : Nat) (left : Lit → Bool) : List Int := (List.range n).map (kerE p red f left)
theorem kerP_len (p : Int) (n : Nat) (red : List (List Int)) (f : Nat) (left : Lit → Bool) : (kerP p n red f left).length = n := by simp [kerP]
theorem kerP_nth {p : Int} {n : Nat} {red : List (List Int)} {f t : Nat} {left : Lit → Bool} (h : t < n) : nth (kerP p n red f left) t = kerE p red f left t := by
  unfold kerP; rw [nth_map (by simpa using h)]; simp
theorem kerP_start {p : Int} {n : Nat} {red : List (List Int)} {f : Nat} (hf : f < n) : kerP p n red f (Maps.has (plD red red.length)) = bladeL n f := by
  refine ext_nth (by rw [kerP_len, bladeL_len]) (fun t ht => ?_)
  rw [kerP_len] at ht
  rw [kerP_nth ht, bladeL_nth hf ht]
  unfold kerE
  by_cases h : t = f
  · rw [if_pos h, if_pos h.symm]
  · rw [if_neg h, if_neg (fun e => h e.symm)]
    cases hp : pivIx red t with
    | none => rfl
    | some i => simp only [plD_piv, hp, Option.isSome_some, if_true]
theorem kerP_end {p : Int} {n : Nat} {red : List (List Int)} {f : Nat} {left : Lit → Bool} (h : ∀ kl, left kl = false) : kerP p n red f left = kerV p n red f := by
  unfold kerP kerV
  refine List.map_congr_left fun t _ => ?_
  unfold kerE kerN
  cases hp : pivIx red t with
  | none => rfl
  | some i => simp only [h, Bool.false_eq_true, if_false]
theorem kerP_step {p : Int} {m n : Nat} {red : List (List Int)} {c : Nat → Nat} (hb : Basis p m red c) {f i : Nat} {left : Lit → Bool} (hi : i < red.length) (hx : leadN (nthR red i) < n) (hf : pivIx red f = none) :
    kerP p n red f (fun z => left z && !z.sameKey (.int .i64 (leadN (nthR red i)))) = (kerP p n red f left).set (leadN (nthR red i)) ((-(nth (nthR red i) f)) % p) := by
  have hpi : pivIx red (leadN (nthR red i)) = some i := by rw [hb.leadN hi]; exact hb.piv hi
  have hne : leadN (nthR red i) ≠ f := fun e => by rw [e, hf] at hpi; cases hpi
  refine ext_nth (by rw [kerP_len, List.length_set, kerP_len]) (fun t ht => ?_)
  rw [kerP_len] at ht
  rw [kerP_nth ht, nth_set (by rw [kerP_len]; exact hx)]
  by_cases h : t = leadN (nthR red i)
  · subst h
    rw [if_pos rfl]
    unfold kerE
    rw [if_neg hne, hpi]
    simp only [WideAt.sameKey_self (keyI _), Bool.not_true, Bool.and_false, Bool.false_eq_true, if_false]
  · rw [if_neg (fun e => h e.symm), kerP_nth ht]
    unfold kerE
    have : (Lit.int .i64 (t : Int)).sameKey (.int .i64 (leadN (nthR red i))) = false := Maps.sameKey_ne (fun e => by injection e with _ e2; omega)
    simp only [this, Bool.not_false, Bool.and_true]
theorem ownsMap_ext {P : Program} {k : TypeId} {R : Value → Option (DataW Unit × List MemPlace)} {b n : Nat} {D : DataW Unit} {w w' : World} (h : w.ownsMap P k R b n D) (he : Ext w w') : w'.ownsMap P k R b n D := by
  obtain ⟨es, clock, h1, h2⟩ := h
  exact ⟨es, clock, he.heap h1, h2⟩
theorem ranges_ext {P : Program} {k : TypeId} {R : Value → Option (DataW Unit × List MemPlace)} {b r n : Nat} {D : DataW Unit} {left : Lit → Bool} {cnt : Nat} {w w' : World} (h : w.ranges P k R b r n D left cnt) (he : Ext w w') : w'.ranges P k R b r n D left cnt := by
  obtain ⟨es, clock, since, seen, c0, h1, h2, h3, h4, h5, h6⟩ := h
  exact ⟨es, clock, since, seen, c0, he.heap h1, h2, h3, h4, he.heap h5, h6⟩
theorem ranges_keep {P : Program} {k : TypeId} {R : Value → Option (DataW Unit × List MemPlace)} {b r n : Nat} {D : DataW Unit} {left : Lit → Bool} {cnt : Nat} {w w' : World} (h : w.ranges P k R b r n D left cnt) (hb : w'.heap[b]? = w.heap[b]?) (hr : w'.heap[r]? = w.heap[r]?) : w'.ranges P k R b r n D left cnt := by
  obtain ⟨es, clock, since, seen, c0, h1, h2, h3, h4, h5, h6⟩ := h
  exact ⟨es, clock, since, seen, c0, hb.trans h1, h2, h3, h4, hr.trans h5, h6⟩
theorem lawK : Maps.Keyed Try.prog 3 := Maps.int_keyed Try.underlying3
theorem zeroK (w : World) : (zeroValue 3).run Try.prog w = .ok (.int .i64 0) w := by kernel_rfl
end Go.Proofs.Ytnabpmafcflljaa

/-
  Contracts: solutions of linear systems, in the program and in the reference.
  No condition.
-/
namespace Go.Proofs.Ytnabpmafcflljaa
set_option maxRecDepth 100000
open Go.RowKit

theorem OwnR.other {B : Nat} {w : World} {a : Option Addr} {n cap : Nat} {rows : List (List Int)} (h : OwnR B w a n cap rows) {p : Addr} (hp : p.block < B) (v : Value) : OwnR B (w.setCell p v) a n cap rows := by
  obtain ⟨h1, vs, ⟨h2, h3⟩, hap, h4⟩ := h
  refine ⟨h1, vs, ⟨h2, ?_⟩, hap, fun i hi => ?_⟩
  · rcases h3 with h3 | ⟨g, c, cur, hv, hb, hh, h5⟩
    · exact .inl h3
    · exact .inr ⟨g, c, cur, hv, hb, by rw [Below.heap_setCell _ _ _ _ (by omega)]; exact hh, h5⟩
  · obtain ⟨ai, ci, h5, h6⟩ := h4 i hi
    exact ⟨ai, ci, h5, h6.other hp v⟩

/-- The solution and whether there is one. -/
def redL (p : Int) (m : Nat) (rows : List (List Int)) (u : List Int) (n : Nat) : List (List Int) := basisL p (m + 1) (wideL rows u n)
def solR (m : Nat) (red : List (List Int)) : List Int := if okS m red = true then solL m red else []

theorem solL_len' {n : Nat} {red : List (List Int)} : (solL n red).length = n := by simp [solL]


/-- The place of the first number other than 0, or -1. -/
def firstL (xs : List Int) : Int := if leadN xs = xs.length then -1 else (leadN xs : Int)
set_option maxHeartbeats 400000 in
theorem s_first (a : Option Addr) (n cap : Nat) (xs : List Int) (w : World) (hl : n ≤ 4194303) (hx : RdC w a n xs) :
    Calls Try.prog 80 #[.slice a n cap] w fun e w' => e = .returned (.int .i64 (firstL xs)) ∧ Ext w w' := by
  have HX := Lib.hid hx
  clear hx
  go_enter Try.func80, Try.ntmps80
  go_wp2_with (fail)
  go_loopw [3] (fun i wr => ∃ k : Nat, k ≤ n ∧ i = .int .i64 k ∧ Hid (∀ j, j < k → nth xs j = 0) ∧ Ext w wr) (fun i _ => n - (intOf i).toNat)
  case atStart => exact ⟨0, Nat.zero_le _, rfl, Lib.hid (fun j hj => by omega), Ext.refl _⟩
  case round =>
    obtain ⟨k, hk, rfl, HT, hext⟩ := hrel
    by_cases hlt : k < n
    · obtain ⟨b, off, rfl, hc⟩ := HX.out.2 k hlt
      have hc' := hext.cell hc
      clear hc
      by_cases hz : nth xs k = 0
      · have HZ := Lib.hid hz
        have hzb : (nth xs k != 0) = false := by simp [hz]
        clear hz
        go_wp2_with (fail)
        go_roundw
        case rel => exact ⟨k + 1, by omega, by go_num, Lib.hid (fun j hj => by
          by_cases hjk : j = k
          · subst hjk; exact HZ.out
          · exact HT.out j (by omega)), hext⟩
        case measure => simp [intOf]; omega
      · have HZ := Lib.hid hz
        have hzb : (nth xs k != 0) = true := by simp [hz]
        clear hz
        go_wp2_with (fail)
        go_ret
        exact ⟨ret_int (by unfold firstL; rw [leadN_eq (k := k) (by rw [HX.out.1]; omega) HT.out (.inr HZ.out), if_neg (by rw [HX.out.1]; omega)]), hext⟩
    · go_wp2_with (fail)
      go_ret
      exact ⟨ret_int (by unfold firstL; rw [leadN_eq (k := k) (by rw [HX.out.1]; omega) HT.out (.inl (by rw [HX.out.1]; omega)), if_pos (by rw [HX.out.1]; omega)]), hext⟩
theorem OwnRH.otherH {lo hi : Nat} {w : World} {a : Option Addr} {n cap : Nat} {rows : List (List Int)} (h : OwnRH lo hi w a n cap rows) {p : Addr} (hp : p.block < lo ∨ hi ≤ p.block) (v : Value) : OwnRH lo hi (w.setCell p v) a n cap rows := by
  have hb := h.low.base_of
  obtain ⟨h1, h0, vs, ⟨h2, h3⟩, hap, h4⟩ := h
  refine ⟨h1, h0, vs, ⟨h2, ?_⟩, hap, fun i hi => ?_⟩
  · rcases h3 with h3 | ⟨g, c, cur, hv, hb', hh, h5⟩
    · exact .inl h3
    · refine .inr ⟨g, c, cur, hv, hb', ?_, h5⟩
      simp only [Value.slice.injEq] at hv
      have := h0 g hv.1
      rw [Below.heap_setCell _ _ _ _ (by omega)]; exact hh
  · obtain ⟨ai, ci, h5, h6, h7⟩ := h4 i hi
    refine ⟨ai, ci, h5, h6.keep fun g hg => ?_, h7⟩
    have := h7 g hg
    have := (h6.base_of g hg).1
    exact Below.heap_setCell _ _ _ _ (by omega)

end Go.Proofs.Ytnabpmafcflljaa

/-
  Kernels: contracts of the program and the reference.
  No condition.
-/
namespace Go.Proofs.Ytnabpmafcflljaa
set_option maxRecDepth 100000
open Go.RowKit

theorem kerR_no {p : Int} {n : Nat} {red : List (List Int)} {k i : Nat} (h : pivIx red k = some i) : kerR p n red (k + 1) = kerR p n red k := by unfold kerR; rw [freeL_no h]
theorem kerR_yes {p : Int} {n : Nat} {red : List (List Int)} {k : Nat} (h : pivIx red k = none) : kerR p n red (k + 1) = kerR p n red k ++ [kerV p n red k] := by unfold kerR; rw [freeL_yes h]; simp
theorem kerR_len (p : Int) (n : Nat) (red : List (List Int)) (k : Nat) : (kerR p n red k).length ≤ k := by unfold kerR; rw [List.length_map]; exact freeL_len red k
theorem kernL_cnt {p : Int} {n : Nat} {rows : List (List Int)} (hp : primeB p = true) : (kernL p n rows).length ≤ n ∧ RowsG p n (kernL p n rows) := by
  obtain ⟨c, hb⟩ := basis_red hp (kerR_good (n := n) (red := basisL p n rows) (k := n) (prime_bd hp).1)
  exact ⟨hb.len, hb.good⟩

set_option maxHeartbeats 8000000 in
set_option maxRecDepth 100000 in
theorem c_kernel (p : Int) (a : Option Addr) (m cap n : Nat) (rows : List (List Int)) (w : World) (hpr : primeB p = true) (hn : 0 < n) (hn2 : n ≤ 4095) (hm : m ≤ 4095) (hx : RdR w a m rows) (hg : RowsG p n rows) :
    Calls Try.prog 46 #[.int .i64 p, .slice a m cap, .int .i64 n] w fun e w' => ∃ g rc, e = .returned (.slice (some ⟨g, 0, none⟩) (kernL p n rows).length rc) ∧ OwnR w.heap.size w' (some ⟨g, 0, none⟩) (kernL p n rows).length rc (kernL p n rows) ∧ Ext w w' := by
  have hmm := @run_makeMap Try.prog
  have hpb := prime_bd hpr
  obtain ⟨cc, hbas⟩ := basis_red hpr hg
  have HPR := Lib.hid hpr
  have HX := Lib.hid hx
  have HG := Lib.hid hg
  obtain ⟨red, hred⟩ : ∃ red, red = basisL p n rows := ⟨_, rfl⟩
  have HBas := Lib.hid (show Basis p n red cc by rw [hred]; exact hbas)
  have HRed := Lib.hid hred
  have HKL := Lib.hid (show kernL p n rows = basisL p n (kerR p n red n) by unfold kernL; rw [hred])
  have hrl : red.length ≤ 4095 := by have := HBas.out.len; omega
  clear hx hg hbas hpr hred
  go_enter Try.func46, Try.ntmps46
  go_wp2_with (go_at_call 84; refine (c_basis p a m cap n rows _ HPR.out hn (by omega) (by omega) HX.out HG.out).mono ?_; rintro e w1 ⟨gb, cb, r, rfl, hob, hxb⟩; rw [← HRed.out] at hob; obtain rfl := hob.len; have HOb := Lib.hid hob; have X1 := Lib.hid hxb; clear hob hxb)
  go_loopw [24] (fun i wr => ∃ k : Nat, k ≤ red.length ∧ i = .int .i64 k ∧ wr.ownsMap Try.prog 3 (plainElem Try.prog 3) w1.heap.size k (plD red k) ∧ Ext w1 wr) (fun i _ => red.length - (intOf i).toNat)
  case atStart => exact ⟨0, Nat.zero_le _, rfl, World.ownsMap_made _ _ _ _, ext_alloc _ _⟩
  case round =>
    obtain ⟨k, hk, rfl, hown, hext⟩ := hrel
    have HOwn := Lib.hid hown
    have HExt := Lib.hid hext
    clear hown hext
    by_cases hlt : k < red.length
    · obtain ⟨aj, cj, hcj, hoj⟩ := HOb.out.at hlt
      have hjl := (HBas.out.good k hlt).1
      rw [hjl] at hcj hoj
      have hcj' := HExt.out.cell hcj
      have HOj := Lib.hid (hoj.rd.ext HExt.out)
      obtain ⟨L, hL⟩ : ∃ L, L = leadN (nthR red k) := ⟨_, rfl⟩
      have HL := Lib.hid hL
      have hLn : L ≤ n := by rw [hL, ← hjl]; exact leadN_le _
      clear hcj hoj hjl hL
      go_wp2_with (first
        | (go_at_call 85; refine (c_lead aj n cj (nthR red k) _ (by omega) HOj.out).mono ?_; rintro e w2 ⟨rfl, g2⟩; rw [← HL.out]; have G2 := Lib.hid g2; clear g2)
        | (at_mapUpdate; refine wpList_mapUpdate_own _ rfl _ _ _ 80 rfl 3 3 lawK Try.underlying80 _ w1.heap.size k _ rfl (ownsMap_ext HOwn.out G2.out) (by unfold maxLen; omega) _ _ _ rfl rfl (Maps.keyOf_int_mk Try.underlying3 (WalkArith.wf_i64 (by omega))) _ [] (plainElem_int Try.underlying3 (WalkArith.wf_i64 (by omega))) ?_; intro w3 hown3 hgrow3; have HO3 := Lib.hid hown3; have HE3 := Lib.hid ((HExt.out.trans G2.out).grown hgrow3 (fun j hj => by cases hj; exact Nat.le_refl _)); clear hown3 hgrow3))
      go_roundw
      case rel => exact ⟨k + 1, by omega, by go_num, by (show World.ownsMap _ _ _ _ _ _ ((plD red k).put (.int .i64 (leadN (nthR red k))) (.lit (.int .i64 k)))); rw [← HL.out]; exact HO3.out, HE3.out⟩
      case measure => simp [intOf]; omega
    · obtain rfl : k = red.length := by omega
      have HM := HOwn
      have X2 := HExt
      have HRd := Lib.hid (HOb.out.ext X2.out)
      have GW := Lib.hid (X1.out.trans X2.out)
      clear HOwn HExt HOb
      rename World => wM
      go_wp2_with (fail)
      go_loopw [11, 36] (fun v i wq => ∃ (f g rc : Nat), f ≤ n ∧ i = .int .i64 f ∧ v = .slice (some ⟨g, 0, none⟩) (kerR p n red f).length rc ∧ OwnW wM.heap.size wq (some ⟨g, 0, none⟩) (kerR p n red f).length rc (kerR p n red f) ∧ Ext wM wq) (fun _ i _ => n - (intOf i).toNat)
      case atStart => exact ⟨0, _, _, Nat.zero_le _, rfl, rfl, OwnW.start _ _ _, ext_alloc _ _⟩
      case round =>
        obtain ⟨f, g, rc, hf, rfl, rfl, hown, hext⟩ := hrel
        rename World => wq
        have HOwn := Lib.hid hown
        have HExt := Lib.hid hext
        clear hown hext
        have hkl := kerR_len p n red f
        by_cases hlf : f < n
        · have hmap := ownsMap_ext HM.out HExt.out
          have hpiv := @plD_piv red f
          cases hp : pivIx red f with
          | some j =>
            rw [hp] at hpiv
            have HK := Lib.hid (kerR_no (p := p) (n := n) hp)
            have hhas : Maps.has (plD red red.length) (.int .i64 f) = true := hpiv
            clear hp hpiv
            go_wp2_with (at_lookup; refine wpList_lookup_own_ok_int _ rfl _ _ 80 rfl 3 3 .i64 lawK Try.underlying80 Try.underlying3 (zeroK _) w1.heap.size red.length _ rfl hmap _ _ rfl (Maps.keyOf_int_mk Try.underlying3 (WalkArith.wf_i64 (by omega))) ?_; intro c hat hwc; rw [hhas])
            go_roundw
            case rel => exact ⟨f + 1, g, rc, by omega, by go_num, by rw [HK.out], by rw [HK.out]; exact HOwn.out, HExt.out⟩
            case measure => simp [intOf]; omega
          | none =>
            rw [hp] at hpiv
            have HK := Lib.hid (kerR_yes (p := p) (n := n) hp)
            have HP := Lib.hid hp
            have hhas : Maps.has (plD red red.length) (.int .i64 f) = false := hpiv
            clear hp hpiv
            obtain ⟨w4, hmk, ho4, he4⟩ := make_ints wq n (by omega)
            obtain ⟨g0, hg0⟩ : ∃ g, g = wq.heap.size := ⟨_, rfl⟩
            rw [← hg0] at hmk ho4
            have HG0 := Lib.hid hg0
            have hge : wq.heap.size ≤ g0 := by omega
            have hgl : g0 < w4.heap.size := (ho4.base_of _ rfl).2
            have HO4 := Lib.hid ho4
            have HE4 := Lib.hid he4
            have hcg := ho4.cell hlf
            have hfz := ho4.frozen f
            have HM5 := Lib.hid (ownsMap_ext hmap (he4.setCell (p := ⟨g0, f, none⟩) hge (.int .i64 1)))
            clear ho4 he4 hg0
            go_wp2_with (first
              | (at_lookup; refine wpList_lookup_own_ok_int _ rfl _ _ 80 rfl 3 3 .i64 lawK Try.underlying80 Try.underlying3 (zeroK _) w1.heap.size red.length _ rfl hmap _ _ rfl (Maps.keyOf_int_mk Try.underlying3 (WalkArith.wf_i64 (by omega))) ?_; intro c hat hwc; rw [hhas])
              | (at_range; refine wpList_range_own _ rfl _ 80 rfl 3 3 lawK Try.underlying80 _ w1.heap.size red.length _ rfl HM5.out ?_; intro w6 hrg6 hg6 hs6))
            go_frame
            have hszg : (w4.setCell ⟨g0, f, none⟩ (.int .i64 1)).heap.size = w4.heap.size := by simp
            rw [hszg]
            clear hszg
            have X5 := Lib.hid (HE4.out.setCell (p := ⟨g0, f, none⟩) hge (.int .i64 1))
            have HO5 := Lib.hid (HO4.out.store hlf 1)
            have HSz := Lib.hid (show (w4.setCell ⟨g0, f, none⟩ (.int .i64 1)).heap.size = w4.heap.size by simp)
            obtain ⟨w5, hw5⟩ : ∃ w5, w5 = w4.setCell ⟨g0, f, none⟩ (.int .i64 1) := ⟨_, rfl⟩
            rw [← hw5] at hrg6 hg6 hs6 X5 HO5 HSz
            have hsz5 := HSz.out
            rw [hsz5] at hrg6
            have E6 := Lib.hid ((Ext.refl w5).grown hg6 (fun j hj => by cases hj))
            have HR6 := Lib.hid hrg6
            clear hcg hfz hmap hw5 hrg6 hg6 hs6 hmk hsz5
            go_loopw [53] (fun _ wz => ∃ (left : Lit → Bool) (cnt : Nat), wz.ranges Try.prog 3 (plainElem (H := Unit) Try.prog 3) w1.heap.size w4.heap.size red.length (plD red red.length) left cnt ∧ OwnC wq.heap.size wz (some ⟨g0, 0, none⟩) n n (kerP p n red f left) ∧ Ext wq wz) (fun _ wz => wz.rangeLeft w1.heap.size w4.heap.size)
            case atStart => exact ⟨_, _, HR6.out, by rw [kerP_start hlf]; exact (HO5.out.mono hge).ext E6.out, X5.out.trans E6.out⟩
            case round =>
              obtain ⟨left, cnt, hrg, hown, hext⟩ := hrel
              rename World => wz
              have HRg := Lib.hid hrg
              have HOz := Lib.hid hown
              have HEz := Lib.hid hext
              clear hrg hown hext
              go_wp2_with (at_next; refine wpList_next_ranges_ii _ rfl _ rfl 3 3 .i64 .i64 lawK Try.underlying3 Try.underlying3 w1.heap.size w4.heap.size red.length _ _ _ ?hit HRg.out ?_ ?_)
              case hit => simp [Act.eval]
              · intro _ hl0
                have HKE := Lib.hid (kerP_end (p := p) (n := n) (red := red) (f := f) hl0)
                clear hl0
                go_wp2_with (at_builtin; refine wpList_pushRW (w0 := wq) rfl (.tmp 71) (.tmp 73) rfl rfl rfl HOwn.out (HEz.out.trans (ext_alloc _ _)) (xs := kerV p n red f) (by rw [← HKE.out]; exact HOz.out.ext (ext_alloc _ _)) ?hc (by omega) HExt.out.size ?hk)
                case hc => exact cell_new _ _ rfl _ _
                case hk =>
                  intro g' cap' w9 ho9 he9
                  have HO9 := Lib.hid ho9
                  have HE9 := Lib.hid (he9 wM (Nat.le_refl _) ((HExt.out.trans HEz.out).alloc _))
                  clear ho9 he9
                  go_wp2_with (fail)
                  go_roundw
                  case rel => exact ⟨f + 1, g', cap', by omega, by go_num, by rw [HK.out, List.length_append]; rfl, by rw [HK.out, List.length_append]; exact .inr HO9.out, HE9.out⟩
                  case measure => simp [intOf]; omega
              · intro x c w7 cnt7 hwx hwc hlx hat hrg7 hlt7 hg7 hs7 hen
                obtain ⟨i, hi, rfl, rfl⟩ := plD_entry HBas.out hat
                have hjl := (HBas.out.good i hi).1
                have hlt : leadN (nthR red i) < n := by rw [HBas.out.leadN hi]; exact HBas.out.clt i hi
                have hbd := (HBas.out.good i hi).2 f hlf
                obtain ⟨ai, ci, hci, hoi⟩ := HRd.out.at hi
                rw [hjl] at hci hoi
                have HSt := Lib.hid (kerP_step (p := p) (n := n) (left := left) HBas.out hi hlt HP.out)
                have hw5 : wq.heap.size ≤ w4.heap.size := HE4.out.size'
                have HE7 := Lib.hid (HEz.out.grown hg7 (fun j hj => by cases hj; exact hw5))
                obtain ⟨bj, oj, rfl, hcm⟩ := hoi.rd.2 f (by omega)
                have hci7 := (HExt.out.trans HE7.out).cell hci
                have hcm7 := (HExt.out.trans HE7.out).cell hcm
                obtain ⟨u, hu⟩ : ∃ u, u = nth (nthR red i) f := ⟨_, rfl⟩
                rw [← hu] at hcm7 hbd HSt
                have hwn : IntKind.i64.wrap (-u) = -u := IntWalk.i64_in _ (by omega)
                have ho7 := HOz.out.grown hg7 (fun g hg => by cases hg; intro he; injection he with he; have := HSz.out; omega)
                obtain ⟨L, hL⟩ : ∃ L, L = leadN (nthR red i) := ⟨_, rfl⟩
                rw [← hL] at hlt HSt hrg7 hen hwx hlx
                have HO7 := Lib.hid ho7
                have HRg7 := Lib.hid hrg7
                have hcg := ho7.cell hlt
                have hfz := ho7.frozen L
                have HCnt := Lib.hid hlt7
                clear hci hoi hcm hat hlx hwx hwc ho7 hrg7 hL hu hg7 hs7 hlt7 hjl
                go_wp2_with (go_at_call 86; refine (c_num _ _ _ (by omega) (by omega)).mono ?_; rintro e w10 ⟨rfl, g10⟩; have G10 := Lib.hid g10; have hcg' := g10.cell hcg; have hfz' := (HO7.out.ext g10).frozen L; clear g10)
                go_roundw
                case rel => exact ⟨_, cnt7, ranges_keep (ranges_ext HRg7.out G10.out) (Below.heap_setCell _ _ _ _ (by show w1.heap.size ≠ g0; have := HExt.out.size'; have := HM.out.lt; omega)) (Below.heap_setCell _ _ _ _ (by show w4.heap.size ≠ g0; have := HSz.out; omega)), by rw [HSt.out]; exact (HO7.out.ext G10.out).store hlt _, (HE7.out.trans G10.out).setCell hge _⟩
                case measure =>
                  have h1 := HRg.out.left_eq
                  have h2 := (ranges_keep (w' := w10.setCell ⟨g0, L, none⟩ (.int .i64 (-u % p))) (ranges_ext HRg7.out G10.out) (Below.heap_setCell _ _ _ _ (by show w1.heap.size ≠ g0; have := HExt.out.size'; have := HM.out.lt; omega)) (Below.heap_setCell _ _ _ _ (by show w4.heap.size ≠ g0; have := HSz.out; omega))).left_eq
                  have h3 := HCnt.out
                  omega
        · obtain rfl : f = n := by omega
          go_wp2_with (go_at_call 84; refine (c_basis p (some ⟨g, 0, none⟩) (kerR p f red f).length rc f (kerR p f red f) _ HPR.out hn (by omega) (by omega) HOwn.out.rd (kerR_good (by omega))).mono ?_; rintro e w8 ⟨g8, c8, r, rfl, ho8, x8⟩; rw [← HKL.out] at ho8; obtain rfl := ho8.len; have HO8 := Lib.hid ho8; have X8 := Lib.hid x8; clear ho8 x8)
          go_ret
          exact ⟨g8, c8, rfl, HO8.out.mono (GW.out.trans HExt.out).size, GW.out.trans (HExt.out.trans X8.out)⟩
end Go.Proofs.Ytnabpmafcflljaa

/-
  Kernels: contract of the reference.
  No condition.
-/
namespace Go.Proofs.Ytnabpmafcflljaa
set_option maxRecDepth 100000
open Go.RowKit

/-- The places of the first numbers of the first k rows. -/
def pivL (red : List (List Int)) (k : Nat) : List Int := (List.range k).map fun i => ((leadN (nthR red i) : Nat) : Int)
theorem pivL_len (red : List (List Int)) (k : Nat) : (pivL red k).length = k := by simp [pivL]
theorem pivL_succ (red : List (List Int)) (k : Nat) : pivL red (k + 1) = pivL red k ++ [((leadN (nthR red k) : Nat) : Int)] := by simp [pivL, List.range_succ]
theorem pivL_nth {red : List (List Int)} {k i : Nat} (h : i < k) : nth (pivL red k) i = ((leadN (nthR red i) : Nat) : Int) := by
  unfold pivL; rw [nth_map (by simpa using h)]; simp
def inL (xs : List Int) (v : Int) : Bool := (List.range xs.length).any fun i => nth xs i == v
theorem inL_at {xs : List Int} {v : Int} {k : Nat} (hk : k < xs.length) (h : nth xs k = v) : inL xs v = true := by
  unfold inL
  rw [List.any_eq_true]
  exact ⟨k, List.mem_range.2 hk, by simp [h]⟩
theorem inL_none {xs : List Int} {v : Int} (h : ∀ k, k < xs.length → nth xs k ≠ v) : inL xs v = false := by
  unfold inL
  rw [List.any_eq_false]
  intro k hk
  simpa using h k (List.mem_range.1 hk)
theorem inL_piv {red : List (List Int)} {t : Nat} : inL (pivL red red.length) t = (pivIx red t).isSome := by
  cases h : pivIx red t with
  | none => exact inL_none (fun k hk => by rw [pivL_len] at hk; rw [pivL_nth hk]; have := pivIx_none h k hk; omega)
  | some i =>
    obtain ⟨h1, h2⟩ := pivIx_some h
    exact inL_at (k := i) (by rw [pivL_len]; exact h1) (by rw [pivL_nth h1]; omega)
/-- The vector when the first i rows have been gone through. -/
def kerF (p : Int) (red : List (List Int)) (f i t : Nat) : Int := if t = f then 1 else match pivIx red t with | some j => if j < i then (-(nth (nthR red j) f)) % p else 0 | none => 0
def kerI (p : Int) (n : Nat) (red : List (List Int)) (f i : Nat) : List Int := (List.range n).map (kerF p red f i)
theorem kerI_len (p : Int) (n : Nat) (red : List (List Int)) (f i : Nat) : (kerI p n red f i).length = n := by simp [kerI]
theorem kerI_nth {p : Int} {n : Nat} {red : List (List Int)} {f i t : Nat} (h : t < n) : nth (kerI p n red f i) t = kerF p red f i t := by
  unfold kerI; rw [nth_map (by simpa using h)]; simp
theorem kerI_zero {p : Int} {n : Nat} {red : List (List Int)} {f : Nat} (hf : f < n) : kerI p n red f 0 = bladeL n f := by
  refine ext_nth (by rw [kerI_len, bladeL_len]) (fun t ht => ?_)
  rw [kerI_len] at ht
  rw [kerI_nth ht, bladeL_nth hf ht]
  unfold kerF
  by_cases h : t = f
  · rw [if_pos h, if_pos h.symm]
  · rw [if_neg h, if_neg (fun e => h e.symm)]
    cases hp : pivIx red t with
    | none => rfl
    | some i => simp only [Nat.not_lt_zero, if_false]
theorem kerI_all {p : Int} {n : Nat} {red : List (List Int)} {f : Nat} : kerI p n red f red.length = kerV p n red f := by
  unfold kerI kerV
  refine List.map_congr_left fun t _ => ?_
  unfold kerF kerN
  cases hp : pivIx red t with
  | none => rfl
  | some i => simp only [(pivIx_some hp).1, if_true]
theorem kerI_step {p : Int} {m n : Nat} {red : List (List Int)} {c : Nat → Nat} (hb : Basis p m red c) {f i : Nat} (hi : i < red.length) (hx : leadN (nthR red i) < n) (hf : pivIx red f = none) :
    kerI p n red f (i + 1) = (kerI p n red f i).set (leadN (nthR red i)) ((-(nth (nthR red i) f)) % p) := by
  have hpi : pivIx red (leadN (nthR red i)) = some i := by rw [hb.leadN hi]; exact hb.piv hi
  have hne : leadN (nthR red i) ≠ f := fun e => by rw [e, hf] at hpi; cases hpi
  refine ext_nth (by rw [kerI_len, List.length_set, kerI_len]) (fun t ht => ?_)
  rw [kerI_len] at ht
  rw [kerI_nth ht, nth_set (by rw [kerI_len]; exact hx)]
  by_cases h : t = leadN (nthR red i)
  · subst h
    rw [if_pos rfl]
    unfold kerF
    rw [if_neg hne, hpi]
    simp only [Nat.lt_succ_self, if_true]
  · rw [if_neg (fun e => h e.symm), kerI_nth ht]
    unfold kerF
    by_cases htf : t = f
    · rw [if_pos htf, if_pos htf]
    · rw [if_neg htf, if_neg htf]
      cases hp : pivIx red t with
      | none => rfl
      | some j =>
        obtain ⟨h1, h2⟩ := pivIx_some hp
        have hji : j ≠ i := fun e => h (by rw [← h2, e])
        by_cases hlt : j < i
        · simp only [hlt, show j < i + 1 by omega, if_true]
        · simp only [hlt, show ¬ j < i + 1 by omega, if_false]
theorem neg_mod (p x : Int) : (p - x) % p = (-x) % p := by rw [show p - x = -x + p by omega, Int.add_emod_right]

set_option maxHeartbeats 400000 in
theorem s_index (a : Option Addr) (n cap : Nat) (xs : List Int) (v : Int) (w : World) (hl : n ≤ 4194303) (hx : RdC w a n xs) :
    Calls Try.prog 116 #[.slice a n cap, .int .i64 v] w fun e w' => ∃ r : Int, (e = .returned (.int .i64 r) ∧ (inL xs v = true ↔ 0 ≤ r)) ∧ Ext w w' := by
  have HX := Lib.hid hx
  clear hx
  go_enter Try.func116, Try.ntmps116
  go_wp2_with (fail)
  go_loopw [5] (fun i wr => ∃ k : Nat, k ≤ n ∧ i = .int .i64 k ∧ Hid (∀ j, j < k → nth xs j ≠ v) ∧ Ext w wr) (fun i _ => n - (intOf i).toNat)
  case atStart => exact ⟨0, Nat.zero_le _, rfl, Lib.hid (fun j hj => by omega), Ext.refl _⟩
  case round =>
    obtain ⟨k, hk, rfl, HT, hext⟩ := hrel
    by_cases hlt : k < n
    · obtain ⟨b, off, rfl, hc⟩ := HX.out.2 k hlt
      have hc' := hext.cell hc
      clear hc
      by_cases hz : nth xs k = v
      · have HZ := Lib.hid hz
        have hzb : (nth xs k == v) = true := by simp [hz]
        clear hz
        go_wp2_with (fail)
        go_ret
        have hi := inL_at (v := v) (by rw [HX.out.1]; exact hlt) HZ.out
        exact ⟨(k : Int), ⟨rfl, by rw [hi]; simp⟩, hext⟩
      · have HZ := Lib.hid hz
        have hzb : (nth xs k == v) = false := by simp [hz]
        clear hz
        go_wp2_with (fail)
        go_roundw
        case rel => exact ⟨k + 1, by omega, by go_num, Lib.hid (fun j hj => by
          by_cases hjk : j = k
          · subst hjk; exact HZ.out
          · exact HT.out j (by omega)), hext⟩
        case measure => simp [intOf]; omega
    · go_wp2_with (fail)
      go_ret
      have hi := inL_none (xs := xs) (v := v) (fun k' hk' => HT.out k' (by rw [HX.out.1] at hk'; omega))
      exact ⟨-1, ⟨rfl, by rw [hi]; simp⟩, hext⟩
set_option maxHeartbeats 400000 in
theorem s_has (a : Option Addr) (n cap : Nat) (xs : List Int) (v : Int) (w : World) (hl : n ≤ 4194303) (hx : RdC w a n xs) :
    Calls Try.prog 70 #[.slice a n cap, .int .i64 v] w fun e w' => e = .returned (.bool (inL xs v)) ∧ Ext w w' := by
  go_enter Try.func70, Try.ntmps70
  go_wp2_with (go_at_call 116; refine (s_index _ _ _ _ _ _ hl hx).mono ?_; rintro e w1 ⟨r, ⟨rfl, hr⟩, g1⟩)
  go_ret
  refine ⟨ret_bool ?_, g1⟩
  rw [Bool.eq_iff_iff, hr]
  simp

set_option maxHeartbeats 8000000 in
set_option maxRecDepth 100000 in
theorem s_kernel (p : Int) (a : Option Addr) (m cap n : Nat) (rows : List (List Int)) (w : World) (hpr : primeB p = true) (hm0 : 0 < m) (hn : 0 < n) (hn2 : n ≤ 4095) (hm : m ≤ 4095) (hx : RdR w a m rows) (hg : RowsG p n rows) :
    Calls Try.prog 43 #[.int .i64 p, .slice a m cap] w fun e w' => ∃ g rc, e = .returned (.slice (some ⟨g, 0, none⟩) (kernL p n rows).length rc) ∧ OwnR w.heap.size w' (some ⟨g, 0, none⟩) (kernL p n rows).length rc (kernL p n rows) ∧ Ext w w' := by
  have hpb := prime_bd hpr
  have hpz : ¬ p = 0 := by omega
  obtain ⟨cc, hbas⟩ := basis_red hpr hg
  have HPR := Lib.hid hpr
  have HX := Lib.hid hx
  have HG := Lib.hid hg
  obtain ⟨b0, off0, a0, c0, rfl, hc0, _⟩ := hx.2 0 hm0
  rw [(hg 0 (by rw [hx.1]; exact hm0)).1, Nat.add_zero] at hc0
  have HC0 := Lib.hid ((ext_drew w).cell hc0)
  obtain ⟨red, hred⟩ : ∃ red, red = basisL p n rows := ⟨_, rfl⟩
  have HBas := Lib.hid (show Basis p n red cc by rw [hred]; exact hbas)
  have HRed := Lib.hid hred
  have HKL := Lib.hid (show kernL p n rows = basisL p n (kerR p n red n) by unfold kernL; rw [hred])
  have hrl : red.length ≤ 4095 := by have := HBas.out.len; omega
  clear hx hg hbas hpr hred hc0
  go_enter Try.func43, Try.ntmps43
  go_wp2_with (fail)
  refine wp_region_lex [(2, .ownR w.heap.size red.length red)] (by kernel_rfl) (by kernel_rfl) ?_
  (refine LexW.pure (v := ?_) rfl rfl (fun w1 he => ?_) ?_; rotate_left; ( go_simp; rfl); simp only [Act.put, List.setIfInBounds_toArray, List.set_cons_zero, List.set_cons_succ])
  (refine LexW.pure (v := ?_) rfl rfl (fun w1 he => ?_) ?_; rotate_left; ( go_simp; rfl); simp only [Act.put, List.setIfInBounds_toArray, List.set_cons_zero, List.set_cons_succ])
  (refine LexW.callR (f := ?_) (args := ?_) rfl rfl (fun w1 => ?_) (fun w1 he hdep => ?_) (fun v hv => ?_); rotate_left 2; (go_simp; refine ⟨?_, ?_⟩ <;> rfl); ( refine (s_basis p _ m cap n rows w1 HPR.out hn (by omega) (by omega) (HX.out.ext ((ext_drew w).trans he)) HG.out).mono ?_; rintro e w2 ⟨g, rc, r, rfl, ho, g2⟩; rw [← HRed.out] at ho; obtain rfl := ho.len; exact ⟨_, rfl, g2, g, rc, rfl, ho.mono (Nat.le_trans (ext_drew w).size he.size)⟩); simp only [Act.put, List.setIfInBounds_toArray, List.set_cons_zero, List.set_cons_succ])
  obtain ⟨_, gb, cb, rfl, _⟩ := hv
  repeat' first | (refine LexW.pure (v := ?_) rfl rfl (fun w1 he => ?_) ?_; rotate_left; ( have e1 := he.cell HC0.out; go_simp; rfl); simp only [Act.put, List.setIfInBounds_toArray, List.set_cons_zero, List.set_cons_succ])
  refine LexW.nil (fun w3 he hkn => ?_)
  obtain ⟨_, _, q15, r15⟩ : (SPred.ownR w.heap.size red.length red).holds (.slice (some ⟨gb, 0, none⟩) red.length cb) w3 := hkn (2, _) (by simp)
  cases q15
  have HOb := Lib.hid r15
  have GW := Lib.hid ((ext_drew w).trans he)
  clear he hkn r15
  rename World => w1
  go_wp2_with (fail)
  go_loopw [7, 9] (fun v i wr => ∃ (k g rc : Nat), k ≤ red.length ∧ i = .int .i64 k ∧ v = .slice (some ⟨g, 0, none⟩) k rc ∧ OwnC w1.heap.size wr (some ⟨g, 0, none⟩) k rc (pivL red k) ∧ Ext w1 wr) (fun _ i _ => red.length - (intOf i).toNat)
  case atStart => exact ⟨0, _, _, Nat.zero_le _, rfl, rfl, (own_empty w1).ext (ext_alloc _ _), (ext_alloc _ _).alloc _⟩
  case round =>
    obtain ⟨k, gp, rp, hk, rfl, rfl, hown, hext⟩ := hrel
    have HOwn := Lib.hid hown
    have HExt := Lib.hid hext
    clear hown hext
    by_cases hlt : k < red.length
    · obtain ⟨aj, cj, hcj, hoj⟩ := HOb.out.at hlt
      have hjl := (HBas.out.good k hlt).1
      rw [hjl] at hcj hoj
      have hcj' := HExt.out.cell hcj
      have HOj := Lib.hid (hoj.rd.ext HExt.out)
      have hll : leadN (nthR red k) < n := by rw [HBas.out.leadN hlt]; exact HBas.out.clt k hlt
      have HFi := Lib.hid (show firstL (nthR red k) = ((leadN (nthR red k) : Nat) : Int) by unfold firstL; rw [if_neg (by rw [hjl]; omega)])
      obtain ⟨L, hL⟩ : ∃ L, L = leadN (nthR red k) := ⟨_, rfl⟩
      rw [← hL] at HFi
      have HL := Lib.hid hL
      clear hcj hoj hjl hL hll
      go_wp2_with (first
        | (go_at_call 80; refine (s_first aj n cj (nthR red k) _ (by omega) HOj.out).mono ?_; rintro e w2 ⟨rfl, g2⟩; rw [HFi.out]; have G2 := Lib.hid g2; clear g2)
        | (at_builtin; refine wpList_push rfl (.tmp 28) (.tmp 34) rfl rfl rfl (v := (L : Int)) (HOwn.out.ext (G2.out.trans (ext_alloc _ _))) ?hc ?hn ?hB ?hk))
      case hc => simp
      case hn => omega
      case hB => have hz := (HExt.out.trans G2.out).size'; simp; omega
      case hk =>
        intro g' cap' w3 ho3 hg3 he3
        have HO3 := Lib.hid ho3
        have HE3 := Lib.hid (he3 w1 (Nat.le_refl _) ((HExt.out.trans G2.out).alloc _))
        clear ho3 hg3 he3
        go_wp2_with (fail)
        go_roundw
        case rel => exact ⟨k + 1, g', cap', by omega, by go_num, rfl, by rw [pivL_succ, ← HL.out]; exact HO3.out, HE3.out⟩
        case measure => simp [intOf]; omega
    · obtain rfl : k = red.length := by omega
      have HPv := HOwn
      have X2 := HExt
      have HRd := Lib.hid (HOb.out.ext X2.out)
      have G2 := Lib.hid (GW.out.trans X2.out)
      clear HOwn HExt HOb
      rename World => wM
      go_wp2_with (fail)
      go_loopw [8, 10] (fun v i wq => ∃ (f g rc : Nat), f ≤ n ∧ i = .int .i64 f ∧ v = .slice (some ⟨g, 0, none⟩) (kerR p n red f).length rc ∧ OwnW wM.heap.size wq (some ⟨g, 0, none⟩) (kerR p n red f).length rc (kerR p n red f) ∧ Ext wM wq) (fun _ i _ => n - (intOf i).toNat)
      case atStart => exact ⟨0, _, _, Nat.zero_le _, rfl, rfl, OwnW.start _ _ _, Ext.refl _⟩
      case round =>
        obtain ⟨f, g, rc, hf, rfl, rfl, hown, hext⟩ := hrel
        rename World => wq
        have HOwn := Lib.hid hown
        have HExt := Lib.hid hext
        clear hown hext
        have hkl := kerR_len p n red f
        by_cases hlf : f < n
        · have hpiv := @inL_piv red f
          cases hp : pivIx red f with
          | some j =>
            rw [hp] at hpiv
            have HK := Lib.hid (kerR_no (p := p) (n := n) hp)
            have HIn : Hid (inL (pivL red red.length) f = true) := Lib.hid hpiv
            clear hp hpiv
            go_wp2_with (go_at_call 70; refine (s_has _ _ _ _ _ _ (by omega) (HPv.out.rd.ext HExt.out)).mono ?_; rintro e w4 ⟨rfl, g4⟩; rw [HIn.out]; have HE4 := Lib.hid (HExt.out.trans g4); have HO4 : Hid (OwnW wM.heap.size w4 (some ⟨g, 0, none⟩) (kerR p n red f).length rc (kerR p n red f)) := Lib.hid (by
              rcases HOwn.out with h | h
              · exact .inl h
              · exact .inr (h.ext g4)); clear g4)
            go_roundw
            case rel => exact ⟨f + 1, g, rc, by omega, by go_num, by rw [HK.out], by rw [HK.out]; exact HO4.out, HE4.out⟩
            case measure => simp [intOf]; omega
          | none =>
            rw [hp] at hpiv
            have HK := Lib.hid (kerR_yes (p := p) (n := n) hp)
            have HP := Lib.hid hp
            have HIn : Hid (inL (pivL red red.length) f = false) := Lib.hid hpiv
            clear hp hpiv
            go_wp2_with (go_at_call 70; refine (s_has _ _ _ _ _ _ (by omega) (HPv.out.rd.ext HExt.out)).mono ?_; rintro e w4 ⟨rfl, g4⟩; rw [HIn.out]; have HE4 := Lib.hid g4; clear g4)
            obtain ⟨w5, hmk, ho5, he5⟩ := make_ints w4 n (by omega)
            obtain ⟨g0, hg0⟩ : ∃ g, g = w4.heap.size := ⟨_, rfl⟩
            rw [← hg0] at hmk ho5
            have hge4 : w4.heap.size ≤ g0 := by omega
            have hge : wq.heap.size ≤ g0 := by have := HE4.out.size'; omega
            have HO5 := Lib.hid (ho5.mono hge4)
            have HE5 := Lib.hid (HE4.out.trans he5)
            have hcg := ho5.cell hlf
            have hfz := ho5.frozen f
            clear ho5 he5 hg0
            rw [hmk]
            go_wp2_with (fail)
            have X5 := Lib.hid (HE5.out.setCell (p := ⟨g0, f, none⟩) hge (.int .i64 1))
            have HOs := Lib.hid ((HO5.out.store hlf 1).mono HE4.out.size)
            clear hcg hfz hmk
            go_loopw [12] (fun i wz => ∃ (j : Nat), j ≤ red.length ∧ i = .int .i64 j ∧ OwnC wq.heap.size wz (some ⟨g0, 0, none⟩) n n (kerI p n red f j) ∧ Ext wq wz) (fun i _ => red.length - (intOf i).toNat)
            case atStart => exact ⟨0, Nat.zero_le _, rfl, by rw [kerI_zero hlf]; exact HOs.out, X5.out⟩
            case round =>
              obtain ⟨i, hi, rfl, hown, hext⟩ := hrel
              rename World => wz
              have HOz := Lib.hid hown
              have HEz := Lib.hid hext
              clear hown hext
              by_cases hli : i < red.length
              · have hjl := (HBas.out.good i hli).1
                have hlt : leadN (nthR red i) < n := by rw [HBas.out.leadN hli]; exact HBas.out.clt i hli
                have hbd := (HBas.out.good i hli).2 f hlf
                obtain ⟨ai, ci, hci, hoi⟩ := HRd.out.at hli
                rw [hjl] at hci hoi
                have HSt := Lib.hid (kerI_step (p := p) (n := n) HBas.out hli hlt HP.out)
                obtain ⟨bj, oj, rfl, hcm⟩ := hoi.rd.2 f (by omega)
                have hpc := HPv.out.cell hli
                rw [pivL_nth hli] at hpc
                have E7 := Lib.hid (HExt.out.trans (HEz.out.trans (ext_drew wz)))
                have HCi := Lib.hid (E7.out.cell hci)
                have HCm := Lib.hid (E7.out.cell hcm)
                have HPc := Lib.hid (E7.out.cell hpc)
                obtain ⟨u, hu⟩ : ∃ u, u = nth (nthR red i) f := ⟨_, rfl⟩
                rw [← hu] at HCm hbd HSt
                obtain ⟨L, hL⟩ : ∃ L, L = leadN (nthR red i) := ⟨_, rfl⟩
                rw [← hL] at hlt HSt HPc
                have hw1 : IntKind.i64.wrap (p - u) = p - u := IntWalk.i64_in _ (by omega)
                obtain ⟨Z, hZ⟩ : ∃ Z, Z = (-u) % p := ⟨_, rfl⟩
                have hw2 : (p - u).tmod p = Z := by rw [hZ, ← neg_mod]; exact Int.tmod_eq_emod_of_nonneg (by omega)
                rw [← hZ] at HSt
                clear hci hoi hcm hpc hjl hL hu hZ
                go_wp2_with (fail)
                refine wp_region_lex_tail 17 [] (by kernel_rfl) (by kernel_rfl) ?_
                simp only [List.take, List.drop]
                repeat' first | (refine LexW.pure (v := ?_) rfl rfl (fun w1 he => ?_) ?_; rotate_left; ( have e1 := he.cell HCi.out; have e2 := he.cell HCm.out; have e3 := he.cell HPc.out; go_simp; rfl); simp only [Act.put, List.setIfInBounds_toArray, List.set_cons_zero, List.set_cons_succ])
                refine LexW.nil (fun w8 he hkn => ?_)
                have X8 := Lib.hid ((ext_drew wz).trans he)
                clear he hkn
                have HO8 := Lib.hid (HOz.out.ext X8.out)
                have hcg := HO8.out.cell hlt
                have hfz := HO8.out.frozen L
                go_wp2_with (fail)
                go_roundw
                case rel => exact ⟨i + 1, by omega, by go_num, by rw [HSt.out]; exact HO8.out.store hlt _, (HEz.out.trans X8.out).setCell hge _⟩
                case measure => simp [intOf]; omega
              · obtain rfl : i = red.length := by omega
                have HKE := Lib.hid (kerI_all (p := p) (n := n) (red := red) (f := f))
                go_wp2_with (at_builtin; refine wpList_pushRW (w0 := wq) rfl (.tmp 72) (.tmp 74) rfl rfl rfl HOwn.out (HEz.out.trans (ext_alloc _ _)) (xs := kerV p n red f) (by rw [← HKE.out]; exact HOz.out.ext (ext_alloc _ _)) ?hc (by omega) HExt.out.size ?hk)
                case hc => exact cell_new _ _ rfl _ _
                case hk =>
                  intro g' cap' w9 ho9 he9
                  have HO9 := Lib.hid ho9
                  have HE9 := Lib.hid (he9 wM (Nat.le_refl _) ((HExt.out.trans HEz.out).alloc _))
                  clear ho9 he9
                  go_wp2_with (fail)
                  go_roundw
                  case rel => exact ⟨f + 1, g', cap', by omega, by go_num, by rw [HK.out, List.length_append]; rfl, by rw [HK.out, List.length_append]; exact .inr HO9.out, HE9.out⟩
                  case measure => simp [intOf]; omega
        · obtain rfl : f = n := by omega
          have HCnt := Lib.hid (kernL_cnt (n := f) (rows := rows) HPR.out)
          go_wp2_with (first
            | (go_at_call 79; refine (s_basis p (some ⟨g, 0, none⟩) (kerR p f red f).length rc f (kerR p f red f) _ HPR.out hn (by omega) (by omega) HOwn.out.rd (kerR_good (by omega))).mono ?_; rintro e w8 ⟨g8, c8, r, rfl, ho8, x8⟩; rw [← HKL.out] at ho8; obtain rfl := ho8.len; have HO8 := Lib.hid ho8; have X8 := Lib.hid x8; clear ho8 x8)
            | (go_at_call 81; refine (s_own2 _ _ _ f (kernL p f rows) _ hn (by omega) (by have := HCnt.out.1; omega) (fun i hi => (HCnt.out.2 i hi).1) HO8.out.rd).mono ?_; rintro e w9 ⟨g9, c9, rfl, ho9, x9⟩; have HO9 := Lib.hid ho9; have X9 := Lib.hid x9; clear ho9 x9))
          go_ret
          exact ⟨g9, c9, rfl, HO9.out.mono (Nat.le_trans (G2.out.trans HExt.out).size X8.out.size), G2.out.trans (HExt.out.trans (X8.out.trans X9.out))⟩
end Go.Proofs.Ytnabpmafcflljaa

/-
  The listed function LeftAnnihilatorOf.
  No condition.
-/
namespace Go.Proofs.Ytnabpmafcflljaa
set_option maxRecDepth 100000
open Go.RowKit

def annL (p : Int) (qs x : List Int) : List (List Int) := kernL p (2 ^ qs.length) (matM p qs x false)
theorem cntR_rows {p : Int} {N : Nat} {rows : List (List Int)} (hg : RowsG p N rows) (hN : N ≤ 64) : ∀ k, k ≤ rows.length → cntR rows k ≤ 64 * k
  | 0, _ => by simp [cntR]
  | k + 1, hk => by
    have h1 := cntR_rows hg hN k (by omega)
    have h2 := (hg k (by omega)).1
    unfold cntR
    omega
theorem ann_cnt {p : Int} {qs x : List Int} (hp : primeB p = true) (hq : qs.length ≤ 6) : (annL p qs x).length ≤ 1048576 ∧ cntR (annL p qs x) (annL p qs x).length ≤ 1048576 := by
  have h := kernL_cnt (n := 2 ^ qs.length) (rows := matM p qs x false) hp
  have h64 := pow_le64 hq
  have hl : (annL p qs x).length ≤ 64 := by have := h.1; unfold annL; omega
  have := cntR_rows (rows := annL p qs x) h.2 h64 _ (Nat.le_refl _)
  omega



end Go.Proofs.Ytnabpmafcflljaa
