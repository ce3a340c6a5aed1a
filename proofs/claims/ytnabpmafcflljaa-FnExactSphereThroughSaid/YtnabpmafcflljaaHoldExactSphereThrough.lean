/-
  'FnExactSphereThrough' returns true for every input, and each argument reads afterwards as it read before.
  No condition.
-/
import Derived.Test.YtnabpmafcflljaaLawExactSphereThrough
import Derived.Test.YtnabpmafcflljaaPart7
namespace Go.Proofs.Ytnabpmafcflljaa
set_option maxRecDepth 100000
open Go.ChangeShapes Go.WideShapes Go.ChangeAt Go.RowKit
open Go.ChangeMaps (open_string shut_string)

set_option maxRecDepth 100000 in
theorem lifted_ExactSphereThrough (os : Os) (started : os.Started) (H : Type) (enc : TypeId × Value → H) :
    ReturnsInHanded {} Try.checked os 3 .any (Rows.fnExactSphereThroughSpec.pre6 enc Try.prog Try.f3 Rows.fnExactSphereThroughRow.domain false) (Rows.fnExactSphereThroughSpec.post enc Try.prog Try.f3 false true false false) := by
  refine returnsInHanded_of_change (C := Try.checked) own started (by kernel_rfl) Try.func3
    (ChangeSpec.witness6 (enc := enc) (C := Try.checked) false ⟨#[], #[.agg #[.int .i64 0, .slice none 0 0], .slice none 0 0], []⟩ 8 (by kernel_rfl) (by kernel_rfl) (by kernel_rfl) (by kernel_rfl)) ?_
  intro W base args ds gs before hval0 hW hcnd _
  have hval : ∀ (j : Nat) t v, Try.f3.params[j]? = some t → args[j]? = some v → Value.okWide Try.prog W .any base t v := hval0
  have hW' := hW
  obtain ⟨p, q, hA0, hV, rfl, hfz, hnd⟩ := hW
  have hA : DataW.TrodAll enc Try.prog W 0 (fun _ => true) true Try.f3.params.toList args.toList ds p := hA0
  rw [Try.params3] at hA hval
  obtain ⟨v0, vs0, d0, ds0, p0, q0, hargs, rfl, rfl, h0, r0⟩ := trodAll_cons hA
  obtain ⟨v1, vs1, d1, ds1, p1, q1, rfl, rfl, rfl, h1, r1⟩ := trodAll_cons r0
  obtain ⟨rfl, rfl, rfl⟩ := trodAll_nil r1
  obtain rfl : args = #[v0, v1] := by cases args; simp_all
  obtain ⟨rfl, rfl⟩ := trodVars_none hV
  have k0 := h0
  have lt0 : ∀ x ∈ p0, x.block < W.heap.size := by obtain ⟨m, hm⟩ := k0; exact DataW.trod_lt m _ _ _ hm
  obtain ⟨P0, a0, n0, c0, xs0, rfl, hr0, hm0, wf0⟩ := read_space (hval 0 24 v0 rfl rfl) h0
  have k1 := h1
  have lt1 : ∀ x ∈ p1, x.block < W.heap.size := by obtain ⟨m, hm⟩ := k1; exact DataW.trod_lt m _ _ _ hm
  obtain ⟨a1, n1, c1, xs1, rfl, hr1, hm1, hl1⟩ := read_rows (hval 1 25 v1 rfl rfl) h1
  clear hA0 hval0
  refine (law_ExactSphereThrough W P0 a0 n0 c0 xs0 hr0 hm0 a1 n1 c1 xs1 hr1 hm1 hl1).mono fun e W' ⟨he, bel⟩ => ?_
  subst he
  exact ⟨_, rfl, _, _, _, [], _, [], hW', trodAll_mk1 (shut_bool Try.underlying4 _), (trodAll_cons_mk (Below.trod laidOut (by kernel_rfl) (of_decide_eq_true (by kernel_rfl)) k0 bel lt0) (trodAll_cons_mk (Below.trod laidOut (by kernel_rfl) (of_decide_eq_true (by kernel_rfl)) k1 bel lt1) trodAll_mk0)), rfl, bel.frame _, fun h => by cases h⟩

theorem over1_ExactSphereThrough : Try.pinned.checked.prog.funcNamed Rows.fnExactSphereThroughRow.func = some 3 := by kernel_rfl
theorem over2_ExactSphereThrough : joinedFacts Try.pinned.checked.prog 3 Try.f3 Rows.fnExactSphereThroughSpec Rows.fnExactSphereThroughRow = true := by kernel_rfl
theorem over3_ExactSphereThrough : Try.f3.isInstance Try.pinned.checked.prog Rows.fnExactSphereThroughRow.origin Rows.fnExactSphereThroughRow.targs := of_decide_eq_true (by kernel_rfl)
theorem over4_ExactSphereThrough : Try.f3.isWrapper Try.pinned.checked.prog Rows.fnExactSphereThroughRow.wrapper Rows.fnExactSphereThroughRow.mainSum := by unfold Func.isWrapper; first | (rw [if_pos (by decide +kernel)]; kernel_rfl) | (rw [if_neg (by decide +kernel)]; exact ⟨rfl, rfl⟩)
theorem over_ExactSphereThrough : Rows.fnExactSphereThroughRow.holds Try.pinned (OpenSpec.ofChange Rows.fnExactSphereThroughSpec) :=
  OpenClaim.holds_of_wide 3 Try.f3 rfl rfl rfl rfl rfl rfl rfl ⟨rfl, rfl, rfl, rfl, rfl⟩ rfl rfl rfl rfl rfl over1_ExactSphereThrough Try.func3 over2_ExactSphereThrough over3_ExactSphereThrough over4_ExactSphereThrough
    (fun os started H enc _ => lifted_ExactSphereThrough os started H enc)

theorem fnExactSphereThrough_holds : Rows.FnExactSphereThroughSaid := over_ExactSphereThrough
#print axioms fnExactSphereThrough_holds

end Go.Proofs.Ytnabpmafcflljaa
