/-
  'FnExactFixedVectors' returns true for every input, and each argument reads afterwards as it read before.
  No condition.
-/
import Derived.Test.YtnabpmafcflljaaLawExactFixedVectors
import Derived.Test.YtnabpmafcflljaaPart10
namespace Go.Proofs.Ytnabpmafcflljaa
set_option maxRecDepth 100000
open Go.ChangeShapes Go.WideShapes Go.ChangeAt Go.RowKit
open Go.ChangeMaps (open_string shut_string)

set_option maxRecDepth 100000 in
theorem lifted_ExactFixedVectors (os : Os) (started : os.Started) (H : Type) (enc : TypeId × Value → H) :
    ReturnsInHanded {} Try.checked os 4 .any (Rows.fnExactFixedVectorsSpec.pre6 enc Try.prog Try.f4 Rows.fnExactFixedVectorsRow.domain false) (Rows.fnExactFixedVectorsSpec.post enc Try.prog Try.f4 false true false false) := by
  refine returnsInHanded_of_change (C := Try.checked) own started (by kernel_rfl) Try.func4
    (ChangeSpec.witness6 (enc := enc) (C := Try.checked) false ⟨#[], #[.agg #[.int .i64 0, .slice none 0 0], .slice none 0 0], []⟩ 8 (by kernel_rfl) (by kernel_rfl) (by kernel_rfl) (by kernel_rfl)) ?_
  intro W base args ds gs before hval0 hW hcnd _
  have hval : ∀ (j : Nat) t v, Try.f4.params[j]? = some t → args[j]? = some v → Value.okWide Try.prog W .any base t v := hval0
  have hW' := hW
  obtain ⟨p, q, hA0, hV, rfl, hfz, hnd⟩ := hW
  have hA : DataW.TrodAll enc Try.prog W 0 (fun _ => true) true Try.f4.params.toList args.toList ds p := hA0
  rw [Try.params4] at hA hval
  obtain ⟨v0, vs0, d0, ds0, p0, q0, hargs, rfl, rfl, h0, r0⟩ := trodAll_cons hA
  obtain ⟨v1, vs1, d1, ds1, p1, q1, rfl, rfl, rfl, h1, r1⟩ := trodAll_cons r0
  obtain ⟨rfl, rfl, rfl⟩ := trodAll_nil r1
  obtain rfl : args = #[v0, v1] := by cases args; simp_all
  obtain ⟨rfl, rfl⟩ := trodVars_none hV
  have k0 := h0
  have lt0 : ∀ x ∈ p0, x.block < W.heap.size := by obtain ⟨m, hm⟩ := k0; exact DataW.trod_lt m _ _ _ hm
  obtain ⟨P0, a0, n0, c0, xs0, rfl, hr0, hm0, wf0⟩ := read_space (hval 0 24 v0 rfl rfl) h0
  have k1 := h1
  have lt1 : ∀ x ∈ p1, x.block < W.heap.size := by obtain ⟨m, hm⟩ := k1; exact DataW.trod_lt m _ _ _ hm
  obtain ⟨a1, n1, c1, xs1, rfl, hr1, hm1, hl1⟩ := read_rows (hval 1 25 v1 rfl rfl) h1
  clear hA0 hval0
  refine (law_ExactFixedVectors W P0 a0 n0 c0 xs0 hr0 hm0 a1 n1 c1 xs1 hr1 hm1 hl1).mono fun e W' ⟨he, bel⟩ => ?_
  subst he
  exact ⟨_, rfl, _, _, _, [], _, [], hW', trodAll_mk1 (shut_bool Try.underlying4 _), (trodAll_cons_mk (Below.trod laidOut (by kernel_rfl) (of_decide_eq_true (by kernel_rfl)) k0 bel lt0) (trodAll_cons_mk (Below.trod laidOut (by kernel_rfl) (of_decide_eq_true (by kernel_rfl)) k1 bel lt1) trodAll_mk0)), rfl, bel.frame _, fun h => by cases h⟩

theorem over1_ExactFixedVectors : Try.pinned.checked.prog.funcNamed Rows.fnExactFixedVectorsRow.func = some 4 := by kernel_rfl
theorem over2_ExactFixedVectors : joinedFacts Try.pinned.checked.prog 4 Try.f4 Rows.fnExactFixedVectorsSpec Rows.fnExactFixedVectorsRow = true := by kernel_rfl
theorem over3_ExactFixedVectors : Try.f4.isInstance Try.pinned.checked.prog Rows.fnExactFixedVectorsRow.origin Rows.fnExactFixedVectorsRow.targs := of_decide_eq_true (by kernel_rfl)
theorem over4_ExactFixedVectors : Try.f4.isWrapper Try.pinned.checked.prog Rows.fnExactFixedVectorsRow.wrapper Rows.fnExactFixedVectorsRow.mainSum := by unfold Func.isWrapper; first | (rw [if_pos (by decide +kernel)]; kernel_rfl) | (rw [if_neg (by decide +kernel)]; exact ⟨rfl, rfl⟩)
theorem over_ExactFixedVectors : Rows.fnExactFixedVectorsRow.holds Try.pinned (OpenSpec.ofChange Rows.fnExactFixedVectorsSpec) :=
  OpenClaim.holds_of_wide 4 Try.f4 rfl rfl rfl rfl rfl rfl rfl ⟨rfl, rfl, rfl, rfl, rfl⟩ rfl rfl rfl rfl rfl over1_ExactFixedVectors Try.func4 over2_ExactFixedVectors over3_ExactFixedVectors over4_ExactFixedVectors
    (fun os started H enc _ => lifted_ExactFixedVectors os started H enc)

theorem fnExactFixedVectors_holds : Rows.FnExactFixedVectorsSaid := over_ExactFixedVectors
#print axioms fnExactFixedVectors_holds

end Go.Proofs.Ytnabpmafcflljaa
