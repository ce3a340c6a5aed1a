/-
  'FnExactCentreBasis' returns true for every input, and each argument reads afterwards as it read before.
  No condition.
-/
import Derived.Test.YthimjfnmpicbiaaLawExactCentreBasis
import Derived.Test.YthimjfnmpicbiaaRead
namespace Go.Proofs.Ythimjfnmpicbiaa
set_option maxRecDepth 100000
open Go.ChangeShapes Go.WideShapes Go.ChangeAt Go.RowKit
open Go.ChangeMaps (open_string shut_string)

set_option maxRecDepth 100000 in
theorem lifted_ExactCentreBasis (os : Os) (started : os.Started) (H : Type) (enc : TypeId × Value → H) :
    ReturnsInHanded {} Try.checked os 7 .any (Rows.fnExactCentreBasisSpec.pre6 enc Try.prog Try.f7 Rows.fnExactCentreBasisRow.domain false) (Rows.fnExactCentreBasisSpec.post enc Try.prog Try.f7 false true false false) := by
  refine returnsInHanded_of_change (C := Try.checked) own started (by kernel_rfl) Try.func7
    (ChangeSpec.witness6 (enc := enc) (C := Try.checked) false ⟨#[], #[.agg #[.int .i64 0, .slice none 0 0]], []⟩ 8 (by kernel_rfl) (by kernel_rfl) (by kernel_rfl) (by kernel_rfl)) ?_
  intro W base args ds gs before hval0 hW hcnd _
  have hval : ∀ (j : Nat) t v, Try.f7.params[j]? = some t → args[j]? = some v → Value.okWide Try.prog W .any base t v := hval0
  have hW' := hW
  obtain ⟨p, q, hA0, hV, rfl, hfz, hnd⟩ := hW
  have hA : DataW.TrodAll enc Try.prog W 0 (fun _ => true) true Try.f7.params.toList args.toList ds p := hA0
  rw [Try.params7] at hA hval
  obtain ⟨v0, vs0, d0, ds0, p0, q0, hargs, rfl, rfl, h0, r0⟩ := trodAll_cons hA
  obtain ⟨rfl, rfl, rfl⟩ := trodAll_nil r0
  obtain rfl : args = #[v0] := by cases args; simp_all
  obtain ⟨rfl, rfl⟩ := trodVars_none hV
  have k0 := h0
  have lt0 : ∀ x ∈ p0, x.block < W.heap.size := by obtain ⟨m, hm⟩ := k0; exact DataW.trod_lt m _ _ _ hm
  obtain ⟨P0, a0, n0, c0, xs0, rfl, hr0, hm0, wf0⟩ := read_space (hval 0 24 v0 rfl rfl) h0
  clear hA0 hval0
  refine (law_ExactCentreBasis W P0 a0 n0 c0 xs0 hr0 hm0).mono fun e W' ⟨he, bel⟩ => ?_
  subst he
  exact ⟨_, rfl, _, _, _, [], _, [], hW', trodAll_mk1 (shut_bool Try.underlying4 _), (trodAll_cons_mk (Below.trod laidOut (by kernel_rfl) (of_decide_eq_true (by kernel_rfl)) k0 bel lt0) trodAll_mk0), rfl, bel.frame _, fun h => by cases h⟩

theorem over1_ExactCentreBasis : Try.pinned.checked.prog.funcNamed Rows.fnExactCentreBasisRow.func = some 7 := by kernel_rfl
theorem over2_ExactCentreBasis : joinedFacts Try.pinned.checked.prog 7 Try.f7 Rows.fnExactCentreBasisSpec Rows.fnExactCentreBasisRow = true := by kernel_rfl
theorem over3_ExactCentreBasis : Try.f7.isInstance Try.pinned.checked.prog Rows.fnExactCentreBasisRow.origin Rows.fnExactCentreBasisRow.targs := of_decide_eq_true (by kernel_rfl)
theorem over4_ExactCentreBasis : Try.f7.isWrapper Try.pinned.checked.prog Rows.fnExactCentreBasisRow.wrapper Rows.fnExactCentreBasisRow.mainSum := by unfold Func.isWrapper; first | (rw [if_pos (by decide +kernel)]; kernel_rfl) | (rw [if_neg (by decide +kernel)]; exact ⟨rfl, rfl⟩)
theorem over_ExactCentreBasis : Rows.fnExactCentreBasisRow.holds Try.pinned (OpenSpec.ofChange Rows.fnExactCentreBasisSpec) :=
  OpenClaim.holds_of_wide 7 Try.f7 rfl rfl rfl rfl rfl rfl rfl ⟨rfl, rfl, rfl, rfl, rfl⟩ rfl rfl rfl rfl rfl over1_ExactCentreBasis Try.func7 over2_ExactCentreBasis over3_ExactCentreBasis over4_ExactCentreBasis
    (fun os started H enc _ => lifted_ExactCentreBasis os started H enc)

theorem fnExactCentreBasis_holds : Rows.FnExactCentreBasisSaid := over_ExactCentreBasis
#print axioms fnExactCentreBasis_holds

end Go.Proofs.Ythimjfnmpicbiaa
