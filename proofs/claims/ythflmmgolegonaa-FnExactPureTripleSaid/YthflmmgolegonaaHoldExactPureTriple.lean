/-
  'FnExactPureTriple' returns true for every input, and each argument reads afterwards as it read before.
  No condition.
-/
import Derived.Test.YthflmmgolegonaaLawExactPureTriple
import Derived.Test.YthflmmgolegonaaPart9
namespace Go.Proofs.Ythflmmgolegonaa
set_option maxRecDepth 100000
open Go.ChangeShapes Go.WideShapes Go.ChangeAt Go.RowKit
open Go.ChangeMaps (open_string shut_string)

set_option maxRecDepth 100000 in
theorem lifted_ExactPureTriple (os : Os) (started : os.Started) (H : Type) (enc : TypeId × Value → H) :
    ReturnsInHanded {} Try.checked os 4 .any (Rows.fnExactPureTripleSpec.pre6 enc Try.prog Try.f4 Rows.fnExactPureTripleRow.domain false) (Rows.fnExactPureTripleSpec.post enc Try.prog Try.f4 false true false false) := by
  refine returnsInHanded_of_change (C := Try.checked) own started (by kernel_rfl) Try.func4
    (ChangeSpec.witness6 (enc := enc) (C := Try.checked) false ⟨#[], #[.agg #[.int .i64 0, .slice none 0 0], .slice none 0 0], []⟩ 8 (by kernel_rfl) (by kernel_rfl) (by kernel_rfl) (by kernel_rfl)) ?_
  intro W base args ds gs before hval0 hW hcnd _
  have hval : ∀ (j : Nat) t v, Try.f4.params[j]? = some t → args[j]? = some v → Value.okWide Try.prog W .any base t v := hval0
  have hW' := hW
  obtain ⟨p, q, hA0, hV, rfl, hfz, hnd⟩ := hW
  have hA : DataW.TrodAll enc Try.prog W 0 (fun _ => true) true Try.f4.params.toList args.toList ds p := hA0
  rw [Try.params4] at hA hval
  obtain ⟨v0, vs0, d0, ds0, p0, q0, hargs, rfl, rfl, h0, r0⟩ := trodAll_cons hA
  obtain ⟨v1, vs1, d1, ds1, p1, q1, rfl, rfl, rfl, h1, r1⟩ := trodAll_cons r0
  obtain ⟨rfl, rfl, rfl⟩ := trodAll_nil r1
  obtain rfl : args = #[v0, v1] := by cases args; simp_all
  obtain ⟨rfl, rfl⟩ := trodVars_none hV
  have k0 := h0
  have lt0 : ∀ x ∈ p0, x.block < W.heap.size := by obtain ⟨m, hm⟩ := k0; exact DataW.trod_lt m _ _ _ hm
  obtain ⟨P0, a0, n0, c0, xs0, rfl, hr0, hm0, wf0⟩ := read_doubling (hval 0 24 v0 rfl rfl) h0
  have k1 := h1
  have lt1 : ∀ x ∈ p1, x.block < W.heap.size := by obtain ⟨m, hm⟩ := k1; exact DataW.trod_lt m _ _ _ hm
  obtain ⟨a1, n1, c1, xs1, rfl, hr1, hm1⟩ := read_ints (hval 1 22 v1 rfl rfl) h1
  clear hA0 hval0
  refine (law_ExactPureTriple W P0 a0 n0 c0 xs0 hr0 hm0 a1 n1 c1 xs1 hr1 hm1).mono fun e W' ⟨he, bel⟩ => ?_
  subst he
  exact ⟨_, rfl, _, _, _, [], _, [], hW', trodAll_mk1 (shut_bool Try.underlying4 _), (trodAll_cons_mk (Below.trod laidOut (by kernel_rfl) (of_decide_eq_true (by kernel_rfl)) k0 bel lt0) (trodAll_cons_mk (Below.trod laidOut (by kernel_rfl) (of_decide_eq_true (by kernel_rfl)) k1 bel lt1) trodAll_mk0)), rfl, bel.frame _, fun h => by cases h⟩

theorem over1_ExactPureTriple : Try.pinned.checked.prog.funcNamed Rows.fnExactPureTripleRow.func = some 4 := by kernel_rfl
theorem over2_ExactPureTriple : joinedFacts Try.pinned.checked.prog 4 Try.f4 Rows.fnExactPureTripleSpec Rows.fnExactPureTripleRow = true := by kernel_rfl
theorem over3_ExactPureTriple : Try.f4.isInstance Try.pinned.checked.prog Rows.fnExactPureTripleRow.origin Rows.fnExactPureTripleRow.targs := of_decide_eq_true (by kernel_rfl)
theorem over4_ExactPureTriple : Try.f4.isWrapper Try.pinned.checked.prog Rows.fnExactPureTripleRow.wrapper Rows.fnExactPureTripleRow.mainSum := by unfold Func.isWrapper; first | (rw [if_pos (by decide +kernel)]; kernel_rfl) | (rw [if_neg (by decide +kernel)]; exact ⟨rfl, rfl⟩)
theorem over_ExactPureTriple : Rows.fnExactPureTripleRow.holds Try.pinned (OpenSpec.ofChange Rows.fnExactPureTripleSpec) :=
  OpenClaim.holds_of_wide 4 Try.f4 rfl rfl rfl rfl rfl rfl rfl ⟨rfl, rfl, rfl, rfl, rfl⟩ rfl rfl rfl rfl rfl over1_ExactPureTriple Try.func4 over2_ExactPureTriple over3_ExactPureTriple over4_ExactPureTriple
    (fun os started H enc _ => lifted_ExactPureTriple os started H enc)

theorem fnExactPureTriple_holds : Rows.FnExactPureTripleSaid := over_ExactPureTriple
#print axioms fnExactPureTriple_holds

end Go.Proofs.Ythflmmgolegonaa
