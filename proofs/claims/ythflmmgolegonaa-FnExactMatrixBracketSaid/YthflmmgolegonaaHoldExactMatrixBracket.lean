/-
  'FnExactMatrixBracket' returns true for every input, and each argument reads afterwards as it read before.
  No condition.
-/
import Derived.Test.YthflmmgolegonaaLawExactMatrixBracket
import Derived.Test.YthflmmgolegonaaPart5
namespace Go.Proofs.Ythflmmgolegonaa
set_option maxRecDepth 100000
open Go.ChangeShapes Go.WideShapes Go.ChangeAt Go.RowKit
open Go.ChangeMaps (open_string shut_string)

set_option maxRecDepth 100000 in
theorem lifted_ExactMatrixBracket (os : Os) (started : os.Started) (H : Type) (enc : TypeId × Value → H) :
    ReturnsInHanded {} Try.checked os 3 .any (Rows.fnExactMatrixBracketSpec.pre6 enc Try.prog Try.f3 Rows.fnExactMatrixBracketRow.domain false) (Rows.fnExactMatrixBracketSpec.post enc Try.prog Try.f3 false true false false) := by
  refine returnsInHanded_of_change (C := Try.checked) own started (by kernel_rfl) Try.func3
    (ChangeSpec.witness6 (enc := enc) (C := Try.checked) false ⟨#[], #[.agg #[.int .i64 0, .slice none 0 0], .slice none 0 0, .slice none 0 0], []⟩ 8 (by kernel_rfl) (by kernel_rfl) (by kernel_rfl) (by kernel_rfl)) ?_
  intro W base args ds gs before hval0 hW hcnd _
  have hval : ∀ (j : Nat) t v, Try.f3.params[j]? = some t → args[j]? = some v → Value.okWide Try.prog W .any base t v := hval0
  have hW' := hW
  obtain ⟨p, q, hA0, hV, rfl, hfz, hnd⟩ := hW
  have hA : DataW.TrodAll enc Try.prog W 0 (fun _ => true) true Try.f3.params.toList args.toList ds p := hA0
  rw [Try.params3] at hA hval
  obtain ⟨v0, vs0, d0, ds0, p0, q0, hargs, rfl, rfl, h0, r0⟩ := trodAll_cons hA
  obtain ⟨v1, vs1, d1, ds1, p1, q1, rfl, rfl, rfl, h1, r1⟩ := trodAll_cons r0
  obtain ⟨v2, vs2, d2, ds2, p2, q2, rfl, rfl, rfl, h2, r2⟩ := trodAll_cons r1
  obtain ⟨rfl, rfl, rfl⟩ := trodAll_nil r2
  obtain rfl : args = #[v0, v1, v2] := by cases args; simp_all
  obtain ⟨rfl, rfl⟩ := trodVars_none hV
  have k0 := h0
  have lt0 : ∀ x ∈ p0, x.block < W.heap.size := by obtain ⟨m, hm⟩ := k0; exact DataW.trod_lt m _ _ _ hm
  obtain ⟨P0, a0, n0, c0, xs0, rfl, hr0, hm0, wf0⟩ := read_doubling (hval 0 24 v0 rfl rfl) h0
  have k1 := h1
  have lt1 : ∀ x ∈ p1, x.block < W.heap.size := by obtain ⟨m, hm⟩ := k1; exact DataW.trod_lt m _ _ _ hm
  obtain ⟨a1, n1, c1, xs1, rfl, hr1, hm1, hl1⟩ := read_rows (hval 1 25 v1 rfl rfl) h1
  have k2 := h2
  have lt2 : ∀ x ∈ p2, x.block < W.heap.size := by obtain ⟨m, hm⟩ := k2; exact DataW.trod_lt m _ _ _ hm
  obtain ⟨a2, n2, c2, xs2, rfl, hr2, hm2, hl2⟩ := read_rows (hval 2 25 v2 rfl rfl) h2
  clear hA0 hval0
  refine (law_ExactMatrixBracket W P0 a0 n0 c0 xs0 hr0 hm0 a1 n1 c1 xs1 hr1 hm1 hl1 a2 n2 c2 xs2 hr2 hm2 hl2).mono fun e W' ⟨he, bel⟩ => ?_
  subst he
  exact ⟨_, rfl, _, _, _, [], _, [], hW', trodAll_mk1 (shut_bool Try.underlying4 _), (trodAll_cons_mk (Below.trod laidOut (by kernel_rfl) (of_decide_eq_true (by kernel_rfl)) k0 bel lt0) (trodAll_cons_mk (Below.trod laidOut (by kernel_rfl) (of_decide_eq_true (by kernel_rfl)) k1 bel lt1) (trodAll_cons_mk (Below.trod laidOut (by kernel_rfl) (of_decide_eq_true (by kernel_rfl)) k2 bel lt2) trodAll_mk0))), rfl, bel.frame _, fun h => by cases h⟩

theorem over1_ExactMatrixBracket : Try.pinned.checked.prog.funcNamed Rows.fnExactMatrixBracketRow.func = some 3 := by kernel_rfl
theorem over2_ExactMatrixBracket : joinedFacts Try.pinned.checked.prog 3 Try.f3 Rows.fnExactMatrixBracketSpec Rows.fnExactMatrixBracketRow = true := by kernel_rfl
theorem over3_ExactMatrixBracket : Try.f3.isInstance Try.pinned.checked.prog Rows.fnExactMatrixBracketRow.origin Rows.fnExactMatrixBracketRow.targs := of_decide_eq_true (by kernel_rfl)
theorem over4_ExactMatrixBracket : Try.f3.isWrapper Try.pinned.checked.prog Rows.fnExactMatrixBracketRow.wrapper Rows.fnExactMatrixBracketRow.mainSum := by unfold Func.isWrapper; first | (rw [if_pos (by decide +kernel)]; kernel_rfl) | (rw [if_neg (by decide +kernel)]; exact ⟨rfl, rfl⟩)
theorem over_ExactMatrixBracket : Rows.fnExactMatrixBracketRow.holds Try.pinned (OpenSpec.ofChange Rows.fnExactMatrixBracketSpec) :=
  OpenClaim.holds_of_wide 3 Try.f3 rfl rfl rfl rfl rfl rfl rfl ⟨rfl, rfl, rfl, rfl, rfl⟩ rfl rfl rfl rfl rfl over1_ExactMatrixBracket Try.func3 over2_ExactMatrixBracket over3_ExactMatrixBracket over4_ExactMatrixBracket
    (fun os started H enc _ => lifted_ExactMatrixBracket os started H enc)

theorem fnExactMatrixBracket_holds : Rows.FnExactMatrixBracketSaid := over_ExactMatrixBracket
#print axioms fnExactMatrixBracket_holds

end Go.Proofs.Ythflmmgolegonaa
