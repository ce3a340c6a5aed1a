/-
  'FnExactBracketTriple' returns true for every input, and each argument reads afterwards as it read before.
  No condition.
-/
import Derived.Test.YthflmmgolegonaaLawExactBracketTriple
import Derived.Test.YthflmmgolegonaaPart11
namespace Go.Proofs.Ythflmmgolegonaa
set_option maxRecDepth 100000
open Go.ChangeShapes Go.WideShapes Go.ChangeAt Go.RowKit
open Go.ChangeMaps (open_string shut_string)

set_option maxRecDepth 100000 in
theorem lifted_ExactBracketTriple (os : Os) (started : os.Started) (H : Type) (enc : TypeId × Value → H) :
    ReturnsInHanded {} Try.checked os 5 .any (Rows.fnExactBracketTripleSpec.pre6 enc Try.prog Try.f5 Rows.fnExactBracketTripleRow.domain false) (Rows.fnExactBracketTripleSpec.post enc Try.prog Try.f5 false true false false) := by
  refine returnsInHanded_of_change (C := Try.checked) own started (by kernel_rfl) Try.func5
    (ChangeSpec.witness6 (enc := enc) (C := Try.checked) false ⟨#[], #[.agg #[.int .i64 0, .slice none 0 0], .agg #[.slice none 0 0, .slice none 0 0, .slice none 0 0], .agg #[.slice none 0 0, .slice none 0 0, .slice none 0 0]], []⟩ 8 (by kernel_rfl) (by kernel_rfl) (by kernel_rfl) (by kernel_rfl)) ?_
  intro W base args ds gs before hval0 hW hcnd _
  have hval : ∀ (j : Nat) t v, Try.f5.params[j]? = some t → args[j]? = some v → Value.okWide Try.prog W .any base t v := hval0
  have hW' := hW
  obtain ⟨p, q, hA0, hV, rfl, hfz, hnd⟩ := hW
  have hA : DataW.TrodAll enc Try.prog W 0 (fun _ => true) true Try.f5.params.toList args.toList ds p := hA0
  rw [Try.params5] at hA hval
  obtain ⟨v0, vs0, d0, ds0, p0, q0, hargs, rfl, rfl, h0, r0⟩ := trodAll_cons hA
  obtain ⟨v1, vs1, d1, ds1, p1, q1, rfl, rfl, rfl, h1, r1⟩ := trodAll_cons r0
  obtain ⟨v2, vs2, d2, ds2, p2, q2, rfl, rfl, rfl, h2, r2⟩ := trodAll_cons r1
  obtain ⟨rfl, rfl, rfl⟩ := trodAll_nil r2
  obtain rfl : args = #[v0, v1, v2] := by cases args; simp_all
  obtain ⟨rfl, rfl⟩ := trodVars_none hV
  have k0 := h0
  have lt0 : ∀ x ∈ p0, x.block < W.heap.size := by obtain ⟨m, hm⟩ := k0; exact DataW.trod_lt m _ _ _ hm
  obtain ⟨P0, a0, n0, c0, xs0, rfl, hr0, hm0, wf0⟩ := read_doubling (hval 0 24 v0 rfl rfl) h0
  have k1 := h1
  have lt1 : ∀ x ∈ p1, x.block < W.heap.size := by obtain ⟨m, hm⟩ := k1; exact DataW.trod_lt m _ _ _ hm
  obtain ⟨a1x1, n1x1, c1x1, T1x1, a1x2, n1x2, c1x2, T1x2, a1x3, n1x3, c1x3, T1x3, rfl, hr1x1, hm1x1, hl1x1, hr1x2, hm1x2, hl1x2, hr1x3, hm1x3, hl1x3⟩ := read_triple (hval 1 47 v1 rfl rfl) h1
  have k2 := h2
  have lt2 : ∀ x ∈ p2, x.block < W.heap.size := by obtain ⟨m, hm⟩ := k2; exact DataW.trod_lt m _ _ _ hm
  obtain ⟨a2x1, n2x1, c2x1, T2x1, a2x2, n2x2, c2x2, T2x2, a2x3, n2x3, c2x3, T2x3, rfl, hr2x1, hm2x1, hl2x1, hr2x2, hm2x2, hl2x2, hr2x3, hm2x3, hl2x3⟩ := read_triple (hval 2 47 v2 rfl rfl) h2
  clear hA0 hval0
  refine (law_ExactBracketTriple W P0 a0 n0 c0 xs0 hr0 hm0 a1x1 n1x1 c1x1 T1x1 a1x2 n1x2 c1x2 T1x2 a1x3 n1x3 c1x3 T1x3 hr1x1 hm1x1 hl1x1 hr1x2 hm1x2 hl1x2 hr1x3 hm1x3 hl1x3 a2x1 n2x1 c2x1 T2x1 a2x2 n2x2 c2x2 T2x2 a2x3 n2x3 c2x3 T2x3 hr2x1 hm2x1 hl2x1 hr2x2 hm2x2 hl2x2 hr2x3 hm2x3 hl2x3).mono fun e W' ⟨he, bel⟩ => ?_
  subst he
  exact ⟨_, rfl, _, _, _, [], _, [], hW', trodAll_mk1 (shut_bool Try.underlying4 _), (trodAll_cons_mk (Below.trod laidOut (by kernel_rfl) (of_decide_eq_true (by kernel_rfl)) k0 bel lt0) (trodAll_cons_mk (Below.trod laidOut (by kernel_rfl) (of_decide_eq_true (by kernel_rfl)) k1 bel lt1) (trodAll_cons_mk (Below.trod laidOut (by kernel_rfl) (of_decide_eq_true (by kernel_rfl)) k2 bel lt2) trodAll_mk0))), rfl, bel.frame _, fun h => by cases h⟩

theorem over1_ExactBracketTriple : Try.pinned.checked.prog.funcNamed Rows.fnExactBracketTripleRow.func = some 5 := by kernel_rfl
theorem over2_ExactBracketTriple : joinedFacts Try.pinned.checked.prog 5 Try.f5 Rows.fnExactBracketTripleSpec Rows.fnExactBracketTripleRow = true := by kernel_rfl
theorem over3_ExactBracketTriple : Try.f5.isInstance Try.pinned.checked.prog Rows.fnExactBracketTripleRow.origin Rows.fnExactBracketTripleRow.targs := of_decide_eq_true (by kernel_rfl)
theorem over4_ExactBracketTriple : Try.f5.isWrapper Try.pinned.checked.prog Rows.fnExactBracketTripleRow.wrapper Rows.fnExactBracketTripleRow.mainSum := by unfold Func.isWrapper; first | (rw [if_pos (by decide +kernel)]; kernel_rfl) | (rw [if_neg (by decide +kernel)]; exact ⟨rfl, rfl⟩)
theorem over_ExactBracketTriple : Rows.fnExactBracketTripleRow.holds Try.pinned (OpenSpec.ofChange Rows.fnExactBracketTripleSpec) :=
  OpenClaim.holds_of_wide 5 Try.f5 rfl rfl rfl rfl rfl rfl rfl ⟨rfl, rfl, rfl, rfl, rfl⟩ rfl rfl rfl rfl rfl over1_ExactBracketTriple Try.func5 over2_ExactBracketTriple over3_ExactBracketTriple over4_ExactBracketTriple
    (fun os started H enc _ => lifted_ExactBracketTriple os started H enc)

theorem fnExactBracketTriple_holds : Rows.FnExactBracketTripleSaid := over_ExactBracketTriple
#print axioms fnExactBracketTriple_holds

end Go.Proofs.Ythflmmgolegonaa
