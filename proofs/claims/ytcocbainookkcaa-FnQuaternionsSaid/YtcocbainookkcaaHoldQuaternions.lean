/-
  'FnQuaternions' returns true for every input, and each argument reads afterwards as it read before.
  No condition.
-/
import Derived.Test.YtcocbainookkcaaLawQuaternions
import Derived.Test.YtcocbainookkcaaPart12
namespace Go.Proofs.Ytcocbainookkcaa
set_option maxRecDepth 100000
open Go.ChangeShapes Go.WideShapes Go.ChangeAt Go.RowKit
open Go.ChangeMaps (open_string shut_string)

set_option maxRecDepth 100000 in
theorem lifted_Quaternions (os : Os) (started : os.Started) (H : Type) (enc : TypeId × Value → H) :
    ReturnsInHanded {} Try.checked os 5 .any (Rows.fnQuaternionsSpec.pre6 enc Try.prog Try.f5 Rows.fnQuaternionsRow.domain false) (Rows.fnQuaternionsSpec.post enc Try.prog Try.f5 false true false false) := by
  refine returnsInHanded_of_change (C := Try.checked) own started (by kernel_rfl) Try.func5
    (ChangeSpec.witness6 (enc := enc) (C := Try.checked) false ⟨#[], #[.slice none 0 0], []⟩ 8 (by kernel_rfl) (by kernel_rfl) (by kernel_rfl) (by kernel_rfl)) ?_
  intro W base args ds gs before hval0 hW hcnd _
  have hval : ∀ (j : Nat) t v, Try.f5.params[j]? = some t → args[j]? = some v → Value.okWide Try.prog W .any base t v := hval0
  have hW' := hW
  obtain ⟨p, q, hA0, hV, rfl, hfz, hnd⟩ := hW
  have hA : DataW.TrodAll enc Try.prog W 0 (fun _ => true) true Try.f5.params.toList args.toList ds p := hA0
  rw [Try.params5] at hA hval
  obtain ⟨v0, vs0, d0, ds0, p0, q0, hargs, rfl, rfl, h0, r0⟩ := trodAll_cons hA
  obtain ⟨rfl, rfl, rfl⟩ := trodAll_nil r0
  obtain rfl : args = #[v0] := by cases args; simp_all
  obtain ⟨rfl, rfl⟩ := trodVars_none hV
  have k0 := h0
  have lt0 : ∀ x ∈ p0, x.block < W.heap.size := by obtain ⟨m, hm⟩ := k0; exact DataW.trod_lt m _ _ _ hm
  obtain ⟨a0, n0, c0, rfl, hr0⟩ := read_bytes (hval 0 22 v0 rfl rfl) h0
  clear hA0 hval0
  refine (law_Quaternions W a0 n0 c0 hr0).mono fun e W' ⟨he, bel⟩ => ?_
  subst he
  exact ⟨_, rfl, _, _, _, [], _, [], hW', trodAll_mk1 (shut_bool Try.underlying4 _), (trodAll_cons_mk (Below.trod laidOut (by kernel_rfl) (of_decide_eq_true (by kernel_rfl)) k0 bel lt0) trodAll_mk0), rfl, bel.frame _, fun h => by cases h⟩

theorem over1_Quaternions : Try.pinned.checked.prog.funcNamed Rows.fnQuaternionsRow.func = some 5 := by kernel_rfl
theorem over2_Quaternions : joinedFacts Try.pinned.checked.prog 5 Try.f5 Rows.fnQuaternionsSpec Rows.fnQuaternionsRow = true := by kernel_rfl
theorem over3_Quaternions : Try.f5.isInstance Try.pinned.checked.prog Rows.fnQuaternionsRow.origin Rows.fnQuaternionsRow.targs := of_decide_eq_true (by kernel_rfl)
theorem over4_Quaternions : Try.f5.isWrapper Try.pinned.checked.prog Rows.fnQuaternionsRow.wrapper Rows.fnQuaternionsRow.mainSum := by unfold Func.isWrapper; first | (rw [if_pos (by decide +kernel)]; kernel_rfl) | (rw [if_neg (by decide +kernel)]; exact ⟨rfl, rfl⟩)
theorem over_Quaternions : Rows.fnQuaternionsRow.holds Try.pinned (OpenSpec.ofChange Rows.fnQuaternionsSpec) :=
  OpenClaim.holds_of_wide 5 Try.f5 rfl rfl rfl rfl rfl rfl rfl ⟨rfl, rfl, rfl, rfl, rfl⟩ rfl rfl rfl rfl rfl over1_Quaternions Try.func5 over2_Quaternions over3_Quaternions over4_Quaternions
    (fun os started H enc _ => lifted_Quaternions os started H enc)

theorem fnQuaternions_holds : Rows.FnQuaternionsSaid := over_Quaternions
#print axioms fnQuaternions_holds

end Go.Proofs.Ytcocbainookkcaa
