/-
  'FnSpheresThrough' returns true for every input, and each argument reads afterwards as it read before.
  No condition.
-/
import Derived.Test.YtcocbainookkcaaGreatLawSpheresThrough
import Derived.Test.YtcocbainookkcaaGreatPart11
namespace Go.Proofs.YtcocbainookkcaaGreat
set_option maxRecDepth 100000
open Go.ChangeShapes Go.WideShapes Go.ChangeAt Go.RowKit
open Go.ChangeMaps (open_string shut_string)

set_option maxRecDepth 100000 in
theorem lifted_SpheresThrough (os : Os) (started : os.Started) (H : Type) (enc : TypeId × Value → H) :
    ReturnsInHanded {} Tryz.checked os 3 .any (Rows.fnSpheresThroughSpec.pre6 enc Tryz.prog Tryz.f3 Rows.fnSpheresThroughRow.domain false) (Rows.fnSpheresThroughSpec.post enc Tryz.prog Tryz.f3 false true false false) := by
  refine returnsInHanded_of_change (C := Tryz.checked) own started (by kernel_rfl) Tryz.func3
    (ChangeSpec.witness6 (enc := enc) (C := Tryz.checked) false ⟨#[], #[.slice none 0 0], []⟩ 8 (by kernel_rfl) (by kernel_rfl) (by kernel_rfl) (by kernel_rfl)) ?_
  intro W base args ds gs before hval0 hW hcnd _
  have hval : ∀ (j : Nat) t v, Tryz.f3.params[j]? = some t → args[j]? = some v → Value.okWide Tryz.prog W .any base t v := hval0
  have hW' := hW
  obtain ⟨p, q, hA0, hV, rfl, hfz, hnd⟩ := hW
  have hA : DataW.TrodAll enc Tryz.prog W 0 (fun _ => true) true Tryz.f3.params.toList args.toList ds p := hA0
  rw [Tryz.params3] at hA hval
  obtain ⟨v0, vs0, d0, ds0, p0, q0, hargs, rfl, rfl, h0, r0⟩ := trodAll_cons hA
  obtain ⟨rfl, rfl, rfl⟩ := trodAll_nil r0
  obtain rfl : args = #[v0] := by cases args; simp_all
  obtain ⟨rfl, rfl⟩ := trodVars_none hV
  have k0 := h0
  have lt0 : ∀ x ∈ p0, x.block < W.heap.size := by obtain ⟨m, hm⟩ := k0; exact DataW.trod_lt m _ _ _ hm
  obtain ⟨a0, n0, c0, rfl, hr0⟩ := read_bytes (hval 0 22 v0 rfl rfl) h0
  clear hA0 hval0
  refine (law_SpheresThrough W a0 n0 c0 hr0).mono fun e W' ⟨he, bel⟩ => ?_
  subst he
  exact ⟨_, rfl, _, _, _, [], _, [], hW', trodAll_mk1 (shut_bool Tryz.underlying4 _), (trodAll_cons_mk (Below.trod laidOut (by kernel_rfl) (of_decide_eq_true (by kernel_rfl)) k0 bel lt0) trodAll_mk0), rfl, bel.frame _, fun h => by cases h⟩

theorem over1_SpheresThrough : Tryz.pinned.checked.prog.funcNamed Rows.fnSpheresThroughRow.func = some 3 := by kernel_rfl
theorem over2_SpheresThrough : joinedFacts Tryz.pinned.checked.prog 3 Tryz.f3 Rows.fnSpheresThroughSpec Rows.fnSpheresThroughRow = true := by kernel_rfl
theorem over3_SpheresThrough : Tryz.f3.isInstance Tryz.pinned.checked.prog Rows.fnSpheresThroughRow.origin Rows.fnSpheresThroughRow.targs := of_decide_eq_true (by kernel_rfl)
theorem over4_SpheresThrough : Tryz.f3.isWrapper Tryz.pinned.checked.prog Rows.fnSpheresThroughRow.wrapper Rows.fnSpheresThroughRow.mainSum := by unfold Func.isWrapper; first | (rw [if_pos (by decide +kernel)]; kernel_rfl) | (rw [if_neg (by decide +kernel)]; exact ⟨rfl, rfl⟩)
theorem over_SpheresThrough : Rows.fnSpheresThroughRow.holds Tryz.pinned (OpenSpec.ofChange Rows.fnSpheresThroughSpec) :=
  OpenClaim.holds_of_wide 3 Tryz.f3 rfl rfl rfl rfl rfl rfl rfl ⟨rfl, rfl, rfl, rfl, rfl⟩ rfl rfl rfl rfl rfl over1_SpheresThrough Tryz.func3 over2_SpheresThrough over3_SpheresThrough over4_SpheresThrough
    (fun os started H enc _ => lifted_SpheresThrough os started H enc)

theorem fnSpheresThrough_holds : Rows.FnSpheresThroughSaid := over_SpheresThrough
#print axioms fnSpheresThrough_holds

end Go.Proofs.YtcocbainookkcaaGreat
