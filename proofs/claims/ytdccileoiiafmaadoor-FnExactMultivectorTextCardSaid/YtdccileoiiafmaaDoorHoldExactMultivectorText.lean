/-
  'FnExactMultivectorText' returns true for every input, and each argument reads afterwards as it read before.
  No condition.
-/
import Derived.Test.YtdccileoiiafmaaDoorLawExactMultivectorText
import Derived.Test.YtdccileoiiafmaaDoorCards
import Derived.Test.YtdccileoiiafmaaDoorTie
import Derived.SevenTiedAt
import Derived.ProofKit
import Derived.LaidMore
import Derived.OpenShut
import Derived.Stop.Joined
import Derived.Test.YtdccileoiiafmaaDoorRead
namespace Go.Proofs.YtdccileoiiafmaaDoor
set_option maxRecDepth 100000
open Go.ChangeShapes Go.WideShapes Go.ChangeAt Go.RowKit
open Go.ChangeMaps (open_string shut_string)

/-- What the condition gives the walk: the first of the powers of 10. -/
theorem pow_cell {W : World} (h : laidMetH Tryd.prog Rows.fnExactMultivectorTextRow.laid W) : W.cell? ⟨0, 0, none⟩ = some (.int .u64 1) := by
  rw [MakeChecks.laidMetH_plain _ _ _ (by kernel_rfl)] at h
  obtain ⟨ps, ⟨g0, t0, cs0, f0, p0, q0, hg0, ht0, hv0, hd0, ⟨g1, t1, cs1, f1, p1, q1, hg1, ht1, hv1, hd1, ⟨g2, t2, cs2, f2, p2, q2, hg2, ht2, hv2, hd2, _, _⟩, _⟩, _⟩, _, _⟩ := h
  obtain rfl := Option.some.inj ((show Tryd.prog.globalNamed "internal/strconv.uint64pow10" = some 0 by kernel_rfl).symm.trans hg2)
  obtain rfl := Option.some.inj ((show (Tryd.prog.globals[0]?).map (·.type) = some 75 by kernel_rfl).symm.trans ht2)
  obtain ⟨xs, m1, rfl, hx1, hlen, hn3, hel⟩ := DataW.trod_array Tryd.underlying75 hd2
  have c3 : Tryd.prog.cellsOf 53 = 1 := by kernel_rfl
  have h0 := hel 0 (by decide)
  simp only [Prod.mk.injEq, Rows.laid_internal_strconv_uint64pow10, DataW.agg.injEq] at hx1
  match xs, hn3, hx1, h0 with
  | [], hn3, _, _ => cases hn3
  | x0 :: rest, _, hx1, h0 =>
    have hx2 := hx1.1
    simp only [List.map_cons, List.cons.injEq] at hx2
    obtain ⟨k, e1, e2, _⟩ := DataW.trod_int Tryd.underlying53 (show DataW.trod _ Tryd.prog W 0 _ false m1 53 _ = some x0 from h0)
    have hk : k = 1 := by rw [e2] at hx2; simpa using hx2.1.symm
    subst hk
    have := World.var?_cell hg2 hv2 0
    obtain ⟨l1⟩ := cs2
    rw [c3] at e1
    match l1, e1 with
    | c :: _, e1 =>
      simp at e1
      subst e1
      simpa using this

theorem door_ExactMultivectorText (os : Os) (args : Array Value) : laidMetH Tryd.prog Rows.fnExactMultivectorTextRow.laid ((World.doorLaid Tryd.prog 4000 os).forCall (fun _ _ => 0) ⟨#[], args, []⟩).memory :=
  laidMetH_of_parts3 (fuel := 8) (laidMet_of_run' 8 (by kernel_rfl) (by kernel_rfl)) (by kernel_rfl) (by kernel_rfl)

set_option maxRecDepth 100000 in
theorem lifted_ExactMultivectorText (os : Os) (started : os.Started) (H : Type) (enc : TypeId × Value → H) :
    ReturnsInHanded {} Tryd.checked os 5 .any (fun w args => (Rows.fnExactMultivectorTextSpec.pre enc Tryd.prog Tryd.f5 [] false w args ∧ laidMetH Tryd.prog Rows.fnExactMultivectorTextRow.laid w) ∧ sizedMet enc Tryd.prog Tryd.f5 (OpenSpec.ofChange Rows.fnExactMultivectorTextSpec) false w args) (Rows.fnExactMultivectorTextSpec.post enc Tryd.prog Tryd.f5 false true false false) := by
  refine returnsInHanded_of_change_and (C := Tryd.checked) (X := fun w _ => laidMetH Tryd.prog Rows.fnExactMultivectorTextRow.laid w) (fun _ _ _ hh h => h.of_heap hh) own started (by kernel_rfl) Tryd.func5
    (ChangeSpec.witness_shaped (enc := enc) (C := Tryd.checked) (os := os) (X := fun w _ => laidMetH Tryd.prog Rows.fnExactMultivectorTextRow.laid w) false (World.doorLaid Tryd.prog 4000 os) #[.agg #[.int .i64 0, .slice none 0 0], .slice none 0 0] 8 rfl (World.shaped_of_RefB (by kernel_rfl) (by kernel_rfl)) (by kernel_rfl) (by kernel_rfl) (by kernel_rfl) (door_ExactMultivectorText os _)) ?_
  intro W base args ds gs before hval0 hW _ _ hL _
  have hval : ∀ (j : Nat) t v, Tryd.f5.params[j]? = some t → args[j]? = some v → Value.okWide Tryd.prog W .any base t v := hval0
  have hW' := hW
  obtain ⟨p, q, hA0, hV, rfl, hfz, hnd⟩ := hW
  have hA : DataW.TrodAll enc Tryd.prog W 0 (fun _ => true) true Tryd.f5.params.toList args.toList ds p := hA0
  rw [Tryd.params5] at hA hval
  obtain ⟨v0, vs0, d0, ds0, p0, q0, hargs, rfl, rfl, h0, r0⟩ := trodAll_cons hA
  obtain ⟨v1, vs1, d1, ds1, p1, q1, rfl, rfl, rfl, h1, r1⟩ := trodAll_cons r0
  obtain ⟨rfl, rfl, rfl⟩ := trodAll_nil r1
  obtain rfl : args = #[v0, v1] := by cases args; simp_all
  obtain ⟨rfl, rfl⟩ := trodVars_none hV
  have k0 := h0
  have lt0 : ∀ x ∈ p0, x.block < W.heap.size := by obtain ⟨m, hm⟩ := k0; exact DataW.trod_lt m _ _ _ hm
  obtain ⟨P0, a0, n0, c0, xs0, rfl, hr0, hm0, wf0⟩ := read_space (hval 0 24 v0 rfl rfl) h0
  have k1 := h1
  have lt1 : ∀ x ∈ p1, x.block < W.heap.size := by obtain ⟨m, hm⟩ := k1; exact DataW.trod_lt m _ _ _ hm
  obtain ⟨a1, n1, c1, xs1, rfl, hr1, hm1⟩ := read_ints (hval 1 22 v1 rfl rfl) h1
  clear hA0 hval0
  refine (law_ExactMultivectorText W (pow_cell hL) P0 a0 n0 c0 xs0 hr0 hm0 a1 n1 c1 xs1 hr1 hm1).mono fun e W' ⟨he, bel⟩ => ?_
  subst he
  exact ⟨_, rfl, _, _, _, [], _, [], hW', trodAll_mk1 (shut_bool Tryd.underlying4 _), (trodAll_cons_mk (Below.trod laidOut (by kernel_rfl) (of_decide_eq_true (by kernel_rfl)) k0 bel lt0) (trodAll_cons_mk (Below.trod laidOut (by kernel_rfl) (of_decide_eq_true (by kernel_rfl)) k1 bel lt1) trodAll_mk0)), rfl, bel.frame _, fun h => by cases h⟩

theorem over1_ExactMultivectorText : Tryd.pinned.checked.prog.funcNamed Rows.fnExactMultivectorTextRow.func = some 5 := by kernel_rfl
theorem over2_ExactMultivectorText : joinedFacts Tryd.pinned.checked.prog 5 Tryd.f5 Rows.fnExactMultivectorTextSpec Rows.fnExactMultivectorTextRow = true := by kernel_rfl
theorem over3_ExactMultivectorText : Tryd.f5.isInstance Tryd.pinned.checked.prog Rows.fnExactMultivectorTextRow.origin Rows.fnExactMultivectorTextRow.targs := of_decide_eq_true (by kernel_rfl)
theorem over4_ExactMultivectorText : Tryd.f5.isWrapper Tryd.pinned.checked.prog Rows.fnExactMultivectorTextRow.wrapper Rows.fnExactMultivectorTextRow.mainSum := by unfold Func.isWrapper; first | (rw [if_pos (by decide +kernel)]; kernel_rfl) | (rw [if_neg (by decide +kernel)]; exact ⟨rfl, rfl⟩)
theorem over_ExactMultivectorText : Rows.fnExactMultivectorTextRow.holds Tryd.pinned (OpenSpec.ofChange Rows.fnExactMultivectorTextSpec) :=
  OpenClaim.holds_of_wide 5 Tryd.f5 rfl rfl rfl rfl rfl rfl rfl ⟨rfl, rfl, rfl, rfl, rfl⟩ rfl rfl rfl rfl rfl over1_ExactMultivectorText Tryd.func5 over2_ExactMultivectorText over3_ExactMultivectorText over4_ExactMultivectorText
    (fun os started H enc _ => lifted_ExactMultivectorText os started H enc)

theorem fnExactMultivectorText_holds : Rows.FnExactMultivectorTextCardSaid :=
  Claim7.holds_tied_plain_at .later [] [.data, .data, .data] true _ false
    over_ExactMultivectorText (fun _ h => by cases h) (by kernel_rfl) (fun _ h => by cases h) fnExactMultivectorText_row_tie rfl ⟨rfl, rfl⟩ (by kernel_rfl) rfl
    (fun f fn hf hfn => by
      obtain rfl : f = 5 := Option.some.inj ((show Tryd.prog.funcNamed "loop.example/g01124/laws.FnExactMultivectorText" = some 5 by kernel_rfl).symm.trans hf) |>.symm
      obtain rfl : fn = Tryd.f5 := (Option.some.inj (Tryd.func5.symm.trans hfn)).symm
      exact ⟨by kernel_rfl, fun j t ht => by
        rw [Tryd.params5] at ht
        have hm : t ∈ [24, 22] := by simpa using Array.mem_of_getElem? ht
        have hall : ([24, 22].all fun u => !Tryd.prog.wantsStandIn u) = true := by kernel_rfl
        exact (show Tryd.prog.wantsStandIn t = false by simpa using List.all_eq_true.1 hall t hm)⟩)
    (by kernel_rfl)
#print axioms fnExactMultivectorText_holds

end Go.Proofs.YtdccileoiiafmaaDoor
