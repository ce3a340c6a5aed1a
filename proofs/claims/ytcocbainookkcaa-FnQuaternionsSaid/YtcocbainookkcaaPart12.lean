/-
  Contracts and plain laws, part 12: FloatE, CntC, CntD, Read, ReadB.
  No condition.
-/
import Derived.Test.YtcocbainookkcaaPart3
import Derived.Test.YtcocbainookkcaaPart11
import Derived.Test.YtcocbainookkcaaPart0
import Derived.ProofKit
import Derived.OpenShut
import Derived.ShutString
import Derived.ChangeOld
import Derived.Below
import Derived.Lib.SmallJoins
import Derived.Test.YtcocbainookkcaaPart5
/-
  Regions that draw their order, walked by a plan: some operations float (they yield their values at any time while an invariant of the worlds holds), the others come when no other is ready.
  No condition. General over every program.
-/
namespace Go.Proofs.Ytcocbainookkcaa
set_option maxRecDepth 100000
open Go.RowKit

def Region.planB (md : Region.Mode) (ops : Array Oper) : List (Bool × Nat) → Array Bool → Bool
  | [], listed => decide (Region.ready md ops listed = [])
  | (true, i) :: l, listed => (Region.ready md ops listed).contains i && Region.free md ops listed i && Region.planB md ops l (listed.setIfInBounds i true)
  | (false, i) :: l, listed => decide (Region.ready md ops listed = [i]) && Region.planB md ops l (listed.setIfInBounds i true)

section
variable {P : Program} {ops : Array Oper} {md : Region.Mode} {Q : Exit → Act → World → Prop} {I : World → Prop}
variable (P ops Q I) in
/-- The operations by the plan. -/
def PlanW : List (Bool × Nat) → Act → World → Prop
  | [], a, w => I w ∧ Q .normal a w
  | (true, i) :: l, a, w => ∃ o v, ops[i]? = some o ∧ YieldsI P ops I o v a ∧ PlanW l (a.put o.dst v) w
  | (false, i) :: l, a, w => I w ∧ ∃ o, ops[i]? = some o ∧ Region.wanted o (yielded ops a.tmps) = true ∧ o.wp P a w (PlanW l) Q
theorem PlanW.float {i : Nat} {v : Value} {l : List (Bool × Nat)} {a : Act} {w : World} {o : Oper} (t : Option Tmp) (ho : ops[i]? = some o) (ht : o.dst = t) (hw : Region.wanted o (yielded ops a.tmps) = true) (hy : ∀ w, I w → (execOp a.eval o).run P w = .ok (.value v) w) (h : PlanW P ops Q I l (a.put t v) w) : PlanW P ops Q I ((true, i) :: l) a w := ⟨o, v, ho, ⟨hw, hy⟩, by rw [ht]; exact h⟩
theorem PlanW.value {i : Nat} {o : Oper} {l : List (Bool × Nat)} {a : Act} {w w' : World} {v : Value} (t : Option Tmp) (hI : I w) (ho : ops[i]? = some o) (ht : o.dst = t) (hw : Region.wanted o (yielded ops a.tmps) = true) (hr : (execOp a.eval o).run P w = .ok (.value v) w') (h : PlanW P ops Q I l (a.put t v) w') : PlanW P ops Q I ((false, i) :: l) a w :=
  ⟨hI, o, ho, hw, by unfold Oper.wp; rw [hr]; subst ht; exact h⟩
theorem PlanW.skip {i : Nat} {o : Oper} {l : List (Bool × Nat)} {a : Act} {w w' : World} (hI : I w) (ho : ops[i]? = some o) (hw : Region.wanted o (yielded ops a.tmps) = true) (hr : (execOp a.eval o).run P w = .ok .skip w') (h : PlanW P ops Q I l (a.put o.dst undef) w') : PlanW P ops Q I ((false, i) :: l) a w :=
  ⟨hI, o, ho, hw, by unfold Oper.wp; rw [hr]; exact h⟩
theorem PlanW.call {i f : Nat} {args : Array Value} {o : Oper} {l : List (Bool × Nat)} {a : Act} {w : World} {R : Value → World → Prop} (t : Option Tmp) (hI : I w) (ho : ops[i]? = some o) (ht : o.dst = t) (hw : Region.wanted o (yielded ops a.tmps) = true) (hr : (execOp a.eval o).run P w = .ok (.enter f args) w)
    (hc : Calls P f args w fun e w' => ∃ v, e = .returned v ∧ R v w') (h : ∀ v w', R v w' → PlanW P ops Q I l (a.put t v) w') : PlanW P ops Q I ((false, i) :: l) a w :=
  ⟨hI, o, ho, hw, wp_of_wpS (R := R) (by unfold wpS; rw [hr]; exact hc) (by subst ht; exact h)⟩

theorem wpAnyI_of_plan (hsel : Region.noSelect ops = true) (hQ : ∀ c a w, ¬ Q (.panic c) a w) : ∀ (l : List (Bool × Nat)) (listed : Array Bool) (a : Act) (w : World), Region.planB md ops l listed = true → PlanW P ops Q I l a w → wpAnyI P ops md Q I l.length listed a w
  | [], _, _, _, hB, h => ⟨h.1, by simpa [Region.planB] using hB, h.2⟩
  | (true, i) :: l, listed, a, w, hB, h => by
    obtain ⟨o, v, ho, hy, h⟩ := h
    simp only [Region.planB, Bool.and_eq_true] at hB
    have T := wpAnyI_of_plan hsel hQ l (listed.setIfInBounds i true) _ w hB.2 h
    exact wpAnyI_first (md := md) (Q := Q) (I := I) ho (Region.noSelect_spec hsel) (fun c a w hq => absurd hq (hQ _ _ _)) _ listed a w (Region.free_spec ho hB.1.2) (by simpa using hB.1.1) hy T
  | (false, i) :: l, listed, a, w, hB, h => by
    obtain ⟨hI, o, ho, hw, h⟩ := h
    simp only [Region.planB, Bool.and_eq_true, decide_eq_true_eq] at hB
    refine ⟨hI, fun h1 => (by rw [hB.1] at h1; cases h1), fun j hj => ?_⟩
    rw [hB.1] at hj
    have hik : j = i := by simpa using hj
    subst hik
    have hw' : wpOp P ops Q j (PlanW P ops Q I l) a w := by unfold wpOp; simp only [ho, hw, if_true]; exact .inl h
    exact wpOp_mono (fun a' w' h' => wpAnyI_of_plan hsel hQ l _ a' w' hB.2 h') hw'
end

theorem wp_region_plan {P : Program} {id : Nat} {Q : Exit → Act → World → Prop} {a : Act} {w : World} {ops : Array Oper} (pl : List (Bool × Nat)) (I : World → Prop) (hm : P.follows .mixedOrders = true)
    (hB : (Region.noSelect ops && Region.planB .any ops pl (Array.replicate ops.size false) && decide (pl.length = ops.size)) = true) (h : PlanW P ops (strictQ Q) I pl a w.drew) : (Code.region id ops true).wp P Q a w := by
  simp only [Bool.and_eq_true, decide_eq_true_eq] at hB
  obtain ⟨⟨hsel, hp⟩, hl⟩ := hB
  refine wp_region_any hm ?_
  have T := wpAnyI_of_plan (md := .any) (Q := strictQ Q) hsel (fun c a w hq => absurd hq.1 (by simp)) pl _ a w.drew hp h
  rw [hl] at T
  exact wpAny_strict _ _ _ _ (wpAnyI.plain _ _ _ _ T)
end Go.Proofs.Ytcocbainookkcaa

/-
  normCounts: counting from the last place on.
  No condition.
-/
namespace Go.Proofs.Ytcocbainookkcaa
set_option maxRecDepth 100000
open Go.RowKit

/-- The places 0 to N of an outer row can be stored. -/
def OutF (go N : Nat) (w : World) : Prop := ∀ j, j ≤ N → (∃ v, w.cell? ⟨go, j, none⟩ = some v) ∧ w.frozen? ⟨go, j, none⟩ = false
theorem OutF.ext {go N : Nat} {w w' : World} (h : OutF go N w) (he : Ext w w') : OutF go N w' := fun j hj => by
  obtain ⟨⟨v, hv⟩, hf⟩ := h j hj
  exact ⟨⟨v, he.cell hv⟩, by rw [he.frz go j (lt_of_cell hv)]; exact hf⟩
theorem OutF.store {go N z t : Nat} {w : World} {v : Value} (h : OutF go N w) : OutF go N (w.setCell ⟨z, t, none⟩ v) := fun j hj => by
  obtain ⟨⟨u, hu⟩, hf⟩ := h j hj
  refine ⟨?_, (World.frozen?_setCell _ _ _ _).trans hf⟩
  by_cases e : (⟨z, t, none⟩ : Addr) = ⟨go, j, none⟩
  · rw [e]; exact ⟨v, World.cell?_setCell_same _ _ _ hu⟩
  · exact ⟨u, (World.cell?_setCell_other _ _ _ _ e).trans hu⟩
theorem OwnR.outF {B : Nat} {w : World} {g n cap : Nat} {rows : List (List Int)} (h : OwnR B w (some ⟨g, 0, none⟩) (n + 1) cap rows) : OutF g n w := fun j hj => by
  obtain ⟨ai, ci, hc, _⟩ := h.at (i := j) (by omega)
  obtain ⟨_, vs, h2, _⟩ := h
  exact ⟨⟨_, hc⟩, h2.frozenAt j⟩
theorem ctB_drop {P : Nat} {row l : List Int} {i : Nat} (h : i < l.length) : ctB P row (l.drop i) = ctL P (nth l i) (ctB P row (l.drop (i + 1))) := by
  rw [List.drop_eq_getElem_cons h]
  show ctL P l[i] _ = _
  congr 1
  simp [nth, h]
theorem diag_goodC {p : Int} {st : List Int} (hp : 1 ≤ p) {d N k : Nat} : Good p k (diagL p st d N k) := ⟨diagL_len .., fun i hi => by rw [diagL_nth hi]; exact (dbl_good hp d _ _).2 0 (Nat.two_pow_pos d)⟩
set_option maxHeartbeats 8000000 in
theorem c_normCounts (P N : Nat) (a : Option Addr) (d cap : Nat) (st : List Int) (w : World) (hs : doubB (P : Int) st = true) (hN : N = 2 ^ d) (hN4 : N ≤ 4) (hcs : d ≤ cap) (hq : RdC w a d st) :
    Calls Try.prog 92 #[.agg #[.int .i64 (P : Int), .slice a d cap]] w fun e w' => ∃ go rc g, e = .returned (.slice (some ⟨go, 0, none⟩) (N + 1) rc) ∧ w'.cell? ⟨go, 0, none⟩ = some (.slice (some ⟨g, 0, none⟩) P P) ∧ OwnC w.heap.size w' (some ⟨g, 0, none⟩) P P (ctB P ((List.replicate P 0).set 0 1) (diagL (P : Int) st d N N)) ∧ Ext w w' := by
  obtain ⟨hpr, hd4, _, _⟩ := doub_of hs
  have hpb := prime_bd hpr
  have hP : 3 ≤ P ∧ P ≤ 13 := by omega
  rw [hq.1] at hd4
  have hN1 : 1 ≤ N := by rw [hN]; exact Nat.two_pow_pos d
  have HSB := Lib.hid hs
  have HQ := Lib.hid hq
  have HN := Lib.hid hN
  have HDG := Lib.hid (diag_goodC (p := (P : Int)) (st := st) (d := d) (N := N) (k := N) (by omega))
  clear hpr hpb hs hq hN
  obtain ⟨W, hW⟩ : ∃ W, W = w.alloc (.cells #[.int .i64 (P : Int), .slice a d cap] 52) := ⟨_, rfl⟩
  have gW : Ext w W := by rw [hW]; exact ext_alloc _ _
  have HS0 := Lib.hid (show W.cell? ⟨w.heap.size, 0, none⟩ = some (.int .i64 (P : Int)) by rw [hW]; simp)
  have HS1 := Lib.hid (show W.cell? ⟨w.heap.size, 1, none⟩ = some (.slice a d cap) by rw [hW]; simp)
  have GW := Lib.hid gW
  have HW := Lib.hid hW
  clear gW hW
  go_enter Try.func92, Try.ntmps92
  go_wp2_with (fail)
  rw [← HW.out]
  have hs0 := HS0.out
  have hs1 := HS1.out
  go_wp2_with (fail)
  refine Calls.mono (c_diagonal (P : Int) a d cap N st W HSB.out HN.out hcs (HQ.out.ext GW.out)) ?_
  rintro e w1 ⟨gd, rd, rfl, hod, g1⟩
  have HD := Lib.hid hod
  have G1 := Lib.hid g1
  clear hod g1 hs0 hs1
  obtain ⟨wo, hmk, hoo, heo⟩ := make_rows w1 (N + 1) (by omega)
  obtain ⟨go, hgo⟩ : ∃ z, z = w1.heap.size := ⟨_, rfl⟩
  have hbo : w1.heap.size ≤ go := by omega
  rw [← hgo] at hmk hoo
  have HOF := Lib.hid hoo.outF
  have HEO := Lib.hid heo
  have hgo2 : go < wo.heap.size := by obtain ⟨ai, ci, hc, _⟩ := hoo.at (i := 0) (by omega); exact lt_of_cell hc
  clear hgo hoo heo
  obtain ⟨wm, hmk2, hom, hem⟩ := make_ints wo P (by omega)
  obtain ⟨zm, hzm⟩ : ∃ z, z = wo.heap.size := ⟨_, rfl⟩
  have hbz : wo.heap.size ≤ zm := by omega
  have hgz : go < zm := by omega
  rw [← hzm] at hmk2 hom
  clear hzm
  have hs0 := G1.out.cell HS0.out
  have hs0' := HEO.out.cell hs0
  have hs0'' := hem.cell hs0'
  obtain ⟨⟨vN, hvN⟩, hfN⟩ := HOF.out.ext hem N (Nat.le_refl _)
  have hNN : (N : Int) < (N : Int) + 1 := by omega
  have hwN : IntKind.i64.wrap ((N : Int) + 1) = (N : Int) + 1 := IntWalk.i64_in _ (by omega)
  have hmk' : (Instr.makeSlice 63 (.int .i64 ((N : Int) + 1)) (.int .i64 ((N : Int) + 1))).run Try.prog w1 = .ok (.slice (some ⟨go, 0, none⟩) (N + 1) (N + 1)) wo := by
    have := hmk; simpa using this
  have hcz := hom.cell (j := 0) (by omega)
  have hfz := hom.frozen 0
  have hne : ¬ go = zm := by omega
  have hne' : ¬ zm = go := by omega
  have hwN1 : IntKind.i64.wrap ((N : Int) - 1) = (N : Int) - 1 := IntWalk.i64_in _ (by omega)
  have HOZ := Lib.hid hom
  have HEZ := Lib.hid hem
  go_wp2_with (fail)
  clear hs0 hs0' hs0'' hcz hfz hvN hfN hmk hmk' hmk2 hom hem
  obtain ⟨e0, he0⟩ : ∃ e, e = (List.replicate P (0 : Int)).set 0 1 := ⟨_, rfl⟩
  have HEE := Lib.hid he0
  obtain ⟨wx, hwx⟩ : ∃ x, x = (wm.setCell ⟨go, N, none⟩ (.slice (some ⟨zm, 0, none⟩) P P)).setCell ⟨zm, 0, none⟩ (.int .i64 1) := ⟨_, rfl⟩
  have HAZ : ¬ (⟨zm, 0, none⟩ : Addr) = ⟨go, N, none⟩ := by simp
  have HCN := Lib.hid (show wx.cell? ⟨go, N, none⟩ = some (.slice (some ⟨zm, 0, none⟩) P P) by
    obtain ⟨⟨u, hu⟩, _⟩ := HOF.out.ext HEZ.out N (Nat.le_refl _)
    rw [hwx]
    exact (World.cell?_setCell_other _ _ _ _ HAZ).trans (World.cell?_setCell_same _ _ _ hu))
  have HRZ := Lib.hid (show OwnC w1.heap.size wx (some ⟨zm, 0, none⟩) P P e0 by
    rw [hwx, he0]
    exact ((HOZ.out.other (by simp; omega) _).store (j := 0) (by omega) 1).mono (by omega))
  have HOX := Lib.hid (show OutF go N wx by rw [hwx]; exact ((HOF.out.ext HEZ.out).store).store)
  have HEX := Lib.hid (show Ext w1 wx by rw [hwx]; exact ((HEO.out.trans HEZ.out).setCell hbo _).setCell (by simp; omega) _)
  have HB0 := Lib.hid (show ∀ j, j < P → 0 ≤ nth e0 j ∧ nth e0 j ≤ 1 by
    intro j hj
    rw [he0, nth_set (by simp; omega), nth_replicate hj]
    split <;> omega)
  rw [← hwx]
  clear hwx he0 HAZ HOZ HEZ HOF HEO
  go_loopw [5] (fun i wr => ∃ (m g : Nat), m ≤ N ∧ i = .int .i64 ((m : Int) - 1) ∧ go < g ∧ Hid (wr.cell? ⟨go, m, none⟩ = some (.slice (some ⟨g, 0, none⟩) P P)) ∧ Hid (OwnC w1.heap.size wr (some ⟨g, 0, none⟩) P P (ctB P e0 ((diagL (P : Int) st d N N).drop m))) ∧ Hid (∀ j, j < P → 0 ≤ nth (ctB P e0 ((diagL (P : Int) st d N N).drop m)) j ∧ nth (ctB P e0 ((diagL (P : Int) st d N N).drop m)) j ≤ 169 ^ (N - m)) ∧ Hid (OutF go N wr) ∧ Hid (Ext w1 wr)) (fun i _ => (intOf i + 1).toNat)
  case atStart =>
    have e : (diagL (P : Int) st d N N).drop N = [] := List.drop_of_length_le (by rw [diagL_len]; omega)
    refine ⟨N, zm, Nat.le_refl _, rfl, hgz, HCN, Lib.hid (by rw [e]; exact HRZ.out), Lib.hid (by rw [e, Nat.sub_self]; exact HB0.out), HOX, HEX⟩
  case round =>
    rename World => wr
    clear HCN HRZ HB0 HOX HEX
    obtain ⟨m, g, hm, rfl, hgg, HCM, HR, HB, HOF, HE⟩ := hrel
    by_cases hm0 : m = 0
    · subst hm0
      have hneg : ¬ (0 : Int) ≤ ((0 : Nat) : Int) - 1 := by omega
      go_wp2_with (fail)
      go_ret
      have hfin : OwnC w.heap.size wr (some ⟨g, 0, none⟩) P P (ctB P ((List.replicate P 0).set 0 1) (diagL (P : Int) st d N N)) := by rw [← HEE.out]; exact HR.out.mono (GW.out.trans G1.out).size
      have hex : Ext w wr := GW.out.trans (G1.out.trans HE.out)
      first | exact ⟨go, N + 1, g, rfl, HCM.out, hfin, hex⟩ | exact ⟨go, N + 1, rfl, g, HCM.out, hfin, hex⟩ | exact ⟨go, ⟨N + 1, rfl⟩, g, HCM.out, hfin, hex⟩ | exact ⟨go, ⟨N + 1, rfl⟩, ⟨g, HCM.out, hfin⟩, hex⟩ | exact ⟨go, N + 1, rfl, ⟨g, HCM.out, hfin⟩, hex⟩
    · obtain ⟨i, rfl⟩ : ∃ i, m = i + 1 := ⟨m - 1, by omega⟩
      have hpos : (0 : Int) ≤ ((i + 1 : Nat) : Int) - 1 := by omega
      obtain ⟨row, hrow⟩ : ∃ r, r = ctB P e0 ((diagL (P : Int) st d N N).drop (i + 1)) := ⟨_, rfl⟩
      obtain ⟨sq, hsq⟩ : ∃ s, s = nth (diagL (P : Int) st d N N) i := ⟨_, rfl⟩
      have hsb : 0 ≤ sq ∧ sq < (P : Int) := by rw [hsq]; exact HDG.out.2 i (by omega)
      obtain ⟨B, hBe⟩ : ∃ B : Int, B = 169 ^ (N - (i + 1)) := ⟨_, rfl⟩
      have hBb : 1 ≤ B ∧ B ≤ 137858491849 := by
        rw [hBe]
        have : N - (i + 1) = 0 ∨ N - (i + 1) = 1 ∨ N - (i + 1) = 2 ∨ N - (i + 1) = 3 := by omega
        rcases this with h | h | h | h <;> rw [h] <;> decide
      have HNX := Lib.hid (show ctB P e0 ((diagL (P : Int) st d N N).drop i) = ctL P sq row by rw [ctB_drop (by rw [diagL_len]; omega), ← hsq, ← hrow])
      have HBE := Lib.hid hBe
      have HSQ := Lib.hid hsq
      rw [← hrow] at HR HB
      rw [← hBe] at HB
      obtain ⟨wz, hmk, hom, hem⟩ := make_ints wr P (by omega)
      obtain ⟨z, hz⟩ : ∃ z, z = wr.heap.size := ⟨_, rfl⟩
      have hbz : wr.heap.size ≤ z := by omega
      have hgz2 : g < z := by rw [hz]; exact (HR.out.base_of g rfl).2
      rw [← hz] at hmk hom
      have HOZ := Lib.hid hom
      have HEZ := Lib.hid hem
      obtain ⟨⟨u, hu⟩, hfu⟩ := HOF.out.ext hem i (by omega)
      have hne : ¬ go = z := by omega
      have hne' : ¬ z = go := by omega
      have hii : ¬ i = i + 1 := by omega
      have hii' : ¬ i + 1 = i := by omega
      have hs0 := (G1.out.trans HE.out).cell HS0.out
      have hs0' := hem.cell hs0
      have hcm := hem.cell HCM.out
      have hi1 : ((i + 1 : Nat) : Int) - 1 = (i : Int) := by omega
      have hwi : IntKind.i64.wrap ((i : Int) + 1) = (i : Int) + 1 := IntWalk.i64_in _ (by omega)
      have hiN : (i : Int) < (N : Int) + 1 := by omega
      have hiN1 : (i : Int) + 1 < (N : Int) + 1 := by omega
      rw [hi1] at hpos ⊢
      clear hrow hsq hBe hom hem hz hi1
      go_wp2_with (fail)
      obtain ⟨wq, hwq⟩ : ∃ x, x = wz.setCell ⟨go, i, none⟩ (.slice (some ⟨z, 0, none⟩) P P) := ⟨_, rfl⟩
      have HA0 := Lib.hid (show OwnC wr.heap.size wq (some ⟨z, 0, none⟩) P P (ptL P sq row 0 0) by rw [hwq, ptL_start]; exact (HOZ.out.other (by simp; omega) _).mono hbz)
      have HB1 := Lib.hid (show wq.cell? ⟨go, i, none⟩ = some (.slice (some ⟨z, 0, none⟩) P P) by rw [hwq]; exact World.cell?_setCell_same _ _ _ hu)
      have HD0 := Lib.hid (show OwnC w1.heap.size wq (some ⟨g, 0, none⟩) P P row by rw [hwq]; exact (HR.out.ext HEZ.out).keep fun k hk => Below.heap_setCell _ _ _ _ (fun e => by cases hk; simp at e; omega))
      have HF0 := Lib.hid (show OutF go N wq by rw [hwq]; exact (HOF.out.ext HEZ.out).store)
      have HE0 := Lib.hid (show Ext w1 wq by rw [hwq]; exact (HE.out.trans HEZ.out).setCell (by simp; omega) _)
      rw [← hwq]
      clear hwq hu hfu hs0 hs0' hcm hmk hpos HCM HOZ HEZ
      go_loopw [47] (fun x wy => ∃ (n : Nat), n ≤ P ∧ x = .int .i64 n ∧ Hid (OwnC wr.heap.size wy (some ⟨z, 0, none⟩) P P (ptL P sq row n 0)) ∧ Hid (wy.cell? ⟨go, i, none⟩ = some (.slice (some ⟨z, 0, none⟩) P P)) ∧ Hid (OwnC w1.heap.size wy (some ⟨g, 0, none⟩) P P row) ∧ Hid (OutF go N wy) ∧ Hid (Ext w1 wy)) (fun x _ => P - (intOf x).toNat)
      case atStart => exact ⟨0, Nat.zero_le _, rfl, HA0, HB1, HD0, HF0, HE0⟩
      case round =>
        rename World => wy
        clear HA0 HB1 HD0 HF0 HE0
        obtain ⟨n, hn, rfl, HA, HC, HD2, HF, HE2⟩ := hrel
        by_cases hnp : n < P
        · have hmc := HD2.out.cell (j := n) hnp
          obtain ⟨r, hr⟩ : ∃ r, r = nth row n := ⟨_, rfl⟩
          have hrb : 0 ≤ r ∧ r ≤ B := by rw [hr]; exact HB.out n hnp
          have HRR := Lib.hid hr
          rw [← hr] at hmc
          clear hr
          have hs0 := (G1.out.trans HE2.out).cell HS0.out
          have hnp' : (n : Int) < (P : Int) := by omega
          go_wp2_with (fail)
          clear hs0 hmc
          go_loopw [54] (fun x wx => ∃ (q : Nat), q ≤ P ∧ x = .int .i64 q ∧ Hid (OwnC wr.heap.size wx (some ⟨z, 0, none⟩) P P (ptL P sq row n q)) ∧ Hid (wx.cell? ⟨go, i, none⟩ = some (.slice (some ⟨z, 0, none⟩) P P)) ∧ Hid (OwnC w1.heap.size wx (some ⟨g, 0, none⟩) P P row) ∧ Hid (OutF go N wx) ∧ Hid (Ext w1 wx)) (fun x _ => P - (intOf x).toNat)
          case atStart => exact ⟨0, Nat.zero_le _, rfl, HA, HC, HD2, HF, HE2⟩
          case round =>
            rename World => wx
            clear HA HC HD2 HF HE2
            obtain ⟨q, hq, rfl, HA, HC, HD2, HF, HE2⟩ := hrel
            by_cases hqp : q < P
            · have hqp' : (q : Int) < (P : Int) := by omega
              have hm0 : 0 ≤ sq * (q : Int) := Int.mul_nonneg hsb.1 (by omega)
              have hm1 : sq * (q : Int) ≤ 13 * 13 := Int.mul_le_mul (by omega) (by omega) (by omega) (by omega)
              have hm2 : 0 ≤ sq * (q : Int) * q := Int.mul_nonneg hm0 (by omega)
              have hm3 : sq * (q : Int) * q ≤ 13 * 13 * 13 := Int.mul_le_mul hm1 (by omega) (by omega) (by omega)
              obtain ⟨m1, hm1e⟩ : ∃ m, m = sq * (q : Int) := ⟨_, rfl⟩
              obtain ⟨m2, hm2e⟩ : ∃ m, m = m1 * (q : Int) := ⟨_, rfl⟩
              obtain ⟨m3, hm3e⟩ : ∃ m, m = (n : Int) + m2 := ⟨_, rfl⟩
              have hw1 : IntKind.i64.wrap (sq * (q : Int)) = m1 := by rw [hm1e]; exact IntWalk.i64_in _ (by omega)
              rw [← hm1e] at hm2 hm3
              have hw2 : IntKind.i64.wrap (m1 * (q : Int)) = m2 := by rw [hm2e]; exact IntWalk.i64_in _ (by omega)
              rw [← hm2e] at hm2 hm3
              have hw3 : IntKind.i64.wrap ((n : Int) + m2) = m3 := by rw [hm3e]; exact IntWalk.i64_in _ (by omega)
              obtain ⟨t, ht⟩ : ∃ t : Nat, (t : Int) = m3 % (P : Int) := ⟨(m3 % (P : Int)).toNat, by rw [Int.toNat_of_nonneg (Int.emod_nonneg _ (by omega))]⟩
              have htP : t < P := by have := Int.emod_lt_of_pos m3 (show (0 : Int) < P by omega); omega
              have HT := Lib.hid (show ((n : Int) + sq * ((q : Int) * q)) % (P : Int) = (t : Int) by rw [ht, hm3e, hm2e, hm1e, Int.mul_assoc])
              have HTT := Lib.hid ht
              obtain ⟨v, hv⟩ : ∃ v, v = nth (ptL P sq row n q) t := ⟨_, rfl⟩
              have hvb : 0 ≤ v ∧ v ≤ 169 * B := by
                rw [hv, ptL_nth htP]
                have h := ptN_bd (P := P) (s := sq) (row := row) (B := B) (by omega) HB.out (i := n) (k := q) (j := t) (by omega) (.inr hnp)
                have h1 : ((n * P + q : Nat) : Int) ≤ 169 := by
                  have : n * P + q ≤ 12 * 13 + 13 := Nat.add_le_add (Nat.mul_le_mul (by omega) (by omega)) (by omega)
                  omega
                have h2 : ((n * P + q : Nat) : Int) * B ≤ 169 * B := Int.mul_le_mul_of_nonneg_right h1 (by omega)
                omega
              have hw4 : IntKind.i64.wrap (v + r) = v + r := IntWalk.i64_in _ (by omega)
              have HV := Lib.hid hv
              clear hm0 hm1 hm2 hm3 hm1e hm2e hm3e ht hv
              go_wp2_with (fail)
              obtain ⟨J, hJ⟩ : ∃ J : World → Prop, J = (fun w' => w'.cell? ⟨go, i, none⟩ = some (.slice (some ⟨z, 0, none⟩) P P) ∧ w'.cell? ⟨w.heap.size, 0, none⟩ = some (.int .i64 (P : Int)) ∧ w'.cell? ⟨w.heap.size, 1, none⟩ = some (.slice a d cap) ∧ w'.cell? ⟨gd, i, none⟩ = some (.int .i64 sq) ∧ w'.frozen? ⟨z, t, none⟩ = false) := ⟨_, rfl⟩
              have HJ : Hid (∀ w', Ext wx.drew w' → J w') := Lib.hid (fun w' he => by
                have hx := (ext_drew wx).trans he
                rw [hJ]
                exact ⟨hx.cell HC.out, hx.cell ((G1.out.trans HE2.out).cell HS0.out), hx.cell ((G1.out.trans HE2.out).cell HS1.out), hx.cell (HE2.out.cell (by rw [HSQ.out]; exact HD.out.cell (by omega))), (HA.out.ext hx).frozen t⟩)
              have HJ2 : Hid (∀ w', J w' → w'.cell? ⟨go, i, none⟩ = some (.slice (some ⟨z, 0, none⟩) P P) ∧ w'.cell? ⟨w.heap.size, 0, none⟩ = some (.int .i64 (P : Int)) ∧ w'.cell? ⟨w.heap.size, 1, none⟩ = some (.slice a d cap) ∧ w'.cell? ⟨gd, i, none⟩ = some (.int .i64 sq) ∧ w'.frozen? ⟨z, t, none⟩ = false) := Lib.hid (fun w' h => by rw [hJ] at h; exact h)
              have HJK : Hid (∀ w', (w'.cell? ⟨go, i, none⟩ = some (.slice (some ⟨z, 0, none⟩) P P) ∧ w'.cell? ⟨w.heap.size, 0, none⟩ = some (.int .i64 (P : Int)) ∧ w'.cell? ⟨w.heap.size, 1, none⟩ = some (.slice a d cap) ∧ w'.cell? ⟨gd, i, none⟩ = some (.int .i64 sq) ∧ w'.frozen? ⟨z, t, none⟩ = false) → J w') := Lib.hid (fun w' h => by rw [hJ]; exact h)
              clear hJ
              have hiNd : (i : Int) < (N : Int) := by omega
              have htPi : (t : Int) < (P : Int) := by omega
              have HP13 := Lib.hid hP
              refine wp_region_plan [(true, 0), (true, 1), (true, 2), (true, 3), (true, 4), (true, 6), (true, 7), (true, 8), (true, 9), (true, 10), (true, 11), (true, 12), (true, 13), (true, 14), (true, 15), (true, 19), (false, 5), (false, 16), (true, 17), (false, 18), (true, 20), (true, 21), (false, 22)] J (by kernel_rfl) (by kernel_rfl) ?_
              refine PlanW.float (v := ?_) (some 57) rfl rfl rfl (fun w' hI => ?_) ?_
              rotate_left
              · obtain ⟨x0, x1, x2, x3, x5⟩ := HJ2.out w' hI; go_simp; rfl
              simp only [Act.put, List.setIfInBounds_toArray, List.set_cons_zero, List.set_cons_succ]
              refine PlanW.float (v := ?_) (some 58) rfl rfl rfl (fun w' hI => ?_) ?_
              rotate_left
              · obtain ⟨x0, x1, x2, x3, x5⟩ := HJ2.out w' hI; go_simp; rfl
              simp only [Act.put, List.setIfInBounds_toArray, List.set_cons_zero, List.set_cons_succ]
              refine PlanW.float (v := ?_) (some 59) rfl rfl rfl (fun w' hI => ?_) ?_
              rotate_left
              · obtain ⟨x0, x1, x2, x3, x5⟩ := HJ2.out w' hI; go_simp; rfl
              simp only [Act.put, List.setIfInBounds_toArray, List.set_cons_zero, List.set_cons_succ]
              refine PlanW.float (v := ?_) (some 60) rfl rfl rfl (fun w' hI => ?_) ?_
              rotate_left
              · obtain ⟨x0, x1, x2, x3, x5⟩ := HJ2.out w' hI; go_simp; rfl
              simp only [Act.put, List.setIfInBounds_toArray, List.set_cons_zero, List.set_cons_succ]
              refine PlanW.float (v := ?_) (some 61) rfl rfl rfl (fun w' hI => ?_) ?_
              rotate_left
              · obtain ⟨x0, x1, x2, x3, x5⟩ := HJ2.out w' hI; go_simp; rfl
              simp only [Act.put, List.setIfInBounds_toArray, List.set_cons_zero, List.set_cons_succ]
              refine PlanW.float (v := ?_) (some 63) rfl rfl rfl (fun w' hI => ?_) ?_
              rotate_left
              · obtain ⟨x0, x1, x2, x3, x5⟩ := HJ2.out w' hI; go_simp; rfl
              simp only [Act.put, List.setIfInBounds_toArray, List.set_cons_zero, List.set_cons_succ]
              refine PlanW.float (v := ?_) (some 64) rfl rfl rfl (fun w' hI => ?_) ?_
              rotate_left
              · obtain ⟨x0, x1, x2, x3, x5⟩ := HJ2.out w' hI; go_simp; rfl
              simp only [Act.put, List.setIfInBounds_toArray, List.set_cons_zero, List.set_cons_succ]
              refine PlanW.float (v := ?_) (some 65) rfl rfl rfl (fun w' hI => ?_) ?_
              rotate_left
              · obtain ⟨x0, x1, x2, x3, x5⟩ := HJ2.out w' hI; go_simp; rfl
              simp only [Act.put, List.setIfInBounds_toArray, List.set_cons_zero, List.set_cons_succ]
              refine PlanW.float (v := ?_) (some 66) rfl rfl rfl (fun w' hI => ?_) ?_
              rotate_left
              · obtain ⟨x0, x1, x2, x3, x5⟩ := HJ2.out w' hI; go_simp; rfl
              simp only [Act.put, List.setIfInBounds_toArray, List.set_cons_zero, List.set_cons_succ]
              refine PlanW.float (v := ?_) (some 67) rfl rfl rfl (fun w' hI => ?_) ?_
              rotate_left
              · obtain ⟨x0, x1, x2, x3, x5⟩ := HJ2.out w' hI; go_simp; rfl
              simp only [Act.put, List.setIfInBounds_toArray, List.set_cons_zero, List.set_cons_succ]
              refine PlanW.float (v := ?_) (some 68) rfl rfl rfl (fun w' hI => ?_) ?_
              rotate_left
              · obtain ⟨x0, x1, x2, x3, x5⟩ := HJ2.out w' hI; go_simp; rfl
              simp only [Act.put, List.setIfInBounds_toArray, List.set_cons_zero, List.set_cons_succ]
              refine PlanW.float (v := ?_) (some 69) rfl rfl rfl (fun w' hI => ?_) ?_
              rotate_left
              · obtain ⟨x0, x1, x2, x3, x5⟩ := HJ2.out w' hI; go_simp; rfl
              simp only [Act.put, List.setIfInBounds_toArray, List.set_cons_zero, List.set_cons_succ]
              refine PlanW.float (v := ?_) (some 70) rfl rfl rfl (fun w' hI => ?_) ?_
              rotate_left
              · obtain ⟨x0, x1, x2, x3, x5⟩ := HJ2.out w' hI; go_simp; rfl
              simp only [Act.put, List.setIfInBounds_toArray, List.set_cons_zero, List.set_cons_succ]
              refine PlanW.float (v := ?_) (some 71) rfl rfl rfl (fun w' hI => ?_) ?_
              rotate_left
              · obtain ⟨x0, x1, x2, x3, x5⟩ := HJ2.out w' hI; go_simp; rfl
              simp only [Act.put, List.setIfInBounds_toArray, List.set_cons_zero, List.set_cons_succ]
              refine PlanW.float (v := ?_) (some 72) rfl rfl rfl (fun w' hI => ?_) ?_
              rotate_left
              · obtain ⟨x0, x1, x2, x3, x5⟩ := HJ2.out w' hI; go_simp; rfl
              simp only [Act.put, List.setIfInBounds_toArray, List.set_cons_zero, List.set_cons_succ]
              refine PlanW.float (v := ?_) (some 76) rfl rfl rfl (fun w' hI => ?_) ?_
              rotate_left
              · obtain ⟨x0, x1, x2, x3, x5⟩ := HJ2.out w' hI; go_simp; rfl
              simp only [Act.put, List.setIfInBounds_toArray, List.set_cons_zero, List.set_cons_succ]
              refine PlanW.call (f := ?_) (args := ?_) (R := fun v w' => v = .int .i64 (P : Int) ∧ Ext wx.drew w') (some 62) (HJ.out _ (Ext.refl wx.drew)) rfl rfl rfl ?_ ?_ ?_
              rotate_left 2
              · go_simp; refine ⟨?_, ?_⟩ <;> rfl
              · refine Calls.mono (c_dfield (P : Int) (.slice a d cap) _) ?_
                rintro e w9 ⟨rfl, x9⟩
                exact ⟨_, rfl, rfl, (Ext.refl wx.drew).trans x9⟩
              rintro v9 wa ⟨rfl, gwa⟩
              simp only [Act.put, List.setIfInBounds_toArray, List.set_cons_zero, List.set_cons_succ]
              refine PlanW.call (f := ?_) (args := ?_) (R := fun v w' => v = .int .i64 (t : Int) ∧ Ext wx.drew w') (some 73) (HJ.out _ gwa) rfl rfl rfl ?_ ?_ ?_
              rotate_left 2
              · go_simp; refine ⟨?_, ?_⟩ <;> rfl
              · refine Calls.mono (c_num (P : Int) m3 _ (by omega) (by omega)) ?_
                rintro e w9 ⟨rfl, x9⟩
                exact ⟨_, rfl, by rw [HTT.out], gwa.trans x9⟩
              rintro v9 wb ⟨rfl, gwb⟩
              simp only [Act.put, List.setIfInBounds_toArray, List.set_cons_zero, List.set_cons_succ]
              refine PlanW.float (v := ?_) (some 74) rfl rfl rfl (fun w' hI => ?_) ?_
              rotate_left
              · obtain ⟨x0, x1, x2, x3, x5⟩ := HJ2.out w' hI; go_simp; rfl
              simp only [Act.put, List.setIfInBounds_toArray, List.set_cons_zero, List.set_cons_succ]
              have hzt : wb.cell? ⟨z, t, none⟩ = some (.int .i64 v) := by rw [HV.out]; exact (HA.out.ext ((ext_drew wx).trans gwb)).cell htP
              refine PlanW.value (v := ?_) (w' := wb) (some 75) (HJ.out _ gwb) rfl rfl rfl (?_) ?_
              rotate_left
              · go_simp; rfl
              simp only [Act.put, List.setIfInBounds_toArray, List.set_cons_zero, List.set_cons_succ]
              refine PlanW.float (v := ?_) (some 77) rfl rfl rfl (fun w' hI => ?_) ?_
              rotate_left
              · obtain ⟨x0, x1, x2, x3, x5⟩ := HJ2.out w' hI; go_simp; rfl
              simp only [Act.put, List.setIfInBounds_toArray, List.set_cons_zero, List.set_cons_succ]
              refine PlanW.float (v := ?_) (some 78) rfl rfl rfl (fun w' hI => ?_) ?_
              rotate_left
              · obtain ⟨x0, x1, x2, x3, x5⟩ := HJ2.out w' hI; go_simp; rfl
              simp only [Act.put, List.setIfInBounds_toArray, List.set_cons_zero, List.set_cons_succ]
              obtain ⟨x0, x1, x2, x3, x5⟩ := HJ2.out _ (HJ.out _ gwb)
              have HAW := Lib.hid (HA.out.ext ((ext_drew wx).trans gwb))
              obtain ⟨ws, hws⟩ : ∃ x, x = wb.setCell ⟨z, t, none⟩ (.int .i64 (v + r)) := ⟨_, rfl⟩
              have HXB := Lib.hid ((ext_drew wx).trans gwb)
              have HAS := Lib.hid (show OwnC wr.heap.size ws (some ⟨z, 0, none⟩) P P (ptL P sq row n (q + 1)) by rw [hws, ← ptL_step htP HT.out, ← HV.out, ← HRR.out]; exact HAW.out.store htP _)
              have HCS := Lib.hid (show ws.cell? ⟨go, i, none⟩ = some (.slice (some ⟨z, 0, none⟩) P P) by rw [hws]; exact (World.cell?_setCell_other _ _ _ _ (by simp)).trans x0)
              have HDS := Lib.hid (show OwnC w1.heap.size ws (some ⟨g, 0, none⟩) P P row by rw [hws]; exact (HD2.out.ext HXB.out).keep fun k hk => Below.heap_setCell _ _ _ _ (fun e => by cases hk; simp at e; omega))
              have HFS := Lib.hid (show OutF go N ws by rw [hws]; exact (HF.out.ext HXB.out).store)
              have HES := Lib.hid (show Ext w1 ws by rw [hws]; exact (HE2.out.trans HXB.out).setCell (by have := HE.out.size; simp; omega) _)
              have HJS := Lib.hid (HJ.out _ gwb)
              have HWS := Lib.hid hws
              clear hws
              refine PlanW.skip (w' := ws) HJS.out rfl rfl (by rw [HWS.out]; go_simp) ?_
              simp only [Act.put, List.setIfInBounds_toArray]
              refine ⟨?_, strictQ_normal ?_⟩
              · exact HJK.out ws ⟨HCS.out, (G1.out.trans HES.out).cell HS0.out, (G1.out.trans HES.out).cell HS1.out, HES.out.cell (by rw [HSQ.out]; exact HD.out.cell (by omega)), HAS.out.frozen t⟩
              go_wp2_with (fail)
              go_roundw
              case rel => exact ⟨q + 1, by omega, by go_num, HAS, HCS, HDS, HFS, HES⟩
              case measure => simp [intOf]; omega
            · obtain rfl : q = P := by omega
              go_wp2_with (fail)
              go_roundw
              case rel => exact ⟨n + 1, by omega, by go_num, Lib.hid (by rw [← ptL_row]; exact HA.out), HC, HD2, HF, HE2⟩
              case measure => simp [intOf]; omega
        · obtain rfl : n = P := by omega
          go_wp2_with (fail)
          go_roundw
          case rel =>
            refine ⟨i, z, by omega, ?_, by omega, HC, ?_, ?_, HF, HE2⟩
            · first | done | rfl | go_num
            · exact Lib.hid (by rw [HNX.out, ← ptL_end]; exact HA.out.mono HE.out.size)
            · refine Lib.hid fun j hj => ?_
              rw [HNX.out, ← ptL_end, ptL_nth hj]
              have h := ptN_bd (P := n) (s := sq) (row := row) (B := B) (by omega) HB.out (i := n) (k := 0) (j := j) (Nat.le_refl _) (.inl rfl)
              have h1 : ((n * n + 0 : Nat) : Int) ≤ 169 := by
                have : n * n ≤ 13 * 13 := Nat.mul_le_mul (by omega) (by omega)
                omega
              have h2 : ((n * n + 0 : Nat) : Int) * B ≤ 169 * B := Int.mul_le_mul_of_nonneg_right h1 (by omega)
              have h3 : (169 : Int) ^ (N - i) = 169 * B := by rw [HBE.out, show N - i = (N - (i + 1)) + 1 by omega, Int.pow_succ, Int.mul_comm]
              omega
          case measure => simp [intOf] <;> omega
end Go.Proofs.Ytcocbainookkcaa

/-
  CountOfNorm.
  No condition.
-/
namespace Go.Proofs.Ytcocbainookkcaa
set_option maxRecDepth 100000
open Go.RowKit

set_option maxHeartbeats 4000000 in
set_option maxRecDepth 100000 in
theorem c_CountOfNorm_ok (P N : Nat) (a : Option Addr) (d cap : Nat) (st : List Int) (c : Nat) (w : World) (hs : doubB (P : Int) st = true) (hN : N = 2 ^ d) (hN4 : N ≤ 4) (hcs : d ≤ cap) (hq : RdC w a d st) (hc : c < P) :
    Calls Try.prog 36 #[.agg #[.int .i64 (P : Int), .slice a d cap], .int .i64 (c : Int)] w fun e w' => e = .returned (.tuple #[.int .i64 (nth (ctB P ((List.replicate P 0).set 0 1) (diagL (P : Int) st d N N)) c), .int .i64 0]) ∧ Ext w w' := by
  have HSB := Lib.hid hs
  have HNE := Lib.hid hN
  have hcP : (c : Int) < (P : Int) := by omega
  have hn0 : (0 : Int) < (N : Int) + 1 := by omega
  clear hs hN
  obtain ⟨W, hW⟩ : ∃ W, W = w.alloc (.cells #[.int .i64 (P : Int), .slice a d cap] 52) := ⟨_, rfl⟩
  have E : Hid (Ext w W) := Lib.hid (by rw [hW]; exact ext_alloc _ _)
  have C0 : Hid (W.cell? ⟨w.heap.size, 0, none⟩ = some (.int .i64 (P : Int))) := Lib.hid (by rw [hW]; simp)
  have C1 : Hid (W.cell? ⟨w.heap.size, 1, none⟩ = some (.slice a d cap)) := Lib.hid (by rw [hW]; simp)
  have HZ : Hid (W.heap.size = w.heap.size + 1) := Lib.hid (by rw [hW]; simp)
  have HW := Lib.hid hW
  clear hW
  have HQ := Lib.hid (hq.ext E.out)
  clear hq
  go_enter Try.func36, Try.ntmps36
  have x00 := C0.out
  have x01 := C1.out
  go_wp2_with (fail)
  clear x00 x01
  rw [← HW.out]
  clear HW
  refine Calls.mono (c_checkNorm_ok (P : Int) a d cap st (c : Int) W HSB.out HQ.out (by omega) (by omega)) ?_
  rintro e v1 ⟨rfl, gg⟩
  replace E := Lib.hid (E.out.trans gg)
  replace HQ := Lib.hid (HQ.out.ext gg)
  replace C0 := Lib.hid (gg.cell (p := ⟨w.heap.size, 0, none⟩) C0.out)
  replace C1 := Lib.hid (gg.cell (p := ⟨w.heap.size, 1, none⟩) C1.out)
  clear gg
  have x00 := C0.out
  have x01 := C1.out
  go_wp2_with (fail)
  clear x00 x01
  refine Calls.mono (c_normCounts P N a d cap st v1 HSB.out HNE.out hN4 hcs HQ.out) ?_
  rintro e v2 ⟨go, rc, g, rfl, hg0, ho, gg⟩
  have HV := Lib.hid (ho.cell hc)
  have hcz := HV.out
  clear ho
  replace E := Lib.hid (E.out.trans gg)
  replace HQ := Lib.hid (HQ.out.ext gg)
  replace C0 := Lib.hid (gg.cell (p := ⟨w.heap.size, 0, none⟩) C0.out)
  replace C1 := Lib.hid (gg.cell (p := ⟨w.heap.size, 1, none⟩) C1.out)
  clear gg
  go_wp2_with (fail)
  go_ret2
  exact ⟨rfl, E.out⟩
end Go.Proofs.Ytcocbainookkcaa

/-
  What is known of the arguments of a law in memory, read off the form's own words.
  No condition.
-/
namespace Go.Proofs.Ytcocbainookkcaa
set_option maxRecDepth 100000
open Go.ChangeShapes Go.WideShapes Go.ChangeAt Go.RowKit Go.Joins

theorem own : ownKnob Try.prog.godebug = none := by kernel_rfl
theorem laidOut : laidOutB Try.prog = true := by kernel_rfl
theorem Try.cellsI : Try.prog.cellsOf 2 = 1 := by kernel_rfl
theorem Try.cellsR : Try.prog.cellsOf 24 = 1 := by kernel_rfl

theorem add_cell {w : World} {x : Addr} {i : Nat} {v v0 : Value} (h0 : w.cell? (x.add 0) = some v0) (h : w.cell? (x.add i) = some v) : ∃ b off, some x = some (⟨b, off, none⟩ : Addr) ∧ w.cell? ⟨b, off + i, none⟩ = some v := by
  obtain ⟨b, off, spot⟩ := x
  cases spot with
  | none =>
    refine ⟨b, off, rfl, ?_⟩
    unfold Addr.add at h
    split at h
    · rename_i hi; subst hi; exact h
    · exact h
  | some s =>
    simp only [World.cell?, Addr.add, if_true] at h0
    split at h0
    · simp at h0
    · cases h0

theorem read_cells {H : Type} {enc : TypeId × Value → H} {W : World} {fuel : Nat} {v : Value} {x : DataW H × List MemPlace}
    (hf : DataW.trod enc Try.prog W 0 (fun _ => true) true fuel 24 [v] = some x) : ∃ a n cap xs, v = .slice a n cap ∧ RdC W a n xs ∧ n ≤ maxLen := by
  rcases open_ints Try.underlying24 Try.underlying2 Try.cellsI hf with ⟨hcs, _⟩ | ⟨y, l, c, zs, hcs, _, hl, hm, hz, _, hcell, hwz⟩
  · simp only [List.cons.injEq, and_true] at hcs
    exact ⟨none, 0, 0, [], hcs, ⟨rfl, fun i hi => by omega⟩, by omega⟩
  · simp only [List.cons.injEq, and_true] at hcs
    have hz' : zs.length = c := by simpa using hz
    refine ⟨some y, l, c, zs.take l, hcs, ⟨by simp; omega, fun i hi => ?_⟩, by omega⟩
    obtain ⟨b, off, h1, h2⟩ := add_cell (hcell 0 (by omega)) (hcell i (by omega))
    refine ⟨b, off, h1, ?_⟩
    rw [h2]
    simp [nth, List.getElem?_take_of_lt hi]

theorem read_ints {H : Type} {enc : TypeId × Value → H} {W : World} {base : Nat} {v : Value} {d : DataW H} {p : List MemPlace}
    (hv : Value.okWide Try.prog W .any base 24 v) (h : DataW.Trod enc Try.prog W 0 (fun _ => true) true 24 v d p) : ∃ a n cap xs, v = .slice a n cap ∧ RdC W a n xs ∧ n ≤ maxLen := by
  obtain ⟨a0, len0, cap0, rfl⟩ := okWide_slice Try.underlying24 hv
  obtain ⟨fuel, hf⟩ := h
  exact read_cells (by simpa [Value.cells] using hf)


end Go.Proofs.Ytcocbainookkcaa

/-
  What is known of the bytes that a law is handed.
  No condition.
-/
namespace Go.Proofs.Ytcocbainookkcaa
set_option maxRecDepth 100000
open Go.ChangeShapes Go.WideShapes Go.ChangeAt Go.RowKit Go.Joins

theorem Try.cellsB : Try.prog.cellsOf 5 = 1 := by kernel_rfl

theorem read_bytes {H : Type} {enc : TypeId × Value → H} {W : World} {base : Nat} {v : Value} {d : DataW H} {p : List MemPlace}
    (hv : Value.okWide Try.prog W .any base 22 v) (h : DataW.Trod enc Try.prog W 0 (fun _ => true) true 22 v d p) : ∃ a n cap, v = .slice a n cap ∧ RdY W a n := by
  obtain ⟨a0, len0, cap0, rfl⟩ := okWide_slice Try.underlying22 hv
  obtain ⟨fuel, hf⟩ := h
  have hf' : DataW.trod enc Try.prog W 0 (fun _ => true) true fuel 22 [.slice a0 len0 cap0] = some (d, p) := by simpa [Value.cells] using hf
  rcases open_ints Try.underlying22 Try.underlying5 Try.cellsB hf' with ⟨hcs, _⟩ | ⟨y, l, c, zs, hcs, _, hl, hm, hz, _, hcell, hwz⟩
  · simp only [List.cons.injEq, and_true] at hcs
    exact ⟨none, 0, 0, hcs, fun i hi => by omega⟩
  · simp only [List.cons.injEq, and_true] at hcs
    have hz' : zs.length = c := by simpa using hz
    refine ⟨some y, l, c, hcs, fun i hi => ?_⟩
    obtain ⟨b, off, h1, h2⟩ := add_cell (hcell 0 (by omega)) (hcell i (by omega))
    have hi' : i < zs.length := by omega
    have hw := hwz (zs.getD i 0) (by rw [List.getD_eq_getElem?_getD, List.getElem?_eq_getElem hi']; exact List.getElem_mem hi')
    refine ⟨b, off, zs.getD i 0, h1, h2, ?_⟩
    replace hw : (decide (IntKind.u8.min ≤ zs.getD i 0) && decide (zs.getD i 0 ≤ IntKind.u8.max)) = true := hw
    have h8 : IntKind.u8.min = 0 ∧ IntKind.u8.max = 255 := by decide
    rw [h8.1, h8.2] at hw
    simp only [Bool.and_eq_true, decide_eq_true_eq] at hw
    omega
end Go.Proofs.Ytcocbainookkcaa
