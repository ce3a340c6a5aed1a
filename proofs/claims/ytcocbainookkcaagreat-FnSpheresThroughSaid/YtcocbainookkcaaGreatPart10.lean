/-
  Contracts and plain laws, part 10: Sph, Det, Top5D, ThruP, ThruQ, ThruC, ThruD, FloatE, FloatF, ListV, DrawV, DrawP, Draw18, DrawL.
  No condition.
-/
import Derived.Test.YtcocbainookkcaaGreatPart8
import Derived.Test.YtcocbainookkcaaGreatPart9
import Derived.Test.YtcocbainookkcaaGreatPart3
import Derived.Test.YtcocbainookkcaaGreatPart6
import Derived.Test.YtcocbainookkcaaGreatPart7
import Derived.Test.YtcocbainookkcaaGreatPart2
import Derived.Test.YtcocbainookkcaaGreatPart5
import Derived.Test.YtcocbainookkcaaGreatPart4
/-
  The listed function SphereThrough.
  No condition.
-/
namespace Go.Proofs.YtcocbainookkcaaGreat
set_option maxRecDepth 100000
open Go.RowKit

/-- The vectors of the extension that are orthogonal to the points. -/
def sphK (p : Int) (qs : List Int) (vs : List (List Int)) : List (List Int) := kernL p (qs.length + 2) (wtsL p (extL p qs) (pointsL p qs vs vs.length) (qs.length + 2) vs.length)
def codeSp (p : Int) (qs : List Int) (vs : List (List Int)) : Int := if code18L p qs vs = 0 then (if (sphK p qs vs).length = 1 then 0 else 5) else code18L p qs vs
def sphL (p : Int) (qs : List Int) (vs : List (List Int)) : List Int := nthR (sphK p qs vs) 0
theorem sp_code {p : Int} {qs : List Int} {vs : List (List Int)} (h : code18L p qs vs ≠ 0) : codeSp p qs vs = code18L p qs vs := by unfold codeSp; rw [if_neg h]
theorem sp_many {p : Int} {qs : List Int} {vs : List (List Int)} (h : code18L p qs vs = 0) (h1 : (sphK p qs vs).length ≠ 1) : codeSp p qs vs = 5 := by unfold codeSp; rw [if_pos h, if_neg h1]
theorem sp_ok {p : Int} {qs : List Int} {vs : List (List Int)} (h : code18L p qs vs = 0) (h1 : (sphK p qs vs).length = 1) : codeSp p qs vs = 0 := by unfold codeSp; rw [if_pos h, if_pos h1]
theorem sp_zero {p : Int} {qs : List Int} {vs : List (List Int)} (h : codeSp p qs vs = 0) : code18L p qs vs = 0 ∧ (sphK p qs vs).length = 1 := by
  by_cases h0 : code18L p qs vs = 0
  · by_cases h1 : (sphK p qs vs).length = 1
    · exact ⟨h0, h1⟩
    · rw [sp_many h0 h1] at h; cases h
  · rw [sp_code h0] at h; exact absurd h h0
theorem sphL_good {p : Int} {qs : List Int} {vs : List (List Int)} (hp : primeB p = true) (h : (sphK p qs vs).length = 1) : Good p (qs.length + 2) (sphL p qs vs) :=
  (kernL_cnt (n := qs.length + 2) (rows := wtsL p (extL p qs) (pointsL p qs vs vs.length) (qs.length + 2) vs.length) hp).2 0 (by unfold sphK at h; omega)

theorem ret_pairS {x y : Int} (h : x = y) : Ending.returned (.tuple #[.slice none 0 0, .int .i64 x]) = .returned (.tuple #[.slice none 0 0, .int .i64 y]) := by rw [h]
/-- An empty slice. -/
def SPred.emptyI : SPred := ⟨fun v _ => ∃ g, v = .slice (some ⟨g, 0, none⟩) 0 0, fun _ _ _ h _ => h⟩
theorem append_emptyI (w : World) (b : Addr) (t : Addr) (v : Value) (c : Nat) (ty : TypeId) (hc : w.cell? (t.add 0) = some v) :
    (Builtin.append_ #[24, 24] ty #[.slice (some b) 0 0, .slice (some t) 1 c]).run Tryz.prog w =
    (Builtin.append_ #[24, 24] ty #[.slice none 0 0, .slice (some t) 1 c]).run Tryz.prog w := by
  obtain ⟨i0, hi, hz0, hz1, hz2⟩ := info_parts Tryz.infoI
  have hn : ∀ j u, [v][j]? = some u → w.cell? (t.add j) = some u := fun j u hj => by
    cases j with
    | zero => simp only [List.getElem?_cons_zero, Option.some.injEq] at hj; subst hj; exact hc
    | succ j => simp at hj
  have e : Builtin.nextslicecap (0 + 1) 0 * i0.bytes ≤ 281474976710656 := by
    rw [hz2]; decide
  rw [run_append_grow (P := Tryz.prog) w 24 ty 2 i0 (.int .i64 0) Tryz.underlying24 hi hz0 b 0 0 [] (by simp) (fun j u hj => by simp at hj) t 1 c [v] (by simp [hz1]) hn (by omega) (by omega) e,
    run_append_nil (P := Tryz.prog) w 24 ty 2 i0 (.int .i64 0) Tryz.underlying24 hi hz0 t 1 c [v] (by simp [hz1]) hn (by omega) (by omega) (by rw [hz2]; omega)]
  simp
/-- An own row, or the empty one that was made at the start. -/
def OwnCW (B : Nat) (w : World) (a : Option Addr) (n cap : Nat) (xs : List Int) : Prop :=
  (n = 0 ∧ cap = 0 ∧ xs = [] ∧ ∃ g, a = some ⟨g, 0, none⟩) ∨ OwnC B w a n cap xs
theorem OwnCW.ext {B : Nat} {w w' : World} {a : Option Addr} {n cap : Nat} {xs : List Int} (h : OwnCW B w a n cap xs) (he : Ext w w') : OwnCW B w' a n cap xs := by
  rcases h with h | h
  · exact .inl h
  · exact .inr (h.ext he)
theorem wpList_pushCW {ops : Array Oper} {rest : List Oper} {o : Oper} {a : Act} {Q : Exit → Act → World → Prop} {w : World} (hgd : o.guard = none) (s x : Operand)
    (ho : o.op = .call { callee := .builtin .append, args := #[s, x], argTypes := #[24, 24] })
    {B : Nat} {ra : Option Addr} {n cap : Nat} {xs : List Int} {v : Int} {g : Nat} (hs : a.eval s = .slice ra n cap) (hx : a.eval x = .slice (some ⟨g, 0, none⟩) 1 1)
    (hown : OwnCW B w ra n cap xs) (hc : w.cell? ⟨g, 0, none⟩ = some (.int .i64 v)) (hn : n ≤ 4194304) (hB : B ≤ w.heap.size)
    (h : ∀ g' cap' w', OwnC B w' (some ⟨g', 0, none⟩) (n + 1) cap' (xs ++ [v]) → (∀ W : World, W.heap.size ≤ B → Ext W w → Ext W w') →
      wpList Tryz.prog ops Q rest (a.put o.dst (.slice (some ⟨g', 0, none⟩) (n + 1) cap')) w') : wpList Tryz.prog ops Q (o :: rest) a w := by
  refine wpList_plain hgd fun K hK => ?_
  have hrun : ∃ g' cap' w', (Builtin.append_ #[24, 24] o.type #[.slice ra n cap, .slice (some ⟨g, 0, none⟩) 1 1]).run Tryz.prog w = .ok (.slice (some ⟨g', 0, none⟩) (n + 1) cap') w' ∧
      OwnC B w' (some ⟨g', 0, none⟩) (n + 1) cap' (xs ++ [v]) ∧ (∀ W : World, W.heap.size ≤ B → Ext W w → Ext W w') := by
    rcases hown with ⟨rfl, rfl, rfl, g0, rfl⟩ | hown
    · obtain ⟨g', cap', w', h1, h2, _, h4⟩ := run_push (own_nil B w) hc hn hB o.type
      exact ⟨g', cap', w', by rw [append_emptyI w _ _ (.int .i64 v) 1 o.type (by simpa [Addr.add] using hc)]; exact h1, h2, h4⟩
    · obtain ⟨g', cap', w', h1, h2, _, h4⟩ := run_push hown hc hn hB o.type
      exact ⟨g', cap', w', h1, h2, h4⟩
  obtain ⟨g', cap', w', hr, h1, h3⟩ := hrun
  unfold Oper.wp execOp
  simp only [ho, resolve, invoke, builtin, Sem.run_bind, Sem.run_pure, Result.andThen_ok, List.map_toArray, List.map_cons, List.map_nil, hs, hx, hr]
  exact hK _ _ (h g' cap' w' h1 h3)
set_option maxHeartbeats 8000000 in
set_option maxRecDepth 100000 in
theorem c_SphereThrough_all (p : Int) (a : Option Addr) (d cap : Nat) (qs : List Int) (ax1 : Option Addr) (n1 cx1 : Nat) (xs1 : List (List Int)) (w : World) (hd : d ≤ 4194304) (hn1 : n1 ≤ 4194304) (hr1 : ∀ i, i < n1 → (nthR xs1 i).length ≤ 4194304) (hq : RdC w a d qs) (hx1 : RdR w ax1 n1 xs1) :
    Calls Tryz.prog 6 #[.agg #[.int .i64 p, .slice a d cap], .slice ax1 n1 cx1] w fun e w' => (codeSp p qs xs1 ≠ 0 ∧ e = .returned (.tuple #[.slice none 0 0, .int .i64 (codeSp p qs xs1)]) ∧ Ext w w') ∨
      (codeSp p qs xs1 = 0 ∧ ∃ ra rc, e = .returned (.tuple #[.slice ra (d + 2) rc, .int .i64 0]) ∧ OwnC w.heap.size w' ra (d + 2) rc (sphL p qs xs1) ∧ Ext w w') := by
  have HQ := Lib.hid hq
  have HX := Lib.hid hx1
  have Hr := Lib.hid hr1
  have HXL := Lib.hid hx1.1
  have HQL := Lib.hid hq.1
  clear hq hx1 hr1
  go_enter Tryz.func6, Tryz.ntmps6
  go_wp2_with (fail)
  refine Calls.mono (c_checkSome p a d cap qs ax1 n1 cx1 xs1 _ hd hn1 Hr.out (HQ.out.ext (ext_alloc _ _)) (HX.out.ext (ext_alloc _ _))) ?_
  rintro e w1 ⟨rfl, g1⟩
  have G1 := Lib.hid ((ext_alloc w (.cells #[.int .i64 p, .slice a d cap] 26)).trans g1)
  have s0 : w1.cell? ⟨w.heap.size, 0, none⟩ = some (.int .i64 p) := g1.cell (by simp)
  have s1 : w1.cell? ⟨w.heap.size, 1, none⟩ = some (.slice a d cap) := g1.cell (by simp)
  clear g1
  obtain ⟨cc, hcc⟩ : ∃ x, x = code18L p qs xs1 := ⟨_, rfl⟩
  rw [← hcc]
  by_cases hc : cc ≠ 0
  · have hcb : (cc != 0) = true := by simp [hc]
    have HC := Lib.hid ((sp_code (by rw [← hcc]; exact hc)).trans hcc.symm)
    clear hcc
    have HN := Lib.hid hc
    clear hc
    go_wp2_with (fail)
    go_ret2
    exact .inl ⟨by rw [HC.out]; exact HN.out, ret_pairS HC.out.symm, G1.out⟩
  obtain rfl : cc = 0 := by omega
  have HC := Lib.hid hcc.symm
  have hcb : ((0 : Int) != 0) = false := by simp
  obtain ⟨hc0, h16⟩ := code18L_zero hcc.symm
  obtain ⟨hs, h4, ha⟩ := code18_zero hc0
  obtain ⟨hpr, hd1, hd6, hqb⟩ := space_of hs
  have hpb := prime_bd hpr
  rw [HQL.out] at h4 ha hd1
  rw [HXL.out] at h16
  have HPR := Lib.hid hpr
  have HQB := Lib.hid hqb
  have HEB := Lib.hid (extL_isB (p := p) (by omega) hqb)
  have HG := Lib.hid (rows_good ha)
  have HLen := Lib.hid (show ∀ i, i < n1 → (nthR xs1 i).length = d from fun i hi => (HG.out i (by rw [HXL.out]; exact hi)).1)
  have HKD : Hid (sphK p qs xs1 = kernL p (d + 2) (wtsL p (extL p qs) (pointsL p qs xs1 n1) (d + 2) n1)) := Lib.hid (by unfold sphK; rw [HXL.out, HQL.out])
  have HPG := Lib.hid (pointsL_good (p := p) (vs := xs1) (k := n1) (show 1 ≤ p by omega) HQL.out)
  have Q0 := Lib.hid s0
  have Q1 := Lib.hid s1
  clear hcc hc hc0 hs ha hpr hqb s0 s1 hd6
  have hs0 := Q0.out
  have hs1 := Q1.out
  go_wp2_with (fail)
  clear hs0 hs1
  go_loopw [7, 20] (fun v i wr => ∃ (k g rc : Nat), k ≤ n1 ∧ i = .int .i64 k ∧ v = .slice (some ⟨g, 0, none⟩) k rc ∧ OwnW w1.heap.size wr (some ⟨g, 0, none⟩) k rc (pointsL p qs xs1 k) ∧ Ext w1 wr) (fun _ i _ => n1 - (intOf i).toNat)
  case atStart => exact ⟨0, _, _, Nat.zero_le _, rfl, rfl, OwnW.start _ _ _, ext_alloc _ _⟩
  case round =>
    obtain ⟨k, g, rc, hk, rfl, rfl, hown, hext⟩ := hrel
    have HOwn := Lib.hid hown
    have HExt := Lib.hid hext
    have hs0 := hext.cell Q0.out
    have hs1 := hext.cell Q1.out
    clear hown hext
    by_cases hlt : k < n1
    · obtain ⟨b, off, ak, ck, rfl, hc0, hrk⟩ := HX.out.2 k hlt
      rw [HLen.out k hlt] at hc0 hrk
      have hc0' := (G1.out.trans HExt.out).cell hc0
      have HRk := Lib.hid (hrk.ext (G1.out.trans HExt.out))
      have HGk := Lib.hid (HG.out k (by rw [HXL.out]; exact hlt))
      clear hc0 hrk
      go_wp2_with (first
        | (go_at_call 24; refine (c_point p a d cap qs ak ck (nthR xs1 k) _ hd1 h4 HPR.out (HQ.out.ext (G1.out.trans HExt.out)) HQB.out HRk.out HGk.out).mono ?_; rintro e w4 ⟨g4, r4, rfl, ho4, x4⟩; have HO4 := Lib.hid ho4; have X4 := Lib.hid x4; clear ho4 x4)
        | (at_builtin; refine wpList_pushRW (w0 := wr) rfl (.tmp 24) (.tmp 28) rfl rfl rfl HOwn.out (X4.out.trans (ext_alloc _ _)) (HO4.out.ext (ext_alloc _ _)) ?hc (by omega) HExt.out.size ?hk))
      case hc => exact cell_new _ _ rfl _ _
      case hk =>
        intro g' cap' w3 ho3 he3
        have HO3 := Lib.hid ho3
        have HE3 := Lib.hid (he3 w1 (Nat.le_refl _) ((HExt.out.trans X4.out).alloc _))
        clear ho3 he3 hs0 hs1 hc0'
        go_wp2_with (fail)
        go_roundw
        case rel => exact ⟨k + 1, g', cap', by omega, by go_num, rfl, by rw [pointsL_succ]; exact .inr HO3.out, HE3.out⟩
        case measure => simp [intOf]; omega
    · obtain rfl : k = n1 := by omega
      go_wp2_with (fail)
      refine Calls.mono (c_extended p a d cap qs _ hd1 (by omega) (by omega) (by omega) (HQ.out.ext (G1.out.trans HExt.out))) ?_
      rintro e w4 ⟨g4, r4, rfl, ho4, x4⟩
      have HO4 := Lib.hid ho4
      have X4 := Lib.hid x4
      clear ho4 x4 hs0 hs1
      go_wp2_with (fail)
      refine Calls.mono (c_orthogonal p _ (d + 2) r4 (extL p qs) _ k rc (pointsL p qs xs1 k) _ HPR.out (by omega) (by omega) (by omega) HO4.out.rd HEB.out (HOwn.out.rd.ext X4.out) HPG.out) ?_
      rintro e w5 ⟨g5, c5, rfl, ho5, x5⟩
      rw [← HKD.out] at ho5 ⊢
      have HO5 := Lib.hid (ho5.mono ((G1.out.trans HExt.out).trans X4.out).size)
      have HE5 := Lib.hid ((G1.out.trans HExt.out).trans (X4.out.trans x5))
      clear ho5 x5
      by_cases h1 : (sphK p qs xs1).length = 1
      · have HZ := Lib.hid (sp_ok HC.out h1)
        have HSG := Lib.hid (sphL_good HPR.out h1)
        rw [h1] at HO5 ⊢
        obtain ⟨ai, ci, hci, hoi⟩ := HO5.out.at (i := 0) (by omega)
        rw [show nthR (sphK p qs xs1) 0 = sphL p qs xs1 from rfl, HSG.out.1, HQL.out] at hci hoi
        have HOI := Lib.hid hoi
        clear h1 hoi
        go_wp2_with (fail)
        go_ret2
        exact .inr ⟨HZ.out, _, _, rfl, HOI.out, HE5.out⟩
      · have HZ := Lib.hid (sp_many HC.out h1)
        have h1i : ¬ (((sphK p qs xs1).length : Nat) : Int) = 1 := by omega
        have h1b : ((((sphK p qs xs1).length : Nat) : Int) != 1) = true := by simpa using h1i
        clear h1
        go_wp2_with (fail)
        go_ret2
        exact .inl ⟨by rw [HZ.out]; decide, ret_pairS HZ.out.symm, HE5.out⟩
set_option maxHeartbeats 8000000 in
set_option maxRecDepth 100000 in
theorem s_SphereThrough_all (p : Int) (a : Option Addr) (d cap : Nat) (qs : List Int) (ax1 : Option Addr) (n1 cx1 : Nat) (xs1 : List (List Int)) (w : World) (hd : d ≤ 4194304) (hn1 : n1 ≤ 4194304) (hr1 : ∀ i, i < n1 → (nthR xs1 i).length ≤ 4194304) (hq : RdC w a d qs) (hx1 : RdR w ax1 n1 xs1) :
    Calls Tryz.prog 7 #[.agg #[.int .i64 p, .slice a d cap], .slice ax1 n1 cx1] w fun e w' => (codeSp p qs xs1 ≠ 0 ∧ e = .returned (.tuple #[.slice none 0 0, .int .i64 (codeSp p qs xs1)]) ∧ Ext w w') ∨
      (codeSp p qs xs1 = 0 ∧ ∃ ra rc, e = .returned (.tuple #[.slice ra (d + 2) rc, .int .i64 0]) ∧ OwnC w.heap.size w' ra (d + 2) rc (sphL p qs xs1) ∧ Ext w w') := by
  have HQ := Lib.hid hq
  have HX := Lib.hid hx1
  have Hr := Lib.hid hr1
  have HXL := Lib.hid hx1.1
  have HQL := Lib.hid hq.1
  clear hq hx1 hr1
  go_enter Tryz.func7, Tryz.ntmps7
  go_wp2_with (fail)
  refine Calls.mono (s_code18L p a d cap qs ax1 n1 cx1 xs1 _ hd hn1 Hr.out (HQ.out.ext (ext_alloc _ _)) (HX.out.ext (ext_alloc _ _))) ?_
  rintro e w1 ⟨rfl, g1⟩
  have G1 := Lib.hid ((ext_alloc w (.cells #[.int .i64 p, .slice a d cap] 26)).trans g1)
  have s0 : w1.cell? ⟨w.heap.size, 0, none⟩ = some (.int .i64 p) := g1.cell (by simp)
  have s1 : w1.cell? ⟨w.heap.size, 1, none⟩ = some (.slice a d cap) := g1.cell (by simp)
  clear g1
  obtain ⟨cc, hcc⟩ : ∃ x, x = code18L p qs xs1 := ⟨_, rfl⟩
  rw [← hcc]
  by_cases hc : cc ≠ 0
  · have hcb : (cc != 0) = true := by simp [hc]
    have HC := Lib.hid ((sp_code (by rw [← hcc]; exact hc)).trans hcc.symm)
    clear hcc
    have HN := Lib.hid hc
    clear hc
    go_wp2_with (fail)
    go_ret2
    exact .inl ⟨by rw [HC.out]; exact HN.out, ret_pairS HC.out.symm, G1.out⟩
  obtain rfl : cc = 0 := by omega
  have HC := Lib.hid hcc.symm
  have hcb : ((0 : Int) != 0) = false := by simp
  obtain ⟨hc0, h16⟩ := code18L_zero hcc.symm
  obtain ⟨hs, h4, ha⟩ := code18_zero hc0
  obtain ⟨hpr, hd1, hd6, hqb⟩ := space_of hs
  have hpb := prime_bd hpr
  rw [HQL.out] at h4 ha hd1
  rw [HXL.out] at h16
  have HPR := Lib.hid hpr
  have HQB := Lib.hid hqb
  have HEB := Lib.hid (extL_isB (p := p) (by omega) hqb)
  have HG := Lib.hid (rows_good ha)
  have HLen := Lib.hid (show ∀ i, i < n1 → (nthR xs1 i).length = d from fun i hi => (HG.out i (by rw [HXL.out]; exact hi)).1)
  have HKD : Hid (sphK p qs xs1 = kernL p (d + 2) (wtsL p (extL p qs) (pointsL p qs xs1 n1) (d + 2) n1)) := Lib.hid (by unfold sphK; rw [HXL.out, HQL.out])
  have HPG := Lib.hid (pointsL_good (p := p) (vs := xs1) (k := n1) (show 1 ≤ p by omega) HQL.out)
  have Q0 := Lib.hid s0
  have Q1 := Lib.hid s1
  clear hcc hc hc0 hs ha hpr hqb s0 s1 hd6
  have hs0 := Q0.out
  have hs1 := Q1.out
  go_wp2_with (fail)
  clear hs0 hs1
  refine Calls.mono (s_extended p a d cap qs _ hd1 (by omega) (by omega) (by omega) (HQ.out.ext G1.out)) ?_
  rintro e w2 ⟨ge, re, rfl, ho2, x2⟩
  obtain ⟨D, hD⟩ : ∃ D, D = d + 2 := ⟨_, rfl⟩
  have hD1 : 0 < D := by omega
  have hD6 : D ≤ 6 := by omega
  rw [← hD] at ho2 HKD HPG ⊢
  have HD := Lib.hid hD
  have HDL : Hid (qs.length + 2 = D) := Lib.hid (by rw [HQL.out, hD])
  clear hD
  have HO2 := Lib.hid ho2
  have X2 := Lib.hid x2
  clear ho2 x2
  go_wp2_with (fail)
  obtain ⟨V, hV⟩ : ∃ V, V = w2.alloc (.cells #[] 24) := ⟨_, rfl⟩
  obtain ⟨W, hW⟩ : ∃ W, W = V.alloc (.cells #[.int .i64 p, .slice (some ⟨ge, 0, none⟩) D re] 26) := ⟨_, rfl⟩
  have gV : Ext w2 V := by rw [hV]; exact ext_alloc _ _
  have gW : Ext V W := by rw [hW]; exact ext_alloc _ _
  have hvz : V.heap.size = w2.heap.size + 1 := by rw [hV]; simp
  have O0 : Hid (W.cell? ⟨w2.heap.size + 1, 0, none⟩ = some (.int .i64 p)) := Lib.hid (by rw [hW, ← hvz]; simp)
  have O1 : Hid (W.cell? ⟨w2.heap.size + 1, 1, none⟩ = some (.slice (some ⟨ge, 0, none⟩) D re)) := Lib.hid (by rw [hW, ← hvz]; simp)
  have S0 := Lib.hid ((X2.out.trans (gV.trans gW)).cell Q0.out)
  have S1 := Lib.hid ((X2.out.trans (gV.trans gW)).cell Q1.out)
  have HOE := Lib.hid (HO2.out.ext (gV.trans gW))
  have GW := Lib.hid ((G1.out.trans X2.out).trans (gV.trans gW))
  have HEG := Lib.hid (good_isB HO2.out.1 HEB.out)
  rw [← hV, ← hW]
  clear hV hW gV gW hvz HO2 X2
  go_wp2_with (fail)
  go_loopw [8, 9] (fun v i wr => ∃ (k g rc : Nat), k ≤ n1 ∧ i = .int .i64 k ∧ v = .slice (some ⟨g, 0, none⟩) k rc ∧ OwnW W.heap.size wr (some ⟨g, 0, none⟩) k rc (wtsL p (extL p qs) (pointsL p qs xs1 n1) D k) ∧ Ext W wr) (fun _ i _ => n1 - (intOf i).toNat)
  case atStart => exact ⟨0, _, _, Nat.zero_le _, rfl, rfl, OwnW.start _ _ _, Ext.refl _⟩
  case round =>
    obtain ⟨k, g, rc, hk, rfl, rfl, hown, hext⟩ := hrel
    rename World => wr
    have HOwn := Lib.hid hown
    have HExt := Lib.hid hext
    clear hown hext
    by_cases hlt : k < n1
    · obtain ⟨b, off, ak, ck, rfl, hc0, hrk⟩ := HX.out.2 k hlt
      rw [HLen.out k hlt] at hc0 hrk
      have E0 := Lib.hid (HExt.out.trans (ext_drew wr))
      have GX := Lib.hid (GW.out.trans E0.out)
      have HCk := Lib.hid (GX.out.cell hc0)
      have HRk := Lib.hid hrk
      have HGk := Lib.hid (HG.out k (by rw [HXL.out]; exact hlt))
      have T0 := Lib.hid (E0.out.cell S0.out)
      have T1 := Lib.hid (E0.out.cell S1.out)
      obtain ⟨P, hP⟩ : ∃ P, P = pointL p qs (nthR xs1 k) := ⟨_, rfl⟩
      have HGP : Hid (Good p D P) := Lib.hid (by rw [hP, HD.out]; exact pointL_good (by omega) HQL.out)
      have HWS : Hid (wtsL p (extL p qs) (pointsL p qs xs1 n1) D (k + 1) = wtsL p (extL p qs) (pointsL p qs xs1 n1) D k ++ [wtL p (extL p qs) P D]) := Lib.hid (by rw [wtsL_succ, pointsL_nth hlt, hP])
      have HPT : Hid (∀ w1, Ext w w1 → Calls Tryz.prog 29 #[.agg #[.int .i64 p, .slice a d cap], .slice ak d ck] w1 fun e w' => ∃ g rc, e = .returned (.slice (some ⟨g, 0, none⟩) D rc) ∧ OwnC w1.heap.size w' (some ⟨g, 0, none⟩) D rc P ∧ Ext w1 w') := Lib.hid (fun w1 he => by
        rw [hP, HD.out]
        exact s_point p a d cap qs ak ck (nthR xs1 k) w1 hd1 h4 HPR.out (HQ.out.ext he) HQB.out (HRk.out.ext he) HGk.out)
      clear hc0 hrk hP
      go_wp2_with (fail)
      refine wp_region_lex [(5, .ownS w.heap.size D P), (6, .emptyI)] (by kernel_rfl) (by kernel_rfl) ?_
      (refine LexW.pure (v := ?_) rfl rfl (fun w1 he => ?_) ?_; rotate_left; ( have e1 := he.cell T0.out; have e2 := he.cell T1.out; have e3 := he.cell HCk.out; go_simp; rfl); simp only [Act.put, List.setIfInBounds_toArray, List.set_cons_zero, List.set_cons_succ])
      (refine LexW.pure (v := ?_) rfl rfl (fun w1 he => ?_) ?_; rotate_left; ( have e1 := he.cell T0.out; have e2 := he.cell T1.out; have e3 := he.cell HCk.out; go_simp; rfl); simp only [Act.put, List.setIfInBounds_toArray, List.set_cons_zero, List.set_cons_succ])
      (refine LexW.pure (v := ?_) rfl rfl (fun w1 he => ?_) ?_; rotate_left; ( have e1 := he.cell T0.out; have e2 := he.cell T1.out; have e3 := he.cell HCk.out; go_simp; rfl); simp only [Act.put, List.setIfInBounds_toArray, List.set_cons_zero, List.set_cons_succ])
      (refine LexW.pure (v := ?_) rfl rfl (fun w1 he => ?_) ?_; rotate_left; ( have e1 := he.cell T0.out; have e2 := he.cell T1.out; have e3 := he.cell HCk.out; go_simp; rfl); simp only [Act.put, List.setIfInBounds_toArray, List.set_cons_zero, List.set_cons_succ])
      (refine LexW.pure (v := ?_) rfl rfl (fun w1 he => ?_) ?_; rotate_left; ( have e1 := he.cell T0.out; have e2 := he.cell T1.out; have e3 := he.cell HCk.out; go_simp; rfl); simp only [Act.put, List.setIfInBounds_toArray, List.set_cons_zero, List.set_cons_succ])
      (refine LexW.callR (f := ?_) (args := ?_) rfl rfl (fun w1 => ?_) (fun w1 he hdep => ?_) (fun v hv => ?_); rotate_left 2; (go_simp; refine ⟨?_, ?_⟩ <;> rfl); ( refine (HPT.out w1 (GX.out.trans he)).mono ?_; rintro e w2 ⟨g, rc, rfl, ho, g2⟩; exact ⟨_, rfl, g2, g, rc, rfl, ho.mono (Nat.le_trans GX.out.size he.size)⟩); simp only [Act.put, List.setIfInBounds_toArray, List.set_cons_zero, List.set_cons_succ])
      obtain ⟨_, g34, c34, rfl, _⟩ := hv
      (refine LexW.rel rfl rfl (fun w1 he hdep => ?_) (fun v hv => ?_); ( exact ⟨.slice (some ⟨w1.heap.size, 0, none⟩) 0 0, w1.alloc (.cells #[] 2), (by go_simp), ext_alloc _ _, _, rfl⟩); simp only [Act.put, List.setIfInBounds_toArray, List.set_cons_zero, List.set_cons_succ])
      obtain ⟨_, g35, rfl⟩ := hv
      (refine LexW.pure (v := ?_) rfl rfl (fun w1 he => ?_) ?_; rotate_left; ( go_simp; rfl); simp only [Act.put, List.setIfInBounds_toArray, List.set_cons_zero, List.set_cons_succ])
      (refine LexW.pure (v := ?_) rfl rfl (fun w1 he => ?_) ?_; rotate_left; ( go_simp; rfl); simp only [Act.put, List.setIfInBounds_toArray, List.set_cons_zero, List.set_cons_succ])
      refine LexW.nil (fun w3 he hkn => ?_)
      obtain ⟨_, _, q34, r34⟩ : (SPred.ownS w.heap.size D P).holds (.slice (some ⟨g34, 0, none⟩) D c34) w3 := hkn (5, _) (by simp)
      cases q34
      have R34 := Lib.hid r34
      have E3 := Lib.hid ((ext_drew wr).trans he)
      have F0 := Lib.hid ((HExt.out.trans E3.out).cell S0.out)
      have F1 := Lib.hid ((HExt.out.trans E3.out).cell O1.out)
      have HOE3 := Lib.hid (HOE.out.ext (HExt.out.trans E3.out))
      clear he hkn r34 HPT T0 T1 HCk
      go_wp2_with (fail)
      go_loopw [11, 12] (fun v i wz => ∃ (j g rc : Nat), j ≤ D ∧ i = .int .i64 j ∧ v = .slice (some ⟨g, 0, none⟩) j rc ∧ Hid (OwnCW w3.heap.size wz (some ⟨g, 0, none⟩) j rc (wtL p (extL p qs) P j)) ∧ Hid (Ext w3 wz)) (fun _ i _ => D - (intOf i).toNat)
      case atStart => exact ⟨0, g35, 0, Nat.zero_le _, rfl, rfl, Lib.hid (.inl ⟨rfl, rfl, rfl, _, rfl⟩), Lib.hid (Ext.refl _)⟩
      case round =>
        obtain ⟨j, gj, cj, hj, rfl, rfl, HOz, HEz⟩ := hrel
        rename World => wz
        by_cases hlj : j < D
        · have D0 := Lib.hid ((HEz.out.trans (ext_drew wz)).cell F0.out)
          have D1 := Lib.hid ((HEz.out.trans (ext_drew wz)).cell F1.out)
          have D2 := Lib.hid ((HEz.out.trans (ext_drew wz)).cell (R34.out.cell hlj))
          have D3 := Lib.hid ((HEz.out.trans (ext_drew wz)).cell (HOE3.out.cell hlj))
          have hub := HGP.out.2 j hlj
          have hvb := HEG.out.2 j hlj
          obtain ⟨u, hu⟩ : ∃ u, u = nth P j := ⟨_, rfl⟩
          obtain ⟨v, hv⟩ : ∃ v, v = nth (extL p qs) j := ⟨_, rfl⟩
          rw [← hu] at D2 hub
          rw [← hv] at D3 hvb
          obtain ⟨M, hM⟩ : ∃ M, M = u * v := ⟨_, rfl⟩
          have hmb : 0 ≤ u * v ∧ u * v ≤ 144 := ⟨Int.mul_nonneg hub.1 hvb.1, Int.le_trans (Int.mul_le_mul (show u ≤ 12 by omega) (show v ≤ 12 by omega) hvb.1 (by omega)) (by omega)⟩
          have HM : Hid (IntKind.i64.wrap (u * v) = M) := Lib.hid (by rw [hM]; exact IntWalk.i64_in _ (by omega))
          obtain ⟨Z, hZ⟩ : ∃ Z, Z = M % p := ⟨_, rfl⟩
          have HMd : Hid (∀ w1, Calls Tryz.prog 30 #[.int .i64 p, .int .i64 M] w1 fun e w' => e = .returned (.int .i64 Z) ∧ Ext w1 w') := Lib.hid (fun w1 => by rw [hZ]; exact s_mod p M w1 (by omega) (by omega))
          have HWT : Hid (wtL p (extL p qs) P (j + 1) = wtL p (extL p qs) P j ++ [Z]) := Lib.hid (by rw [wtL_succ, wtN, hZ, hM, hu, hv])
          clear hu hv hM hZ hmb
          go_wp2_with (fail)
          refine wp_region_lex_tail 15 [(13, .val (.int .i64 Z)), (14, .one Z)] (by kernel_rfl) (by kernel_rfl) ?_
          simp only [List.take, List.drop]
          (refine LexW.pure (v := ?_) rfl rfl (fun w1 he => ?_) ?_; rotate_left; ( have e1 := he.cell D0.out; have e2 := he.cell D1.out; have e3 := he.cell D2.out; have e4 := he.cell D3.out; have e5 := HM.out; go_simp; rfl); simp only [Act.put, List.setIfInBounds_toArray, List.set_cons_zero, List.set_cons_succ])
          (refine LexW.pure (v := ?_) rfl rfl (fun w1 he => ?_) ?_; rotate_left; ( have e1 := he.cell D0.out; have e2 := he.cell D1.out; have e3 := he.cell D2.out; have e4 := he.cell D3.out; have e5 := HM.out; go_simp; rfl); simp only [Act.put, List.setIfInBounds_toArray, List.set_cons_zero, List.set_cons_succ])
          (refine LexW.pure (v := ?_) rfl rfl (fun w1 he => ?_) ?_; rotate_left; ( have e1 := he.cell D0.out; have e2 := he.cell D1.out; have e3 := he.cell D2.out; have e4 := he.cell D3.out; have e5 := HM.out; go_simp; rfl); simp only [Act.put, List.setIfInBounds_toArray, List.set_cons_zero, List.set_cons_succ])
          (refine LexW.pure (v := ?_) rfl rfl (fun w1 he => ?_) ?_; rotate_left; ( have e1 := he.cell D0.out; have e2 := he.cell D1.out; have e3 := he.cell D2.out; have e4 := he.cell D3.out; have e5 := HM.out; go_simp; rfl); simp only [Act.put, List.setIfInBounds_toArray, List.set_cons_zero, List.set_cons_succ])
          (refine LexW.pure (v := ?_) rfl rfl (fun w1 he => ?_) ?_; rotate_left; ( have e1 := he.cell D0.out; have e2 := he.cell D1.out; have e3 := he.cell D2.out; have e4 := he.cell D3.out; have e5 := HM.out; go_simp; rfl); simp only [Act.put, List.setIfInBounds_toArray, List.set_cons_zero, List.set_cons_succ])
          (refine LexW.pure (v := ?_) rfl rfl (fun w1 he => ?_) ?_; rotate_left; ( have e1 := he.cell D0.out; have e2 := he.cell D1.out; have e3 := he.cell D2.out; have e4 := he.cell D3.out; have e5 := HM.out; go_simp; rfl); simp only [Act.put, List.setIfInBounds_toArray, List.set_cons_zero, List.set_cons_succ])
          (refine LexW.pure (v := ?_) rfl rfl (fun w1 he => ?_) ?_; rotate_left; ( have e1 := he.cell D0.out; have e2 := he.cell D1.out; have e3 := he.cell D2.out; have e4 := he.cell D3.out; have e5 := HM.out; go_simp; rfl); simp only [Act.put, List.setIfInBounds_toArray, List.set_cons_zero, List.set_cons_succ])
          (refine LexW.pure (v := ?_) rfl rfl (fun w1 he => ?_) ?_; rotate_left; ( have e1 := he.cell D0.out; have e2 := he.cell D1.out; have e3 := he.cell D2.out; have e4 := he.cell D3.out; have e5 := HM.out; go_simp; rfl); simp only [Act.put, List.setIfInBounds_toArray, List.set_cons_zero, List.set_cons_succ])
          (refine LexW.pure (v := ?_) rfl rfl (fun w1 he => ?_) ?_; rotate_left; ( have e1 := he.cell D0.out; have e2 := he.cell D1.out; have e3 := he.cell D2.out; have e4 := he.cell D3.out; have e5 := HM.out; go_simp; rfl); simp only [Act.put, List.setIfInBounds_toArray, List.set_cons_zero, List.set_cons_succ])
          (refine LexW.pure (v := ?_) rfl rfl (fun w1 he => ?_) ?_; rotate_left; ( have e1 := he.cell D0.out; have e2 := he.cell D1.out; have e3 := he.cell D2.out; have e4 := he.cell D3.out; have e5 := HM.out; go_simp; rfl); simp only [Act.put, List.setIfInBounds_toArray, List.set_cons_zero, List.set_cons_succ])
          (refine LexW.pure (v := ?_) rfl rfl (fun w1 he => ?_) ?_; rotate_left; ( have e1 := he.cell D0.out; have e2 := he.cell D1.out; have e3 := he.cell D2.out; have e4 := he.cell D3.out; have e5 := HM.out; go_simp; rfl); simp only [Act.put, List.setIfInBounds_toArray, List.set_cons_zero, List.set_cons_succ])
          (refine LexW.pure (v := ?_) rfl rfl (fun w1 he => ?_) ?_; rotate_left; ( have e1 := he.cell D0.out; have e2 := he.cell D1.out; have e3 := he.cell D2.out; have e4 := he.cell D3.out; have e5 := HM.out; go_simp; rfl); simp only [Act.put, List.setIfInBounds_toArray, List.set_cons_zero, List.set_cons_succ])
          (refine LexW.pure (v := ?_) rfl rfl (fun w1 he => ?_) ?_; rotate_left; ( have e1 := he.cell D0.out; have e2 := he.cell D1.out; have e3 := he.cell D2.out; have e4 := he.cell D3.out; have e5 := HM.out; go_simp; rfl); simp only [Act.put, List.setIfInBounds_toArray, List.set_cons_zero, List.set_cons_succ])
          (refine LexW.call (f := ?_) (args := ?_) rfl rfl (fun w1 => ?_) (fun w1 he hdep => ?_) ?_; rotate_left 2; (go_simp; refine ⟨?_, ?_⟩ <;> rfl); ( exact HMd.out w1); simp only [Act.put, List.setIfInBounds_toArray, List.set_cons_zero, List.set_cons_succ])
          (refine LexW.rel rfl rfl (fun w1 he hdep => ?_) (fun v hv => ?_); ( exact ⟨.slice (some ⟨w1.heap.size, 0, none⟩) 1 1, w1.alloc (.cells #[.int .i64 Z] 2), (by go_simp), ext_alloc _ _, _, rfl, (by simp)⟩); simp only [Act.put, List.setIfInBounds_toArray, List.set_cons_zero, List.set_cons_succ])
          obtain ⟨_, g9, rfl, _⟩ := hv
          refine LexW.nil (fun w4 he hkn => ?_)
          obtain ⟨_, q9, r9⟩ : (SPred.one Z).holds (.slice (some ⟨g9, 0, none⟩) 1 1) w4 := hkn (14, _) (by simp)
          cases q9
          have G2 := Lib.hid ((ext_drew _).trans he)
          have R9 := Lib.hid r9
          clear he hkn r9
          go_wp2_with (at_builtin; refine wpList_pushCW rfl (.tmp 42) (.tmp 56) rfl rfl rfl (v := Z) (HOz.out.ext G2.out) ?hc (by omega) ?hB ?hk)
          case hc => exact R9.out
          case hB => exact (HEz.out.trans G2.out).size'
          case hk =>
            intro g' cap' w5 ho5 he5
            have HO5 := Lib.hid ho5
            have HE5 := Lib.hid (he5 w3 (Nat.le_refl _) (HEz.out.trans G2.out))
            clear ho5 he5
            go_wp2_with (fail)
            go_roundw
            case rel => exact ⟨j + 1, g', cap', by omega, by go_num, rfl, Lib.hid (by rw [HWT.out]; exact .inr HO5.out), HE5⟩
            case measure => simp [intOf]; omega
        · obtain rfl : j = D := by omega
          have HRW : Hid (OwnC wr.heap.size wz (some ⟨gj, 0, none⟩) j cj (wtL p (extL p qs) P j)) := Lib.hid (by
            rcases HOz.out with ⟨h, _⟩ | h
            · omega
            · exact h.mono E3.out.size)
          go_wp2_with (at_builtin; refine wpList_pushRW (w0 := wr) rfl (.tmp 58) (.tmp 60) rfl rfl rfl HOwn.out ((E3.out.trans HEz.out).trans (ext_alloc _ _)) (HRW.out.ext (ext_alloc _ _)) ?hc (by omega) HExt.out.size ?hk)
          case hc => exact cell_new _ _ rfl _ _
          case hk =>
            intro g' cap' w5 ho5 he5
            have HO5 := Lib.hid ho5
            have HE5 := Lib.hid (he5 W (Nat.le_refl _) ((HExt.out.trans (E3.out.trans HEz.out)).alloc _))
            clear ho5 he5
            go_wp2_with (fail)
            go_roundw
            case rel => exact ⟨k + 1, g', cap', by omega, by go_num, rfl, by rw [HWS.out]; exact .inr HO5.out, HE5.out⟩
            case measure => simp [intOf]; omega
    · obtain rfl : k = n1 := by omega
      have hs0 := HExt.out.cell S0.out
      have hs1 := HExt.out.cell O1.out
      go_wp2_with (fail)
      refine Calls.mono (s_kernel12 p D _ k rc (wtsL p (extL p qs) (pointsL p qs xs1 k) D k) _ HPR.out hD1 (by omega) (by omega) HOwn.out.rd (wtsL_good (by omega))) ?_
      rintro e w5 ⟨r5, c5, rfl, ho5, x5⟩
      rw [← HKD.out] at ho5 ⊢
      have HO5 := Lib.hid (ho5.mono (GW.out.trans HExt.out).size)
      have HE5 := Lib.hid ((GW.out.trans HExt.out).trans x5)
      clear ho5 x5 hs0 hs1
      by_cases h1 : (sphK p qs xs1).length = 1
      · have HZ := Lib.hid (sp_ok HC.out h1)
        have HSG := Lib.hid (sphL_good HPR.out h1)
        rw [h1] at HO5 ⊢
        obtain ⟨b5, o5, ai, ci, hax, hci, hoi⟩ := HO5.out.2 0 (by omega)
        cases hax
        rw [Nat.zero_add] at hci
        rw [show nthR (sphK p qs xs1) 0 = sphL p qs xs1 from rfl, HSG.out.1, HQL.out] at hci hoi
        have HOI := Lib.hid hoi
        clear h1 hoi
        go_wp2_with (fail)
        go_ret2
        exact .inr ⟨HZ.out, _, _, rfl, HOI.out, HE5.out⟩
      · have HZ := Lib.hid (sp_many HC.out h1)
        have h1i : ¬ (((sphK p qs xs1).length : Nat) : Int) = 1 := by omega
        have h1b : ((((sphK p qs xs1).length : Nat) : Int) != 1) = true := by simpa using h1i
        clear h1
        go_wp2_with (fail)
        go_ret2
        exact .inl ⟨by rw [HZ.out]; decide, ret_pairS HZ.out.symm, HE5.out⟩
theorem c_SphereThrough_bad (p : Int) (a : Option Addr) (d cap : Nat) (qs : List Int) (ax1 : Option Addr) (n1 cx1 : Nat) (xs1 : List (List Int)) (w : World) (hd : d ≤ 4194304) (hn1 : n1 ≤ 4194304) (hr1 : ∀ i, i < n1 → (nthR xs1 i).length ≤ 4194304) (hq : RdC w a d qs) (hx1 : RdR w ax1 n1 xs1) (hc : codeSp p qs xs1 ≠ 0) :
    Calls Tryz.prog 6 #[.agg #[.int .i64 p, .slice a d cap], .slice ax1 n1 cx1] w fun e w' => ∃ ra rc, e = .returned (.tuple #[.slice ra 0 rc, .int .i64 (codeSp p qs xs1)]) ∧ OwnC w.heap.size w' ra 0 rc [] ∧ Ext w w' := by
  refine (c_SphereThrough_all p a d cap qs ax1 n1 cx1 xs1 w hd hn1 hr1 hq hx1).mono ?_
  rintro e w' (⟨_, h2, h3⟩ | ⟨h1, _⟩)
  · exact ⟨_, _, h2, own_nil _ _, h3⟩
  · exact absurd h1 hc
theorem c_SphereThrough_ok (p : Int) (a : Option Addr) (d cap : Nat) (qs : List Int) (ax1 : Option Addr) (n1 cx1 : Nat) (xs1 : List (List Int)) (w : World) (hd : d ≤ 4194304) (hn1 : n1 ≤ 4194304) (hr1 : ∀ i, i < n1 → (nthR xs1 i).length ≤ 4194304) (hq : RdC w a d qs) (hx1 : RdR w ax1 n1 xs1) (hc : codeSp p qs xs1 = 0) :
    Calls Tryz.prog 6 #[.agg #[.int .i64 p, .slice a d cap], .slice ax1 n1 cx1] w fun e w' => ∃ ra rc, e = .returned (.tuple #[.slice ra (d + 2) rc, .int .i64 0]) ∧ OwnC w.heap.size w' ra (d + 2) rc (sphL p qs xs1) ∧ Ext w w' := by
  refine (c_SphereThrough_all p a d cap qs ax1 n1 cx1 xs1 w hd hn1 hr1 hq hx1).mono ?_
  rintro e w' (⟨h1, _⟩ | ⟨_, h2⟩)
  · exact absurd hc h1
  · exact h2
theorem s_SphereThrough_bad (p : Int) (a : Option Addr) (d cap : Nat) (qs : List Int) (ax1 : Option Addr) (n1 cx1 : Nat) (xs1 : List (List Int)) (w : World) (hd : d ≤ 4194304) (hn1 : n1 ≤ 4194304) (hr1 : ∀ i, i < n1 → (nthR xs1 i).length ≤ 4194304) (hq : RdC w a d qs) (hx1 : RdR w ax1 n1 xs1) (hc : codeSp p qs xs1 ≠ 0) :
    Calls Tryz.prog 7 #[.agg #[.int .i64 p, .slice a d cap], .slice ax1 n1 cx1] w fun e w' => ∃ ra rc, e = .returned (.tuple #[.slice ra 0 rc, .int .i64 (codeSp p qs xs1)]) ∧ OwnC w.heap.size w' ra 0 rc [] ∧ Ext w w' := by
  refine (s_SphereThrough_all p a d cap qs ax1 n1 cx1 xs1 w hd hn1 hr1 hq hx1).mono ?_
  rintro e w' (⟨_, h2, h3⟩ | ⟨h1, _⟩)
  · exact ⟨_, _, h2, own_nil _ _, h3⟩
  · exact absurd h1 hc
theorem s_SphereThrough_ok (p : Int) (a : Option Addr) (d cap : Nat) (qs : List Int) (ax1 : Option Addr) (n1 cx1 : Nat) (xs1 : List (List Int)) (w : World) (hd : d ≤ 4194304) (hn1 : n1 ≤ 4194304) (hr1 : ∀ i, i < n1 → (nthR xs1 i).length ≤ 4194304) (hq : RdC w a d qs) (hx1 : RdR w ax1 n1 xs1) (hc : codeSp p qs xs1 = 0) :
    Calls Tryz.prog 7 #[.agg #[.int .i64 p, .slice a d cap], .slice ax1 n1 cx1] w fun e w' => ∃ ra rc, e = .returned (.tuple #[.slice ra (d + 2) rc, .int .i64 0]) ∧ OwnC w.heap.size w' ra (d + 2) rc (sphL p qs xs1) ∧ Ext w w' := by
  refine (s_SphereThrough_all p a d cap qs ax1 n1 cx1 xs1 w hd hn1 hr1 hq hx1).mono ?_
  rintro e w' (⟨h1, _⟩ | ⟨_, h2⟩)
  · exact absurd hc h1
  · exact h2
end Go.Proofs.YtcocbainookkcaaGreat

/-
  Contract: the determinant in the program; Determinant.
  No condition.
-/
namespace Go.Proofs.YtcocbainookkcaaGreat
set_option maxRecDepth 100000
open Go.RowKit

theorem elimS_start {p : Int} {m k : Nat} {rows : List (List Int)} : ∀ r, r ≤ k + 1 → elimS p m k rows r = rows
  | 0, _ => rfl
  | r + 1, h => by rw [elimS, if_neg (by omega)]; exact elimS_start r (by omega)
theorem elimS_good {p : Int} {m k : Nat} {rows : List (List Int)} (hp : 1 ≤ p) (h : RowsG p m rows) : ∀ r, r ≤ rows.length → RowsG p m (elimS p m k rows r) := fun r hr i hi => by
  rw [elimS_len] at hi
  rw [elimS_nth r hr]
  split
  · unfold elimN
    split
    · exact plus_good hp
    · exact h i hi
  · exact h i hi
theorem swapL_same {rows : List (List Int)} {k : Nat} : swapL rows k k = rows := by
  unfold swapL
  rw [set_self, set_self]
theorem detS_none {p : Int} {m : Nat} {rows : List (List Int)} {k : Nat} (h : detS p m rows k = none) : ∀ j, detS p m rows (k + j) = none
  | 0 => h
  | j + 1 => by rw [← Nat.add_assoc, detS, detS_none h j]
theorem mul_small {p x y : Int} (hp : p ≤ 13) (hx0 : 0 ≤ x) (hx : x < p) (hy0 : 0 ≤ y) (hy : y < p) : 0 ≤ x * y ∧ x * y ≤ 144 := by
  refine ⟨Int.mul_nonneg hx0 hy0, ?_⟩
  have h1 : x * y ≤ 12 * y := Int.mul_le_mul_of_nonneg_right (by omega) hy0
  omega


end Go.Proofs.YtcocbainookkcaaGreat

/-
  The listed functions AreDependent and VolumeOf.
  No condition.
-/
namespace Go.Proofs.YtcocbainookkcaaGreat
set_option maxRecDepth 100000
open Go.RowKit

theorem basis_len {p : Int} {m : Nat} {rows : List (List Int)} (hp : primeB p = true) (hg : RowsG p m rows) : (basisL p m rows).length = rankL p m rows := by
  obtain ⟨_, c, h2⟩ := gaussS_red hp hg m (Nat.le_refl _)
  unfold basisL rankL
  rw [List.length_take, Nat.min_eq_left h2.dle]

set_option maxHeartbeats 400000 in
theorem c_AreDependent_bad (p : Int) (a : Option Addr) (d cap : Nat) (qs : List Int) (ax1 : Option Addr) (n1 cx1 : Nat) (xs1 : List (List Int)) (w : World) (hd : d ≤ 4194304) (hn1 : n1 ≤ 4194304) (hr1 : ∀ i, i < n1 → (nthR xs1 i).length ≤ 4194304) (hq : RdC w a d qs) (hx1 : RdR w ax1 n1 xs1) (hc : codeVR p qs xs1 ≠ 0) :
    Calls Tryz.prog 13 #[.agg #[.int .i64 p, .slice a d cap], .slice ax1 n1 cx1] w fun e w' => e = .returned (.tuple #[.bool false, .int .i64 (codeVR p qs xs1)]) ∧ Ext w w' := by
  have Hr := Lib.hid hr1
  have hcb : (codeVR p qs xs1 != 0) = true := by simp [hc]
  clear hc hr1
  go_enter Tryz.func13, Tryz.ntmps13
  go_wp2_with (go_at_call 37; refine (c_checkList p a d cap qs ax1 n1 cx1 xs1 _ hd hn1 Hr.out (hq.ext (ext_alloc _ _)) (hx1.ext (ext_alloc _ _))).mono ?_; rintro e w1 ⟨rfl, g1⟩)
  go_ret2
  exact ⟨rfl, (ext_alloc _ _).trans g1⟩
set_option maxHeartbeats 1000000 in
theorem c_AreDependent_ok (p : Int) (a : Option Addr) (d cap : Nat) (qs : List Int) (ax1 : Option Addr) (n1 cx1 : Nat) (xs1 : List (List Int)) (w : World) (hd : d ≤ 4194304) (hn1 : n1 ≤ 4096) (hr1 : ∀ i, i < n1 → (nthR xs1 i).length ≤ 4194304) (hq : RdC w a d qs) (hx1 : RdR w ax1 n1 xs1) (hc : codeVR p qs xs1 = 0) :
    Calls Tryz.prog 13 #[.agg #[.int .i64 p, .slice a d cap], .slice ax1 n1 cx1] w fun e w' => e = .returned (.tuple #[.bool (decide (rankL p d xs1 < n1)), .int .i64 0]) ∧ Ext w w' := by
  obtain ⟨hs, ha, _⟩ := codeVR_zero hc
  obtain ⟨hpr, hd1, hd6, hqb⟩ := space_of hs
  have hpb := prime_bd hpr
  rw [hq.1] at hd6 ha hd1
  have HG := Lib.hid (rows_good ha)
  have HPR := Lib.hid hpr
  have HC := Lib.hid hc
  have Hr := Lib.hid hr1
  have HBL := Lib.hid (basis_len hpr HG.out)
  have hcb : ((0 : Int) != 0) = false := by simp
  clear hc hr1 hs ha hpr hqb
  go_enter Tryz.func13, Tryz.ntmps13
  go_wp2_with (first | (go_at_call 37; refine (c_checkList p a d cap qs ax1 n1 cx1 xs1 _ hd (by omega) Hr.out (hq.ext (ext_alloc _ _)) (hx1.ext (ext_alloc _ _))).mono ?_; rintro e w1 ⟨rfl, g1⟩; rw [HC.out]; have hcc := Ext.cells g1) | (go_at_call 38; refine (c_field _ _ _).mono ?_; rintro e w2 ⟨rfl, g2⟩) | (go_at_call 39; refine (c_basis p ax1 n1 cx1 d xs1 _ HPR.out (by omega) (by omega) hn1 (hx1.ext (((ext_alloc _ _).trans g1).trans g2)) HG.out).mono ?_; rintro e w3 ⟨g, rc, r, rfl, ho, g3⟩; have hrl := ho.len; rw [HBL.out] at hrl; have HRL := Lib.hid hrl; have G3 := Lib.hid ((((ext_alloc _ _).trans g1).trans g2).trans g3); clear ho hrl))
  go_ret2
  exact ⟨by rw [HRL.out]; rfl, G3.out⟩
end Go.Proofs.YtcocbainookkcaaGreat

/-
  Kernels of one dimension, and spheres through points: a vector is on the sphere exactly if the wedge product with its point vector is 0.
  No condition. No program in sight.
-/
namespace Go.Proofs.YtcocbainookkcaaGreat
set_option maxRecDepth 100000
open Go.RowKit

section
variable {p : Int}
/-- What is killed by a reduced basis and is 0 on its free columns is 0. -/
theorem ker_zero {m : Nat} {red : List (List Int)} {c : Nat → Nat} {z : List Int} (h : Basis p m red c) (hz : Kill p m red z) (hf : ∀ t, t < m → pivIx red t = none → nth z t % p = 0) : ∀ t, t < m → nth z t % p = 0 := fun t ht => by
  cases hpv : pivIx red t with
  | none => exact hf t ht hpv
  | some i =>
    obtain ⟨hi, hl⟩ := pivIx_some hpv
    rw [h.leadN hi] at hl
    have hk := hz i hi
    have e1 : dotN m (nthR red i) z % p = (sumN m fun s => if s = t then nth z t else 0) % p := by
      unfold dotN
      refine sumN_emod fun s hs => ?_
      by_cases hst : s = t
      · subst hst
        rw [if_pos rfl, ← hl, h.one i hi i hi, if_pos rfl, Int.one_mul]
      · rw [if_neg hst]
        cases hps : pivIx red s with
        | none =>
          have h0 := hf s hs hps
          rw [Int.mul_emod, h0]; simp
        | some j =>
          obtain ⟨hj, hlj⟩ := pivIx_some hps
          rw [h.leadN hj] at hlj
          have hij : ¬ i = j := fun e => hst (by rw [← hlj, ← hl, e])
          rw [← hlj, h.one j hj i hi, if_neg hij]; simp
    rw [e1, sumN_single ht (fun s _ hst => if_neg hst), if_pos rfl] at hk
    exact hk
/-- Rows of full rank kill nothing but 0. -/
theorem rank_full {m : Nat} {rows : List (List Int)} {z : List Int} (hp : primeB p = true) (hg : RowsG p m rows) (hr : rankL p m rows = m) (hz : Kill p m rows z) : ∀ t, t < m → nth z t % p = 0 := by
  obtain ⟨c, hb⟩ := basis_red (m := m) hp hg
  have hl : (basisL p m rows).length = m := (basis_len hp hg).trans hr
  refine ker_zero hb ((kill_basis hp hg).2 hz) fun t ht hno => ?_
  exfalso
  obtain ⟨i, j, hij, hj, he⟩ := dove m (fun k => if k < m then c k else t) (fun k hk => by
    show (if k < m then c k else t) < m
    split
    · exact hb.clt k (by omega)
    · exact ht)
  have hi : i < m := by omega
  simp only [if_pos hi] at he
  by_cases hjm : j < m
  · rw [if_pos hjm] at he
    have := hb.mono i j hij (by omega)
    omega
  · rw [if_neg hjm] at he
    have h1 := hb.piv (i := i) (by omega)
    rw [he, hno] at h1
    cases h1
theorem dotN_comm {m : Nat} {x y : List Int} : dotN m x y = dotN m y x := sumN_congr fun _ _ => Int.mul_comm _ _
/-- A list of numbers by their places. -/
def byN (m : Nat) (f : Nat → Int) : List Int := (List.range m).map f
theorem byN_nth {m i : Nat} {f : Nat → Int} (h : i < m) : nth (byN m f) i = f i := by unfold byN; rw [nth_map (by simpa using h)]; simp
theorem byN_len {m : Nat} {f : Nat → Int} : (byN m f).length = m := by simp [byN]
theorem dot_one {m f : Nat} {y : List Int} {a : Int} (hf : f < m) : dotN m y (byN m fun t => if t = f then a else 0) = nth y f * a := by
  unfold dotN
  rw [sumN_single hf (fun t ht hne => by rw [byN_nth ht, if_neg hne, Int.mul_zero]), byN_nth hf, if_pos rfl]
theorem dot_two {m f g : Nat} {y : List Int} {a b : Int} (hf : f < m) (hg : g < m) (hfg : f ≠ g) : dotN m y (byN m fun t => if t = f then a else if t = g then b else 0) = nth y f * a + nth y g * b := by
  have e : dotN m y (byN m fun t => if t = f then a else if t = g then b else 0) = sumN m fun t => (if t = f then nth y f * a else 0) + (if t = g then nth y g * b else 0) := by
    unfold dotN
    refine sumN_congr fun t ht => ?_
    rw [byN_nth ht]
    by_cases h1 : t = f
    · subst h1
      rw [if_pos rfl, if_pos rfl, if_neg hfg]; omega
    · rw [if_neg h1, if_neg h1]
      by_cases h2 : t = g
      · subst h2
        rw [if_pos rfl, if_pos rfl]; omega
      · rw [if_neg h2, if_neg h2]; simp
  rw [e, sumN_add, sumN_single hf (fun t _ h => if_neg h), sumN_single hg (fun t _ h => if_neg h), if_pos rfl, if_pos rfl]
theorem free_mem {n : Nat} {red : List (List Int)} {f k : Nat} (hf : f < k) (hno : pivIx red f = none) : ∃ j, j < (kerR p n red k).length ∧ nthR (kerR p n red k) j = kerV p n red f := by
  have hm : f ∈ freeL red k := by unfold freeL; rw [List.mem_filter]; exact ⟨by simpa using hf, by simp [hno]⟩
  obtain ⟨j, hj, he⟩ := List.getElem_of_mem hm
  refine ⟨j, by unfold kerR; simpa using hj, ?_⟩
  unfold kerR
  rw [nthR_map hj, he]
theorem free_of {red : List (List Int)} {f k : Nat} (h : f ∈ freeL red k) : f < k ∧ pivIx red f = none := by
  unfold freeL at h
  rw [List.mem_filter] at h
  exact ⟨by simpa using h.1, by simpa using h.2⟩
theorem free_at {n : Nat} {red : List (List Int)} {k j : Nat} (hj : j < (kerR p n red k).length) : ∃ f, f < k ∧ pivIx red f = none ∧ nthR (kerR p n red k) j = kerV p n red f := by
  have hj' : j < (freeL red k).length := by unfold kerR at hj; simpa using hj
  have hm : (freeL red k)[j] ∈ freeL red k := List.getElem_mem hj'
  refine ⟨(freeL red k)[j], (free_of hm).1, (free_of hm).2, ?_⟩
  unfold kerR
  rw [nthR_map hj']
theorem kerV_self {n : Nat} {red : List (List Int)} {f : Nat} (hf : f < n) : nth (kerV p n red f) f = 1 := by rw [kerV_nth hf, kerN, if_pos rfl]
theorem kerV_off {n : Nat} {red : List (List Int)} {f g : Nat} (hg : g < n) (hfg : g ≠ f) (hno : pivIx red g = none) : nth (kerV p n red f) g = 0 := by rw [kerV_nth hg, kerN, if_neg hfg, hno]
/-- A kernel of one dimension has one free column. -/
theorem kern_free {m : Nat} {rows : List (List Int)} (hp : primeB p = true) (_hg : RowsG p m rows) (h1 : (kernL p m rows).length = 1) : ∃ f, f < m ∧ pivIx (basisL p m rows) f = none ∧ ∀ t, t < m → pivIx (basisL p m rows) t = none → t = f := by
  have hpb := prime_bd hp
  obtain ⟨red, hred⟩ : ∃ r, r = basisL p m rows := ⟨_, rfl⟩
  have hkl : kernL p m rows = basisL p m (kerR p m red m) := by rw [hred]; rfl
  rw [← hred]
  rw [hkl] at h1
  have hgk : RowsG p m (kerR p m red m) := kerR_good (by omega)
  have hlen : 1 ≤ (kerR p m red m).length := by
    have h2 := rank_le (m := m) hp hgk
    rw [← basis_len hp hgk, h1] at h2
    exact h2
  obtain ⟨f, hf, hno, _⟩ := free_at (p := p) (n := m) (red := red) (k := m) (j := 0) (by omega)
  refine ⟨f, hf, hno, fun g hg' hgno => Decidable.byContradiction fun hgf => ?_⟩
  obtain ⟨jf, hjf, ef⟩ := free_mem (p := p) (n := m) hf hno
  obtain ⟨jg, hjg, eg⟩ := free_mem (p := p) (n := m) hg' hgno
  obtain ⟨b, hbE⟩ : ∃ b, b = nthR (basisL p m (kerR p m red m)) 0 := ⟨_, rfl⟩
  have hK : ∀ z, dotN m b z % p = 0 → Kill p m (kerR p m red m) z := fun z hz => (kill_basis hp hgk).1 fun i hi => by
    obtain rfl : i = 0 := by omega
    rw [← hbE]; exact hz
  have k1 := hK (byN m fun t => if t = f then nth b g else if t = g then -(nth b f) else 0) (by
    rw [dot_two hf hg' (Ne.symm hgf)]
    rw [show nth b f * nth b g + nth b g * -(nth b f) = 0 by grind]
    simp)
  have kf := k1 jf hjf
  have kg := k1 jg hjg
  rw [ef, dot_two hf hg' (Ne.symm hgf), kerV_self hf, kerV_off hg' hgf hgno] at kf
  rw [eg, dot_two hf hg' (Ne.symm hgf), kerV_self hg', kerV_off hf (Ne.symm hgf) hno] at kg
  have hbf : nth b f % p = 0 := by
    rw [show (0 : Int) * nth b g + 1 * -(nth b f) = -(nth b f) by omega] at kg
    have := Int.dvd_of_emod_eq_zero kg
    exact Int.emod_eq_zero_of_dvd (Int.dvd_neg.1 this)
  have k2 := hK (byN m fun t => if t = f then 1 else 0) (by rw [dot_one hf, Int.mul_one]; exact hbf)
  have kf2 := k2 jf hjf
  rw [ef, dot_one hf, kerV_self hf, Int.mul_one, Int.emod_eq_of_lt (by omega) (by omega)] at kf2
  cases kf2
/-- What is killed is a multiple of the one vector of the kernel. -/
theorem kern_span {m : Nat} {rows : List (List Int)} {f : Nat} {z : List Int} (hp : primeB p = true) (hg : RowsG p m rows) (hf : f < m) (hno : pivIx (basisL p m rows) f = none) (hun : ∀ t, t < m → pivIx (basisL p m rows) t = none → t = f) (hz : Kill p m rows z) : ∀ t, t < m → cg p (nth z t) (nth z f * nth (kerV p m (basisL p m rows) f) t) := by
  have hpb := prime_bd hp
  obtain ⟨c, hb⟩ := basis_red (m := m) hp hg
  have hkv : Kill p m (basisL p m rows) (kerV p m (basisL p m rows) f) := kerV_kill (by omega) hb hf hno
  have hzb := (kill_basis hp hg).2 hz
  have hd : Kill p m (basisL p m rows) (plusL p z (kerV p m (basisL p m rows) f) (-(nth z f)) m) := fun i hi => by
    rw [dotN_comm, dot_plus, dotN_comm, dotN_comm (x := kerV p m (basisL p m rows) f), Int.add_emod, hzb i hi, Int.mul_emod, hkv i hi]
    simp
  have h0 := ker_zero hb hd (fun t ht htn => by
    obtain rfl := hun t ht htn
    rw [plusL_nth ht, plusN, kerV_self ht]
    rw [show nth z t + -(nth z t) * 1 = 0 by omega]
    simp)
  intro t ht
  have h1 := h0 t ht
  rw [plusL_nth ht, plusN, Int.emod_emod] at h1
  obtain ⟨s, hs⟩ := Int.dvd_of_emod_eq_zero h1
  exact ⟨s, by grind⟩
/-- The one vector of the kernel is killed, and is not 0. -/
theorem kern_x {m : Nat} {rows : List (List Int)} (hp : primeB p = true) (hg : RowsG p m rows) (h1 : (kernL p m rows).length = 1) : Kill p m rows (nthR (kernL p m rows) 0) ∧ ∃ t, t < m ∧ nth (nthR (kernL p m rows) 0) t = 1 := by
  have hpb := prime_bd hp
  obtain ⟨c0, hb0⟩ := basis_red (m := m) hp hg
  obtain ⟨red, hred⟩ : ∃ r, r = basisL p m rows := ⟨_, rfl⟩
  have hkl : kernL p m rows = basisL p m (kerR p m red m) := by rw [hred]; rfl
  have hgk : RowsG p m (kerR p m red m) := kerR_good (by omega)
  refine ⟨fun i hi => ?_, ?_⟩
  · have hk : Kill p m (kerR p m red m) (nthR rows i) := fun j hj => by
      obtain ⟨f, hf, hno, he⟩ := free_at hj
      rw [he, dotN_comm]
      rw [hred] at hno ⊢
      exact (kill_basis hp hg).1 (kerV_kill (by omega) hb0 hf hno) i hi
    have h2 := (kill_basis hp hgk).2 hk
    rw [← hkl] at h2
    have h3 := h2 0 (by omega)
    rw [dotN_comm]; exact h3
  · obtain ⟨c, hb⟩ := basis_red (m := m) hp hgk
    rw [← hkl] at hb
    exact ⟨c 0, hb.clt 0 (by omega), by rw [hb.one 0 (by omega) 0 (by omega), if_pos rfl]⟩
theorem cg_mod {a b : Int} (h : cg p a b) : a % p = b % p := h.emod
theorem mod0_cg {a : Int} (h : a % p = 0) : cg p a 0 := cg_of (by rw [h]; simp)
theorem div0 {a b : Int} (hp : primeB p = true) (ha : a % p ≠ 0) (h : cg p (a * b) 0) : b % p = 0 := by
  have hpb := prime_bd hp
  have h1 : (a % p) * (b % p) % p = 0 := by
    rw [← Int.mul_emod]
    have := h.emod
    simpa using this
  rcases (mul_zero_of hp (Int.emod_nonneg a (by omega)) (Int.emod_lt_of_pos a (by omega)) (Int.emod_nonneg b (by omega)) (Int.emod_lt_of_pos b (by omega))).1 h1 with h2 | h2
  · exact absurd h2 ha
  · exact h2

/-- A vector times the squares, and divided by them. -/
def mulE (p : Int) (Q y : List Int) (m : Nat) : List Int := byN m fun t => nth y t * nth Q t % p
def divE (p : Int) (Q y : List Int) (m : Nat) : List Int := byN m fun t => nth y t * invN p (nth Q t) % p
theorem wt_dotN {Q r z : List Int} {m : Nat} (h : Q.length = m) : cg p (dotN m (wtL p Q r m) z) (pairZ Q r z) := by
  subst h
  unfold dotN pairZ
  refine sum_cg _ fun i hi => ?_
  rw [wtL_nth hi, wtN]
  obtain ⟨s, hs⟩ := emod_ex p (nth r i * nth Q i)
  rw [hs]
  exact ⟨s * nth z i, by grind⟩
theorem mulE_dot {Q r y : List Int} {m : Nat} (h : Q.length = m) : cg p (dotN m r (mulE p Q y m)) (pairZ Q r y) := by
  subst h
  unfold dotN pairZ
  refine sum_cg _ fun i hi => ?_
  unfold mulE
  rw [byN_nth hi]
  obtain ⟨s, hs⟩ := emod_ex p (nth y i * nth Q i)
  rw [hs]
  exact ⟨nth r i * s, by grind⟩
theorem divE_dot {Q r z : List Int} {m : Nat} (hp : primeB p = true) (h : Q.length = m) (hQ : ∀ t, t < m → 0 < nth Q t ∧ nth Q t < p) : cg p (pairZ Q r (divE p Q z m)) (dotN m r z) := by
  subst h
  unfold dotN pairZ
  refine sum_cg _ fun i hi => ?_
  unfold divE
  rw [byN_nth hi]
  obtain ⟨s, hs⟩ := emod_ex p (nth z i * invN p (nth Q i))
  obtain ⟨t, ht⟩ := cg_inv hp (hQ i hi).1 (hQ i hi).2
  rw [hs]
  have e : nth r i * (nth z i * invN p (nth Q i) + p * s) * nth Q i = nth r i * nth z i * (nth Q i * invN p (nth Q i)) + p * (nth r i * s * nth Q i) := by grind
  rw [e, ht]
  exact ⟨nth r i * nth z i * t + nth r i * s * nth Q i, by grind⟩
end
end Go.Proofs.YtcocbainookkcaaGreat

/-
  The sphere through points: all points are on it; in a regular space, if the wedge product of the points is not 0, a vector is on it exactly if the wedge product with its point is 0.
  No condition. No program in sight.
-/
namespace Go.Proofs.YtcocbainookkcaaGreat
set_option maxRecDepth 100000
open Go.RowKit

section
variable {p : Int} {qs : List Int} {vs : List (List Int)} {v : List Int}
theorem thru_on (hp : primeB p = true) (h1 : (sphK p qs vs).length = 1) {i : Nat} (hi : i < vs.length) : pexZ p qs (sphL p qs vs) (nthR vs i) = 0 := by
  have hpb := prime_bd hp
  have hg : RowsG p (qs.length + 2) (wtsL p (extL p qs) (pointsL p qs vs vs.length) (qs.length + 2) vs.length) := wtsL_good (by omega)
  obtain ⟨hk, _⟩ := kern_x hp hg h1
  have h2 := hk i (by rw [wtsL_len]; exact hi)
  rw [wtsL_nth hi, pointsL_nth hi] at h2
  have h3 : cg p (pairZ (extL p qs) (pointL p qs (nthR vs i)) (sphL p qs vs)) 0 := (wt_dotN (extL_len p qs)).symm.trans (mod0_cg h2)
  rw [pz_comm] at h3
  have hb := pairL_bd (p := p) (qs := extL p qs) (v := sphL p qs vs) (w := pointL p qs (nthR vs i)) (n := qs.length + 2) (by omega)
  exact cg_zero ((pl_cg (extL_len p qs)).trans h3) hb.1 hb.2
theorem ext_pos (hp : 3 ≤ p) (hq : ∀ t, t < qs.length → 0 < nth qs t ∧ nth qs t < p) : ∀ t, t < qs.length + 2 → 0 < nth (extL p qs) t ∧ nth (extL p qs) t < p := fun t ht => by
  rw [ext_sq]
  split
  · rename_i h; exact hq t h
  · split
    · omega
    · rw [if_pos (by omega)]; omega
theorem points_snoc : pointsL p qs (vs ++ [v]) (vs.length + 1) = pointsL p qs vs vs.length ++ [pointL p qs v] := by
  rw [pointsL_succ, nthR_last]
  congr 1
  refine ext_rows (by rw [pointsL_len, pointsL_len]) fun i hi => ?_
  rw [pointsL_len] at hi
  rw [pointsL_nth hi, pointsL_nth hi, nthR_snoc hi]
theorem rowsG_snoc {m : Nat} {R : List (List Int)} {x : List Int} (h : RowsG p m R) (hx : Good p m x) : RowsG p m (R ++ [x]) := fun i hi => by
  by_cases hlt : i < R.length
  · rw [nthR_snoc hlt]; exact h i hlt
  · obtain rfl : i = R.length := by simp at hi; omega
    rw [nthR_last]; exact hx
theorem pz_span {Q r x K : List Int} {a : Int} (h : ∀ t, t < Q.length → cg p (nth x t) (a * nth K t)) : cg p (pairZ Q r x) (a * pairZ Q r K) := by
  unfold pairZ
  rw [← sumN_mul]
  refine sum_cg _ fun i hi => ?_
  obtain ⟨s, hs⟩ := h i hi
  rw [hs]
  exact ⟨nth r i * s * nth Q i, by grind⟩
theorem not_one0 (hp : 3 ≤ p) (h : cg p 1 0) : False := by
  obtain ⟨s, hs⟩ := h
  have hd : p ∣ 1 := ⟨s, by omega⟩
  have := Int.le_of_dvd (by omega) hd
  omega
theorem cg_mul0 {a b : Int} (h : a % p = 0) : cg p (a * b) 0 := by
  have := (mod0_cg h).mul (cg.refl p b)
  rw [Int.zero_mul] at this; exact this
theorem thru_iff (hp : primeB p = true) (h4 : qs.length ≤ 4) (hq : ∀ t, t < qs.length → 0 < nth qs t ∧ nth qs t < p) (h1 : (sphK p qs vs).length = 1) (hw : wpL p qs vs vs.length ≠ nilL (extL p qs)) :
    wpL p qs (vs ++ [v]) (vs.length + 1) = nilL (extL p qs) ↔ pexZ p qs (sphL p qs vs) v = 0 := by
  have hpb := prime_bd hp
  obtain ⟨m, hm⟩ : ∃ m, m = qs.length + 2 := ⟨_, rfl⟩
  obtain ⟨Q, hQ⟩ : ∃ Q, Q = extL p qs := ⟨_, rfl⟩
  have hQl : Q.length = m := by rw [hQ, extL_len, hm]
  have hQp : ∀ t, t < m → 0 < nth Q t ∧ nth Q t < p := by rw [hQ, hm]; exact ext_pos (by omega) hq
  obtain ⟨R, hR⟩ : ∃ R, R = pointsL p qs vs vs.length := ⟨_, rfl⟩
  have hRl : R.length = vs.length := by rw [hR, pointsL_len]
  have hRG : RowsG p m R := by rw [hR, hm]; exact pointsL_good (by omega) rfl
  obtain ⟨pv, hpv⟩ : ∃ z, z = pointL p qs v := ⟨_, rfl⟩
  have hpvG : Good p m pv := by rw [hpv, hm]; exact pointL_good (by omega) rfl
  have hR2G : RowsG p m (R ++ [pv]) := rowsG_snoc hRG hpvG
  have hR2l : (R ++ [pv]).length = vs.length + 1 := by simp [hRl]
  have hr1 : ¬ rankL p m R < R.length := fun h => hw (by
    have h2 := (wd_rank (p := p) (qs := Q) (rows := R) hp (by omega) (by rw [hQl]; exact hRG)).2 (by rw [hQl]; exact h)
    rw [hRl, hQ, hR] at h2
    exact h2)
  have hr2 : wpL p qs (vs ++ [v]) (vs.length + 1) = nilL Q ↔ rankL p m (R ++ [pv]) < (R ++ [pv]).length := by
    have h2 := wd_rank (p := p) (qs := Q) (rows := R ++ [pv]) hp (by omega) (by rw [hQl]; exact hR2G)
    rw [hQl] at h2
    rw [← h2]
    have e : wpL p qs (vs ++ [v]) (vs.length + 1) = wdS p Q (R ++ [pv]) (R ++ [pv]).length := by
      rw [hR2l, hR, hpv, hQ, ← points_snoc]; rfl
    rw [e]
  rw [← hQ, hr2]
  obtain ⟨W, hW⟩ : ∃ W, W = wtsL p Q R m vs.length := ⟨_, rfl⟩
  have hWl : W.length = R.length := by rw [hW, wtsL_len, hRl]
  have hWn : ∀ i, i < R.length → nthR W i = wtL p Q (nthR R i) m := fun i hi => by rw [hW]; exact wtsL_nth (by omega)
  have hWG : RowsG p m W := by rw [hW]; exact wtsL_good (by omega)
  have hsk : sphK p qs vs = kernL p m W := by rw [hW, hR, hQ, hm]; rfl
  obtain ⟨x, hx⟩ : ∃ x, x = sphL p qs vs := ⟨_, rfl⟩
  have hxE : x = nthR (kernL p m W) 0 := by rw [hx, ← hsk]; rfl
  rw [hsk] at h1
  obtain ⟨f, hf, hno, hun⟩ := kern_free hp hWG h1
  obtain ⟨hxk, tx, htx, hx1⟩ := kern_x hp hWG h1
  rw [← hxE] at hxk hx1
  obtain ⟨K, hK⟩ : ∃ K, K = kerV p m (basisL p m W) f := ⟨_, rfl⟩
  have hspan : ∀ z, Kill p m W z → ∀ t, t < m → cg p (nth z t) (nth z f * nth K t) := fun z hz => by rw [hK]; exact kern_span hp hWG hf hno hun hz
  have hxf : nth x f % p ≠ 0 := fun h0 => by
    have h5 := hspan x hxk tx htx
    rw [hx1] at h5
    exact not_one0 (by omega) (h5.trans (cg_mul0 h0))
  have hyR : Kill p m R (mulE p Q x m) := fun i hi => by
    have h2 := hxk i (by rw [hWl]; exact hi)
    rw [hWn i hi] at h2
    have h3 := ((mulE_dot (p := p) (r := nthR R i) (y := x) hQl).trans ((wt_dotN hQl).symm.trans (mod0_cg h2))).emod
    simpa using h3
  have hyf : nth (mulE p Q x m) f % p ≠ 0 := fun h0 => by
    unfold mulE at h0
    rw [byN_nth hf, Int.emod_emod] at h0
    have h3 := div0 hp hxf (mod0_cg h0)
    rw [Int.emod_eq_of_lt (by have := (hQp f hf).1; omega) (hQp f hf).2] at h3
    have := (hQp f hf).1
    omega
  have hdW : ∀ z, Kill p m R z → Kill p m W (divE p Q z m) := fun z hz i hi => by
    rw [hWl] at hi
    rw [hWn i hi]
    have h3 := (((wt_dotN (p := p) (r := nthR R i) (z := divE p Q z m) hQl).trans (divE_dot hp hQl hQp)).trans (mod0_cg (hz i hi))).emod
    simpa using h3
  have hdz : ∀ z g, g < m → nth z g = 1 → ¬ cg p (nth (divE p Q z m) g) 0 := fun z g hg h1g h0 => by
    unfold divE at h0
    rw [byN_nth hg, h1g, Int.one_mul] at h0
    have h3 := (cg_emod p (invN p (nth Q g))).symm.trans h0
    have h5 := (cg_inv hp (hQp g hg).1 (hQp g hg).2).symm.trans ((cg.refl p (nth Q g)).mul h3)
    rw [Int.mul_zero] at h5
    exact not_one0 (by omega) h5
  have hnm : ¬ R.length + 1 < m := fun hlt => by
    obtain ⟨e, he⟩ : ∃ e, e = byN m (fun t => if t = f then (1 : Int) else 0) := ⟨_, rfl⟩
    have heG : Good p m e := ⟨by rw [he, byN_len], fun i hi => by rw [he, byN_nth hi]; split <;> omega⟩
    have hG := rowsG_snoc hRG heG
    obtain ⟨z, g, hz, hzk, hg, hzg⟩ := ker_exists hp hG (by have h9 := rank_le hp hG; simp only [List.length_append, List.length_singleton] at h9; omega)
    have hzR : Kill p m R z := fun i hi => by
      have h9 := hzk i (by simp; omega)
      rw [nthR_snoc hi] at h9
      exact h9
    have hzf := hzk R.length (by simp)
    rw [nthR_last, dotN_comm, he, dot_one hf, Int.mul_one, Int.emod_eq_of_lt (hz.2 f hf).1 (hz.2 f hf).2] at hzf
    have h9 := hspan _ (hdW z hzR) g hg
    have h8 : nth (divE p Q z m) f % p = 0 := by unfold divE; rw [byN_nth hf, hzf]; simp
    exact hdz z g hg hzg (h9.trans (cg_mul0 h8))
  have hgr : ∀ {S : List (List Int)}, RowsG p m S → rankL p m S ≤ m := fun h => (gauss_rank hp h).2
  have hnn : ¬ m ≤ R.length := fun hle => hyf (rank_full hp hRG (by have := hgr hRG; omega) hyR f hf)
  have hnE : (R ++ [pv]).length = m := by rw [hR2l]; omega
  have hpx : cg p (pexZ p qs x v) (pairZ Q pv x) := by
    rw [pz_comm, hQ, hpv]
    exact pl_cg (extL_len p qs)
  rw [← hx, hnE]
  constructor
  · intro hlt
    obtain ⟨z, g, hz, hzk, hg, hzg⟩ := ker_exists hp hR2G hlt
    have hzR : Kill p m R z := fun i hi => by
      have h9 := hzk i (by simp; omega)
      rw [nthR_snoc hi] at h9
      exact h9
    have hzv := hzk R.length (by simp)
    rw [nthR_last] at hzv
    have hsz := hspan _ (hdW z hzR)
    have hzf : nth (divE p Q z m) f % p ≠ 0 := fun h0 => hdz z g hg hzg ((hsz g hg).trans (cg_mul0 h0))
    have h5 : cg p (pairZ Q pv (divE p Q z m)) 0 := (divE_dot hp hQl hQp).trans (mod0_cg hzv)
    have h6 : pairZ Q pv K % p = 0 := div0 hp hzf ((pz_span (fun t ht => hsz t (by omega))).symm.trans h5)
    have h7 : cg p (pairZ Q pv x) 0 := (pz_span (fun t ht => hspan x hxk t (by omega))).trans (by rw [Int.mul_comm]; exact cg_mul0 h6)
    have hb := pairL_bd (p := p) (qs := extL p qs) (v := x) (w := pointL p qs v) (n := qs.length + 2) (by omega)
    exact cg_zero (hpx.trans h7) hb.1 hb.2
  · intro h0
    refine Decidable.byContradiction fun hge => hyf (rank_full hp hR2G (by have := hgr hR2G; omega) (fun i hi => ?_) f hf)
    by_cases hlt : i < R.length
    · rw [nthR_snoc hlt]; exact hyR i hlt
    · obtain rfl : i = R.length := by simp at hi; omega
      rw [nthR_last]
      rw [h0] at hpx
      have h3 := ((mulE_dot (p := p) (r := pv) (y := x) hQl).trans hpx.symm).emod
      simpa using h3
end
end Go.Proofs.YtcocbainookkcaaGreat

/-
  Contracts of SphereThrough, WedgeOfPoints and IsRegular for every input, and of the law's zero9.
  No condition.
-/
namespace Go.Proofs.YtcocbainookkcaaGreat
set_option maxRecDepth 100000
open Go.RowKit

def spL (p : Int) (qs : List Int) (vs : List (List Int)) : List Int := if codeSp p qs vs = 0 then sphL p qs vs else []
def weL (p : Int) (qs : List Int) (vs : List (List Int)) : List Int := if code18L p qs vs = 0 then wpL p qs vs vs.length else []
theorem wp_good {p : Int} {qs : List Int} {vs : List (List Int)} {k : Nat} (hp : 3 ≤ p) : Good p (2 ^ (qs.length + 2)) (wpL p qs vs k) := by
  have h := wd_good (p := p) (qs := extL p qs) (rows := pointsL p qs vs k) hp k
  rw [extL_len] at h
  exact h
theorem code18L_prime {p : Int} {qs : List Int} {vs : List (List Int)} (h : code18L p qs vs = 0) : primeB p = true := (space_of (code18_zero (code18L_zero h).1).1).1
theorem c_SphereThrough_any (p : Int) (a : Option Addr) (d cap : Nat) (qs : List Int) (ax1 : Option Addr) (n1 cx1 : Nat) (xs1 : List (List Int)) (M : Nat) (w : World) (hM : M = (spL p qs xs1).length) (hd : d ≤ 4194304) (hn1 : n1 ≤ 4194304) (hr1 : ∀ i, i < n1 → (nthR xs1 i).length ≤ 4194304) (hq : RdC w a d qs) (hx1 : RdR w ax1 n1 xs1) :
    Calls Tryz.prog 6 #[.agg #[.int .i64 p, .slice a d cap], .slice ax1 n1 cx1] w fun e w' => ∃ ra rc, e = .returned (.tuple #[.slice ra M rc, .int .i64 (codeSp p qs xs1)]) ∧ OwnC w.heap.size w' ra M rc (spL p qs xs1) ∧ Ext w w' := by
  by_cases hc : codeSp p qs xs1 = 0
  · obtain ⟨h1, h2⟩ := sp_zero hc
    have e1 : spL p qs xs1 = sphL p qs xs1 := by unfold spL; rw [if_pos hc]
    rw [e1] at hM ⊢
    rw [(sphL_good (code18L_prime h1) h2).1, hq.1] at hM
    subst hM
    rw [hc]
    exact c_SphereThrough_ok p a d cap qs ax1 n1 cx1 xs1 w hd hn1 hr1 hq hx1 hc
  · have e1 : spL p qs xs1 = [] := by unfold spL; rw [if_neg hc]
    rw [e1] at hM ⊢
    obtain rfl : M = 0 := hM
    exact c_SphereThrough_bad p a d cap qs ax1 n1 cx1 xs1 w hd hn1 hr1 hq hx1 hc
theorem c_WedgeOfPoints_any (p : Int) (a : Option Addr) (d cap : Nat) (qs : List Int) (ax1 : Option Addr) (n1 cx1 : Nat) (xs1 : List (List Int)) (M : Nat) (w : World) (hM : M = (weL p qs xs1).length) (hd : d ≤ 4194304) (hn1 : n1 ≤ 4194304) (hr1 : ∀ i, i < n1 → (nthR xs1 i).length ≤ 4194304) (hq : RdC w a d qs) (hx1 : RdR w ax1 n1 xs1) :
    Calls Tryz.prog 9 #[.agg #[.int .i64 p, .slice a d cap], .slice ax1 n1 cx1] w fun e w' => ∃ ra rc, e = .returned (.tuple #[.slice ra M rc, .int .i64 (code18L p qs xs1)]) ∧ OwnC w.heap.size w' ra M rc (weL p qs xs1) ∧ Ext w w' := by
  by_cases hc : code18L p qs xs1 = 0
  · have hpb := prime_bd (code18L_prime hc)
    have e1 : weL p qs xs1 = wpL p qs xs1 n1 := by unfold weL; rw [if_pos hc, hx1.1]
    rw [e1] at hM ⊢
    rw [(wp_good (by omega)).1, hq.1] at hM
    subst hM
    rw [hc]
    exact c_WedgeOfPoints_ok p a d cap qs ax1 n1 cx1 xs1 w hd hn1 hr1 hq hx1 hc
  · have e1 : weL p qs xs1 = [] := by unfold weL; rw [if_neg hc]
    rw [e1] at hM ⊢
    obtain rfl : M = 0 := hM
    exact c_WedgeOfPoints_bad p a d cap qs ax1 n1 cx1 xs1 w hd hn1 hr1 hq hx1 hc
theorem s_SphereThrough_any (p : Int) (a : Option Addr) (d cap : Nat) (qs : List Int) (ax1 : Option Addr) (n1 cx1 : Nat) (xs1 : List (List Int)) (M : Nat) (w : World) (hM : M = (spL p qs xs1).length) (hd : d ≤ 4194304) (hn1 : n1 ≤ 4194304) (hr1 : ∀ i, i < n1 → (nthR xs1 i).length ≤ 4194304) (hq : RdC w a d qs) (hx1 : RdR w ax1 n1 xs1) :
    Calls Tryz.prog 7 #[.agg #[.int .i64 p, .slice a d cap], .slice ax1 n1 cx1] w fun e w' => ∃ ra rc, e = .returned (.tuple #[.slice ra M rc, .int .i64 (codeSp p qs xs1)]) ∧ OwnC w.heap.size w' ra M rc (spL p qs xs1) ∧ Ext w w' := by
  by_cases hc : codeSp p qs xs1 = 0
  · obtain ⟨h1, h2⟩ := sp_zero hc
    have e1 : spL p qs xs1 = sphL p qs xs1 := by unfold spL; rw [if_pos hc]
    rw [e1] at hM ⊢
    rw [(sphL_good (code18L_prime h1) h2).1, hq.1] at hM
    subst hM
    rw [hc]
    exact s_SphereThrough_ok p a d cap qs ax1 n1 cx1 xs1 w hd hn1 hr1 hq hx1 hc
  · have e1 : spL p qs xs1 = [] := by unfold spL; rw [if_neg hc]
    rw [e1] at hM ⊢
    obtain rfl : M = 0 := hM
    exact s_SphereThrough_bad p a d cap qs ax1 n1 cx1 xs1 w hd hn1 hr1 hq hx1 hc
theorem s_WedgeOfPoints_any (p : Int) (a : Option Addr) (d cap : Nat) (qs : List Int) (ax1 : Option Addr) (n1 cx1 : Nat) (xs1 : List (List Int)) (M : Nat) (w : World) (hM : M = (weL p qs xs1).length) (hd : d ≤ 4194304) (hn1 : n1 ≤ 4194304) (hr1 : ∀ i, i < n1 → (nthR xs1 i).length ≤ 4194304) (hq : RdC w a d qs) (hx1 : RdR w ax1 n1 xs1) :
    Calls Tryz.prog 10 #[.agg #[.int .i64 p, .slice a d cap], .slice ax1 n1 cx1] w fun e w' => ∃ ra rc, e = .returned (.tuple #[.slice ra M rc, .int .i64 (code18L p qs xs1)]) ∧ OwnC w.heap.size w' ra M rc (weL p qs xs1) ∧ Ext w w' := by
  by_cases hc : code18L p qs xs1 = 0
  · have hpb := prime_bd (code18L_prime hc)
    have e1 : weL p qs xs1 = wpL p qs xs1 n1 := by unfold weL; rw [if_pos hc, hx1.1]
    rw [e1] at hM ⊢
    rw [(wp_good (by omega)).1, hq.1] at hM
    subst hM
    rw [hc]
    exact s_WedgeOfPoints_ok p a d cap qs ax1 n1 cx1 xs1 w hd hn1 hr1 hq hx1 hc
  · have e1 : weL p qs xs1 = [] := by unfold weL; rw [if_neg hc]
    rw [e1] at hM ⊢
    obtain rfl : M = 0 := hM
    exact s_WedgeOfPoints_bad p a d cap qs ax1 n1 cx1 xs1 w hd hn1 hr1 hq hx1 hc
set_option maxHeartbeats 1000000 in
theorem c_IsRegular_ok (p : Int) (a : Option Addr) (d cap : Nat) (qs : List Int) (w : World) (hs : spaceB p qs = true) (hd : d ≤ 4194304) (hq : RdC w a d qs) :
    Calls Tryz.prog 16 #[.agg #[.int .i64 p, .slice a d cap]] w fun e w' => e = .returned (.tuple #[.bool (regB qs), .int .i64 0]) ∧ Ext w w' := by
  have HS := Lib.hid hs
  clear hs
  obtain ⟨W, hW⟩ : ∃ W, W = w.alloc (.cells #[.int .i64 p, .slice a d cap] 26) := ⟨_, rfl⟩
  have G : Hid (Ext w W) := Lib.hid (by rw [hW]; exact ext_alloc _ _)
  have C0 : Hid (W.cell? ⟨w.heap.size, 0, none⟩ = some (.int .i64 p)) := Lib.hid (by rw [hW]; simp)
  have C1 : Hid (W.cell? ⟨w.heap.size, 1, none⟩ = some (.slice a d cap)) := Lib.hid (by rw [hW]; simp)
  have HW := Lib.hid hW
  clear hW
  go_enter Tryz.func16, Tryz.ntmps16
  go_wp2_with (fail)
  rw [← HW.out]
  refine Calls.mono (c_isSpace p a d cap qs W hd (hq.ext G.out)) ?_
  rintro e w1 ⟨rfl, g1⟩
  rw [HS.out]
  have x0 := g1.cell C0.out
  have x1 := g1.cell C1.out
  have G1 := Lib.hid (G.out.trans g1)
  clear g1
  go_wp2_with (fail)
  refine Calls.mono (c_regular p a d cap qs w1 hd (hq.ext G1.out)) ?_
  rintro e w2 ⟨rfl, g2⟩
  have G2 := Lib.hid (G1.out.trans g2)
  clear g2
  go_wp2_with (fail)
  go_ret2
  exact ⟨rfl, G2.out⟩
theorem zeroB_false {xs : List Int} {k : Nat} (hk : k < xs.length) (h : nth xs k ≠ 0) : zeroB xs = false := by
  cases hz : zeroB xs with
  | false => rfl
  | true => exact absurd (zeroB_iff.1 hz k hk) h
set_option maxHeartbeats 1000000 in
theorem l_zero9 (a : Option Addr) (n c : Nat) (xs : List Int) (w : World) (hn : n ≤ 4194304) (hx : RdC w a n xs) :
    Calls Tryz.prog 14 #[.slice a n c] w fun e w' => e = .returned (.bool (zeroB xs)) ∧ Ext w w' := by
  have HX := Lib.hid hx.2
  have HXN := Lib.hid hx.1
  clear hx
  go_enter Tryz.func14, Tryz.ntmps14
  go_wp2_with (fail)
  go_loopw [3] (fun i wr => ∃ (k : Nat), k ≤ n ∧ i = .int .i64 k ∧ Hid (∀ j, j < k → nth xs j = 0) ∧ Ext w wr) (fun i _ => n - (intOf i).toNat)
  case atStart => exact ⟨0, Nat.zero_le _, rfl, Lib.hid (fun j hj => by omega), Ext.refl _⟩
  case round =>
    obtain ⟨k, hk, rfl, HT, hext⟩ := hrel
    by_cases hlt : k < n
    · obtain ⟨b1, off1, rfl, hc1⟩ := HX.out k hlt
      have hc1' := hext.cell hc1
      obtain ⟨u, hu⟩ : ∃ u, u = nth xs k := ⟨_, rfl⟩
      rw [← hu] at hc1 hc1'
      have HU := Lib.hid hu
      clear hu
      by_cases hb : u = 0
      · have HB := Lib.hid hb
        have hbb : (u != 0) = false := by simp [hb]
        clear hb
        go_wp2_with (fail)
        go_roundw
        case rel => exact ⟨k + 1, by omega, by go_num, Lib.hid (fun j hj => by
          by_cases hjk : j = k
          · subst hjk; rw [← HU.out]; exact HB.out
          · exact HT.out j (by omega)), hext⟩
        case measure => simp [intOf]; omega
      · have HB := Lib.hid hb
        have hbb : (u != 0) = true := by simp [hb]
        clear hb
        go_wp2_with (fail)
        go_ret
        exact ⟨ret_bool (zeroB_false (by rw [HXN.out]; exact hlt) (by rw [← HU.out]; exact HB.out)).symm, hext⟩
    · go_wp2_with (fail)
      go_ret
      exact ⟨ret_bool (zeroB_iff.2 (fun j hj => HT.out j (by have := HXN.out; omega))).symm, hext⟩
end Go.Proofs.YtcocbainookkcaaGreat

/-
  What the law of spheres through points wants, in its own terms.
  No condition. No program in sight.
-/
namespace Go.Proofs.YtcocbainookkcaaGreat
set_option maxRecDepth 100000
open Go.RowKit

section
variable {p : Int} {qs : List Int} {vs : List (List Int)} {v : List Int}
theorem zero_nil {Q xs : List Int} (h : xs.length = 2 ^ Q.length) : zeroB xs = true ↔ xs = nilL Q := by
  rw [zeroB_iff]
  constructor
  · intro h0
    refine ext_nth (by rw [h, nil_len]) fun i hi => ?_
    rw [h0 i hi, nil_nth (by omega)]
  · intro e j hj
    rw [e] at hj ⊢
    rw [nil_len] at hj
    exact nil_nth hj
theorem wp_len {k : Nat} (hp : primeB p = true) : (wpL p qs vs k).length = 2 ^ (extL p qs).length := by
  rw [extL_len]; exact (wp_good (by have := prime_bd hp; omega)).1
theorem thru_free (hp : primeB p = true) (h4 : qs.length ≤ 4) : decide (rankL p (qs.length + 2) (pointsL p qs vs vs.length) < vs.length) = zeroB (wpL p qs vs vs.length) := by
  have hpb := prime_bd hp
  rw [Bool.eq_iff_iff, decide_eq_true_eq, zero_nil (wp_len hp)]
  have h2 := wd_rank (p := p) (qs := extL p qs) (rows := pointsL p qs vs vs.length) hp (by rw [extL_len]; omega) (by rw [extL_len]; exact pointsL_good (by omega) rfl)
  rw [extL_len, pointsL_len] at h2
  exact h2.symm
theorem thru_both (hp : primeB p = true) (h4 : qs.length ≤ 4) (hq : ∀ t, t < qs.length → 0 < nth qs t ∧ nth qs t < p) (h1 : (sphK p qs vs).length = 1) (hw : zeroB (wpL p qs vs vs.length) = false) :
    (pexZ p qs (sphL p qs vs) v == 0) = zeroB (wpL p qs (vs ++ [v]) (vs.length + 1)) := by
  have h := thru_iff (v := v) hp h4 hq h1 (fun e => by
    rw [← zero_nil (wp_len hp)] at e
    rw [e] at hw; cases hw)
  rw [Bool.eq_iff_iff, beq_iff_eq, zero_nil (wp_len hp), h]
theorem thru_few (hp : primeB p = true) (h4 : qs.length ≤ 4) (hw : zeroB (wpL p qs vs vs.length) = false) : vs.length ≤ 6 := by
  have hpb := prime_bd hp
  have h := thru_free (vs := vs) hp h4
  rw [hw, decide_eq_false_iff_not] at h
  have h2 := (gauss_rank (p := p) (m := qs.length + 2) (rows := pointsL p qs vs vs.length) hp (pointsL_good (by omega) rfl)).2
  unfold rankL at h
  omega
theorem thru_pos (hp : primeB p = true) (h1 : (sphK p qs vs).length = 1) : 0 < vs.length := by
  have hpb := prime_bd hp
  rcases Nat.eq_zero_or_pos vs.length with h0 | h0
  · exfalso
    have hg : RowsG p (qs.length + 2) (wtsL p (extL p qs) (pointsL p qs vs vs.length) (qs.length + 2) vs.length) := wtsL_good (by omega)
    obtain ⟨f, hf, _, hun⟩ := kern_free hp hg h1
    have hl : (basisL p (qs.length + 2) (wtsL p (extL p qs) (pointsL p qs vs vs.length) (qs.length + 2) vs.length)).length = 0 := by
      have h2 := rank_le (m := qs.length + 2) hp hg
      rw [wtsL_len] at h2
      rw [basis_len hp hg]
      omega
    have he := List.eq_nil_of_length_eq_zero hl
    rw [he] at hun
    have e0 := hun 0 (by omega) rfl
    have e1 := hun 1 (by omega) rfl
    omega
  · exact h0
theorem reg_pos (hb : isB p qs = true) (hr : regB qs = true) : ∀ t, t < qs.length → 0 < nth qs t ∧ nth qs t < p := fun t ht => by
  have h1 := isB_nth hb ht
  have h2 : nth qs t ≠ 0 := fun e => by
    unfold regB hasB at hr
    have h3 : ((List.range qs.length).any fun i => (0 : Int) == nth qs i) = true := List.any_eq_true.2 ⟨t, List.mem_range.2 ht, by rw [e]; rfl⟩
    rw [h3] at hr
    cases hr
  omega
theorem all_vecB {Q : List Int} {rows : List (List Int)} (hg : ∀ i, i < rows.length → Good p Q.length (nthR rows i)) : rows.all (vecB p Q.length) = true := by
  rw [List.all_eq_true]
  intro x hx
  obtain ⟨i, hi, rfl⟩ := List.getElem_of_mem hx
  have := hg i hi
  rw [nthR_eq hi] at this
  exact good_vecB this
theorem codeVR_00 {Q : List Int} {rows : List (List Int)} (hs : spaceB p Q = true) (hg : ∀ i, i < rows.length → Good p Q.length (nthR rows i)) (hl : rows.length ≤ 16) : codeVR p Q rows = 0 := by
  rw [codeVR_of hs, all_vecB hg]
  simp [hl]
theorem code18L_00 (hs : spaceB p qs = true) (h4 : qs.length ≤ 4) (hg : ∀ i, i < vs.length → Good p qs.length (nthR vs i)) (hl : vs.length ≤ 16) : code18L p qs vs = 0 := by
  have h1 : code18 p qs vs = 0 := by unfold code18; rw [if_pos hs, if_pos h4, if_pos (all_vecB hg)]
  unfold code18L
  rw [if_pos h1, if_pos hl]
theorem code18L_snoc (hs : spaceB p qs = true) (h4 : qs.length ≤ 4) (hg : ∀ i, i < vs.length → Good p qs.length (nthR vs i)) (hv : Good p qs.length v) (hl : vs.length ≤ 6) : code18L p qs (vs ++ [v]) = 0 :=
  code18L_00 hs h4 (rowsG_snoc hg hv) (by simp; omega)
theorem sp_five (h : code18L p qs vs = 0) (h1 : codeSp p qs vs ≠ 0) : codeSp p qs vs = 5 := by
  by_cases h2 : (sphK p qs vs).length = 1
  · exact absurd (sp_ok h h2) h1
  · exact sp_many h h2
end
end Go.Proofs.YtcocbainookkcaaGreat

/-
  Regions that draw their order, walked by a plan: some operations float (they yield their values at any time while an invariant of the worlds holds), the others come when no other is ready.
  No condition. General over every program.
-/
namespace Go.Proofs.YtcocbainookkcaaGreat
set_option maxRecDepth 100000
open Go.RowKit

def Region.planB (md : Region.Mode) (ops : Array Oper) : List (Bool × Nat) → Array Bool → Bool
  | [], listed => decide (Region.ready md ops listed = [])
  | (true, i) :: l, listed => (Region.ready md ops listed).contains i && Region.free md ops listed i && Region.planB md ops l (listed.setIfInBounds i true)
  | (false, i) :: l, listed => decide (Region.ready md ops listed = [i]) && Region.planB md ops l (listed.setIfInBounds i true)

section
variable {P : Program} {ops : Array Oper} {md : Region.Mode} {Q : Exit → Act → World → Prop} {I : World → Prop}
variable (P ops Q I) in
/-- The operations by the plan. -/
def PlanW : List (Bool × Nat) → Act → World → Prop
  | [], a, w => I w ∧ Q .normal a w
  | (true, i) :: l, a, w => ∃ o v, ops[i]? = some o ∧ YieldsI P ops I o v a ∧ PlanW l (a.put o.dst v) w
  | (false, i) :: l, a, w => I w ∧ ∃ o, ops[i]? = some o ∧ Region.wanted o (yielded ops a.tmps) = true ∧ o.wp P a w (PlanW l) Q
theorem PlanW.float {i : Nat} {v : Value} {l : List (Bool × Nat)} {a : Act} {w : World} {o : Oper} (t : Option Tmp) (ho : ops[i]? = some o) (ht : o.dst = t) (hw : Region.wanted o (yielded ops a.tmps) = true) (hy : ∀ w, I w → (execOp a.eval o).run P w = .ok (.value v) w) (h : PlanW P ops Q I l (a.put t v) w) : PlanW P ops Q I ((true, i) :: l) a w := ⟨o, v, ho, ⟨hw, hy⟩, by rw [ht]; exact h⟩
theorem PlanW.value {i : Nat} {o : Oper} {l : List (Bool × Nat)} {a : Act} {w w' : World} {v : Value} (t : Option Tmp) (hI : I w) (ho : ops[i]? = some o) (ht : o.dst = t) (hw : Region.wanted o (yielded ops a.tmps) = true) (hr : (execOp a.eval o).run P w = .ok (.value v) w') (h : PlanW P ops Q I l (a.put t v) w') : PlanW P ops Q I ((false, i) :: l) a w :=
  ⟨hI, o, ho, hw, by unfold Oper.wp; rw [hr]; subst ht; exact h⟩
theorem PlanW.skip {i : Nat} {o : Oper} {l : List (Bool × Nat)} {a : Act} {w w' : World} (hI : I w) (ho : ops[i]? = some o) (hw : Region.wanted o (yielded ops a.tmps) = true) (hr : (execOp a.eval o).run P w = .ok .skip w') (h : PlanW P ops Q I l (a.put o.dst undef) w') : PlanW P ops Q I ((false, i) :: l) a w :=
  ⟨hI, o, ho, hw, by unfold Oper.wp; rw [hr]; exact h⟩
theorem PlanW.call {i f : Nat} {args : Array Value} {o : Oper} {l : List (Bool × Nat)} {a : Act} {w : World} {R : Value → World → Prop} (t : Option Tmp) (hI : I w) (ho : ops[i]? = some o) (ht : o.dst = t) (hw : Region.wanted o (yielded ops a.tmps) = true) (hr : (execOp a.eval o).run P w = .ok (.enter f args) w)
    (hc : Calls P f args w fun e w' => ∃ v, e = .returned v ∧ R v w') (h : ∀ v w', R v w' → PlanW P ops Q I l (a.put t v) w') : PlanW P ops Q I ((false, i) :: l) a w :=
  ⟨hI, o, ho, hw, wp_of_wpS (R := R) (by unfold wpS; rw [hr]; exact hc) (by subst ht; exact h)⟩

theorem wpAnyI_of_plan (hsel : Region.noSelect ops = true) (hQ : ∀ c a w, ¬ Q (.panic c) a w) : ∀ (l : List (Bool × Nat)) (listed : Array Bool) (a : Act) (w : World), Region.planB md ops l listed = true → PlanW P ops Q I l a w → wpAnyI P ops md Q I l.length listed a w
  | [], _, _, _, hB, h => ⟨h.1, by simpa [Region.planB] using hB, h.2⟩
  | (true, i) :: l, listed, a, w, hB, h => by
    obtain ⟨o, v, ho, hy, h⟩ := h
    simp only [Region.planB, Bool.and_eq_true] at hB
    have T := wpAnyI_of_plan hsel hQ l (listed.setIfInBounds i true) _ w hB.2 h
    exact wpAnyI_first (md := md) (Q := Q) (I := I) ho (Region.noSelect_spec hsel) (fun c a w hq => absurd hq (hQ _ _ _)) _ listed a w (Region.free_spec ho hB.1.2) (by simpa using hB.1.1) hy T
  | (false, i) :: l, listed, a, w, hB, h => by
    obtain ⟨hI, o, ho, hw, h⟩ := h
    simp only [Region.planB, Bool.and_eq_true, decide_eq_true_eq] at hB
    refine ⟨hI, fun h1 => (by rw [hB.1] at h1; cases h1), fun j hj => ?_⟩
    rw [hB.1] at hj
    have hik : j = i := by simpa using hj
    subst hik
    have hw' : wpOp P ops Q j (PlanW P ops Q I l) a w := by unfold wpOp; simp only [ho, hw, if_true]; exact .inl h
    exact wpOp_mono (fun a' w' h' => wpAnyI_of_plan hsel hQ l _ a' w' hB.2 h') hw'
end

theorem wp_region_plan {P : Program} {id : Nat} {Q : Exit → Act → World → Prop} {a : Act} {w : World} {ops : Array Oper} (pl : List (Bool × Nat)) (I : World → Prop) (hm : P.follows .mixedOrders = true)
    (hB : (Region.noSelect ops && Region.planB .any ops pl (Array.replicate ops.size false) && decide (pl.length = ops.size)) = true) (h : PlanW P ops (strictQ Q) I pl a w.drew) : (Code.region id ops true).wp P Q a w := by
  simp only [Bool.and_eq_true, decide_eq_true_eq] at hB
  obtain ⟨⟨hsel, hp⟩, hl⟩ := hB
  refine wp_region_any hm ?_
  have T := wpAnyI_of_plan (md := .any) (Q := strictQ Q) hsel (fun c a w hq => absurd hq.1 (by simp)) pl _ a w.drew hp h
  rw [hl] at T
  exact wpAny_strict _ _ _ _ (wpAnyI.plain _ _ _ _ T)
end Go.Proofs.YtcocbainookkcaaGreat

/-
  Regions that draw their order, walked step by step: an operation that floats, the one that is ready, or either of two that are ready.
  No condition. General over every program.
-/
namespace Go.Proofs.YtcocbainookkcaaGreat
set_option maxRecDepth 100000
open Go.RowKit

section
variable {P : Program} {ops : Array Oper} {Q : Exit → Act → World → Prop} {I : World → Prop}
theorem wp_region_steps {id : Nat} {a : Act} {w : World} (n : Nat) (I : World → Prop) (hm : P.follows .mixedOrders = true) (hn : ops.size = n)
    (h : wpAnyI P ops .any (strictQ Q) I n (Array.replicate n false) a w.drew) : (Code.region id ops true).wp P Q a w := by
  refine wp_region_any hm ?_
  rw [← hn] at h
  exact wpAny_strict _ _ _ _ (wpAnyI.plain _ _ _ _ h)
theorem stepsI_float {i f : Nat} {listed : Array Bool} {a : Act} {w : World} {o : Oper} {v : Value} (t : Option Tmp)
    (hb : (Region.noSelect ops && (Region.ready .any ops listed).contains i && Region.free .any ops listed i) = true) (ho : ops[i]? = some o) (ht : o.dst = t) (hw : Region.wanted o (yielded ops a.tmps) = true)
    (hy : ∀ w, I w → (execOp a.eval o).run P w = .ok (.value v) w) (h : wpAnyI P ops .any (strictQ Q) I f (listed.setIfInBounds i true) (a.put t v) w) : wpAnyI P ops .any (strictQ Q) I (f + 1) listed a w := by
  simp only [Bool.and_eq_true] at hb
  subst ht
  exact wpAnyI_first ho (Region.noSelect_spec hb.1.1) (fun c a w hq => absurd hq.1 (by simp)) f listed a w (Region.free_spec ho hb.2) (by simpa using hb.1.2) ⟨hw, hy⟩ h
theorem stepsI_one {i f : Nat} {listed : Array Bool} {a : Act} {w : World} (hI : I w) (hr : decide (Region.ready .any ops listed = [i]) = true)
    (h : wpOp P ops (strictQ Q) i (wpAnyI P ops .any (strictQ Q) I f (listed.setIfInBounds i true)) a w) : wpAnyI P ops .any (strictQ Q) I (f + 1) listed a w := by
  simp only [decide_eq_true_eq] at hr
  refine ⟨hI, fun h1 => (by rw [hr] at h1; cases h1), fun j hj => ?_⟩
  rw [hr] at hj
  obtain rfl : j = i := by simpa using hj
  exact h
theorem stepsI_two {i k f : Nat} {listed : Array Bool} {a : Act} {w : World} (hI : I w) (hr : decide (Region.ready .any ops listed = [i, k]) = true)
    (h1 : wpOp P ops (strictQ Q) i (wpAnyI P ops .any (strictQ Q) I f (listed.setIfInBounds i true)) a w) (h2 : wpOp P ops (strictQ Q) k (wpAnyI P ops .any (strictQ Q) I f (listed.setIfInBounds k true)) a w) : wpAnyI P ops .any (strictQ Q) I (f + 1) listed a w := by
  simp only [decide_eq_true_eq] at hr
  refine ⟨hI, fun h1 => (by rw [hr] at h1; cases h1), fun j hj => ?_⟩
  rw [hr] at hj
  have hj2 : j = i ∨ j = k := by simpa using hj
  rcases hj2 with rfl | rfl
  · exact h1
  · exact h2
theorem stepsI_end {listed : Array Bool} {a : Act} {w : World} (hI : I w) (hr : decide (Region.ready .any ops listed = []) = true) (h : Q .normal a w) : wpAnyI P ops .any (strictQ Q) I 0 listed a w :=
  ⟨hI, by simpa using hr, rfl, h⟩
theorem op_value {i : Nat} {K : Act → World → Prop} {a : Act} {w w' : World} {o : Oper} {v : Value} (t : Option Tmp) (ho : ops[i]? = some o) (ht : o.dst = t) (hw : Region.wanted o (yielded ops a.tmps) = true)
    (hr : (execOp a.eval o).run P w = .ok (.value v) w') (h : K (a.put t v) w') : wpOp P ops (strictQ Q) i K a w := by
  unfold wpOp
  simp only [ho, hw, if_true]
  refine .inl ?_
  unfold Oper.wp; rw [hr]; subst ht; exact h
theorem op_call {i f : Nat} {args : Array Value} {K : Act → World → Prop} {a : Act} {w : World} {o : Oper} {R : Value → World → Prop} (t : Option Tmp) (ho : ops[i]? = some o) (ht : o.dst = t) (hw : Region.wanted o (yielded ops a.tmps) = true)
    (hr : (execOp a.eval o).run P w = .ok (.enter f args) w) (hc : Calls P f args w fun e w' => ∃ v, e = .returned v ∧ R v w') (h : ∀ v w', R v w' → K (a.put t v) w') : wpOp P ops (strictQ Q) i K a w := by
  unfold wpOp
  simp only [ho, hw, if_true]
  exact .inl (wp_of_wpS (R := R) (by unfold wpS; rw [hr]; exact hc) (by subst ht; exact h))
end
end Go.Proofs.YtcocbainookkcaaGreat

/-
  append of the rows of a list to a fresh list, and of one more row; the rows are only read.
  No condition.
-/
namespace Go.Proofs.YtcocbainookkcaaGreat
set_option maxRecDepth 100000
open Go.RowKit

/-- The cells of rows that can be read. -/
theorem list_cells {v : World} {gl n : Nat} {rows : List (List Int)} (hx : RdR v (some ⟨gl, 0, none⟩) n rows) : ∃ us : List Value, us.length = n ∧ ∀ i, i < n → ∃ ai ci, us[i]? = some (.slice ai (nthR rows i).length ci) ∧ v.cell? ⟨gl, i, none⟩ = some (.slice ai (nthR rows i).length ci) ∧ RdC v ai (nthR rows i).length (nthR rows i) := by
  obtain ⟨h1, hr⟩ := hx
  refine ⟨(List.range n).map fun i => (v.cell? ⟨gl, i, none⟩).getD undef, by simp, fun i hi => ?_⟩
  obtain ⟨b, off, ai, ci, ha, hc, hd⟩ := hr i hi
  simp only [Option.some.injEq, Addr.mk.injEq, and_true] at ha
  obtain ⟨rfl, rfl⟩ := ha
  rw [Nat.zero_add] at hc
  refine ⟨ai, ci, ?_, hc, hd⟩
  rw [List.getElem?_map, List.getElem?_range hi]
  simp only [Option.map_some, hc, Option.getD_some]
/-- Values that are the cells of rows. -/
def CellsV (v : World) (gl n : Nat) (rows : List (List Int)) (us : List Value) : Prop := us.length = n ∧ ∀ i, i < n → ∃ ai ci, us[i]? = some (.slice ai (nthR rows i).length ci) ∧ v.cell? ⟨gl, i, none⟩ = some (.slice ai (nthR rows i).length ci) ∧ RdC v ai (nthR rows i).length (nthR rows i)
theorem CellsV.at {v : World} {gl n : Nat} {rows : List (List Int)} {us : List Value} (h : CellsV v gl n rows us) {j : Nat} {u : Value} (hj : us[j]? = some u) : v.cell? ⟨gl, j, none⟩ = some u ∧ u.oneCell' = true := by
  have hjl : j < n := by
    rcases Nat.lt_or_ge j n with h1 | h1
    · exact h1
    · rw [List.getElem?_eq_none (by have := h.1; omega)] at hj; cases hj
  obtain ⟨ai, ci, h2, h3, _⟩ := h.2 j hjl
  rw [h2] at hj
  rw [← Option.some.inj hj]
  exact ⟨h3, rfl⟩
theorem run_list1 {v W : World} {gE gl n c : Nat} {rows : List (List Int)} {us : List Value} (hc : CellsV v gl n rows us) (gW : Ext v W) (hn0 : 0 < n) (hn : n ≤ 4194304) (ty : TypeId) :
    ∃ g' cap' w', (Builtin.append_ #[27, 27] ty #[.slice (some ⟨gE, 0, none⟩) 0 0, .slice (some ⟨gl, 0, none⟩) n c]).run Tryz.prog W = .ok (.slice (some ⟨g', 0, none⟩) n cap') w' ∧
      w'.ownsRow v.heap.size 24 1 (.slice (some ⟨g', 0, none⟩) n cap') n us ∧ Ext W w' := by
  obtain ⟨i0, hi, hz0, hz1, hz2⟩ := info_parts Tryz.infoR
  have hcell : ∀ j u, us[j]? = some u → W.cell? ((⟨gl, 0, none⟩ : Addr).add j) = some u := fun j u hj => by
    have := gW.cell (hc.at hj).1
    by_cases hj0 : j = 0
    · subst hj0; simpa [Addr.add] using this
    · simpa [Addr.add, hj0] using this
  rw [append_emptyN W ⟨gE, 0, none⟩ ⟨gl, 0, none⟩ n c us ty hc.1 hcell hn0 hn]
  obtain ⟨v', w', hr, h5, h6, _⟩ := run_append_own (P := Tryz.prog) W v.heap.size 27 ty 24 i0 (.slice none 0 0) 1 24 Tryz.underlying27 hi hz0 hz1 hz2 rfl (by decide) (.slice none 0 0) 0 [] (World.ownsRow_nil _ _ _ _)
    ⟨gl, 0, none⟩ n c us (by have := hc.1; omega) hcell (fun u hu => by
      obtain ⟨j, hj, rfl⟩ := List.getElem_of_mem hu
      exact (hc.at (List.getElem?_eq_getElem hj)).2) (by unfold maxLen; omega) (by omega) gW.size
  simp only [Nat.zero_add, List.nil_append] at h5
  have form : ∃ g cap, v' = .slice (some ⟨g, 0, none⟩) n cap := by
    rcases h5.2 with ⟨_, h3⟩ | ⟨g, c, cur, hv, _⟩
    · omega
    · exact ⟨g, c, hv⟩
  obtain ⟨g', cap', rfl⟩ := form
  exact ⟨g', cap', w', hr, h5, (Ext.refl W).grown h6 (fun k hk => by cases hk)⟩
theorem run_list2 {v W : World} {g n cap gl gx cx m cv : Nat} {av : Option Addr} {rows : List (List Int)} {xs : List Int} {us : List Value} (hc : CellsV v gl n rows us) (hrl : rows.length = n) (gW : Ext v W)
    (hown : W.ownsRow v.heap.size 24 1 (.slice (some ⟨g, 0, none⟩) n cap) n us) (hx : W.cell? ⟨gx, 0, none⟩ = some (.slice av m cv)) (hxs : RdC v av m xs) (hn : n ≤ 4194303) (ty : TypeId) :
    ∃ g' cap' w', (Builtin.append_ #[27, 27] ty #[.slice (some ⟨g, 0, none⟩) n cap, .slice (some ⟨gx, 0, none⟩) 1 cx]).run Tryz.prog W = .ok (.slice (some ⟨g', 0, none⟩) (n + 1) cap') w' ∧
      RdR w' (some ⟨g', 0, none⟩) (n + 1) (rows ++ [xs]) ∧ Ext v w' := by
  obtain ⟨i0, hi, hz0, hz1, hz2⟩ := info_parts Tryz.infoR
  have hgb := hown.lt g rfl
  obtain ⟨v', w', hr, h5, h6, _⟩ := run_append_own (P := Tryz.prog) W v.heap.size 27 ty 24 i0 (.slice none 0 0) 1 24 Tryz.underlying27 hi hz0 hz1 hz2 rfl (by decide) (.slice (some ⟨g, 0, none⟩) n cap) n us hown
    ⟨gx, 0, none⟩ 1 cx [.slice av m cv] rfl (fun j u hj => by
      cases j with
      | zero => simp only [List.getElem?_cons_zero, Option.some.injEq] at hj; subst hj; simpa [Addr.add] using hx
      | succ j => simp at hj) (fun u hu => by simp only [List.mem_singleton] at hu; subst hu; rfl) (by unfold maxLen; omega) (by omega) gW.size
  have form : ∃ g cap, v' = .slice (some ⟨g, 0, none⟩) (n + 1) cap ∧ ∀ j u, (us ++ [.slice av m cv])[j]? = some u → j < n + 1 → w'.cell? ⟨g, j, none⟩ = some u := by
    rcases h5.2 with ⟨_, h3⟩ | ⟨g, cc, cur, hv, hb, hh, hc1, hc2, hc3, hc4⟩
    · omega
    · refine ⟨g, cc, hv, fun j u hj hjn => ?_⟩
      rw [← hc4, List.getElem?_take_of_lt (by omega), Array.getElem?_toList] at hj
      simp only [World.cell?, hh]
      simpa using hj
  obtain ⟨g', cap', rfl, hcells⟩ := form
  have hE : Ext v w' := gW.grown h6 (fun k hk => by simp only [Value.ownBlock, Option.some.injEq] at hk; omega)
  refine ⟨g', cap', w', hr, ⟨by simp [hrl], fun i hi => ?_⟩, hE⟩
  by_cases hin : i < n
  · obtain ⟨ai, ci, h7, _, h8⟩ := hc.2 i hin
    rw [nthR_snoc (by omega)]
    refine ⟨g', 0, ai, ci, rfl, ?_, h8.ext hE⟩
    rw [Nat.zero_add]
    refine hcells i _ ?_ hi
    rw [List.getElem?_append_left (by have := hc.1; omega)]
    exact h7
  · obtain rfl : i = n := by omega
    have e : nthR (rows ++ [xs]) i = xs := by rw [← hrl, nthR_last]
    rw [e, hxs.1]
    refine ⟨g', 0, av, cv, rfl, ?_, hxs.ext hE⟩
    rw [Nat.zero_add]
    refine hcells i _ ?_ hi
    rw [List.getElem?_append_right (by have := hc.1; omega), hc.1]
    simp
theorem op_append {ops : Array Oper} {Q : Exit → Act → World → Prop} {i : Nat} {K : Act → World → Prop} {a : Act} {w w' : World} {o : Oper} {vs vx v : Value} {ty : TypeId} (t : Option Tmp) (ho : ops[i]? = some o) (ht : o.dst = t) (hty : o.type = ty) (hw : Region.wanted o (yielded ops a.tmps) = true) (s x : Operand)
    (hop : o.op = .call { callee := .builtin .append, args := #[s, x], argTypes := #[27, 27] }) (hs : a.eval s = vs) (hx : a.eval x = vx)
    (hr : (Builtin.append_ #[27, 27] ty #[vs, vx]).run Tryz.prog w = .ok v w') (h : K (a.put t v) w') : wpOp Tryz.prog ops (strictQ Q) i K a w := by
  subst hty
  refine op_value t ho ht hw ?_ h
  unfold execOp
  simp only [hop, resolve, invoke, builtin, Sem.run_bind, Sem.run_pure, Result.andThen_ok, List.map_toArray, List.map_cons, List.map_nil, hs, hx, hr]
end Go.Proofs.YtcocbainookkcaaGreat

/-
  Draws of vectors.
  No condition.
-/
namespace Go.Proofs.YtcocbainookkcaaGreat
set_option maxRecDepth 100000
open Go.RowKit

end Go.Proofs.YtcocbainookkcaaGreat

/-
  Draws of a space and two lists.
  No condition.
-/
namespace Go.Proofs.YtcocbainookkcaaGreat
set_option maxRecDepth 100000
open Go.RowKit

/-- A row of the call's own, behind the source. -/
def Chg.SPred.own (S : SrcP) (B M : Nat) (hB : S.g < B) : Chg.SPred (Drw.rel S) :=
  ⟨fun v w => ∃ a m cap xs, v = .slice a m cap ∧ m ≤ M ∧ OwnC B w a m cap xs, fun _ _ _ ⟨a, m, cap, xs, h1, h2, h3⟩ he => ⟨a, m, cap, xs, h1, h2, Drw.own he h3 hB⟩⟩

end Go.Proofs.YtcocbainookkcaaGreat

/-
  Draws of spaces that can be extended, and of vectors.
  No condition.
-/
namespace Go.Proofs.YtcocbainookkcaaGreat
set_option maxRecDepth 100000
open Go.RowKit

set_option maxHeartbeats 4000000 in
theorem s_draw18 (S : SrcP) (w : World) (hS : Src S w) :
    Calls Tryz.prog 20 #[.pointer (some ⟨S.g, 0, none⟩)] w fun e w' => ∃ p a d cap qs, e = .returned (.agg #[.int .i64 p, .slice a d cap]) ∧ 0 ≤ p ∧ p ≤ 17 ∧ d ≤ 7 ∧ OwnC w.heap.size w' a d cap qs ∧ Drw S w w' := by
  have HS := Lib.hid hS
  have hlt := hS.lt
  clear hS
  obtain ⟨W, hW⟩ : ∃ W, W = w.alloc (.cells #[.int .i64 0, .slice none 0 0] 26) := ⟨_, rfl⟩
  have gW : Ext w W := by rw [hW]; exact ext_alloc _ _
  have HZ := Lib.hid (show W.heap.size = w.heap.size + 1 by rw [hW]; simp)
  have HR := Lib.hid (show SpAt W w.heap.size 0 (.slice none 0 0) by rw [hW]; exact ⟨by simp, by simp, by simp, by simp⟩)
  have HW := Lib.hid hW
  have GW := Lib.hid (Drw.of_ext (S := S) gW)
  have hgR : w.heap.size ≠ S.g := by omega
  clear gW hW
  go_enter Tryz.func20, Tryz.ntmps20
  go_wp2_with (fail)
  rw [← HW.out]
  refine Calls.mono (s_pick S (w.heap.size + 1) 6 6 [1, 2, 2, 3, 3, 4] _ ((GW.out.alloc _).src HS.out) (by decide) (by decide) (by rw [← HZ.out]; exact rdC_lit W _ [1, 2, 2, 3, 3, 4]) (by omega)) ?_
  rintro e w2 ⟨r, rfl, hr, g2⟩
  obtain ⟨m, rfl, hm1, hm2⟩ : ∃ m : Nat, r = (m : Int) ∧ 1 ≤ m ∧ m ≤ 6 := by
    refine ⟨r.toNat, ?_⟩
    simp only [List.mem_cons, List.not_mem_nil, or_false] at hr
    omega
  have HR2 := Lib.hid ((HR.out.ext (ext_alloc _ _)).drw g2 hgR)
  have G2 := Lib.hid ((GW.out.alloc _).trans g2)
  clear g2 hr HR
  go_wp2_with (fail)
  refine Calls.mono (s_any S m w2 (G2.out.src HS.out) hm1 hm2) ?_
  rintro e w3 ⟨p, a, d, cap, qs, rfl, hpr, hp1, hp2, hd1, hd2, hqb, ho, g3⟩
  obtain ⟨W2, hW2⟩ : ∃ W2, W2 = w3.alloc (.cells #[.int .i64 p, .slice a d cap] 26) := ⟨_, rfl⟩
  obtain ⟨O, hO⟩ : ∃ O, O = w3.heap.size := ⟨_, rfl⟩
  have gW2 : Ext w3 W2 := by rw [hW2]; exact ext_alloc _ _
  have HC := Lib.hid (show SpAt W2 O p (.slice a d cap) by rw [hW2, hO]; exact ⟨by simp, by simp, by simp, by simp⟩)
  have HR3 := Lib.hid ((HR2.out.drw g3 hgR).ext gW2)
  have hwd : w.heap.size + 1 ≤ w2.heap.size := by have := HR2.out.lt; omega
  have HQ := Lib.hid ((ho.mono hwd).ext gW2)
  have G3 := Lib.hid ((G2.out.trans g3).ext gW2)
  have hgO : O ≠ S.g := by rw [hO]; have := g3.size; have := G2.out.size; omega
  have hRO : w.heap.size ≠ O := by rw [hO]; have := g3.size; omega
  have hwO : w.heap.size ≤ O := by rw [hO]; have := g3.size; omega
  go_wp2_with (fail)
  rw [← hW2, ← hO]
  clear hO gW2 ho g3 hW2 HR2 G2
  refine Calls.mono (s_next S 24 W2 (G3.out.src HS.out) (by decide)) ?_
  rintro e w4 ⟨r, rfl, _, g4⟩
  replace HR3 := Lib.hid (HR3.out.drw g4 hgR)
  replace HC := Lib.hid (HC.out.drw g4 hgO)
  replace HQ := Lib.hid (g4.own HQ.out (by omega))
  replace G3 := Lib.hid (G3.out.trans g4)
  clear g4
  by_cases h0 : r = 0
  · subst h0
    go_wp2_with (fail)
    refine Calls.mono (s_spoil3 S w4 (G3.out.src HS.out)) ?_
    rintro e w5 ⟨p2, a2, d2, c2, qs2, rfl, hp20, hp21, hd22, ho2, g5⟩
    have hR5 := HR3.out.drw g5 hgR
    have r0 := hR5.c0
    have r1 := hR5.c1
    have f0 := hR5.f0
    have f1 := hR5.f1
    have hw4 : w.heap.size + 1 ≤ w4.heap.size := by have := HR3.out.lt; omega
    have HO2 := Lib.hid (ho2.mono hw4)
    have G5 := Lib.hid (G3.out.trans g5)
    clear ho2 g5 hR5
    go_wp2_with (fail)
    refine bodyPost_ret (v := .agg #[.int .i64 p2, .slice a2 d2 c2]) (by simp [results, Tryz.results20, go_sem, r0, r1]) rfl ⟨p2, a2, d2, c2, qs2, rfl, hp20, hp21, hd22, ?_, ?_⟩
    · exact ((HO2.out.other (by simp) _).other (by simp) _).mono (by omega)
    · exact (G5.out.setCell (by simp) _).setCell (by simp) _
  · have hb0 : (r == 0) = false := by simp [h0]
    have r0 := HR3.out.c0
    have r1 := HR3.out.c1
    have f0 := HR3.out.f0
    have f1 := HR3.out.f1
    have o0 := HC.out.c0
    have o1 := HC.out.c1
    go_wp2_with (fail)
    refine bodyPost_ret (v := .agg #[.int .i64 p, .slice a d cap]) (by simp [results, Tryz.results20, go_sem, r0, r1]) rfl ⟨p, a, d, cap, qs, rfl, by omega, by omega, by omega, ?_, ?_⟩
    · exact ((HQ.out.other (by simp) _).other (by simp) _).mono (by omega)
    · exact (G3.out.setCell (by simp) _).setCell (by simp) _

set_option maxHeartbeats 4000000 in
theorem s_vec18 (S : SrcP) (p : Int) (a : Option Addr) (d cap : Nat) (w : World) (hS : Src S w) (hp0 : 0 ≤ p) (hp : p ≤ 1000000) (hd : d ≤ 100) :
    Calls Tryz.prog 22 #[.pointer (some ⟨S.g, 0, none⟩), .agg #[.int .i64 p, .slice a d cap]] w fun e w' => ∃ a cap m xs, e = .returned (.slice a m cap) ∧ m ≤ d + 1 ∧ OwnC w.heap.size w' a m cap xs ∧ Drw S w w' := by
  have hlt := hS.lt
  obtain ⟨O, hO⟩ : ∃ O, O = w.heap.size := ⟨_, rfl⟩
  have hgO : O ≠ S.g := by omega
  obtain ⟨W, hW⟩ : ∃ W, W = w.alloc (.cells #[.int .i64 p, .slice a d cap] 26) := ⟨_, rfl⟩
  have gW : Ext w W := by rw [hW]; exact ext_alloc _ _
  have HC := Lib.hid (show SpAt W O p (.slice a d cap) by rw [hW, hO]; exact ⟨by simp, by simp, by simp, by simp⟩)
  have HS := Lib.hid hS
  have GW := Lib.hid (Drw.of_ext (S := S) gW)
  have HZ := Lib.hid (show W.heap.size = w.heap.size + 1 by rw [hW]; simp)
  have hWO : O < W.heap.size := HC.out.lt
  clear gW hS
  have HHO := Lib.hid hO
  go_enter Tryz.func22, Tryz.ntmps22
  go_wp2_with (fail)
  rw [← hW]
  rw [← HHO.out]
  clear hW hO
  obtain ⟨W0, hW0⟩ : ∃ W0, W0 = W.alloc (.cells #[] 2) := ⟨_, rfl⟩
  have HE0 := Lib.hid (show Ext W W0 by rw [hW0]; exact ext_alloc _ _)
  have hz : W.heap.size = O + 1 := by have := HZ.out; have := HHO.out; omega
  have HOE := Lib.hid (show OwnC (O + 1) W0 (some ⟨O + 1, 0, none⟩) 0 0 [] by rw [hW0, ← hz]; exact own_empty W)
  rw [← hW0]
  have HL0 := Lib.hid (show O + 1 ≤ W0.heap.size by rw [hW0]; simp; omega)
  clear hW0
  have hSB : S.g < O + 1 := by have := HHO.out; omega
  have HSW := Lib.hid (GW.out.src HS.out)
  have G0 := Lib.hid (Drw.of_ext (S := S) HE0.out)
  have HWB : Hid (w.heap.size ≤ O + 1) := Lib.hid (by have := HHO.out; omega)
  have HBW : Hid (W.heap.size ≤ O + 1) := Lib.hid (by omega)
  clear HE0 HZ hz HS
  go_loopw [5, 6] (fun v i wr => ∃ (k : Nat) (b : Option Addr) (cb : Nat) (xs : List Int), k ≤ d ∧ i = .int .i64 k ∧ v = .slice b k cb ∧ Hid (OwnC (O + 1) wr b k cb xs) ∧ Hid (Drw S W wr) ∧ Hid (O + 1 ≤ wr.heap.size)) (fun _ i _ => d - (intOf i).toNat)
  case atStart => exact ⟨0, _, 0, [], Nat.zero_le _, rfl, rfl, HOE, G0, HL0⟩
  case round =>
    rename World => wr
    obtain ⟨k, b, cb, xs, hk, rfl, rfl, HO, HD, HL⟩ := hrel
    clear G0 HOE HL0
    have c0 := (HC.out.drw HD.out hgO).c0
    have c1 := (HC.out.drw HD.out hgO).c1
    by_cases hkn : k < d
    · have hkd : (k : Int) < (d : Int) := by omega
      go_wp2_with (fail)
      all_goals
        refine Calls.mono (s_next S _ wr (HD.out.src HSW.out) (by omega)) ?_
        rintro e w1 ⟨r, rfl, _, g1⟩
        have HO1 := Lib.hid (g1.own HO.out hSB)
        have HD1 := Lib.hid (HD.out.trans g1)
        have HL1 := Lib.hid (Nat.le_trans HL.out g1.size)
        clear g1 c0 c1
        go_wp2_with (at_builtin; refine wpList_push rfl (.tmp 15) (.tmp 21) rfl rfl rfl (v := r) (HO1.out.ext (ext_alloc _ _)) ?hc ?hn ?hB ?hk)
        case hc => simp
        case hn => omega
        case hB => have := HL1.out; simp; omega
        case hk =>
          intro g' cap' w3 ho3 hg3 he3
          have HO3 := Lib.hid ho3
          have HD3 := Lib.hid ((HD1.out.alloc _).grown hg3 (fun k hk => Nat.le_trans HBW.out (HO1.out.blk k hk)))
          have HL3 := Lib.hid (show O + 1 ≤ w3.heap.size by have h8 := HO3.out.base_of g' rfl; omega)
          clear ho3 hg3 he3
          go_wp2_with (fail)
          go_roundw
          case rel => exact ⟨k + 1, _, cap', _, by omega, by go_num, rfl, HO3, HD3, HL3⟩
          case measure => simp [intOf]; omega
    · obtain rfl : k = d := by omega
      go_wp2_with (fail)
      clear c0 c1
      refine Calls.mono (s_next S 40 wr (HD.out.src HSW.out) (by decide)) ?_
      rintro e w1 ⟨r, rfl, _, g1⟩
      have HO1 := Lib.hid (g1.own HO.out hSB)
      have HD1 := Lib.hid (HD.out.trans g1)
      have HL1 := Lib.hid (Nat.le_trans HL.out g1.size)
      clear g1
      by_cases h0 : r = 0
      · subst h0
        go_wp2_with (at_builtin; refine wpList_push rfl (.tmp 26) (.tmp 27) rfl rfl rfl (v := 0) (HO1.out.ext (ext_alloc _ _)) ?hc ?hn ?hB ?hk)
        case hc => simp
        case hn => omega
        case hB => have := HL1.out; simp; omega
        case hk =>
          intro g' cap' w3 ho3 hg3 he3
          have HO3 := Lib.hid (ho3.mono HWB.out)
          have HD3 := Lib.hid ((HD1.out.alloc _).grown hg3 (fun k hk => Nat.le_trans HBW.out (HO1.out.blk k hk)))
          clear ho3 hg3 he3
          go_wp2_with (fail)
          go_ret
          exact ⟨_, _, k + 1, _, rfl, by omega, HO3.out, GW.out.trans HD3.out⟩
      · have hb0 : (r == 0) = false := by simp [h0]
        go_wp2_with (fail)
        go_ret
        exact ⟨_, _, k, _, rfl, by omega, HO1.out.mono HWB.out, GW.out.trans HD1.out⟩
end Go.Proofs.YtcocbainookkcaaGreat

/-
  Draws of lists of vectors.
  No condition.
-/
namespace Go.Proofs.YtcocbainookkcaaGreat
set_option maxRecDepth 100000
open Go.RowKit

/-! ### Rows under draws -/
theorem ownsRow_keep {B : Nat} {w w' : World} {e : TypeId} {v : Value} {n : Nat} {vs : List Value} (h : w.ownsRow B e 1 v n vs) (hk : ∀ k, B ≤ k → k < w.heap.size → w'.heap[k]? = w.heap[k]?) : w'.ownsRow B e 1 v n vs := by
  have hlt := h.lt
  obtain ⟨h2, h3⟩ := h
  refine ⟨h2, ?_⟩
  rcases h3 with h3 | ⟨g, c, cur, hv, hb, hh, h5⟩
  · exact .inl h3
  · refine .inr ⟨g, c, cur, hv, hb, ?_, h5⟩
    have hg := hlt g (by rw [hv]; rfl)
    rw [hk g hg.1 hg.2]; exact hh
theorem OwnR.keepB {B : Nat} {w w' : World} {a : Option Addr} {n cap : Nat} {rows : List (List Int)} (h : OwnR B w a n cap rows) (hk : ∀ k, B ≤ k → k < w.heap.size → w'.heap[k]? = w.heap[k]?) : OwnR B w' a n cap rows := by
  obtain ⟨h1, vs, h2, h3, h4⟩ := h
  refine ⟨h1, vs, ownsRow_keep h2 hk, h3, fun i hi => ?_⟩
  obtain ⟨ai, ci, h5, h6⟩ := h4 i hi
  exact ⟨ai, ci, h5, h6.keep fun g hg => by have := h6.base_of g hg; exact hk g this.1 this.2⟩
theorem Drw.ownR {S : SrcP} {B : Nat} {w w' : World} {a : Option Addr} {n cap : Nat} {rows : List (List Int)} (h : Drw S w w') (ho : OwnR B w a n cap rows) (hB : S.g < B) : OwnR B w' a n cap rows :=
  ho.keepB fun k hk hl => h.block k hl (by omega)
/-- The world's first blocks. -/
def cutW (w : World) (n : Nat) : World := { w with heap := w.heap.extract 0 n }
theorem cutW_size {w : World} {n : Nat} (h : n ≤ w.heap.size) : (cutW w n).heap.size = n := by simp [cutW]; omega
theorem cutW_get {w : World} {n k : Nat} (h : k < n) : (cutW w n).heap[k]? = w.heap[k]? := by
  simp only [cutW, Array.getElem?_extract]
  by_cases hk : k < w.heap.size
  · rw [if_pos (by omega), Nat.zero_add]
  · rw [if_neg (by omega), Array.getElem?_eq_none (by omega)]
theorem cutW_ext {w : World} {n : Nat} (h : n ≤ w.heap.size) : Ext (cutW w n) w := by
  have hs := cutW_size h
  exact ⟨rfl, rfl, rfl, by rw [hs]; exact h, fun k hk => by rw [hs] at hk; exact (cutW_get hk).symm⟩
/-- Rows of a world ahead of a draw, as rows of the first blocks of the world behind it. -/
theorem Drw.ownCut {S : SrcP} {B : Nat} {w w' : World} {a : Option Addr} {n cap : Nat} {rows : List (List Int)} (h : Drw S w w') (ho : OwnR B w a n cap rows) (hB : S.g < B) : OwnR B (cutW w' w.heap.size) a n cap rows :=
  ho.keepB fun k hk hl => by rw [cutW_get hl]; exact h.block k hl (by omega)

end Go.Proofs.YtcocbainookkcaaGreat
