/-
  The listed function ShiftVersor.
  No condition.
-/
import Derived.Test.YtlchmkaaogokiaaFloatN
import Derived.Test.YtlchmkaaogokiaaExtS
import Derived.Test.YtlchmkaaogokiaaEleven
import Derived.Test.YtlchmkaaogokiaaCode18
import Derived.Test.YtlchmkaaogokiaaVec
import Derived.Test.YtlchmkaaogokiaaKit
import Derived.Test.YtlchmkaaogokiaaInv
import Derived.Test.YtlchmkaaogokiaaPlus
import Derived.Test.YtlchmkaaogokiaaRows3
namespace Go.Proofs.Ytlchmkaaogokiaa
set_option maxRecDepth 100000
open Go.RowKit

theorem wpSeqI_appendAll {ops : Array Oper} {i : Nat} {rest : List Nat} {o : Oper} {a : Act} {Q : Exit → Act → World → Prop} {I : World → Prop} {w : World} (t : Option Tmp) (hI : I w) (hoi : ops[i]? = some o) (ht : o.dst = t) (hwd : Region.wanted o (yielded ops a.tmps) = true) (s x : Operand)
    (ho : o.op = .call { callee := .builtin .append, args := #[s, x], argTypes := #[22, 22] })
    {B : Nat} {ra : Option Addr} {n cap : Nat} {xs : List Int} {b off m c : Nat} {ys : List Int} (hs : a.eval s = .slice ra n cap) (hx : a.eval x = .slice (some ⟨b, off, none⟩) m c)
    (hown : OwnC B w ra n cap xs) (hy : RdC w (some ⟨b, off, none⟩) m ys) (hm : 0 < m) (hn : n ≤ 4194304) (hml : m ≤ 4194304) (hB : B ≤ w.heap.size)
    (h : ∀ g' cap' w', OwnC B w' (some ⟨g', 0, none⟩) (n + m) cap' (xs ++ ys) → (∀ W : World, W.heap.size ≤ B → Ext W w → Ext W w') →
      wpSeqI Try.prog ops Q I rest (a.put t (.slice (some ⟨g', 0, none⟩) (n + m) cap')) w') : wpSeqI Try.prog ops Q I (i :: rest) a w := by
  obtain ⟨g', cap', w', hr, h1, h2, h3⟩ := run_appendAll hown hy hm hn hml hB o.type (c := c)
  refine wpSeqI.value (v := .slice (some ⟨g', 0, none⟩) (n + m) cap') t hI hoi ht hwd ?_ (h g' cap' w' h1 h3)
  unfold execOp
  simp only [ho, resolve, invoke, builtin, Sem.run_bind, Sem.run_pure, Result.andThen_ok, List.map_toArray, List.map_cons, List.map_nil, hs, hx, hr]
theorem good_ext0 {p : Int} {d : Nat} {x : List Int} (hp : 3 ≤ p) (h : Good p d x) : Good p (d + 2) (x ++ [0, 0]) := by
  refine ⟨by rw [List.length_append, h.1]; rfl, fun i hi => ?_⟩
  unfold nth
  rw [List.getD_eq_getElem?_getD]
  by_cases hlt : i < d
  · rw [List.getElem?_append_left (by rw [h.1]; exact hlt), ← List.getD_eq_getElem?_getD]; exact h.2 i hlt
  · rw [List.getElem?_append_right (by rw [h.1]; omega), h.1]
    have : i = d ∨ i = d + 1 := by omega
    rcases this with rfl | rfl
    · simp; omega
    · simp [Nat.add_sub_cancel_left]; omega
theorem good_inf {p : Int} {d : Nat} (hp : 3 ≤ p) : Good p (d + 2) (infL d) := by
  refine ⟨by simp [infL], fun i hi => ?_⟩
  unfold nth infL
  rw [List.getD_eq_getElem?_getD]
  by_cases hlt : i < d
  · rw [List.getElem?_append_left (by simpa using hlt), List.getElem?_replicate, if_pos hlt]; simp; omega
  · rw [List.getElem?_append_right (by simp; omega), List.length_replicate]
    have : i = d ∨ i = d + 1 := by omega
    rcases this with rfl | rfl
    · simp; omega
    · simp [Nat.add_sub_cancel_left]; omega
def shPr (p : Int) (qs x : List Int) : List Int := prodL p (extL p qs) tkA (vecL (2 ^ (qs.length + 2)) (x ++ [0, 0])) (vecL (2 ^ (qs.length + 2)) (infL qs.length))
def shL (p : Int) (qs x : List Int) : List Int := plusL p (bladeL (2 ^ (qs.length + 2)) 0) (shPr p qs x) (-(invN p 2)) (2 ^ (qs.length + 2))
/-- Scaled by k and taken off. -/
theorem plus_scale {p : Int} {x y : List Int} {k : Int} {n : Nat} : plusL p x (scaleL p y k n) (-1) n = plusL p x y (-k) n := by
  unfold plusL
  refine List.map_congr_left fun i hi => ?_
  have hin : i < n := List.mem_range.1 hi
  have e : nth (scaleL p y k n) i = scaleN p y k i := by
    unfold scaleL nth
    rw [List.getD_eq_getElem?_getD, List.getElem?_map, List.getElem?_range hin]; rfl
  unfold plusN
  rw [e]
  unfold scaleN
  have h1 : -k * nth y i = -(nth y i * k) := by rw [Int.neg_mul, Int.mul_comm]
  rw [Int.emod_def (nth y i * k) p, show nth x i + -1 * (nth y i * k - p * (nth y i * k / p)) = (nth x i + -k * nth y i) + p * (nth y i * k / p) by rw [h1]; omega, Int.add_mul_emod_self_left]
theorem c_plusq (p : Int) (ax ay : Option Addr) (n cx cy : Nat) (x y : List Int) (k : Int) (w : World) (hp1 : 3 ≤ p) (hp2 : p ≤ 1000) (hk : -1000 ≤ k ∧ k ≤ 1000) (hn : n ≤ 4194303) (hx : RdC w ax n x) (hy : RdC w ay n y) (hgx : Good p n x) (hgy : Good p n y) (q : Int) (hq : q = k) :
    Calls Try.prog 89 #[.int .i64 p, .slice ax n cx, .slice ay n cy, .int .i64 q] w fun e w' => ∃ g rc, e = .returned (.slice (some ⟨g, 0, none⟩) n rc) ∧ OwnC w.heap.size w' (some ⟨g, 0, none⟩) n rc (plusL p x y k n) ∧ Ext w w' := by
  rw [hq]; exact c_plus p ax ay n cx cy x y k w hp1 hp2 hk hn hx hy hgx hgy
theorem two_new (w : World) : RdC (w.alloc (.cells #[.int .i64 0, .int .i64 0] 2)) (some ⟨w.heap.size, 0, none⟩) 2 [0, 0] := rdC_two (by simp) (by simp)
theorem wpS_call {P : Program} {o : Oper} {a : Act} {w : World} {f : Nat} {args : Array Value} {R : Value → World → Prop} (hr : (execOp a.eval o).run P w = .ok (.enter f args) w) (hc : Calls P f args w fun e w' => ∃ v, e = .returned v ∧ R v w') : wpS P o a w R := by
  unfold wpS; rw [hr]; exact hc
theorem wpS_val {P : Program} {o : Oper} {a : Act} {w w' : World} {v : Value} {R : Value → World → Prop} (hr : (execOp a.eval o).run P w = .ok (.value v) w') (h : R v w') : wpS P o a w R := by
  unfold wpS; rw [hr]; exact h

set_option maxHeartbeats 400000 in
theorem c_ShiftVersor_bad (p : Int) (a : Option Addr) (d cap : Nat) (qs : List Int) (ax1 : Option Addr) (n1 cx1 : Nat) (xs1 : List Int) (w : World) (hd : d ≤ 4194304) (hn1 : n1 ≤ 4194304) (hq : RdC w a d qs) (hx1 : RdC w ax1 n1 xs1) (hc : code18 p qs [xs1] ≠ 0) :
    Calls Try.prog 33 #[.agg #[.int .i64 p, .slice a d cap], .slice ax1 n1 cx1] w fun e w' => ∃ ra rc, e = .returned (.tuple #[.slice ra 0 rc, .int .i64 (code18 p qs [xs1])]) ∧ OwnC w.heap.size w' ra 0 rc [] ∧ Ext w w' := by
  have HX := Lib.hid hx1
  have HQ := Lib.hid hq
  have hcb : (code18 p qs [xs1] != 0) = true := by simp [hc]
  clear hc hx1 hq
  go_enter Try.func33, Try.ntmps33
  go_wp2_with (go_at_call 84; refine (c_checkPlaces p a d cap qs _ 1 _ [xs1] _ hd (by omega) (len_one (by rw [HX.out.1]; exact hn1)) (HQ.out.ext ((ext_alloc _ _).alloc _)) (rdR_one (a := ax1) (n := _) (cap := cx1) (by simp) (HX.out.ext ((ext_alloc _ _).alloc _)))).mono ?_; rintro e w1 ⟨rfl, g1⟩)
  go_ret2
  exact ⟨none, 0, rfl, own_nil _ _, ((ext_alloc _ _).alloc _).trans g1⟩
set_option maxHeartbeats 4000000 in
set_option maxRecDepth 100000 in
theorem c_ShiftVersor_ok (p : Int) (a : Option Addr) (d cap : Nat) (qs : List Int) (ax1 : Option Addr) (n1 cx1 : Nat) (xs1 : List Int) (w : World) (hd : d ≤ 4194304) (hn1 : n1 ≤ 4194304) (hq : RdC w a d qs) (hx1 : RdC w ax1 n1 xs1) (hc : code18 p qs [xs1] = 0) :
    Calls Try.prog 33 #[.agg #[.int .i64 p, .slice a d cap], .slice ax1 n1 cx1] w fun e w' => ∃ ra rc, e = .returned (.tuple #[.slice ra (2 ^ (d + 2)) rc, .int .i64 0]) ∧ OwnC w.heap.size w' ra (2 ^ (d + 2)) rc (shL p qs xs1) ∧ Ext w w' := by
  obtain ⟨hs, h4, ha⟩ := code18_zero hc
  obtain ⟨hpr, hd1, hd6, hqb⟩ := space_of hs
  have hpb := prime_bd hpr
  have hql := hq.1
  rw [hql] at h4 ha hd1
  have hgx0 := rows_good ha 0 (by simp)
  have hgx : Good p d xs1 := hgx0
  obtain rfl : d = n1 := hgx.1.symm.trans hx1.1
  obtain ⟨N, hN⟩ : ∃ N, N = 2 ^ (d + 2) := ⟨_, rfl⟩
  rw [← hN]
  have HN := Lib.hid hN
  have hN6 : N ≤ 64 := by rw [hN]; exact pow_le64 (by omega)
  have HPR := Lib.hid hpr
  have HQB := Lib.hid hqb
  have HEB := Lib.hid (extL_isB (p := p) (by omega) hqb)
  have HEL := Lib.hid (show N = 2 ^ (extL p qs).length by rw [extL_len, hql]; exact hN)
  have HGX := Lib.hid (good_ext0 (by omega) hgx)
  have HGI := Lib.hid (good_inf (p := p) (d := d) (by omega))
  have HGV := Lib.hid (vec_good (N := N) (by omega) HGX.out)
  have HGW := Lib.hid (vec_good (N := N) (by omega) HGI.out)
  have HQ := Lib.hid hq
  have HX := Lib.hid hx1
  have HC := Lib.hid hc
  have HSH : Hid (shL p qs xs1 = plusL p (bladeL N 0) (prodL p (extL p qs) tkA (vecL N (xs1 ++ [0, 0])) (vecL N (infL d))) (-(invN p 2)) N) := Lib.hid (by unfold shL shPr; rw [hql, ← hN])
  obtain ⟨b, off, rfl, _⟩ := hx1.2 0 hd1
  obtain ⟨V, hV⟩ : ∃ V, V = invN p 2 := ⟨_, rfl⟩
  have hvb : 0 ≤ V ∧ V < p := by rw [hV]; exact invN_bd (by omega)
  have HV := Lib.hid hV
  have HNV : Hid (IntKind.i64.wrap (-V) = -V) := Lib.hid (IntWalk.i64_in _ (by omega))
  rw [← hV] at HSH
  have HGP : Hid (Good p N (prodL p (extL p qs) tkA (vecL N (xs1 ++ [0, 0])) (vecL N (infL d)))) := Lib.hid (by rw [HEL.out]; exact prod_good (by omega))
  clear hV
  have hcb : ((0 : Int) != 0) = false := by simp
  clear hc hs ha hpr hqb hq hx1 hN hql hd6 hgx hgx0
  go_enter Try.func33, Try.ntmps33
  go_wp2_with (first | (go_at_call 84; refine (c_checkPlaces p a d cap qs _ 1 _ [xs1] _ hd (by omega) (len_one (by rw [HX.out.1]; exact hd)) (HQ.out.ext ((ext_alloc _ _).alloc _)) (rdR_one (a := some ⟨b, off, none⟩) (n := _) (cap := cx1) (by simp) (HX.out.ext ((ext_alloc _ _).alloc _)))).mono ?_; rintro e w1 ⟨rfl, g1⟩; rw [HC.out]; have hq0 : w1.cell? ⟨w.heap.size, 0, none⟩ = some (.int .i64 p) := g1.cell (by simp); have hq1 : w1.cell? ⟨w.heap.size, 1, none⟩ = some (.slice a d cap) := g1.cell (by simp); have G1 := Lib.hid (((ext_alloc w (.cells #[.int .i64 p, .slice a d cap] 28)).alloc (.cells #[.slice (some ⟨b, off, none⟩) d cx1] 22)).trans g1); have Q0 := Lib.hid hq0; have Q1 := Lib.hid hq1; clear g1) | (go_at_call 85; refine (c_extended p a d cap qs _ hd1 (by omega) (by omega) (by omega) (HQ.out.ext G1.out)).mono ?_; rintro e w2 ⟨g2, r2, rfl, ho2, x2⟩; have HO2 := Lib.hid ho2; have X2 := Lib.hid x2; clear ho2 x2))
  obtain ⟨W, hW⟩ : ∃ W, W = w2.alloc (.cells #[.int .i64 p, .slice (some ⟨g2, 0, none⟩) (d + 2) r2] 28) := ⟨_, rfl⟩
  have gW : Ext w2 W := by rw [hW]; exact ext_alloc _ _
  have ho0 : W.cell? ⟨w2.heap.size, 0, none⟩ = some (.int .i64 p) := by rw [hW]; simp
  have ho1 : W.cell? ⟨w2.heap.size, 1, none⟩ = some (.slice (some ⟨g2, 0, none⟩) (d + 2) r2) := by rw [hW]; simp
  have O0 := Lib.hid ((ext_drew W).cell ho0)
  have O1 := Lib.hid ((ext_drew W).cell ho1)
  have S0 := Lib.hid ((X2.out.trans (gW.trans (ext_drew W))).cell Q0.out)
  have S1 := Lib.hid ((X2.out.trans (gW.trans (ext_drew W))).cell Q1.out)
  have HE2 := Lib.hid (HO2.out.ext (gW.trans (ext_drew W)))
  have GW := Lib.hid ((G1.out.trans X2.out).trans (gW.trans (ext_drew W)))
  rw [← hW]
  clear hq0 hq1 gW hW ho0 ho1
  obtain ⟨J, hJ⟩ : ∃ J : World → Prop, J = (fun w' => w'.cell? ⟨w.heap.size, 0, none⟩ = some (.int .i64 p) ∧ w'.cell? ⟨w.heap.size, 1, none⟩ = some (.slice a d cap) ∧ w'.cell? ⟨w2.heap.size, 0, none⟩ = some (.int .i64 p) ∧ w'.cell? ⟨w2.heap.size, 1, none⟩ = some (.slice (some ⟨g2, 0, none⟩) (d + 2) r2)) := ⟨_, rfl⟩
  have HJ : Hid (∀ w', Ext W.drew w' → J w') := Lib.hid (fun w' he => by rw [hJ]; exact ⟨he.cell S0.out, he.cell S1.out, he.cell O0.out, he.cell O1.out⟩)
  have HJ2 : Hid (∀ w', J w' → w'.cell? ⟨w.heap.size, 0, none⟩ = some (.int .i64 p) ∧ w'.cell? ⟨w.heap.size, 1, none⟩ = some (.slice a d cap) ∧ w'.cell? ⟨w2.heap.size, 0, none⟩ = some (.int .i64 p) ∧ w'.cell? ⟨w2.heap.size, 1, none⟩ = some (.slice (some ⟨g2, 0, none⟩) (d + 2) r2)) := Lib.hid (fun w' h => by rw [hJ] at h; exact h)
  clear hJ
  go_wp2_with (fail)
  refine wp_region_floatP [(0, .agg #[.int .i64 p, .slice (some ⟨g2, 0, none⟩) (d + 2) r2]), (1, .agg #[.int .i64 p, .slice (some ⟨g2, 0, none⟩) (d + 2) r2]), (2, .slice (some ⟨b, off, none⟩) d cx1), (7, .agg #[.int .i64 p, .slice (some ⟨g2, 0, none⟩) (d + 2) r2]), (8, .agg #[.int .i64 p, .slice a d cap])] 3 4 [5, 6, 9, 10, 11, 12, 13] J (by kernel_rfl) (by kernel_rfl) ?_
  (refine FloatW.cons (some 18) rfl rfl rfl (fun w' hI => ?_) ?_; (obtain ⟨e1, e2, e3, e4⟩ := HJ2.out w' hI; go_simp); simp only [Act.put, List.setIfInBounds_toArray, List.set_cons_zero, List.set_cons_succ])
  (refine FloatW.cons (some 19) rfl rfl rfl (fun w' hI => ?_) ?_; (obtain ⟨e1, e2, e3, e4⟩ := HJ2.out w' hI; go_simp); simp only [Act.put, List.setIfInBounds_toArray, List.set_cons_zero, List.set_cons_succ])
  (refine FloatW.cons (some 20) rfl rfl rfl (fun w' hI => ?_) ?_; (obtain ⟨e1, e2, e3, e4⟩ := HJ2.out w' hI; go_simp); simp only [Act.put, List.setIfInBounds_toArray, List.set_cons_zero, List.set_cons_succ])
  (refine FloatW.cons (some 25) rfl rfl rfl (fun w' hI => ?_) ?_; (obtain ⟨e1, e2, e3, e4⟩ := HJ2.out w' hI; go_simp); simp only [Act.put, List.setIfInBounds_toArray, List.set_cons_zero, List.set_cons_succ])
  (refine FloatW.cons (some 26) rfl rfl rfl (fun w' hI => ?_) ?_; (obtain ⟨e1, e2, e3, e4⟩ := HJ2.out w' hI; go_simp); simp only [Act.put, List.setIfInBounds_toArray, List.set_cons_zero, List.set_cons_succ])
  unfold FloatW
  refine wpSeqI.both (fun a a' w' => ∃ gc cc gb, a' = (a.put (some 21) (.slice (some ⟨gc, 0, none⟩) d cc)).put (some 22) (.slice (some ⟨gb, 0, none⟩) 2 2) ∧ OwnC W.drew.heap.size w' (some ⟨gc, 0, none⟩) d cc xs1 ∧ RdC w' (some ⟨gb, 0, none⟩) 2 [0, 0] ∧ Ext W.drew w') ?_ ?_ ?_
  · refine ⟨HJ.out _ (Ext.refl _), _, rfl, rfl, wp_of_wpS (R := (fun v w' => ∃ gc cc, v = .slice (some ⟨gc, 0, none⟩) d cc ∧ OwnC W.drew.heap.size w' (some ⟨gc, 0, none⟩) d cc xs1 ∧ Ext W.drew w')) (wpS_call (f := ?_) (args := ?_) ?_ ?_) ?_⟩
    rotate_left 2
    · go_simp; refine ⟨?_, ?_⟩ <;> rfl
    · refine (c_clone b off d cx1 xs1 _ hd1 (by omega) (HX.out.ext GW.out)).mono ?_
      rintro e w3 ⟨gc, cc, rfl, ho, he⟩
      exact ⟨_, rfl, gc, cc, rfl, ho, he⟩
    rintro v w3 ⟨gc, cc, rfl, ho, he⟩
    refine ⟨HJ.out _ he, _, rfl, rfl, wp_of_wpS (R := fun v w4 => v = .slice (some ⟨w3.heap.size, 0, none⟩) 2 2 ∧ w4 = w3.alloc (.cells #[.int .i64 0, .int .i64 0] 2)) (wpS_val (v := .slice (some ⟨w3.heap.size, 0, none⟩) 2 2) (w' := w3.alloc (.cells #[.int .i64 0, .int .i64 0] 2)) (by go_simp) ⟨rfl, rfl⟩) ?_⟩
    rintro v w4 ⟨rfl, rfl⟩
    exact ⟨gc, cc, w3.heap.size, rfl, ho.ext (ext_alloc _ _), rdC_two (by simp) (by simp), he.alloc _⟩
  · refine ⟨HJ.out _ (Ext.refl _), _, rfl, rfl, wp_of_wpS (R := fun v w4 => v = .slice (some ⟨W.drew.heap.size, 0, none⟩) 2 2 ∧ w4 = W.drew.alloc (.cells #[.int .i64 0, .int .i64 0] 2)) (wpS_val (v := .slice (some ⟨W.drew.heap.size, 0, none⟩) 2 2) (w' := W.drew.alloc (.cells #[.int .i64 0, .int .i64 0] 2)) (by go_simp) ⟨rfl, rfl⟩) ?_⟩
    rintro v w3 ⟨rfl, rfl⟩
    have he3 : Ext W.drew (W.drew.alloc (.cells #[.int .i64 0, .int .i64 0] 2)) := ext_alloc _ _
    have hr3 : RdC (W.drew.alloc (.cells #[.int .i64 0, .int .i64 0] 2)) (some ⟨W.drew.heap.size, 0, none⟩) 2 [0, 0] := two_new _
    have HE3 := Lib.hid he3
    have HR3 := Lib.hid hr3
    clear he3 hr3
    refine ⟨HJ.out _ HE3.out, _, rfl, rfl, wp_of_wpS (R := fun v w' => ∃ gc cc, v = .slice (some ⟨gc, 0, none⟩) d cc ∧ OwnC W.drew.heap.size w' (some ⟨gc, 0, none⟩) d cc xs1 ∧ Ext (W.drew.alloc (.cells #[.int .i64 0, .int .i64 0] 2)) w') (wpS_call (f := ?_) (args := ?_) ?_ ?_) ?_⟩
    rotate_left 2
    · simp only [Act.put, List.setIfInBounds_toArray]; go_simp; refine ⟨?_, ?_⟩ <;> rfl
    · refine (c_clone b off d cx1 xs1 _ hd1 (by omega) (HX.out.ext (GW.out.trans HE3.out))).mono ?_
      rintro e w4 ⟨gc, cc, rfl, ho, he⟩
      exact ⟨_, rfl, gc, cc, rfl, ho.mono HE3.out.size, he⟩
    rintro v w4 ⟨gc, cc, rfl, ho, he⟩
    exact ⟨gc, cc, W.drew.heap.size, Act.put_comm _ _ _ (by decide), ho, HR3.out.ext he, HE3.out.trans he⟩
  rintro a' w3 ⟨gc, cc, gb, rfl, ho, hr, he⟩
  have HOc := Lib.hid ho
  have HRb := Lib.hid hr
  have X3 := Lib.hid he
  clear ho hr he
  simp only [Act.put, List.setIfInBounds_toArray, List.set_cons_zero, List.set_cons_succ]
  refine wpSeqI_appendAll (some 23) (HJ.out _ X3.out) rfl rfl rfl (.tmp 21) (.tmp 22) rfl rfl rfl HOc.out HRb.out (by omega) (by omega) (by omega) X3.out.size ?_
  intro g4 c4 w4 ho4 he4
  have HO4 := Lib.hid ho4
  have X4 := Lib.hid (he4 W.drew (Nat.le_refl _) X3.out)
  clear ho4 he4
  simp only [Act.put, List.setIfInBounds_toArray, List.set_cons_zero, List.set_cons_succ]
  refine wpSeqI.call (f := ?_) (args := ?_) (R := (fun v w' => ∃ g, v = .slice (some ⟨g, 0, none⟩) N N ∧ OwnC W.drew.heap.size w' (some ⟨g, 0, none⟩) N N (vecL N (xs1 ++ [0, 0])) ∧ Ext w4 w')) (some 24) (HJ.out _ X4.out) rfl rfl rfl ?_ ?_ ?_
  rotate_left 2
  · go_simp; refine ⟨?_, ?_⟩ <;> rfl
  · refine (c_vector HN.out p _ r2 _ c4 (xs1 ++ [0, 0]) _ (by omega) HO4.out.rd).mono ?_
    rintro e w5 ⟨g, rfl, ho, he⟩; exact ⟨_, rfl, g, rfl, ho.mono X4.out.size, he⟩
  rintro v w5 ⟨g5, rfl, ho5, he5⟩; have HO5 := Lib.hid ho5; have X5 := Lib.hid (X4.out.trans he5); clear ho5 he5
  simp only [Act.put, List.setIfInBounds_toArray, List.set_cons_zero, List.set_cons_succ]
  refine wpSeqI.call (f := ?_) (args := ?_) (R := (fun v w' => ∃ g rc, v = .slice (some ⟨g, 0, none⟩) (d + 2) rc ∧ OwnC W.drew.heap.size w' (some ⟨g, 0, none⟩) (d + 2) rc (infL d) ∧ Ext w5 w')) (some 27) (HJ.out _ X5.out) rfl rfl rfl ?_ ?_ ?_
  rotate_left 2
  · go_simp; refine ⟨?_, ?_⟩ <;> rfl
  · refine (c_infinity p a d cap _ (by omega)).mono ?_
    rintro e w6 ⟨g, rc, rfl, ho, he⟩; exact ⟨_, rfl, g, rc, rfl, ho.mono X5.out.size, he⟩
  rintro v w6 ⟨g6, c6, rfl, ho6, he6⟩; have HO6 := Lib.hid ho6; have HV6 := Lib.hid (HO5.out.ext he6); have X6 := Lib.hid (X5.out.trans he6); clear ho6 he6
  simp only [Act.put, List.setIfInBounds_toArray, List.set_cons_zero, List.set_cons_succ]
  refine wpSeqI.call (f := ?_) (args := ?_) (R := (fun v w' => ∃ g, v = .slice (some ⟨g, 0, none⟩) N N ∧ OwnC W.drew.heap.size w' (some ⟨g, 0, none⟩) N N (vecL N (infL d)) ∧ Ext w6 w')) (some 28) (HJ.out _ X6.out) rfl rfl rfl ?_ ?_ ?_
  rotate_left 2
  · go_simp; refine ⟨?_, ?_⟩ <;> rfl
  · refine (c_vector HN.out p _ r2 _ c6 (infL d) _ (by omega) HO6.out.rd).mono ?_
    rintro e w7 ⟨g, rfl, ho, he⟩; exact ⟨_, rfl, g, rfl, ho.mono X6.out.size, he⟩
  rintro v w7 ⟨g7, rfl, ho7, he7⟩; have HO7 := Lib.hid ho7; have HV7 := Lib.hid (HV6.out.ext he7); have X7 := Lib.hid (X6.out.trans he7); clear ho7 he7
  simp only [Act.put, List.setIfInBounds_toArray, List.set_cons_zero, List.set_cons_succ]
  have X8 := Lib.hid (X7.out.alloc (.cells #[.slice (some ⟨g5, 0, none⟩) N N, .slice (some ⟨g7, 0, none⟩) N N] 22))
  refine wpSeqI.value (v := .slice (some ⟨w7.heap.size, 0, none⟩) 2 2) (w' := w7.alloc (.cells #[.slice (some ⟨g5, 0, none⟩) N N, .slice (some ⟨g7, 0, none⟩) N N] 22)) (some 29) (HJ.out _ X7.out) rfl rfl rfl (by go_simp) ?_
  simp only [Act.put, List.setIfInBounds_toArray, List.set_cons_zero, List.set_cons_succ]
  refine wpSeqI.call (f := ?_) (args := ?_) (R := (fun v w' => ∃ g, v = .slice (some ⟨g, 0, none⟩) N N ∧ OwnC W.drew.heap.size w' (some ⟨g, 0, none⟩) N N (prodL p (extL p qs) tkA (vecL N (xs1 ++ [0, 0])) (vecL N (infL d))) ∧ Ext W.drew w')) (some 30) (HJ.out _ X8.out) rfl rfl rfl ?_ ?_ ?_
  rotate_left 2
  · go_simp; refine ⟨?_, ?_⟩ <;> rfl
  · refine (c_timesN HN.out p _ r2 (extL p qs) _ 2 _ [vecL N (xs1 ++ [0, 0]), vecL N (infL d)] _ (by omega) (by omega) (by omega) (by omega) (HE2.out.rd.ext X8.out) HEB.out (rdR_two (a := some ⟨g5, 0, none⟩) (b := some ⟨g7, 0, none⟩) (n := N) (m := N) (ca := N) (cb := N) (by simp) (by simp) (HV7.out.rd.ext (ext_alloc _ _)) (HO7.out.rd.ext (ext_alloc _ _))) (good_two HGV.out HGW.out)).mono ?_
    rintro e w9 ⟨g, rfl, ho, he⟩; rw [prod_two HEL.out (by omega) HGV.out] at ho; exact ⟨_, rfl, g, rfl, ho.mono X8.out.size, X8.out.trans he⟩
  rintro v w9 ⟨g9, rfl, ho9, he9⟩; have HO9 := Lib.hid ho9; have X9 := Lib.hid he9; clear ho9 he9
  simp only [Act.put, List.setIfInBounds_toArray, List.set_cons_zero, List.set_cons_succ]
  refine wpSeqI.value (v := ?_) (w' := w9) (some 8) (HJ.out _ X9.out) rfl rfl rfl ?_ ?_
  rotate_left
  · go_simp; rfl
  refine ⟨HJ.out _ X9.out, strictQ_normal ?_⟩
  simp only [Act.put, List.setIfInBounds_toArray, List.set_cons_zero, List.set_cons_succ]
  go_wp2_with (fail)
  have T0 := Lib.hid ((X9.out.trans (ext_drew w9)).cell S0.out)
  have T1 := Lib.hid ((X9.out.trans (ext_drew w9)).cell S1.out)
  have T2 := Lib.hid ((X9.out.trans (ext_drew w9)).cell O0.out)
  have T3 := Lib.hid ((X9.out.trans (ext_drew w9)).cell O1.out)
  have GX := Lib.hid (GW.out.trans (X9.out.trans (ext_drew w9)))
  refine wp_region_lex [(1, .val (.int .i64 p)), (3, .ownG w.heap.size N (bladeL N 0)), (6, .val (.int .i64 p)), (7, .val (.int .i64 V)), (9, .ownS w.heap.size N (plusL p (bladeL N 0) (prodL p (extL p qs) tkA (vecL N (xs1 ++ [0, 0])) (vecL N (infL d))) (-V) N))] (by kernel_rfl) (by kernel_rfl) ?_
  (refine LexW.pure (v := ?_) rfl rfl (fun w1 he => ?_) ?_; rotate_left; ( have e1 := he.cell T0.out; have e2 := he.cell T1.out; have e3 := he.cell T2.out; have e4 := he.cell T3.out; go_simp; rfl); simp only [Act.put, List.setIfInBounds_toArray, List.set_cons_zero, List.set_cons_succ])
  (refine LexW.call (f := ?_) (args := ?_) rfl rfl (fun w1 => ?_) (fun w1 he hdep => ?_) ?_; rotate_left 2; (go_simp; refine ⟨?_, ?_⟩ <;> rfl); ( exact c_field p _ w1); simp only [Act.put, List.setIfInBounds_toArray, List.set_cons_zero, List.set_cons_succ])
  (refine LexW.pure (v := ?_) rfl rfl (fun w1 he => ?_) ?_; rotate_left; ( have e1 := he.cell T0.out; have e2 := he.cell T1.out; have e3 := he.cell T2.out; have e4 := he.cell T3.out; go_simp; rfl); simp only [Act.put, List.setIfInBounds_toArray, List.set_cons_zero, List.set_cons_succ])
  (refine LexW.callR (f := ?_) (args := ?_) rfl rfl (fun w1 => ?_) (fun w1 he hdep => ?_) (fun v hv => ?_); rotate_left 2; (go_simp; refine ⟨?_, ?_⟩ <;> rfl); ( refine (c_oneN HN.out p _ r2 w1 (by omega)).mono ?_; rintro e w2 ⟨g, rfl, ho, g2⟩; exact ⟨_, rfl, g2, g, rfl, ho.mono (Nat.le_trans GX.out.size he.size)⟩); simp only [Act.put, List.setIfInBounds_toArray, List.set_cons_zero, List.set_cons_succ])
  obtain ⟨_, g34, rfl, _⟩ := hv
  (refine LexW.pure (v := ?_) rfl rfl (fun w1 he => ?_) ?_; rotate_left; ( have e1 := he.cell T0.out; have e2 := he.cell T1.out; have e3 := he.cell T2.out; have e4 := he.cell T3.out; go_simp; rfl); simp only [Act.put, List.setIfInBounds_toArray, List.set_cons_zero, List.set_cons_succ])
  (refine LexW.pure (v := ?_) rfl rfl (fun w1 he => ?_) ?_; rotate_left; ( have e1 := he.cell T0.out; have e2 := he.cell T1.out; have e3 := he.cell T2.out; have e4 := he.cell T3.out; go_simp; rfl); simp only [Act.put, List.setIfInBounds_toArray, List.set_cons_zero, List.set_cons_succ])
  (refine LexW.call (f := ?_) (args := ?_) rfl rfl (fun w1 => ?_) (fun w1 he hdep => ?_) ?_; rotate_left 2; (go_simp; refine ⟨?_, ?_⟩ <;> rfl); ( exact c_field p _ w1); simp only [Act.put, List.setIfInBounds_toArray, List.set_cons_zero, List.set_cons_succ])
  (refine LexW.call (f := ?_) (args := ?_) rfl rfl (fun w1 => ?_) (fun w1 he hdep => ?_) ?_; rotate_left 2; (go_simp; refine ⟨?_, ?_⟩ <;> rfl); ( rw [HV.out]; exact c_inv p 2 w1 (by omega) (by omega) (by omega) (by omega)); simp only [Act.put, List.setIfInBounds_toArray, List.set_cons_zero, List.set_cons_succ])
  (refine LexW.pure (v := ?_) rfl rfl (fun w1 he => ?_) ?_; rotate_left; ( have e1 := he.cell T0.out; have e2 := he.cell T1.out; have e3 := he.cell T2.out; have e4 := he.cell T3.out; go_simp; rfl); simp only [Act.put, List.setIfInBounds_toArray, List.set_cons_zero, List.set_cons_succ])
  (refine LexW.callR (f := ?_) (args := ?_) rfl rfl (fun w1 => ?_) (fun w1 he hdep => ?_) (fun v hv => ?_); rotate_left 2; (go_simp; refine ⟨?_, ?_⟩ <;> rfl); ( obtain ⟨_, q34, r34⟩ : (SPred.ownG w.heap.size N (bladeL N 0)).holds (.slice (some ⟨g34, 0, none⟩) N N) w1 := hdep (3, 34) (by decide +kernel); cases q34; refine (c_plusq p _ _ N _ _ (bladeL N 0) (prodL p (extL p qs) tkA (vecL N (xs1 ++ [0, 0])) (vecL N (infL d))) (-V) w1 (by omega) (by omega) (by omega) (by omega) r34.rd (HO9.out.rd.ext ((ext_drew w9).trans he)) (blade_good (by omega)) HGP.out _ HNV.out).mono ?_; rintro e w2 ⟨g, rc, rfl, ho, g2⟩; exact ⟨_, rfl, g2, g, rc, rfl, ho.mono (Nat.le_trans GX.out.size he.size)⟩); simp only [Act.put, List.setIfInBounds_toArray, List.set_cons_zero, List.set_cons_succ])
  obtain ⟨_, g40, c40, rfl, _⟩ := hv
  (refine LexW.pure (v := ?_) rfl rfl (fun w1 he => ?_) ?_; rotate_left; ( have e1 := he.cell T0.out; have e2 := he.cell T1.out; have e3 := he.cell T2.out; have e4 := he.cell T3.out; go_simp; rfl); simp only [Act.put, List.setIfInBounds_toArray, List.set_cons_zero, List.set_cons_succ])
  (refine LexW.pure (v := ?_) rfl rfl (fun w1 he => ?_) ?_; rotate_left; ( have e1 := he.cell T0.out; have e2 := he.cell T1.out; have e3 := he.cell T2.out; have e4 := he.cell T3.out; go_simp; rfl); simp only [Act.put, List.setIfInBounds_toArray, List.set_cons_zero, List.set_cons_succ])
  refine LexW.nil (fun w3 he hkn => ?_)
  obtain ⟨_, _, q40, r40⟩ : (SPred.ownS w.heap.size N (plusL p (bladeL N 0) (prodL p (extL p qs) tkA (vecL N (xs1 ++ [0, 0])) (vecL N (infL d))) (-V) N)).holds (.slice (some ⟨g40, 0, none⟩) N c40) w3 := hkn (9, _) (by simp)
  cases q40
  have R40 := Lib.hid r40
  have HE := Lib.hid (GX.out.trans he)
  clear he hkn r40
  go_wp2_with (fail)
  go_ret2
  exact ⟨_, _, rfl, by rw [HSH.out]; exact R40.out, HE.out⟩


set_option maxHeartbeats 400000 in
theorem s_ShiftVersor_bad (p : Int) (a : Option Addr) (d cap : Nat) (qs : List Int) (ax1 : Option Addr) (n1 cx1 : Nat) (xs1 : List Int) (w : World) (hd : d ≤ 4194304) (hn1 : n1 ≤ 4194304) (hq : RdC w a d qs) (hx1 : RdC w ax1 n1 xs1) (hc : code18 p qs [xs1] ≠ 0) :
    Calls Try.prog 32 #[.agg #[.int .i64 p, .slice a d cap], .slice ax1 n1 cx1] w fun e w' => ∃ ra rc, e = .returned (.tuple #[.slice ra 0 rc, .int .i64 (code18 p qs [xs1])]) ∧ OwnC w.heap.size w' ra 0 rc [] ∧ Ext w w' := by
  have HX := Lib.hid hx1
  have HQ := Lib.hid hq
  have hcb : (code18 p qs [xs1] != 0) = true := by simp [hc]
  clear hc hx1 hq
  go_enter Try.func32, Try.ntmps32
  go_wp2_with (go_at_call 75; refine (s_code18 p a d cap qs _ 1 _ [xs1] _ hd (by omega) (len_one (by rw [HX.out.1]; exact hn1)) (HQ.out.ext ((ext_alloc _ _).alloc _)) (rdR_one (a := ax1) (n := _) (cap := cx1) (by simp) (HX.out.ext ((ext_alloc _ _).alloc _)))).mono ?_; rintro e w1 ⟨rfl, g1⟩)
  go_ret2
  exact ⟨none, 0, rfl, own_nil _ _, ((ext_alloc _ _).alloc _).trans g1⟩
set_option maxHeartbeats 4000000 in
set_option maxRecDepth 100000 in
theorem s_ShiftVersor_ok (p : Int) (a : Option Addr) (d cap : Nat) (qs : List Int) (ax1 : Option Addr) (n1 cx1 : Nat) (xs1 : List Int) (w : World) (hd : d ≤ 4194304) (hn1 : n1 ≤ 4194304) (hq : RdC w a d qs) (hx1 : RdC w ax1 n1 xs1) (hc : code18 p qs [xs1] = 0) :
    Calls Try.prog 32 #[.agg #[.int .i64 p, .slice a d cap], .slice ax1 n1 cx1] w fun e w' => ∃ ra rc, e = .returned (.tuple #[.slice ra (2 ^ (d + 2)) rc, .int .i64 0]) ∧ OwnC w.heap.size w' ra (2 ^ (d + 2)) rc (shL p qs xs1) ∧ Ext w w' := by
  obtain ⟨hs, h4, ha⟩ := code18_zero hc
  obtain ⟨hpr, hd1, hd6, hqb⟩ := space_of hs
  have hpb := prime_bd hpr
  have hql := hq.1
  rw [hql] at h4 ha hd1
  have hgx0 := rows_good ha 0 (by simp)
  have hgx : Good p d xs1 := hgx0
  obtain rfl : d = n1 := hgx.1.symm.trans hx1.1
  obtain ⟨N, hN⟩ : ∃ N, N = 2 ^ (d + 2) := ⟨_, rfl⟩
  rw [← hN]
  have HN := Lib.hid hN
  have hN6 : N ≤ 64 := by rw [hN]; exact pow_le64 (by omega)
  have HPR := Lib.hid hpr
  have HQB := Lib.hid hqb
  have HEB := Lib.hid (extL_isB (p := p) (by omega) hqb)
  have HEL := Lib.hid (show N = 2 ^ (extL p qs).length by rw [extL_len, hql]; exact hN)
  have HGX := Lib.hid (good_ext0 (by omega) hgx)
  have HGI := Lib.hid (good_inf (p := p) (d := d) (by omega))
  have HGV := Lib.hid (vec_good (N := N) (by omega) HGX.out)
  have HGW := Lib.hid (vec_good (N := N) (by omega) HGI.out)
  have HQ := Lib.hid hq
  have HX := Lib.hid hx1
  have HC := Lib.hid hc
  have HSH : Hid (shL p qs xs1 = plusL p (bladeL N 0) (prodL p (extL p qs) tkA (vecL N (xs1 ++ [0, 0])) (vecL N (infL d))) (-(invN p 2)) N) := Lib.hid (by unfold shL shPr; rw [hql, ← hN])
  obtain ⟨b, off, rfl, _⟩ := hx1.2 0 hd1
  obtain ⟨V, hV⟩ : ∃ V, V = invN p 2 := ⟨_, rfl⟩
  have hvb : 0 ≤ V ∧ V < p := by rw [hV]; exact invN_bd (by omega)
  have HV := Lib.hid hV
  have HNV : Hid (IntKind.i64.wrap (-V) = -V) := Lib.hid (IntWalk.i64_in _ (by omega))
  rw [← hV] at HSH
  have HGP : Hid (Good p N (prodL p (extL p qs) tkA (vecL N (xs1 ++ [0, 0])) (vecL N (infL d)))) := Lib.hid (by rw [HEL.out]; exact prod_good (by omega))
  clear hV
  have hcb : ((0 : Int) != 0) = false := by simp
  clear hc hs ha hpr hqb hq hx1 hN hql hd6 hgx hgx0
  go_enter Try.func32, Try.ntmps32
  go_wp2_with (first | (go_at_call 75; refine (s_code18 p a d cap qs _ 1 _ [xs1] _ hd (by omega) (len_one (by rw [HX.out.1]; exact hd)) (HQ.out.ext ((ext_alloc _ _).alloc _)) (rdR_one (a := some ⟨b, off, none⟩) (n := _) (cap := cx1) (by simp) (HX.out.ext ((ext_alloc _ _).alloc _)))).mono ?_; rintro e w1 ⟨rfl, g1⟩; rw [HC.out]; have hq0 : w1.cell? ⟨w.heap.size, 0, none⟩ = some (.int .i64 p) := g1.cell (by simp); have hq1 : w1.cell? ⟨w.heap.size, 1, none⟩ = some (.slice a d cap) := g1.cell (by simp); have G1 := Lib.hid (((ext_alloc w (.cells #[.int .i64 p, .slice a d cap] 28)).alloc (.cells #[.slice (some ⟨b, off, none⟩) d cx1] 22)).trans g1); have Q0 := Lib.hid hq0; have Q1 := Lib.hid hq1; clear g1) | (go_at_call 76; refine (s_extended p a d cap qs _ hd1 (by omega) (by omega) (by omega) (HQ.out.ext G1.out)).mono ?_; rintro e w2 ⟨g2, r2, rfl, ho2, x2⟩; have HO2 := Lib.hid ho2; have X2 := Lib.hid x2; clear ho2 x2))
  obtain ⟨W, hW⟩ : ∃ W, W = w2.alloc (.cells #[.int .i64 p, .slice (some ⟨g2, 0, none⟩) (d + 2) r2] 28) := ⟨_, rfl⟩
  have gW : Ext w2 W := by rw [hW]; exact ext_alloc _ _
  have ho0 : W.cell? ⟨w2.heap.size, 0, none⟩ = some (.int .i64 p) := by rw [hW]; simp
  have ho1 : W.cell? ⟨w2.heap.size, 1, none⟩ = some (.slice (some ⟨g2, 0, none⟩) (d + 2) r2) := by rw [hW]; simp
  have O0 := Lib.hid ((ext_drew W).cell ho0)
  have O1 := Lib.hid ((ext_drew W).cell ho1)
  have S0 := Lib.hid ((X2.out.trans (gW.trans (ext_drew W))).cell Q0.out)
  have S1 := Lib.hid ((X2.out.trans (gW.trans (ext_drew W))).cell Q1.out)
  have HE2 := Lib.hid (HO2.out.ext (gW.trans (ext_drew W)))
  have GW := Lib.hid ((G1.out.trans X2.out).trans (gW.trans (ext_drew W)))
  rw [← hW]
  clear hq0 hq1 gW hW ho0 ho1
  obtain ⟨J, hJ⟩ : ∃ J : World → Prop, J = (fun w' => w'.cell? ⟨w.heap.size, 0, none⟩ = some (.int .i64 p) ∧ w'.cell? ⟨w.heap.size, 1, none⟩ = some (.slice a d cap) ∧ w'.cell? ⟨w2.heap.size, 0, none⟩ = some (.int .i64 p) ∧ w'.cell? ⟨w2.heap.size, 1, none⟩ = some (.slice (some ⟨g2, 0, none⟩) (d + 2) r2)) := ⟨_, rfl⟩
  have HJ : Hid (∀ w', Ext W.drew w' → J w') := Lib.hid (fun w' he => by rw [hJ]; exact ⟨he.cell S0.out, he.cell S1.out, he.cell O0.out, he.cell O1.out⟩)
  have HJ2 : Hid (∀ w', J w' → w'.cell? ⟨w.heap.size, 0, none⟩ = some (.int .i64 p) ∧ w'.cell? ⟨w.heap.size, 1, none⟩ = some (.slice a d cap) ∧ w'.cell? ⟨w2.heap.size, 0, none⟩ = some (.int .i64 p) ∧ w'.cell? ⟨w2.heap.size, 1, none⟩ = some (.slice (some ⟨g2, 0, none⟩) (d + 2) r2)) := Lib.hid (fun w' h => by rw [hJ] at h; exact h)
  clear hJ
  go_wp2_with (fail)
  refine wp_region_floatP [(0, .agg #[.int .i64 p, .slice (some ⟨g2, 0, none⟩) (d + 2) r2]), (1, .agg #[.int .i64 p, .slice (some ⟨g2, 0, none⟩) (d + 2) r2]), (2, .slice (some ⟨b, off, none⟩) d cx1), (7, .agg #[.int .i64 p, .slice (some ⟨g2, 0, none⟩) (d + 2) r2]), (8, .agg #[.int .i64 p, .slice a d cap])] 3 4 [5, 6, 9, 10, 11, 12] J (by kernel_rfl) (by kernel_rfl) ?_
  (refine FloatW.cons (some 18) rfl rfl rfl (fun w' hI => ?_) ?_; (obtain ⟨e1, e2, e3, e4⟩ := HJ2.out w' hI; go_simp); simp only [Act.put, List.setIfInBounds_toArray, List.set_cons_zero, List.set_cons_succ])
  (refine FloatW.cons (some 19) rfl rfl rfl (fun w' hI => ?_) ?_; (obtain ⟨e1, e2, e3, e4⟩ := HJ2.out w' hI; go_simp); simp only [Act.put, List.setIfInBounds_toArray, List.set_cons_zero, List.set_cons_succ])
  (refine FloatW.cons (some 20) rfl rfl rfl (fun w' hI => ?_) ?_; (obtain ⟨e1, e2, e3, e4⟩ := HJ2.out w' hI; go_simp); simp only [Act.put, List.setIfInBounds_toArray, List.set_cons_zero, List.set_cons_succ])
  (refine FloatW.cons (some 25) rfl rfl rfl (fun w' hI => ?_) ?_; (obtain ⟨e1, e2, e3, e4⟩ := HJ2.out w' hI; go_simp); simp only [Act.put, List.setIfInBounds_toArray, List.set_cons_zero, List.set_cons_succ])
  (refine FloatW.cons (some 26) rfl rfl rfl (fun w' hI => ?_) ?_; (obtain ⟨e1, e2, e3, e4⟩ := HJ2.out w' hI; go_simp); simp only [Act.put, List.setIfInBounds_toArray, List.set_cons_zero, List.set_cons_succ])
  unfold FloatW
  refine wpSeqI.both (fun a a' w' => ∃ gc cc gb, a' = (a.put (some 21) (.slice (some ⟨gc, 0, none⟩) d cc)).put (some 22) (.slice (some ⟨gb, 0, none⟩) 2 2) ∧ OwnC W.drew.heap.size w' (some ⟨gc, 0, none⟩) d cc xs1 ∧ RdC w' (some ⟨gb, 0, none⟩) 2 [0, 0] ∧ Ext W.drew w') ?_ ?_ ?_
  · refine ⟨HJ.out _ (Ext.refl _), _, rfl, rfl, wp_of_wpS (R := (fun v w' => ∃ gc cc, v = .slice (some ⟨gc, 0, none⟩) d cc ∧ OwnC W.drew.heap.size w' (some ⟨gc, 0, none⟩) d cc xs1 ∧ Ext W.drew w')) (wpS_call (f := ?_) (args := ?_) ?_ ?_) ?_⟩
    rotate_left 2
    · go_simp; refine ⟨?_, ?_⟩ <;> rfl
    · refine (s_own b off d cx1 xs1 _ hd1 (by omega) (HX.out.ext GW.out)).mono ?_
      rintro e w3 ⟨gc, cc, rfl, ho, he⟩
      exact ⟨_, rfl, gc, cc, rfl, ho, he⟩
    rintro v w3 ⟨gc, cc, rfl, ho, he⟩
    refine ⟨HJ.out _ he, _, rfl, rfl, wp_of_wpS (R := fun v w4 => v = .slice (some ⟨w3.heap.size, 0, none⟩) 2 2 ∧ w4 = w3.alloc (.cells #[.int .i64 0, .int .i64 0] 2)) (wpS_val (v := .slice (some ⟨w3.heap.size, 0, none⟩) 2 2) (w' := w3.alloc (.cells #[.int .i64 0, .int .i64 0] 2)) (by go_simp) ⟨rfl, rfl⟩) ?_⟩
    rintro v w4 ⟨rfl, rfl⟩
    exact ⟨gc, cc, w3.heap.size, rfl, ho.ext (ext_alloc _ _), rdC_two (by simp) (by simp), he.alloc _⟩
  · refine ⟨HJ.out _ (Ext.refl _), _, rfl, rfl, wp_of_wpS (R := fun v w4 => v = .slice (some ⟨W.drew.heap.size, 0, none⟩) 2 2 ∧ w4 = W.drew.alloc (.cells #[.int .i64 0, .int .i64 0] 2)) (wpS_val (v := .slice (some ⟨W.drew.heap.size, 0, none⟩) 2 2) (w' := W.drew.alloc (.cells #[.int .i64 0, .int .i64 0] 2)) (by go_simp) ⟨rfl, rfl⟩) ?_⟩
    rintro v w3 ⟨rfl, rfl⟩
    have he3 : Ext W.drew (W.drew.alloc (.cells #[.int .i64 0, .int .i64 0] 2)) := ext_alloc _ _
    have hr3 : RdC (W.drew.alloc (.cells #[.int .i64 0, .int .i64 0] 2)) (some ⟨W.drew.heap.size, 0, none⟩) 2 [0, 0] := two_new _
    have HE3 := Lib.hid he3
    have HR3 := Lib.hid hr3
    clear he3 hr3
    refine ⟨HJ.out _ HE3.out, _, rfl, rfl, wp_of_wpS (R := fun v w' => ∃ gc cc, v = .slice (some ⟨gc, 0, none⟩) d cc ∧ OwnC W.drew.heap.size w' (some ⟨gc, 0, none⟩) d cc xs1 ∧ Ext (W.drew.alloc (.cells #[.int .i64 0, .int .i64 0] 2)) w') (wpS_call (f := ?_) (args := ?_) ?_ ?_) ?_⟩
    rotate_left 2
    · simp only [Act.put, List.setIfInBounds_toArray]; go_simp; refine ⟨?_, ?_⟩ <;> rfl
    · refine (s_own b off d cx1 xs1 _ hd1 (by omega) (HX.out.ext (GW.out.trans HE3.out))).mono ?_
      rintro e w4 ⟨gc, cc, rfl, ho, he⟩
      exact ⟨_, rfl, gc, cc, rfl, ho.mono HE3.out.size, he⟩
    rintro v w4 ⟨gc, cc, rfl, ho, he⟩
    exact ⟨gc, cc, W.drew.heap.size, Act.put_comm _ _ _ (by decide), ho, HR3.out.ext he, HE3.out.trans he⟩
  rintro a' w3 ⟨gc, cc, gb, rfl, ho, hr, he⟩
  have HOc := Lib.hid ho
  have HRb := Lib.hid hr
  have X3 := Lib.hid he
  clear ho hr he
  simp only [Act.put, List.setIfInBounds_toArray, List.set_cons_zero, List.set_cons_succ]
  refine wpSeqI_appendAll (some 23) (HJ.out _ X3.out) rfl rfl rfl (.tmp 21) (.tmp 22) rfl rfl rfl HOc.out HRb.out (by omega) (by omega) (by omega) X3.out.size ?_
  intro g4 c4 w4 ho4 he4
  have HO4 := Lib.hid ho4
  have X4 := Lib.hid (he4 W.drew (Nat.le_refl _) X3.out)
  clear ho4 he4
  simp only [Act.put, List.setIfInBounds_toArray, List.set_cons_zero, List.set_cons_succ]
  refine wpSeqI.call (f := ?_) (args := ?_) (R := (fun v w' => ∃ g, v = .slice (some ⟨g, 0, none⟩) N N ∧ OwnC W.drew.heap.size w' (some ⟨g, 0, none⟩) N N (vecL N (xs1 ++ [0, 0])) ∧ Ext w4 w')) (some 24) (HJ.out _ X4.out) rfl rfl rfl ?_ ?_ ?_
  rotate_left 2
  · go_simp; refine ⟨?_, ?_⟩ <;> rfl
  · refine (s_vector HN.out p _ r2 _ c4 (xs1 ++ [0, 0]) _ (by omega) HO4.out.rd).mono ?_
    rintro e w5 ⟨g, rfl, ho, he⟩; exact ⟨_, rfl, g, rfl, ho.mono X4.out.size, he⟩
  rintro v w5 ⟨g5, rfl, ho5, he5⟩; have HO5 := Lib.hid ho5; have X5 := Lib.hid (X4.out.trans he5); clear ho5 he5
  simp only [Act.put, List.setIfInBounds_toArray, List.set_cons_zero, List.set_cons_succ]
  refine wpSeqI.call (f := ?_) (args := ?_) (R := (fun v w' => ∃ g rc, v = .slice (some ⟨g, 0, none⟩) (d + 2) rc ∧ OwnC W.drew.heap.size w' (some ⟨g, 0, none⟩) (d + 2) rc (infL d) ∧ Ext w5 w')) (some 27) (HJ.out _ X5.out) rfl rfl rfl ?_ ?_ ?_
  rotate_left 2
  · go_simp; refine ⟨?_, ?_⟩ <;> rfl
  · refine (s_infinity p a d cap _ (by omega)).mono ?_
    rintro e w6 ⟨g, rc, rfl, ho, he⟩; exact ⟨_, rfl, g, rc, rfl, ho.mono X5.out.size, he⟩
  rintro v w6 ⟨g6, c6, rfl, ho6, he6⟩; have HO6 := Lib.hid ho6; have HV6 := Lib.hid (HO5.out.ext he6); have X6 := Lib.hid (X5.out.trans he6); clear ho6 he6
  simp only [Act.put, List.setIfInBounds_toArray, List.set_cons_zero, List.set_cons_succ]
  refine wpSeqI.call (f := ?_) (args := ?_) (R := (fun v w' => ∃ g, v = .slice (some ⟨g, 0, none⟩) N N ∧ OwnC W.drew.heap.size w' (some ⟨g, 0, none⟩) N N (vecL N (infL d)) ∧ Ext w6 w')) (some 28) (HJ.out _ X6.out) rfl rfl rfl ?_ ?_ ?_
  rotate_left 2
  · go_simp; refine ⟨?_, ?_⟩ <;> rfl
  · refine (s_vector HN.out p _ r2 _ c6 (infL d) _ (by omega) HO6.out.rd).mono ?_
    rintro e w7 ⟨g, rfl, ho, he⟩; exact ⟨_, rfl, g, rfl, ho.mono X6.out.size, he⟩
  rintro v w7 ⟨g7, rfl, ho7, he7⟩; have HO7 := Lib.hid ho7; have HV7 := Lib.hid (HV6.out.ext he7); have X7 := Lib.hid (X6.out.trans he7); clear ho7 he7
  simp only [Act.put, List.setIfInBounds_toArray, List.set_cons_zero, List.set_cons_succ]
  refine wpSeqI.call (f := ?_) (args := ?_) (R := (fun v w' => ∃ g, v = .slice (some ⟨g, 0, none⟩) N N ∧ OwnC W.drew.heap.size w' (some ⟨g, 0, none⟩) N N (prodL p (extL p qs) tkA (vecL N (xs1 ++ [0, 0])) (vecL N (infL d))) ∧ Ext W.drew w')) (some 29) (HJ.out _ X7.out) rfl rfl rfl ?_ ?_ ?_
  rotate_left 2
  · go_simp; refine ⟨?_, ?_⟩ <;> rfl
  · refine (s_timesN HN.out p _ r2 (extL p qs) _ _ N N (vecL N (xs1 ++ [0, 0])) (vecL N (infL d)) _ (by omega) (by omega) (by omega) (HE2.out.rd.ext X7.out) HEB.out HV7.out.rd HO7.out.rd HGV.out.isB HGW.out.isB).mono ?_
    rintro e w9 ⟨g, rfl, ho, he⟩; exact ⟨_, rfl, g, rfl, ho.mono X7.out.size, X7.out.trans he⟩
  rintro v w9 ⟨g9, rfl, ho9, he9⟩; have HO9 := Lib.hid ho9; have X9 := Lib.hid he9; clear ho9 he9
  simp only [Act.put, List.setIfInBounds_toArray, List.set_cons_zero, List.set_cons_succ]
  refine wpSeqI.value (v := ?_) (w' := w9) (some 8) (HJ.out _ X9.out) rfl rfl rfl ?_ ?_
  rotate_left
  · go_simp; rfl
  refine ⟨HJ.out _ X9.out, strictQ_normal ?_⟩
  simp only [Act.put, List.setIfInBounds_toArray, List.set_cons_zero, List.set_cons_succ]
  go_wp2_with (fail)
  have T0 := Lib.hid ((X9.out.trans (ext_drew w9)).cell S0.out)
  have T1 := Lib.hid ((X9.out.trans (ext_drew w9)).cell S1.out)
  have T2 := Lib.hid ((X9.out.trans (ext_drew w9)).cell O0.out)
  have T3 := Lib.hid ((X9.out.trans (ext_drew w9)).cell O1.out)
  have GX := Lib.hid (GW.out.trans (X9.out.trans (ext_drew w9)))
  refine wp_region_lex [(3, .ownG w.heap.size N (bladeL N 0)), (8, .val (.int .i64 V)), (10, .ownS w.heap.size N (scaleL p (prodL p (extL p qs) tkA (vecL N (xs1 ++ [0, 0])) (vecL N (infL d))) V N)), (11, .ownS w.heap.size N (plusL p (bladeL N 0) (scaleL p (prodL p (extL p qs) tkA (vecL N (xs1 ++ [0, 0])) (vecL N (infL d))) V N) (-1) N))] (by kernel_rfl) (by kernel_rfl) ?_
  (refine LexW.pure (v := ?_) rfl rfl (fun w1 he => ?_) ?_; rotate_left; ( have e1 := he.cell T0.out; have e2 := he.cell T1.out; have e3 := he.cell T2.out; have e4 := he.cell T3.out; go_simp; rfl); simp only [Act.put, List.setIfInBounds_toArray, List.set_cons_zero, List.set_cons_succ])
  (refine LexW.pure (v := ?_) rfl rfl (fun w1 he => ?_) ?_; rotate_left; ( have e1 := he.cell T0.out; have e2 := he.cell T1.out; have e3 := he.cell T2.out; have e4 := he.cell T3.out; go_simp; rfl); simp only [Act.put, List.setIfInBounds_toArray, List.set_cons_zero, List.set_cons_succ])
  (refine LexW.pure (v := ?_) rfl rfl (fun w1 he => ?_) ?_; rotate_left; ( have e1 := he.cell T0.out; have e2 := he.cell T1.out; have e3 := he.cell T2.out; have e4 := he.cell T3.out; go_simp; rfl); simp only [Act.put, List.setIfInBounds_toArray, List.set_cons_zero, List.set_cons_succ])
  (refine LexW.callR (f := ?_) (args := ?_) rfl rfl (fun w1 => ?_) (fun w1 he hdep => ?_) (fun v hv => ?_); rotate_left 2; (go_simp; refine ⟨?_, ?_⟩ <;> rfl); ( refine (s_oneN HN.out p _ r2 w1 (by omega)).mono ?_; rintro e w2 ⟨g, rfl, ho, g2⟩; exact ⟨_, rfl, g2, g, rfl, ho.mono (Nat.le_trans GX.out.size he.size)⟩); simp only [Act.put, List.setIfInBounds_toArray, List.set_cons_zero, List.set_cons_succ])
  obtain ⟨_, g33, rfl, _⟩ := hv
  (refine LexW.pure (v := ?_) rfl rfl (fun w1 he => ?_) ?_; rotate_left; ( have e1 := he.cell T0.out; have e2 := he.cell T1.out; have e3 := he.cell T2.out; have e4 := he.cell T3.out; go_simp; rfl); simp only [Act.put, List.setIfInBounds_toArray, List.set_cons_zero, List.set_cons_succ])
  (refine LexW.pure (v := ?_) rfl rfl (fun w1 he => ?_) ?_; rotate_left; ( have e1 := he.cell T0.out; have e2 := he.cell T1.out; have e3 := he.cell T2.out; have e4 := he.cell T3.out; go_simp; rfl); simp only [Act.put, List.setIfInBounds_toArray, List.set_cons_zero, List.set_cons_succ])
  (refine LexW.pure (v := ?_) rfl rfl (fun w1 he => ?_) ?_; rotate_left; ( have e1 := he.cell T0.out; have e2 := he.cell T1.out; have e3 := he.cell T2.out; have e4 := he.cell T3.out; go_simp; rfl); simp only [Act.put, List.setIfInBounds_toArray, List.set_cons_zero, List.set_cons_succ])
  (refine LexW.pure (v := ?_) rfl rfl (fun w1 he => ?_) ?_; rotate_left; ( have e1 := he.cell T0.out; have e2 := he.cell T1.out; have e3 := he.cell T2.out; have e4 := he.cell T3.out; go_simp; rfl); simp only [Act.put, List.setIfInBounds_toArray, List.set_cons_zero, List.set_cons_succ])
  (refine LexW.call (f := ?_) (args := ?_) rfl rfl (fun w1 => ?_) (fun w1 he hdep => ?_) ?_; rotate_left 2; (go_simp; refine ⟨?_, ?_⟩ <;> rfl); ( rw [HV.out]; exact s_inv p 2 w1 HPR.out (by omega) (by omega)); simp only [Act.put, List.setIfInBounds_toArray, List.set_cons_zero, List.set_cons_succ])
  (refine LexW.pure (v := ?_) rfl rfl (fun w1 he => ?_) ?_; rotate_left; ( have e1 := he.cell T0.out; have e2 := he.cell T1.out; have e3 := he.cell T2.out; have e4 := he.cell T3.out; go_simp; rfl); simp only [Act.put, List.setIfInBounds_toArray, List.set_cons_zero, List.set_cons_succ])
  (refine LexW.callR (f := ?_) (args := ?_) rfl rfl (fun w1 => ?_) (fun w1 he hdep => ?_) (fun v hv => ?_); rotate_left 2; (go_simp; refine ⟨?_, ?_⟩ <;> rfl); ( refine (s_scale11 p _ N _ (prodL p (extL p qs) tkA (vecL N (xs1 ++ [0, 0])) (vecL N (infL d))) V w1 (by omega) (by omega) (by omega) (by omega) (HO9.out.rd.ext ((ext_drew w9).trans he)) HGP.out).mono ?_; rintro e w2 ⟨g, rc, rfl, ho, g2⟩; exact ⟨_, rfl, g2, g, rc, rfl, ho.mono (Nat.le_trans GX.out.size he.size)⟩); simp only [Act.put, List.setIfInBounds_toArray, List.set_cons_zero, List.set_cons_succ])
  obtain ⟨_, g40, c40, rfl, _⟩ := hv
  (refine LexW.callR (f := ?_) (args := ?_) rfl rfl (fun w1 => ?_) (fun w1 he hdep => ?_) (fun v hv => ?_); rotate_left 2; (go_simp; refine ⟨?_, ?_⟩ <;> rfl); ( obtain ⟨_, q33, r33⟩ : (SPred.ownG w.heap.size N (bladeL N 0)).holds (.slice (some ⟨g33, 0, none⟩) N N) w1 := hdep (3, 33) (by decide +kernel); cases q33; obtain ⟨_, _, q40, r40⟩ : (SPred.ownS w.heap.size N (scaleL p (prodL p (extL p qs) tkA (vecL N (xs1 ++ [0, 0])) (vecL N (infL d))) V N)).holds (.slice (some ⟨g40, 0, none⟩) N c40) w1 := hdep (10, 40) (by decide +kernel); cases q40; refine (s_minus11 p _ _ N _ _ (bladeL N 0) (scaleL p (prodL p (extL p qs) tkA (vecL N (xs1 ++ [0, 0])) (vecL N (infL d))) V N) w1 (by omega) (by omega) (by omega) r33.rd r40.rd (fun i hi => by have h := (blade_good (p := p) (m := 0) (N := N) (by omega)).2 i hi; omega) (scale_good (by omega))).mono ?_; rintro e w2 ⟨g, rc, rfl, ho, g2⟩; exact ⟨_, rfl, g2, g, rc, rfl, ho.mono (Nat.le_trans GX.out.size he.size)⟩); simp only [Act.put, List.setIfInBounds_toArray, List.set_cons_zero, List.set_cons_succ])
  obtain ⟨_, g41, c41, rfl, _⟩ := hv
  (refine LexW.pure (v := ?_) rfl rfl (fun w1 he => ?_) ?_; rotate_left; ( have e1 := he.cell T0.out; have e2 := he.cell T1.out; have e3 := he.cell T2.out; have e4 := he.cell T3.out; go_simp; rfl); simp only [Act.put, List.setIfInBounds_toArray, List.set_cons_zero, List.set_cons_succ])
  (refine LexW.pure (v := ?_) rfl rfl (fun w1 he => ?_) ?_; rotate_left; ( have e1 := he.cell T0.out; have e2 := he.cell T1.out; have e3 := he.cell T2.out; have e4 := he.cell T3.out; go_simp; rfl); simp only [Act.put, List.setIfInBounds_toArray, List.set_cons_zero, List.set_cons_succ])
  refine LexW.nil (fun w3 he hkn => ?_)
  obtain ⟨_, _, q41, r41⟩ : (SPred.ownS w.heap.size N (plusL p (bladeL N 0) (scaleL p (prodL p (extL p qs) tkA (vecL N (xs1 ++ [0, 0])) (vecL N (infL d))) V N) (-1) N)).holds (.slice (some ⟨g41, 0, none⟩) N c41) w3 := hkn (11, _) (by simp)
  cases q41
  have R41 := Lib.hid r41
  have HE := Lib.hid (GX.out.trans he)
  clear he hkn r41
  go_wp2_with (fail)
  go_ret2
  exact ⟨_, _, rfl, by rw [HSH.out]; exact (by have h := R41.out; rw [plus_scale] at h; exact h), HE.out⟩


end Go.Proofs.Ytlchmkaaogokiaa
