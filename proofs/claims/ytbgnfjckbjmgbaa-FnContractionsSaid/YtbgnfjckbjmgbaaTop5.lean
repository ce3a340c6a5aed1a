/-
  The listed functions VectorOf, PairOf, NormOf; the product and the vector of the laws.
  No condition.
-/
import Derived.Test.YtbgnfjckbjmgbaaLaw5
import Derived.Test.YtbgnfjckbjmgbaaTopProd
import Derived.Test.YtbgnfjckbjmgbaaNorm
import Derived.Test.YtbgnfjckbjmgbaaCodesV
import Derived.Test.YtbgnfjckbjmgbaaVec
namespace Go.Proofs.Ytbgnfjckbjmgbaa
set_option maxRecDepth 100000
open Go.RowKit

theorem good_vecB {p : Int} {d : Nat} {v : List Int} (h : Good p d v) : vecB p d v = true := by
  unfold vecB
  simp only [h.1, decide_true, Bool.true_and]
  unfold isB
  rw [List.all_eq_true]
  intro x hx
  obtain ⟨i, hi, rfl⟩ := List.getElem_of_mem hx
  have := h.2 i (by rw [← h.1]; exact hi)
  rw [nth_eq hi] at this
  simp [inB]; omega
theorem vecB_good {p : Int} {d : Nat} {v : List Int} (h : vecB p d v = true) : Good p d v := good_isB (vec_of h).1 (vec_of h).2
theorem good_bits {p : Int} {n : Nat} {v : List Int} (h : Good p n v) : isB p v = true := (vec_of (good_vecB h)).2
theorem good_multiB {p : Int} {d : Nat} {x : List Int} (h : Good p (2 ^ d) x) : multiB p d x = true := by
  have := good_vecB h
  unfold vecB at this
  unfold multiB
  exact this
theorem codeV_one0 {p : Int} {qs v : List Int} (hs : spaceB p qs = true) (hv : Good p qs.length v) : codeV p qs [v] = 0 := by
  simp [codeV, hs, good_vecB hv]
theorem codeV_two0 {p : Int} {qs v u : List Int} (hs : spaceB p qs = true) (hv : Good p qs.length v) (hu : Good p qs.length u) : codeV p qs [v, u] = 0 := by
  simp [codeV, hs, good_vecB hv, good_vecB hu]
theorem codeM_two0 {p : Int} {qs x y : List Int} (hs : spaceB p qs = true) (hx : Good p (2 ^ qs.length) x) (hy : Good p (2 ^ qs.length) y) : codeM p qs [x, y] = 0 := by
  simp [codeM, hs, good_multiB hx, good_multiB hy]
theorem codeM_one0 {p : Int} {qs x : List Int} (hs : spaceB p qs = true) (hx : Good p (2 ^ qs.length) x) : codeM p qs [x] = 0 := by
  simp [codeM, hs, good_multiB hx]
theorem codeV_two_of {p : Int} {qs v u : List Int} (h : codeV p qs [v, u] = 0) : spaceB p qs = true ∧ Good p qs.length v ∧ Good p qs.length u := by
  unfold codeV at h
  split at h
  · rename_i hs
    split at h
    · rename_i ha
      simp only [List.all_cons, List.all_nil, Bool.and_true, Bool.and_eq_true] at ha
      exact ⟨hs, vecB_good ha.1, vecB_good ha.2⟩
    · cases h
  · cases h

set_option maxHeartbeats 1000000 in
theorem c_VectorOf_ok {N : Nat} (p : Int) (a : Option Addr) (d cap : Nat) (qs : List Int) (av : Option Addr) (cv : Nat) (v : List Int) (w : World) (hN : N = 2 ^ d) (hs : spaceB p qs = true) (hq : RdC w a d qs) (hv : RdC w av d v) (hg : Good p d v) :
    Calls Try.prog 78 #[.agg #[.int .i64 p, .slice a d cap], .slice av d cv] w fun e w' => ∃ g, e = .returned (.tuple #[.slice (some ⟨g, 0, none⟩) N N, .int .i64 0]) ∧ OwnC w.heap.size w' (some ⟨g, 0, none⟩) N N (vecL N v) ∧ Ext w w' := by
  have hd6 := (space_of hs).2.2.1
  rw [hq.1] at hd6
  have hc := codeV_one0 hs (by rw [hq.1]; exact hg)
  have HC := Lib.hid hc
  have hcb : ((0 : Int) != 0) = false := by simp
  clear hc
  have HN := Lib.hid hN
  clear hN
  go_enter Try.func78, Try.ntmps78
  go_wp2_with (fail)
  refine Calls.mono (c_checkVectors p a d cap qs _ 1 _ [v] _ (by omega) (by omega) (len_one (by rw [hv.1]; omega)) (hq.ext ((ext_alloc _ _).alloc _)) (rdR_one (a := av) (n := d) (cap := cv) (by simp) (hv.ext ((ext_alloc _ _).alloc _)))) ?_
  rintro e w1 ⟨rfl, g1⟩
  rw [HC.out]
  have q0 : w1.cell? ⟨w.heap.size, 0, none⟩ = some (.int .i64 p) := g1.cell (by simp)
  have q1 : w1.cell? ⟨w.heap.size, 1, none⟩ = some (.slice a d cap) := g1.cell (by simp)
  have G1 := Lib.hid (((ext_alloc w _).alloc _).trans g1)
  clear g1
  go_wp2_with (fail)
  refine Calls.mono (c_vector HN.out p a cap av cv v w1 hd6 (hv.ext G1.out)) ?_
  rintro e w2 ⟨g, rfl, ho, g2⟩
  go_wp2_with (fail)
  go_ret2
  exact ⟨g, rfl, ho.mono G1.out.size, G1.out.trans g2⟩

set_option maxHeartbeats 1000000 in
theorem l_vector5 {N : Nat} (p : Int) (a : Option Addr) (d cap : Nat) (qs : List Int) (av : Option Addr) (cv : Nat) (v : List Int) (w : World) (hN : N = 2 ^ d) (hs : spaceB p qs = true) (hq : RdC w a d qs) (hv : RdC w av d v) (hg : Good p d v) :
    Calls Try.prog 14 #[.agg #[.int .i64 p, .slice a d cap], .slice av d cv] w fun e w' => ∃ g, e = .returned (.slice (some ⟨g, 0, none⟩) N N) ∧ OwnC w.heap.size w' (some ⟨g, 0, none⟩) N N (vecL N v) ∧ Ext w w' := by
  have HN := Lib.hid hN
  clear hN
  go_enter Try.func14, Try.ntmps14
  go_wp2_with (fail)
  refine Calls.mono (c_VectorOf_ok p a d cap qs av cv v _ HN.out hs (hq.ext (ext_alloc _ _)) (hv.ext (ext_alloc _ _)) hg) ?_
  rintro e w1 ⟨g, rfl, ho, g1⟩
  go_wp2_with (fail)
  go_ret
  exact ⟨g, rfl, ho.mono (by simp), (ext_alloc _ _).trans g1⟩

set_option maxHeartbeats 1000000 in
theorem l_times5 {N : Nat} (p : Int) (a : Option Addr) (d cap : Nat) (qs : List Int) (ax : Option Addr) (cx : Nat) (x : List Int) (ay : Option Addr) (cy : Nat) (y : List Int) (w : World) (hN : N = 2 ^ d) (hs : spaceB p qs = true) (hq : RdC w a d qs) (hx : RdC w ax N x) (hy : RdC w ay N y) (hgx : Good p N x) (hgy : Good p N y) :
    Calls Try.prog 16 #[.agg #[.int .i64 p, .slice a d cap], .slice ax N cx, .slice ay N cy] w fun e w' => ∃ g rc, e = .returned (.slice (some ⟨g, 0, none⟩) N rc) ∧ OwnC w.heap.size w' (some ⟨g, 0, none⟩) N rc (prodL p qs tkA x y) ∧ Ext w w' := by
  have hd6 := (space_of hs).2.2.1
  rw [hq.1] at hd6
  have hN6 : N ≤ 64 := by rw [hN]; exact pow_le64 hd6
  have hN1 : 0 < N := by rw [hN]; exact pow_pos' d
  have hc : codeM p qs [x, y] = 0 := codeM_two0 hs (by rw [hq.1, ← hN]; exact hgx) (by rw [hq.1, ← hN]; exact hgy)
  have HN := Lib.hid hN
  have HC := Lib.hid hc
  clear hN hc
  go_enter Try.func16, Try.ntmps16
  go_wp2_with (fail)
  refine Calls.mono (c_GeometricProduct_ok p a d cap qs ax N cx x ay N cy y _ (by omega) (by omega) (by omega) (hq.ext (ext_alloc _ _)) (hx.ext (ext_alloc _ _)) (hy.ext (ext_alloc _ _)) HC.out) ?_
  rintro e w1 ⟨ra, rc, rfl, ho, g1⟩
  obtain ⟨ga, _, rfl, _⟩ := ho.row hN1
  go_wp2_with (fail)
  go_ret
  exact ⟨ga, rc, rfl, ho.mono (by simp), (ext_alloc _ _).trans g1⟩

/-- What PairOf returns. -/
def pairV (p : Int) (qs v u : List Int) : Int := if codeV p qs [v, u] = 0 then pairL p qs v u qs.length else 0
set_option maxHeartbeats 1000000 in
theorem c_PairOf (p : Int) (a : Option Addr) (d cap : Nat) (qs : List Int) (av : Option Addr) (n cv : Nat) (v : List Int) (au : Option Addr) (m cu : Nat) (u : List Int) (w : World) (hd : d ≤ 4194304) (hn : n ≤ 4194304) (hm : m ≤ 4194304) (hq : RdC w a d qs) (hv : RdC w av n v) (hu : RdC w au m u) :
    Calls Try.prog 13 #[.agg #[.int .i64 p, .slice a d cap], .slice av n cv, .slice au m cu] w fun e w' => e = .returned (.tuple #[.int .i64 (pairV p qs v u), .int .i64 (codeV p qs [v, u])]) ∧ Ext w w' := by
  go_enter Try.func13, Try.ntmps13
  go_wp2_with (fail)
  refine Calls.mono (c_checkVectors p a d cap qs _ 2 _ [v, u] _ (by omega) (by omega) (len_two (by rw [hv.1]; exact hn) (by rw [hu.1]; exact hm)) (hq.ext ((ext_alloc _ _).alloc _)) (rdR_two (a := av) (b := au) (n := n) (m := m) (ca := cv) (cb := cu) (by simp) (by simp) (hv.ext ((ext_alloc _ _).alloc _)) (hu.ext ((ext_alloc _ _).alloc _)))) ?_
  rintro e w1 ⟨rfl, g1⟩
  have q0 : w1.cell? ⟨w.heap.size, 0, none⟩ = some (.int .i64 p) := g1.cell (by simp)
  have q1 : w1.cell? ⟨w.heap.size, 1, none⟩ = some (.slice a d cap) := g1.cell (by simp)
  have G1 := Lib.hid (((ext_alloc w _).alloc _).trans g1)
  clear g1
  by_cases hc : codeV p qs [v, u] = 0
  · obtain ⟨hs, hgv, hgu⟩ := codeV_two_of hc
    have HP := Lib.hid (show pairV p qs v u = pairL p qs v u d by rw [pairV, if_pos hc, hq.1])
    obtain ⟨hpr, hd1, hd6, hqb⟩ := space_of hs
    have hpb := prime_bd hpr
    rw [hq.1] at hgv hgu hd6
    obtain rfl : n = d := hv.1.symm.trans hgv.1
    obtain rfl : m = n := hu.1.symm.trans hgu.1
    have HC := Lib.hid hc
    have hcb : ((0 : Int) != 0) = false := by simp
    rw [hc]
    clear hc
    go_wp2_with (fail)
    refine Calls.mono (c_pair p a m cap qs av cv v au cu u w1 hpb.1 (by omega) hd6 (hq.ext G1.out) hqb (hv.ext G1.out) hgv (hu.ext G1.out) hgu) ?_
    rintro e w2 ⟨rfl, g2⟩
    go_wp2_with (fail)
    go_ret2
    exact ⟨by rw [HP.out, HC.out]; rfl, G1.out.trans g2⟩
  · have HP := Lib.hid (show pairV p qs v u = 0 by rw [pairV, if_neg hc])
    have hcb : (codeV p qs [v, u] != 0) = true := by simp [hc]
    clear hc
    go_wp2_with (fail)
    go_ret2
    exact ⟨by rw [HP.out]; rfl, G1.out⟩
set_option maxHeartbeats 1000000 in
theorem s_PairOf (p : Int) (a : Option Addr) (d cap : Nat) (qs : List Int) (av : Option Addr) (n cv : Nat) (v : List Int) (au : Option Addr) (m cu : Nat) (u : List Int) (w : World) (hd : d ≤ 4194304) (hn : n ≤ 4194304) (hm : m ≤ 4194304) (hq : RdC w a d qs) (hv : RdC w av n v) (hu : RdC w au m u) :
    Calls Try.prog 12 #[.agg #[.int .i64 p, .slice a d cap], .slice av n cv, .slice au m cu] w fun e w' => e = .returned (.tuple #[.int .i64 (pairV p qs v u), .int .i64 (codeV p qs [v, u])]) ∧ Ext w w' := by
  go_enter Try.func12, Try.ntmps12
  go_wp2_with (fail)
  refine Calls.mono (s_is p a d cap qs _ hd (hq.ext (ext_alloc _ _))) ?_
  rintro e w1 ⟨rfl, g1⟩
  have q0 : w1.cell? ⟨w.heap.size, 0, none⟩ = some (.int .i64 p) := g1.cell (by simp)
  have q1 : w1.cell? ⟨w.heap.size, 1, none⟩ = some (.slice a d cap) := g1.cell (by simp)
  have G1 := Lib.hid ((ext_alloc w _).trans g1)
  clear g1
  cases hs : spaceB p qs
  · have hc : codeV p qs [v, u] = 1 := by simp [codeV, hs]
    have HP := Lib.hid (show pairV p qs v u = 0 by rw [pairV, hc]; rfl)
    have HC := Lib.hid hc
    clear hc
    go_wp2_with (fail)
    go_ret2
    exact ⟨by rw [HP.out, HC.out]; rfl, G1.out⟩
  · obtain ⟨hpr, hd1, hd6, hqb⟩ := space_of hs
    have hpb := prime_bd hpr
    have hdl := hq.1
    go_wp2_with (fail)
    refine Calls.mono (s_isVector p a d cap av n cv v _ (by omega) (by omega) hn (hv.ext G1.out)) ?_
    rintro e w2 ⟨rfl, g2⟩
    have q0' := g2.cell q0
    have q1' := g2.cell q1
    have G2 := Lib.hid (G1.out.trans g2)
    clear g2 q0 q1
    cases hbv : vecB p d v
    · have hc : codeV p qs [v, u] = 2 := by simp [codeV, hs, hdl, hbv]
      have HP := Lib.hid (show pairV p qs v u = 0 by rw [pairV, hc]; rfl)
      have HC := Lib.hid hc
      clear hc
      go_wp2_with (fail)
      go_ret2
      exact ⟨by rw [HP.out, HC.out]; rfl, G2.out⟩
    · go_wp2_with (fail)
      refine Calls.mono (s_isVector p a d cap au m cu u _ (by omega) (by omega) hm (hu.ext G2.out)) ?_
      rintro e w3 ⟨rfl, g3⟩
      have q0 := g3.cell q0'
      have q1 := g3.cell q1'
      have G3 := Lib.hid (G2.out.trans g3)
      clear g3 q0' q1'
      cases hbu : vecB p d u
      · have hc : codeV p qs [v, u] = 2 := by simp [codeV, hs, hdl, hbv, hbu]
        have HP := Lib.hid (show pairV p qs v u = 0 by rw [pairV, hc]; rfl)
        have HC := Lib.hid hc
        clear hc
        go_wp2_with (fail)
        go_ret2
        exact ⟨by rw [HP.out, HC.out]; rfl, G3.out⟩
      · have hc : codeV p qs [v, u] = 0 := by simp [codeV, hs, hdl, hbv, hbu]
        have HP := Lib.hid (show pairV p qs v u = pairL p qs v u d by rw [pairV, if_pos hc, hq.1])
        have hgv := vecB_good hbv
        have hgu := vecB_good hbu
        obtain rfl : n = d := hv.1.symm.trans hgv.1
        obtain rfl : m = n := hu.1.symm.trans hgu.1
        have HC := Lib.hid hc
        clear hc
        go_wp2_with (fail)
        refine Calls.mono (s_pair p a m cap qs av cv v au cu u w3 hpb.1 (by omega) (by omega) (hq.ext G3.out) hqb (hv.ext G3.out) hgv (hu.ext G3.out) hgu) ?_
        rintro e w4 ⟨rfl, g4⟩
        go_wp2_with (fail)
        go_ret2
        exact ⟨by rw [HP.out, HC.out]; rfl, G3.out.trans g4⟩
set_option maxHeartbeats 1000000 in
theorem c_NormOf_ok (p : Int) (a : Option Addr) (d cap : Nat) (qs : List Int) (av : Option Addr) (cv : Nat) (v : List Int) (w : World) (hs : spaceB p qs = true) (hq : RdC w a d qs) (hv : RdC w av d v) (hg : Good p d v) :
    Calls Try.prog 21 #[.agg #[.int .i64 p, .slice a d cap], .slice av d cv] w fun e w' => e = .returned (.tuple #[.int .i64 (pairL p qs v v d), .int .i64 0]) ∧ Ext w w' := by
  obtain ⟨hpr, hd1, hd6, hqb⟩ := space_of hs
  have hpb := prime_bd hpr
  rw [hq.1] at hd6
  have hc := codeV_one0 hs (by rw [hq.1]; exact hg)
  have HC := Lib.hid hc
  have hcb : ((0 : Int) != 0) = false := by simp
  clear hc
  go_enter Try.func21, Try.ntmps21
  go_wp2_with (fail)
  refine Calls.mono (c_checkVectors p a d cap qs _ 1 _ [v] _ (by omega) (by omega) (len_one (by rw [hv.1]; omega)) (hq.ext ((ext_alloc _ _).alloc _)) (rdR_one (a := av) (n := d) (cap := cv) (by simp) (hv.ext ((ext_alloc _ _).alloc _)))) ?_
  rintro e w1 ⟨rfl, g1⟩
  rw [HC.out]
  have q0 : w1.cell? ⟨w.heap.size, 0, none⟩ = some (.int .i64 p) := g1.cell (by simp)
  have q1 : w1.cell? ⟨w.heap.size, 1, none⟩ = some (.slice a d cap) := g1.cell (by simp)
  have G1 := Lib.hid (((ext_alloc w _).alloc _).trans g1)
  clear g1
  go_wp2_with (fail)
  refine Calls.mono (c_norm p a d cap qs av cv v w1 hpb.1 (by omega) hd6 (hq.ext G1.out) hqb (hv.ext G1.out) hg) ?_
  rintro e w2 ⟨rfl, g2⟩
  go_wp2_with (fail)
  go_ret2
  exact ⟨rfl, G1.out.trans g2⟩
end Go.Proofs.Ytbgnfjckbjmgbaa
