/-
  The listed function MultivectorText.
  No condition.
-/
import Derived.Test.YtdccileoiiafmaaDoorMText
namespace Go.Proofs.YtdccileoiiafmaaDoor
set_option maxRecDepth 100000
open Go.RowKit

theorem nth_isB {p : Int} {xs : List Int} {n : Nat} (hl : xs.length = n) (h : isB p xs = true) : ∀ i, i < n → 0 ≤ nth xs i ∧ nth xs i < p := fun i hi => by
  have h2 := List.all_eq_true.1 h _ (List.getElem_mem (show i < xs.length by omega))
  have h3 : nth xs i = xs[i]'(by omega) := by unfold nth; rw [List.getD_eq_getElem?_getD, List.getElem?_eq_getElem (by omega)]; rfl
  rw [h3]
  simp only [inB, decide_eq_true_eq] at h2
  omega
theorem codeM_one1 {p : Int} {qs x : List Int} (h : codeM p qs [x] = 0) : spaceB p qs = true ∧ multiB p qs.length x = true := by
  unfold codeM at h
  split at h
  · rename_i hs
    split at h
    · rename_i ha; exact ⟨hs, by simpa using ha⟩
    · cases h
  · cases h
theorem len_one1 {xs : List Int} (h : xs.length ≤ 4194304) : ∀ i, i < 1 → (nthR [xs] i).length ≤ 4194304 := fun i hi => by
  obtain rfl : i = 0 := by omega
  exact h
theorem rdR_one1 {w : World} {b n cap : Nat} {a : Option Addr} {xs : List Int} (h0 : w.cell? ⟨b, 0, none⟩ = some (.slice a n cap)) (hx : RdC w a n xs) : RdR w (some ⟨b, 0, none⟩) 1 [xs] :=
  ⟨rfl, fun i hi => by
    obtain rfl : i = 0 := by omega
    exact ⟨b, 0, a, cap, rfl, by rw [show nthR [xs] 0 = xs from rfl, hx.1]; exact h0, by rw [show nthR [xs] 0 = xs from rfl, hx.1]; exact hx⟩⟩

set_option maxHeartbeats 400000 in
theorem c_MultivectorText_bad (p : Int) (a : Option Addr) (d cap : Nat) (qs : List Int) (ax1 : Option Addr) (n1 cx1 : Nat) (xs1 : List Int) (w : World) (hd : d ≤ 4194304) (hn1 : n1 ≤ 4194304) (hq : RdC w a d qs) (hx1 : RdC w ax1 n1 xs1) (hc : codeM p qs [xs1] ≠ 0) :
    Calls Tryd.prog 15 #[.agg #[.int .i64 p, .slice a d cap], .slice ax1 n1 cx1] w fun e w' => e = .returned (.tuple #[.string ByteArray.empty, .int .i64 (codeM p qs [xs1])]) ∧ Ext w w' := by
  have hcb : (codeM p qs [xs1] != 0) = true := by simp [hc]
  clear hc
  go_enter Tryd.func15, Tryd.ntmps15
  go_wp2_with (go_at_call 29; refine (c_checkMultis p a d cap qs _ 1 _ [xs1] _ hd (by omega) (len_one1 (by rw [hx1.1]; exact hn1)) (hq.ext ((ext_alloc _ _).alloc _)) (rdR_one1 (a := ax1) (n := _) (cap := cx1) (by simp) (hx1.ext ((ext_alloc _ _).alloc _)))).mono ?_; rintro e w1 ⟨rfl, g1⟩)
  go_ret2
  exact ⟨rfl, ((ext_alloc _ _).alloc _).trans g1⟩

set_option maxHeartbeats 4000000 in
set_option maxRecDepth 100000 in
theorem c_MultivectorText_ok (p : Int) (a : Option Addr) (d cap : Nat) (qs : List Int) (ax1 : Option Addr) (n1 cx1 : Nat) (xs1 : List Int) (w : World) (hd : d ≤ 4194304) (hn1 : n1 ≤ 4194304) (hq : RdC w a d qs) (hx1 : RdC w ax1 n1 xs1) (hc : codeM p qs [xs1] = 0) (hG : w.cell? ⟨0, 0, none⟩ = some (.int .u64 1)) :
    Calls Tryd.prog 15 #[.agg #[.int .i64 p, .slice a d cap], .slice ax1 n1 cx1] w fun e w' => e = .returned (.tuple #[.string (multiT p xs1 d n1), .int .i64 0]) ∧ Ext w w' := by
  obtain ⟨hs, hxm1⟩ := codeM_one1 hc
  obtain ⟨hpr, hd1, hd6, hqb⟩ := space_of hs
  unfold multiB at hxm1
  simp only [Bool.and_eq_true, decide_eq_true_eq] at hxm1
  obtain ⟨hxl1, hxb1⟩ := hxm1
  rw [hq.1] at hxl1 hd6
  have HN := Lib.hid (hx1.1.symm.trans hxl1)
  have HPR := Lib.hid hpr
  have HX := Lib.hid hx1
  have HNT := Lib.hid (nth_isB hx1.1 hxb1)
  clear hs hqb hxb1 hxl1 hpr hd1
  have HC := Lib.hid hc
  have hcb : ((0 : Int) != 0) = false := by simp
  clear hc
  go_enter Tryd.func15, Tryd.ntmps15
  go_wp2_with (go_at_call 29; refine (c_checkMultis p a d cap qs _ 1 _ [xs1] _ hd (by omega) (len_one1 (by rw [hx1.1]; exact hn1)) (hq.ext ((ext_alloc _ _).alloc _)) (rdR_one1 (a := ax1) (n := _) (cap := cx1) (by simp) (hx1.ext ((ext_alloc _ _).alloc _)))).mono ?_; rintro e w1 ⟨rfl, g1⟩; rw [HC.out]; have hq0 : w1.cell? ⟨w.heap.size, 0, none⟩ = some (.int .i64 p) := g1.cell (by simp); have hq1 : w1.cell? ⟨w.heap.size, 1, none⟩ = some (.slice a d cap) := g1.cell (by simp))
  have G1 := Lib.hid (((ext_alloc w (.cells #[.int .i64 p, .slice a d cap] 28)).alloc (.cells #[.slice ax1 n1 cx1] 22)).trans g1)
  have E1 := Lib.hid G1.out
  clear hq0 hq1
  refine Calls.mono (c_mtext p a d cap n1 ax1 cx1 xs1 _ HPR.out hd6 HN.out (HX.out.ext G1.out) HNT.out _ rfl (E1.out.cell hG)) ?_
  rintro e w2 ⟨rfl, g2⟩
  have G2 := Lib.hid (G1.out.trans g2)
  clear g2
  go_wp2_with (fail)
  go_ret2
  exact ⟨by rfl, G2.out⟩

set_option maxHeartbeats 400000 in
theorem s_MultivectorText_bad (p : Int) (a : Option Addr) (d cap : Nat) (qs : List Int) (ax1 : Option Addr) (n1 cx1 : Nat) (xs1 : List Int) (w : World) (hd : d ≤ 4194304) (hn1 : n1 ≤ 4194304) (hq : RdC w a d qs) (hx1 : RdC w ax1 n1 xs1) (hc : codeM p qs [xs1] ≠ 0) :
    Calls Tryd.prog 13 #[.agg #[.int .i64 p, .slice a d cap], .slice ax1 n1 cx1] w fun e w' => e = .returned (.tuple #[.string ByteArray.empty, .int .i64 (codeM p qs [xs1])]) ∧ Ext w w' := by
  have hcb : (codeM p qs [xs1] != 0) = true := by simp [hc]
  clear hc
  go_enter Tryd.func13, Tryd.ntmps13
  go_wp2_with (go_at_call 27; refine (s_code p a d cap qs _ 1 _ [xs1] _ hd (by omega) (len_one1 (by rw [hx1.1]; exact hn1)) (hq.ext ((ext_alloc _ _).alloc _)) (rdR_one1 (a := ax1) (n := _) (cap := cx1) (by simp) (hx1.ext ((ext_alloc _ _).alloc _)))).mono ?_; rintro e w1 ⟨rfl, g1⟩)
  go_ret2
  exact ⟨rfl, ((ext_alloc _ _).alloc _).trans g1⟩

set_option maxHeartbeats 4000000 in
set_option maxRecDepth 100000 in
theorem s_MultivectorText_ok (p : Int) (a : Option Addr) (d cap : Nat) (qs : List Int) (ax1 : Option Addr) (n1 cx1 : Nat) (xs1 : List Int) (w : World) (hd : d ≤ 4194304) (hn1 : n1 ≤ 4194304) (hq : RdC w a d qs) (hx1 : RdC w ax1 n1 xs1) (hc : codeM p qs [xs1] = 0) :
    Calls Tryd.prog 13 #[.agg #[.int .i64 p, .slice a d cap], .slice ax1 n1 cx1] w fun e w' => e = .returned (.tuple #[.string (multiT p xs1 d n1), .int .i64 0]) ∧ Ext w w' := by
  obtain ⟨hs, hxm1⟩ := codeM_one1 hc
  obtain ⟨hpr, hd1, hd6, hqb⟩ := space_of hs
  unfold multiB at hxm1
  simp only [Bool.and_eq_true, decide_eq_true_eq] at hxm1
  obtain ⟨hxl1, hxb1⟩ := hxm1
  rw [hq.1] at hxl1 hd6
  have HN := Lib.hid (hx1.1.symm.trans hxl1)
  have HPR := Lib.hid hpr
  have HX := Lib.hid hx1
  have HNT := Lib.hid (nth_isB hx1.1 hxb1)
  clear hs hqb hxb1 hxl1 hpr hd1
  have HC := Lib.hid hc
  have hcb : ((0 : Int) != 0) = false := by simp
  clear hc
  go_enter Tryd.func13, Tryd.ntmps13
  go_wp2_with (go_at_call 27; refine (s_code p a d cap qs _ 1 _ [xs1] _ hd (by omega) (len_one1 (by rw [hx1.1]; exact hn1)) (hq.ext ((ext_alloc _ _).alloc _)) (rdR_one1 (a := ax1) (n := _) (cap := cx1) (by simp) (hx1.ext ((ext_alloc _ _).alloc _)))).mono ?_; rintro e w1 ⟨rfl, g1⟩; rw [HC.out]; have hq0 : w1.cell? ⟨w.heap.size, 0, none⟩ = some (.int .i64 p) := g1.cell (by simp); have hq1 : w1.cell? ⟨w.heap.size, 1, none⟩ = some (.slice a d cap) := g1.cell (by simp))
  have G1 := Lib.hid (((ext_alloc w (.cells #[.int .i64 p, .slice a d cap] 28)).alloc (.cells #[.slice ax1 n1 cx1] 22)).trans g1)
  have E1 := Lib.hid G1.out
  clear hq0 hq1
  refine Calls.mono (s_mtext p a d cap n1 ax1 cx1 xs1 _ HPR.out hd6 HN.out (HX.out.ext G1.out) HNT.out _ rfl) ?_
  rintro e w2 ⟨rfl, g2⟩
  have G2 := Lib.hid (G1.out.trans g2)
  clear g2
  go_wp2_with (fail)
  go_ret2
  exact ⟨by rfl, G2.out⟩

end Go.Proofs.YtdccileoiiafmaaDoor
