/-
  Contracts: checks of multivectors in the program.
  No condition.
-/
import Derived.Test.YtdccileoiiafmaaDoorLeaf
namespace Go.Proofs.YtdccileoiiafmaaDoor
set_option maxRecDepth 100000
open Go.RowKit

/-- isMulti reports whether a list is a multivector. -/
theorem pow_wrap {d : Nat} (h : d ≤ 6) : wrap64 (2 ^ d) = ((2 ^ d : Nat) : Int) := by
  have : d = 0 ∨ d = 1 ∨ d = 2 ∨ d = 3 ∨ d = 4 ∨ d = 5 ∨ d = 6 := by omega
  rcases this with rfl | rfl | rfl | rfl | rfl | rfl | rfl <;> decide +kernel

set_option maxHeartbeats 400000 in
theorem c_isMulti (p : Int) (a : Option Addr) (d cap : Nat) (ax : Option Addr) (n cx : Nat) (xs : List Int) (w : World) (hp1 : 1 ≤ p) (hp2 : p ≤ 1000) (hd : d ≤ 6) (hl : n ≤ 4194304) (hx : RdC w ax n xs) :
    Calls Tryd.prog 43 #[.agg #[.int .i64 p, .slice a d cap], .slice ax n cx] w fun e w' => e = .returned (.bool (multiB p d xs)) ∧ Ext w w' := by
  obtain ⟨N, hN, hN2⟩ : ∃ N : Nat, wrap64 (2 ^ d) = (N : Int) ∧ N = 2 ^ d := ⟨_, pow_wrap hd, rfl⟩
  have HN := Lib.hid hN2
  clear hN2
  by_cases hc : n = N
  · have HF := Lib.hid (show multiB p d xs = isB p xs by simp [multiB, hx.1, hc, HN.out])
    subst hc
    have hcb : ((n : Int) == (n : Int)) = true := by simp
    go_enter Tryd.func43, Tryd.ntmps43
    go_wp2_with (first | (go_at_call 24; refine (c_dim _ _ _ _ _).mono ?_; rintro e w1 ⟨rfl, h1⟩; have hcc := Ext.cells h1) | (go_at_call 36; refine (c_field _ _ _).mono ?_; rintro e w2 ⟨rfl, h2⟩; have hcc2 := Ext.cells (h1.trans h2)) | (go_at_call 37; refine (c_is _ _ _ _ _ _ hp1 hp2 hl (hx.ext ((ext_alloc _ _).trans (h1.trans h2)))).mono ?_; rintro e w3 ⟨rfl, h3⟩))
    go_ret
    exact ⟨ret_bool HF.out.symm, (ext_alloc _ _).trans (h1.trans (h2.trans h3))⟩
  · have HF := Lib.hid (show multiB p d xs = false by simp [multiB, hx.1, ← HN.out, hc])
    have hcb : ((n : Int) == (N : Int)) = false := by simp; omega
    go_enter Tryd.func43, Tryd.ntmps43
    go_wp2_with (first | (go_at_call 24; refine (c_dim _ _ _ _ _).mono ?_; rintro e w1 ⟨rfl, h1⟩; have hcc := Ext.cells h1))
    go_ret
    exact ⟨ret_bool HF.out.symm, (ext_alloc _ _).trans h1⟩

/-! ### The library's search with a predicate -/
def firstIx (f : Nat → Bool) (n : Nat) : Int := match (List.range n).find? f with | some i => i | none => -1
theorem firstIx_hit {f : Nat → Bool} {n k : Nat} (hk : k < n) (hf : f k = true) (hb : ∀ j, j < k → f j = false) : firstIx f n = k := by
  unfold firstIx
  have : (List.range n).find? f = some k := by
    rw [List.find?_range_eq_some]
    exact ⟨hf, by simpa using hk, fun j hj => by simp [hb j hj]⟩
  rw [this]
theorem firstIx_none {f : Nat → Bool} {n : Nat} (hb : ∀ j, j < n → f j = false) : firstIx f n = -1 := by
  unfold firstIx
  have : (List.range n).find? f = none := by
    rw [List.find?_range_eq_none]
    exact fun j hj => by simp [hb j hj]
  rw [this]
theorem firstIx_bd (f : Nat → Bool) (n : Nat) : -1 ≤ firstIx f n := by
  unfold firstIx; split <;> omega
theorem firstIx_any (f : Nat → Bool) (n : Nat) : decide (0 ≤ firstIx f n) = (List.range n).any f := by
  by_cases h : ∃ k, k < n ∧ f k = true
  · obtain ⟨k, hk, hf⟩ := h
    have : (List.range n).any f = true := List.any_eq_true.2 ⟨k, List.mem_range.2 hk, hf⟩
    rw [this]
    unfold firstIx
    split
    · simp
    · rename_i h0; rw [List.find?_range_eq_none] at h0; have := h0 k hk; simp [hf] at this
  · have h' : ∀ j, j < n → f j = false := fun j hj => by
      cases hf : f j with
      | false => rfl
      | true => exact absurd ⟨j, hj, hf⟩ h
    rw [firstIx_none h']
    symm
    simp only [Int.reduceNeg, Int.reduceLE, decide_false]
    rw [Bool.eq_false_iff]
    intro ha
    obtain ⟨k, hk, hf⟩ := List.any_eq_true.1 ha
    rw [h' k (List.mem_range.1 hk)] at hf; cases hf

set_option maxHeartbeats 400000 in
set_option maxRecDepth 20000 in
theorem c_indexFunc (a : Option Addr) (n cap F : Nat) (caps : Array Value) (R : Nat → Value) (f : Nat → Bool) (w : World) (hl : n ≤ 4194304) (hcf : ∀ args w, (callFunc F args).run Tryd.prog w = .ok (.enter F args) w)
    (hR : ∀ i, i < n → ∃ b off, a = some ⟨b, off, none⟩ ∧ w.cell? ⟨b, off + i, none⟩ = some (R i))
    (hf : ∀ i, i < n → ∀ w1, Ext w w1 → Calls Tryd.prog F (#[R i] ++ caps) w1 fun e w2 => e = .returned (.bool (f i)) ∧ Ext w1 w2) :
    Calls Tryd.prog 48 #[.slice a n cap, .func (.func F) #[] caps] w fun e w' => e = .returned (.int .i64 (firstIx f n)) ∧ Ext w w' := by
  have HR := Lib.hid hR
  have HF := Lib.hid hf
  clear hR hf
  go_enter Tryd.func48, Tryd.ntmps48
  go_wp2_with (fail)
  go_loopw [5, 8] (fun _ i wr => ∃ k : Nat, k ≤ n ∧ i = .int .i64 k ∧ Hid (∀ j, j < k → f j = false) ∧ Ext w wr) (fun _ i _ => n - (intOf i).toNat)
  case atStart => exact ⟨0, Nat.zero_le _, rfl, Lib.hid (fun j hj => by omega), Ext.refl _⟩
  case round =>
    obtain ⟨k, hk, rfl, HT, hext⟩ := hrel
    by_cases hlt : k < n
    · obtain ⟨b, off, rfl, hc⟩ := HR.out k hlt
      have hc' := hext.cell hc
      clear hc
      cases hb : f k
      · have HB := Lib.hid hb
        have HFk := Lib.hid (HF.out k hlt wr hext)
        clear hb
        go_wp2_with ((with_reducible refine (HFk.out).mono ?_); rintro e w1 ⟨rfl, h1⟩; rw [HB.out])
        go_roundw
        case rel => exact ⟨k + 1, by omega, by go_num, Lib.hid (fun j hj => by
          by_cases hjk : j = k
          · subst hjk; exact HB.out
          · exact HT.out j (by omega)), hext.trans h1⟩
        case measure => simp [intOf]; omega
      · have HB := Lib.hid hb
        have HFk := Lib.hid (HF.out k hlt wr hext)
        clear hb
        go_wp2_with ((with_reducible refine (HFk.out).mono ?_); rintro e w1 ⟨rfl, h1⟩; rw [HB.out])
        go_ret
        exact ⟨ret_int (firstIx_hit hlt HB.out HT.out).symm, hext.trans h1⟩
    · go_wp2_with (fail)
      go_ret
      exact ⟨ret_int (firstIx_none (fun j hj => HT.out j (by omega))).symm, hext⟩

set_option maxHeartbeats 400000 in
theorem c_containsFunc (a : Option Addr) (n cap F : Nat) (caps : Array Value) (R : Nat → Value) (f : Nat → Bool) (w : World) (hl : n ≤ 4194304) (hcf : ∀ args w, (callFunc F args).run Tryd.prog w = .ok (.enter F args) w)
    (hR : ∀ i, i < n → ∃ b off, a = some ⟨b, off, none⟩ ∧ w.cell? ⟨b, off + i, none⟩ = some (R i))
    (hf : ∀ i, i < n → ∀ w1, Ext w w1 → Calls Tryd.prog F (#[R i] ++ caps) w1 fun e w2 => e = .returned (.bool (f i)) ∧ Ext w1 w2) :
    Calls Tryd.prog 41 #[.slice a n cap, .func (.func F) #[] caps] w fun e w' => e = .returned (.bool ((List.range n).any f)) ∧ Ext w w' := by
  have HR := Lib.hid hR
  have HF := Lib.hid hf
  have HA := Lib.hid (firstIx_any f n)
  have hbd := firstIx_bd f n
  clear hR hf
  go_enter Tryd.func41, Tryd.ntmps41
  go_wp2_with (go_at_call 48; refine (c_indexFunc _ _ _ _ _ _ _ _ hl hcf HR.out HF.out).mono ?_; rintro e w1 ⟨rfl, h1⟩)
  go_ret
  exact ⟨ret_bool HA.out, h1⟩

set_option maxHeartbeats 400000 in
theorem c_checkMultis1 (p : Int) (a : Option Addr) (d cap : Nat) (ax : Option Addr) (n cx : Nat) (xs : List Int) (q : Nat) (w : World) (hp1 : 1 ≤ p) (hp2 : p ≤ 1000) (hd : d ≤ 6) (hl : n ≤ 4194304) (hx : RdC w ax n xs)
    (hq0 : w.cell? ⟨q, 0, none⟩ = some (.int .i64 p)) (hq1 : w.cell? ⟨q, 1, none⟩ = some (.slice a d cap)) :
    Calls Tryd.prog 42 #[.slice ax n cx, .pointer (some ⟨q, 0, none⟩)] w fun e w' => e = .returned (.bool (!multiB p d xs)) ∧ Ext w w' := by
  go_enter Tryd.func42, Tryd.ntmps42
  go_wp2_with (go_at_call 43; refine (c_isMulti _ _ _ _ _ _ _ _ _ hp1 hp2 hd hl hx).mono ?_; rintro e w1 ⟨rfl, h1⟩)
  go_ret
  exact ⟨rfl, h1⟩

theorem any_not_all {α : Type} (g : α → Bool) (l : List α) : (List.range l.length).any (fun i => match l[i]? with | some x => !g x | none => false) = !l.all g := by
  rw [Bool.eq_iff_iff]
  simp only [List.any_eq_true, List.mem_range, Bool.not_eq_true', List.all_eq_false]
  constructor
  · rintro ⟨i, hi, h⟩
    rw [List.getElem?_eq_getElem hi] at h
    exact ⟨l[i], List.getElem_mem hi, by simpa using h⟩
  · rintro ⟨x, hx, h⟩
    obtain ⟨i, hi, rfl⟩ := List.getElem_of_mem hx
    exact ⟨i, hi, by rw [List.getElem?_eq_getElem hi]; simpa using h⟩

theorem any_rows (p : Int) (d n : Nat) (rows : List (List Int)) (hn : rows.length = n) : (List.range n).any (fun i => !multiB p d (nthR rows i)) = !rows.all (multiB p d) := by
  subst hn
  rw [← any_not_all]
  rw [Bool.eq_iff_iff]
  simp only [List.any_eq_true, List.mem_range]
  constructor
  · rintro ⟨i, hi, h⟩
    exact ⟨i, hi, by rw [List.getElem?_eq_getElem hi]; rw [nthR_eq hi] at h; exact h⟩
  · rintro ⟨i, hi, h⟩
    exact ⟨i, hi, by rw [List.getElem?_eq_getElem hi] at h; rw [nthR_eq hi]; exact h⟩

def rowV (ai : Nat → Option Addr) (ci : Nat → Nat) (rows : List (List Int)) (i : Nat) : Value := .slice (ai i) (nthR rows i).length (ci i)
theorem RdR.choose {w : World} {a : Option Addr} {n : Nat} {rows : List (List Int)} (h : RdR w a n rows) :
    ∃ (ai : Nat → Option Addr) (ci : Nat → Nat), (∀ i, i < n → ∃ b off, a = some ⟨b, off, none⟩ ∧ w.cell? ⟨b, off + i, none⟩ = some (rowV ai ci rows i)) ∧ ∀ i, i < n → RdC w (ai i) (nthR rows i).length (nthR rows i) := by
  obtain ⟨_, h⟩ := h
  refine ⟨fun i => if hi : i < n then Classical.choose (Classical.choose_spec (Classical.choose_spec (h i hi))) else none,
    fun i => if hi : i < n then Classical.choose (Classical.choose_spec (Classical.choose_spec (Classical.choose_spec (h i hi)))) else 0, fun i hi => ?_, fun i hi => ?_⟩
  · have hs := Classical.choose_spec (Classical.choose_spec (Classical.choose_spec (Classical.choose_spec (h i hi))))
    refine ⟨_, _, hs.1, ?_⟩
    rw [hs.2.1]
    simp only [rowV, hi, dif_pos]
  · have hs := Classical.choose_spec (Classical.choose_spec (Classical.choose_spec (Classical.choose_spec (h i hi))))
    simp only [hi, dif_pos]
    exact hs.2.2

set_option maxHeartbeats 400000 in
theorem c_checkMultis (p : Int) (a : Option Addr) (d cap : Nat) (qs : List Int) (al : Option Addr) (n cl : Nat) (rows : List (List Int)) (w : World) (hd : d ≤ 4194304) (hl : n ≤ 4194304) (hr : ∀ i, i < n → (nthR rows i).length ≤ 4194304)
    (hq : RdC w a d qs) (hx : RdR w al n rows) :
    Calls Tryd.prog 29 #[.agg #[.int .i64 p, .slice a d cap], .slice al n cl] w fun e w' => e = .returned (.int .i64 (codeM p qs rows)) ∧ Ext w w' := by
  cases hs : spaceB p qs
  · have HS := Lib.hid hs
    have HC := Lib.hid (show codeM p qs rows = 1 by simp [codeM, hs])
    clear hs
    go_enter Tryd.func29, Tryd.ntmps29
    go_wp2_with (go_at_call 22; refine (c_isSpace _ _ _ _ _ _ hd (hq.ext (ext_alloc _ _))).mono ?_; rintro e w1 ⟨rfl, h1⟩; rw [HS.out])
    go_ret
    exact ⟨ret_int HC.out.symm, (ext_alloc _ _).trans h1⟩
  · obtain ⟨hp, hd1, hd6, _⟩ := space_of hs
    have hpb := prime_bd hp
    have hdq := hq.1
    have HS := Lib.hid hs
    have HC := Lib.hid (show codeM p qs rows = if rows.all (multiB p d) then 0 else 2 by simp [codeM, hs, hdq])
    have HA := Lib.hid (any_rows p d n rows hx.1)
    have hd6' : d ≤ 6 := by omega
    clear hs hp hdq hd1 hd6
    obtain ⟨ai, ci, hR, hrow⟩ := hx.choose
    have HR := Lib.hid hR
    have HRow := Lib.hid hrow
    clear hR hrow
    cases ha : rows.all (multiB p d)
    all_goals
      have HAl := Lib.hid ha
      clear ha
      go_enter Tryd.func29, Tryd.ntmps29
      go_wp2_with (first | (go_at_call 22; refine (c_isSpace _ _ _ _ _ _ hd (hq.ext (ext_alloc _ _))).mono ?_; rintro e w1 ⟨rfl, h1⟩; rw [HS.out]; have hcc := Ext.cells h1) | (go_at_call 41; refine (c_containsFunc al n cl 42 #[.pointer (some ⟨w.heap.size, 0, none⟩)] (rowV ai ci rows) (fun i => !multiB p d (nthR rows i)) _ hl ?_ (fun i hi => ?_) (fun i hi w2 he => ?_)).mono ?_; rotate_right; rintro e w2 ⟨rfl, h2⟩; rw [HA.out, HAl.out]))
      rotate_left
      · intro args w; go_simp
      · obtain ⟨b, off, hb1, hb2⟩ := HR.out i hi
        exact ⟨b, off, hb1, ((ext_alloc _ _).trans h1).cell hb2⟩
      · refine c_checkMultis1 p a d cap _ _ _ _ _ _ (by omega) (by omega) hd6' (hr i hi) ((HRow.out i hi).ext ((ext_alloc _ _).trans (h1.trans he))) ?_ ?_
        · refine he.cell (h1.cell ?_); simp
        · refine he.cell (h1.cell ?_); simp
      go_ret
      refine ⟨ret_int ?_, (ext_alloc _ _).trans (h1.trans h2)⟩
      rw [HC.out, HAl.out]; rfl

/-- A row of one slice, laid by the call. -/
theorem rdR_one {w : World} {g : Nat} {a : Option Addr} {n cap : Nat} {xs : List Int} (hc : w.cell? ⟨g, 0, none⟩ = some (.slice a n cap)) (hx : RdC w a n xs) : RdR w (some ⟨g, 0, none⟩) 1 [xs] := by
  refine ⟨rfl, fun i hi => ?_⟩
  obtain rfl : i = 0 := by omega
  have : nthR [xs] 0 = xs := rfl
  rw [this, hx.1]
  exact ⟨g, 0, a, cap, rfl, hc, hx⟩
theorem rdR_two {w : World} {g : Nat} {a b : Option Addr} {n m ca cb : Nat} {xs ys : List Int} (hc : w.cell? ⟨g, 0, none⟩ = some (.slice a n ca)) (hd : w.cell? ⟨g, 1, none⟩ = some (.slice b m cb)) (hx : RdC w a n xs) (hy : RdC w b m ys) : RdR w (some ⟨g, 0, none⟩) 2 [xs, ys] := by
  refine ⟨rfl, fun i hi => ?_⟩
  have : i = 0 ∨ i = 1 := by omega
  rcases this with rfl | rfl
  · have : nthR [xs, ys] 0 = xs := rfl
    rw [this, hx.1]
    exact ⟨g, 0, a, ca, rfl, hc, hx⟩
  · have : nthR [xs, ys] 1 = ys := rfl
    rw [this, hy.1]
    exact ⟨g, 0, b, cb, rfl, hd, hy⟩
theorem len_one {xs : List Int} {n : Nat} (h : xs.length ≤ n) : ∀ i, i < 1 → (nthR [xs] i).length ≤ n := fun i hi => by
  obtain rfl : i = 0 := by omega
  exact h
theorem len_two {xs ys : List Int} {n : Nat} (h : xs.length ≤ n) (h' : ys.length ≤ n) : ∀ i, i < 2 → (nthR [xs, ys] i).length ≤ n := fun i hi => by
  have : i = 0 ∨ i = 1 := by omega
  rcases this with rfl | rfl
  · exact h
  · exact h'

theorem codeM_one {p : Int} {qs xs : List Int} (h : codeM p qs [xs] = 0) : spaceB p qs = true ∧ multiB p qs.length xs = true := by
  unfold codeM at h
  split at h
  · rename_i hs
    split at h
    · rename_i ha; exact ⟨hs, by simpa using ha⟩
    · omega
  · omega
theorem codeM_two {p : Int} {qs xs ys : List Int} (h : codeM p qs [xs, ys] = 0) : spaceB p qs = true ∧ multiB p qs.length xs = true ∧ multiB p qs.length ys = true := by
  unfold codeM at h
  split at h
  · rename_i hs
    split at h
    · rename_i ha; exact ⟨hs, by simpa using ha⟩
    · omega
  · omega

end Go.Proofs.YtdccileoiiafmaaDoor
