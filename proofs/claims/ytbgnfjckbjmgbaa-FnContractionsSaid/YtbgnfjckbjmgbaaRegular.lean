/-
  Regular spaces: the library's search for a number, the discriminant, the codes of regular spaces.
  No condition.
-/
import Derived.Test.YtbgnfjckbjmgbaaPseudo
namespace Go.Proofs.Ytbgnfjckbjmgbaa
set_option maxRecDepth 100000
open Go.RowKit

set_option maxHeartbeats 400000 in
set_option maxRecDepth 20000 in
theorem c_index (a : Option Addr) (n cap : Nat) (xs : List Int) (v : Int) (w : World) (hl : n ≤ 4194304) (hx : RdC w a n xs) :
    Calls Try.prog 210 #[.slice a n cap, .int .i64 v] w fun e w' => e = .returned (.int .i64 (firstIx (fun i => v == nth xs i) n)) ∧ Ext w w' := by
  have HX := Lib.hid hx
  clear hx
  go_enter Try.func210, Try.ntmps210
  go_wp2_with (fail)
  go_loopw [5, 8] (fun _ i wr => ∃ k : Nat, k ≤ n ∧ i = .int .i64 k ∧ Hid (∀ j, j < k → (v == nth xs j) = false) ∧ Ext w wr) (fun _ i _ => n - (intOf i).toNat)
  case atStart => exact ⟨0, Nat.zero_le _, rfl, Lib.hid (fun j hj => by omega), Ext.refl _⟩
  case round =>
    obtain ⟨k, hk, rfl, HT, hext⟩ := hrel
    by_cases hlt : k < n
    · obtain ⟨b, off, rfl, hc⟩ := HX.out.2 k hlt
      have hc' := hext.cell hc
      clear hc
      cases hb : (v == nth xs k)
      · have HB := Lib.hid hb
        go_wp2_with (fail)
        go_roundw
        case rel => exact ⟨k + 1, by omega, by go_num, Lib.hid (fun j hj => by
          by_cases hjk : j = k
          · subst hjk; exact HB.out
          · exact HT.out j (by omega)), hext⟩
        case measure => simp [intOf]; omega
      · have HB := Lib.hid hb
        go_wp2_with (fail)
        go_ret
        exact ⟨ret_int (firstIx_hit (f := fun i => v == nth xs i) hlt HB.out HT.out).symm, hext⟩
    · go_wp2_with (fail)
      go_ret
      exact ⟨ret_int (firstIx_none (f := fun i => v == nth xs i) (fun j hj => HT.out j (by omega))).symm, hext⟩

def hasB (xs : List Int) (v : Int) : Bool := (List.range xs.length).any fun i => v == nth xs i
set_option maxHeartbeats 400000 in
theorem c_contains (a : Option Addr) (n cap : Nat) (xs : List Int) (v : Int) (w : World) (hl : n ≤ 4194304) (hx : RdC w a n xs) :
    Calls Try.prog 201 #[.slice a n cap, .int .i64 v] w fun e w' => e = .returned (.bool (hasB xs v)) ∧ Ext w w' := by
  have HA := Lib.hid (show decide (0 ≤ firstIx (fun i => v == nth xs i) n) = hasB xs v by rw [firstIx_any]; unfold hasB; rw [hx.1])
  have hbd := firstIx_bd (fun i => v == nth xs i) n
  go_enter Try.func201, Try.ntmps201
  go_wp2_with (go_at_call 210; refine (c_index _ _ _ _ _ _ hl hx).mono ?_; rintro e w1 ⟨rfl, h1⟩)
  go_ret
  exact ⟨ret_bool HA.out, h1⟩

def regB (qs : List Int) : Bool := !hasB qs 0
set_option maxHeartbeats 400000 in
theorem c_regular (p : Int) (a : Option Addr) (d cap : Nat) (qs : List Int) (w : World) (hl : d ≤ 4194304) (hq : RdC w a d qs) :
    Calls Try.prog 173 #[.agg #[.int .i64 p, .slice a d cap]] w fun e w' => e = .returned (.bool (regB qs)) ∧ Ext w w' := by
  go_enter Try.func173, Try.ntmps173
  go_wp2_with (go_at_call 201; refine (c_contains _ _ _ _ _ _ hl (hq.ext (ext_alloc _ _))).mono ?_; rintro e w1 ⟨rfl, h1⟩)
  go_ret
  exact ⟨rfl, (ext_alloc _ _).trans h1⟩

/-! ### The discriminant -/
def discS (p : Int) (qs : List Int) : Nat → Int
  | 0 => 1
  | k + 1 => discS p qs k * nth qs k % p
theorem discS_bd {p : Int} {qs : List Int} (hp : 3 ≤ p) : ∀ k, 0 ≤ discS p qs k ∧ discS p qs k < p
  | 0 => by simp [discS]; omega
  | k + 1 => ⟨Int.emod_nonneg _ (by omega), Int.emod_lt_of_pos _ (by omega)⟩
theorem mul_zero_of {p : Int} (hp : primeB p = true) {x y : Int} (hx0 : 0 ≤ x) (hx : x < p) (hy0 : 0 ≤ y) (hy : y < p) : x * y % p = 0 ↔ x = 0 ∨ y = 0 := by
  have key : ∀ q : Nat, (q = 3 ∨ q = 5 ∨ q = 7 ∨ q = 11 ∨ q = 13) → ∀ x : Nat, x < q → ∀ y : Nat, y < q → ((x * y) % q = 0 ↔ x = 0 ∨ y = 0) := by
    rintro q (rfl | rfl | rfl | rfl | rfl) <;> decide +kernel
  have hb := prime_bd hp
  obtain ⟨q, rfl⟩ := Int.eq_ofNat_of_zero_le (show 0 ≤ p by omega)
  obtain ⟨x, rfl⟩ := Int.eq_ofNat_of_zero_le hx0
  obtain ⟨y, rfl⟩ := Int.eq_ofNat_of_zero_le hy0
  have := key q (by simp [primeB] at hp; omega) x (by omega) y (by omega)
  rw [show ((x : Int) * (y : Int)) % (q : Int) = ((x * y % q : Nat) : Int) by simp]
  simp only [Int.natCast_eq_zero]
  exact this
theorem discS_zero {p : Int} {qs : List Int} (hp : primeB p = true) (hq : isB p qs = true) : ∀ k, k ≤ qs.length → ((discS p qs k == 0) = (List.range k).any fun i => (0 : Int) == nth qs i)
  | 0, _ => by simp [discS]
  | k + 1, h => by
    have hb := prime_bd hp
    have ih := discS_zero hp hq k (by omega)
    have hk := isB_nth hq (i := k) (by omega)
    have hd := discS_bd (qs := qs) (show 3 ≤ p by omega) k
    rw [List.range_succ, List.any_append, ← ih]
    rw [Bool.eq_iff_iff]
    simp only [discS, beq_iff_eq, Bool.or_eq_true, List.any_cons, List.any_nil, Bool.or_false]
    rw [mul_zero_of hp hd.1 hd.2 hk.1 hk.2]
    constructor
    · rintro (h | h)
      · exact .inl h
      · exact .inr h.symm
    · rintro (h | h)
      · exact .inl h
      · exact .inr h.symm
def discL (p : Int) (qs : List Int) : Int := discS p qs qs.length
theorem disc_reg {p : Int} {qs : List Int} (hp : primeB p = true) (hq : isB p qs = true) : (discL p qs == 0) = !regB qs := by
  rw [discL, discS_zero hp hq _ (Nat.le_refl _), regB, Bool.not_not]; rfl

set_option maxHeartbeats 1000000 in
set_option maxRecDepth 20000 in
theorem s_disc (p : Int) (a : Option Addr) (d cap : Nat) (qs : List Int) (w : World) (hd : d ≤ 64) (hp1 : 3 ≤ p) (hp2 : p ≤ 1000) (hq : RdC w a d qs) (hqb : isB p qs = true) :
    Calls Try.prog 174 #[.agg #[.int .i64 p, .slice a d cap]] w fun e w' => e = .returned (.int .i64 (discL p qs)) ∧ Ext w w' := by
  have hpz : ¬ p = 0 := by omega
  have HD := Lib.hid (show discL p qs = discS p qs d by unfold discL; rw [hq.1])
  have HQ := Lib.hid hq
  have HQB := Lib.hid hqb
  clear hq hqb
  obtain ⟨W, hW⟩ : ∃ W, W = w.alloc (.cells #[.int .i64 p, .slice a d cap] 26) := ⟨_, rfl⟩
  have gW : Ext w W := by rw [hW]; exact ext_alloc _ _
  have hs0 : W.cell? ⟨w.heap.size, 0, none⟩ = some (.int .i64 p) := by rw [hW]; simp
  have hs1 : W.cell? ⟨w.heap.size, 1, none⟩ = some (.slice a d cap) := by rw [hW]; simp
  have HS0 := Lib.hid (hs0)
  have HS1 := Lib.hid (hs1)
  have GW := Lib.hid (gW)
  have HW := Lib.hid hW
  clear hs0 hs1 gW hW
  go_enter Try.func174, Try.ntmps174
  go_wp2_with (fail)
  rw [← HW.out]
  go_loopw [3, 4] (fun v i wr => ∃ k : Nat, k ≤ d ∧ i = .int .i64 k ∧ v = .int .i64 (discS p qs k) ∧ Ext W wr) (fun _ i _ => d - (intOf i).toNat)
  case atStart => exact ⟨0, Nat.zero_le _, rfl, rfl, Ext.refl _⟩
  case round =>
    obtain ⟨k, hk, rfl, rfl, hext⟩ := hrel
    have HExt := Lib.hid hext
    clear hext
    have hq0 := HExt.out.cell HS0.out
    have hq1 := HExt.out.cell HS1.out
    by_cases hlt : k < d
    · obtain ⟨b, off, rfl, hc⟩ := HQ.out.2 k hlt
      have hc' := (GW.out.trans HExt.out).cell hc
      have hqk := isB_nth HQB.out (i := k) (by rw [HQ.out.1]; exact hlt)
      have hds := discS_bd (qs := qs) hp1 k
      obtain ⟨D, hD⟩ : ∃ D, D = discS p qs k := ⟨_, rfl⟩
      have HDk := Lib.hid (show discS p qs (k + 1) = D * nth qs k % p by rw [hD]; rfl)
      rw [← hD] at hds
      obtain ⟨hm1, hm2⟩ := mul_bd hp2 hds.1 hds.2 hqk.1 hqk.2
      have hw1 : IntKind.i64.wrap (D * nth qs k) = D * nth qs k := IntWalk.i64_in _ (by omega)
      have hw2 : (D * nth qs k).tmod p = D * nth qs k % p := Int.tmod_eq_emod_of_nonneg hm1
      have Hc0 := Lib.hid ((ext_drew _).cell hq0)
      have Hc1 := Lib.hid ((ext_drew _).cell hq1)
      have Hc2 := Lib.hid ((ext_drew _).cell hc')
      rw [← hD]
      clear hc
      go_wp2_with (fail)
      clear hq0 hq1 hc' hD
      refine wp_region_lex [] (by kernel_rfl) (by kernel_rfl) ?_
      repeat' first | (refine LexW.pure (v := ?_) rfl rfl (fun w1 he => ?_) ?_; rotate_left; ( have e0 := he.cell Hc0.out; have e1 := he.cell Hc1.out; have e2 := he.cell Hc2.out; go_simp; rfl); simp only [Act.put, List.setIfInBounds_toArray, List.set_cons_zero, List.set_cons_succ])
      refine LexW.nil (fun w3 he hk => ?_)
      have HE3 := Lib.hid (HExt.out.trans ((ext_drew _).trans he))
      clear he hk
      go_wp2_with (fail)
      go_roundw
      case rel => exact ⟨k + 1, by omega, by go_num, by rw [HDk.out], HE3.out⟩
      case measure => simp [intOf]; omega
    · go_wp2_with (fail)
      go_ret
      obtain rfl : k = d := by omega
      exact ⟨ret_int HD.out.symm, GW.out.trans HExt.out⟩

def codeR (p : Int) (qs : List Int) (rows : List (List Int)) : Int := if codeM p qs rows = 0 then (if regB qs = true then 0 else 5) else codeM p qs rows
theorem codeR_zero {p : Int} {qs : List Int} {rows : List (List Int)} (h : codeR p qs rows = 0) : codeM p qs rows = 0 ∧ regB qs = true := by
  unfold codeR at h
  split at h
  · rename_i hm
    split at h
    · rename_i hr; exact ⟨hm, hr⟩
    · omega
  · rename_i hm; exact absurd h hm

set_option maxHeartbeats 400000 in
theorem c_checkRegular (p : Int) (a : Option Addr) (d cap : Nat) (qs : List Int) (al : Option Addr) (n cl : Nat) (rows : List (List Int)) (w : World) (hd : d ≤ 4194304) (hl : n ≤ 4194304) (hr : ∀ i, i < n → (nthR rows i).length ≤ 4194304)
    (hq : RdC w a d qs) (hx : RdR w al n rows) :
    Calls Try.prog 111 #[.agg #[.int .i64 p, .slice a d cap], .slice al n cl] w fun e w' => e = .returned (.int .i64 (codeR p qs rows)) ∧ Ext w w' := by
  by_cases hm : codeM p qs rows = 0
  · have hcb : (codeM p qs rows != 0) = false := by simp [hm]
    have HM := Lib.hid hm
    have HC := Lib.hid (show codeR p qs rows = if regB qs = true then 0 else 5 by simp [codeR, hm])
    clear hm
    cases hg : regB qs
    all_goals
      rw [hg] at HC
      have HG := Lib.hid hg
      clear hg
      go_enter Try.func111, Try.ntmps111
      go_wp2_with (first | (go_at_call 79; refine (c_checkMultis _ _ _ _ _ _ _ _ _ _ hd hl hr (hq.ext (ext_alloc _ _)) (hx.ext (ext_alloc _ _))).mono ?_; rintro e w1 ⟨rfl, h1⟩; have hq0 : w1.cell? ⟨w.heap.size, 0, none⟩ = some (.int .i64 p) := h1.cell (by simp); have hq1 : w1.cell? ⟨w.heap.size, 1, none⟩ = some (.slice a d cap) := h1.cell (by simp)) | (go_at_call 173; refine (c_regular _ _ _ _ _ _ hd (hq.ext ((ext_alloc _ _).trans h1))).mono ?_; rintro e w2 ⟨rfl, h2⟩; rw [HG.out]))
      go_ret
      exact ⟨ret_int HC.out.symm, (ext_alloc _ _).trans (h1.trans h2)⟩
  · have hcb : (codeM p qs rows != 0) = true := by simp [hm]
    have HC := Lib.hid (show codeR p qs rows = codeM p qs rows by simp [codeR, hm])
    clear hm
    go_enter Try.func111, Try.ntmps111
    go_wp2_with (go_at_call 79; refine (c_checkMultis _ _ _ _ _ _ _ _ _ _ hd hl hr (hq.ext (ext_alloc _ _)) (hx.ext (ext_alloc _ _))).mono ?_; rintro e w1 ⟨rfl, h1⟩)
    go_ret
    exact ⟨ret_int HC.out.symm, (ext_alloc _ _).trans h1⟩

set_option maxHeartbeats 400000 in
theorem s_regular (p : Int) (a : Option Addr) (d cap : Nat) (qs : List Int) (al : Option Addr) (n cl : Nat) (rows : List (List Int)) (w : World) (hd : d ≤ 4194304) (hl : n ≤ 4194304) (hr : ∀ i, i < n → (nthR rows i).length ≤ 4194304)
    (hq : RdC w a d qs) (hx : RdR w al n rows) :
    Calls Try.prog 114 #[.agg #[.int .i64 p, .slice a d cap], .slice al n cl] w fun e w' => e = .returned (.int .i64 (codeR p qs rows)) ∧ Ext w w' := by
  by_cases hm : codeM p qs rows = 0
  · have hcb : (codeM p qs rows == 0) = true := by simp [hm]
    have HM := Lib.hid hm
    have HC := Lib.hid (show codeR p qs rows = if regB qs = true then 0 else 5 by simp [codeR, hm])
    have hs : spaceB p qs = true := by
      unfold codeM at hm
      split at hm
      · assumption
      · omega
    obtain ⟨hpr, hd1, hd6, hqb⟩ := space_of hs
    have hpb := prime_bd hpr
    have hdl := hq.1
    have HDR := Lib.hid (disc_reg hpr hqb)
    clear hm
    cases hg : regB qs
    all_goals
      have hdb : (discL p qs == 0) = !regB qs := HDR.out
      rw [hg] at HC hdb
      simp only [Bool.not_true, Bool.not_false] at hdb
      clear hg
      go_enter Try.func114, Try.ntmps114
      go_wp2_with (first | (go_at_call 84; refine (s_code _ _ _ _ _ _ _ _ _ _ hd hl hr (hq.ext (ext_alloc _ _)) (hx.ext (ext_alloc _ _))).mono ?_; rintro e w1 ⟨rfl, h1⟩; have hq0 : w1.cell? ⟨w.heap.size, 0, none⟩ = some (.int .i64 p) := h1.cell (by simp); have hq1 : w1.cell? ⟨w.heap.size, 1, none⟩ = some (.slice a d cap) := h1.cell (by simp)) | (go_at_call 174; refine (s_disc _ _ _ _ _ _ (by omega) (by omega) (by omega) (hq.ext ((ext_alloc _ _).trans h1)) hqb).mono ?_; rintro e w2 ⟨rfl, h2⟩))
      go_ret
      exact ⟨ret_int (by rw [HC.out]; first | rfl | exact HM.out), (ext_alloc _ _).trans (h1.trans h2)⟩
  · have hcb : (codeM p qs rows == 0) = false := by simp [hm]
    have HC := Lib.hid (show codeR p qs rows = codeM p qs rows by simp [codeR, hm])
    clear hm
    go_enter Try.func114, Try.ntmps114
    go_wp2_with (go_at_call 84; refine (s_code _ _ _ _ _ _ _ _ _ _ hd hl hr (hq.ext (ext_alloc _ _)) (hx.ext (ext_alloc _ _))).mono ?_; rintro e w1 ⟨rfl, h1⟩)
    go_ret
    exact ⟨ret_int HC.out.symm, (ext_alloc _ _).trans h1⟩
end Go.Proofs.Ytbgnfjckbjmgbaa
