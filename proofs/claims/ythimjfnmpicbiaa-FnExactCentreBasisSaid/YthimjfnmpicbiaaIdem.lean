/-
  Codes of small algebras; lists of zeros; equal lists; idempotents: walks.
  No condition.
-/
import Derived.Test.YthimjfnmpicbiaaKit
import Derived.Test.YthimjfnmpicbiaaLawA
namespace Go.Proofs.Ythimjfnmpicbiaa
set_option maxRecDepth 100000
open Go.RowKit

def codeA (p : Int) (qs : List Int) (rows : List (List Int)) : Int := if codeM p qs rows = 0 then (if qs.length ≤ 4 then 0 else 3) else codeM p qs rows
theorem codeA_zero {p : Int} {qs : List Int} {rows : List (List Int)} (h : codeA p qs rows = 0) : codeM p qs rows = 0 ∧ qs.length ≤ 4 := by
  unfold codeA at h
  split at h
  · rename_i hm
    split at h
    · rename_i hr; exact ⟨hm, hr⟩
    · omega
  · rename_i hm; exact absurd h hm

set_option maxHeartbeats 400000 in
theorem c_checkAlgebra (p : Int) (a : Option Addr) (d cap : Nat) (qs : List Int) (al : Option Addr) (n cl : Nat) (rows : List (List Int)) (w : World) (hd : d ≤ 4194304) (hl : n ≤ 4194304) (hr : ∀ i, i < n → (nthR rows i).length ≤ 4194304)
    (hq : RdC w a d qs) (hx : RdR w al n rows) :
    Calls Try.prog 98 #[.agg #[.int .i64 p, .slice a d cap], .slice al n cl] w fun e w' => e = .returned (.int .i64 (codeA p qs rows)) ∧ Ext w w' := by
  by_cases hm : codeM p qs rows = 0
  · have hcb : (codeM p qs rows != 0) = false := by simp [hm]
    have HM := Lib.hid hm
    by_cases h4 : d ≤ 4
    · have HC := Lib.hid (show codeA p qs rows = 0 by simp [codeA, hm, hq.1, h4])
      clear hm
      go_enter Try.func98, Try.ntmps98
      go_wp2_with (first | (go_at_call 92; refine (c_checkMultis _ _ _ _ _ _ _ _ _ _ hd hl hr (hq.ext (ext_alloc _ _)) (hx.ext (ext_alloc _ _))).mono ?_; rintro e w1 ⟨rfl, h1⟩; have hq0 : w1.cell? ⟨w.heap.size, 0, none⟩ = some (.int .i64 p) := h1.cell (by simp); have hq1 : w1.cell? ⟨w.heap.size, 1, none⟩ = some (.slice a d cap) := h1.cell (by simp)) | (go_at_call 93; refine (c_dim _ _ _ _ _).mono ?_; rintro e w2 ⟨rfl, h2⟩))
      go_ret
      exact ⟨ret_int HC.out.symm, (ext_alloc _ _).trans (h1.trans h2)⟩
    · have HC := Lib.hid (show codeA p qs rows = 3 by simp [codeA, hm, hq.1, h4])
      clear hm
      go_enter Try.func98, Try.ntmps98
      go_wp2_with (first | (go_at_call 92; refine (c_checkMultis _ _ _ _ _ _ _ _ _ _ hd hl hr (hq.ext (ext_alloc _ _)) (hx.ext (ext_alloc _ _))).mono ?_; rintro e w1 ⟨rfl, h1⟩; have hq0 : w1.cell? ⟨w.heap.size, 0, none⟩ = some (.int .i64 p) := h1.cell (by simp); have hq1 : w1.cell? ⟨w.heap.size, 1, none⟩ = some (.slice a d cap) := h1.cell (by simp)) | (go_at_call 93; refine (c_dim _ _ _ _ _).mono ?_; rintro e w2 ⟨rfl, h2⟩))
      go_ret
      exact ⟨ret_int HC.out.symm, (ext_alloc _ _).trans (h1.trans h2)⟩
  · have hcb : (codeM p qs rows != 0) = true := by simp [hm]
    have HC := Lib.hid (show codeA p qs rows = codeM p qs rows by simp [codeA, hm])
    clear hm
    go_enter Try.func98, Try.ntmps98
    go_wp2_with (go_at_call 92; refine (c_checkMultis _ _ _ _ _ _ _ _ _ _ hd hl hr (hq.ext (ext_alloc _ _)) (hx.ext (ext_alloc _ _))).mono ?_; rintro e w1 ⟨rfl, h1⟩)
    go_ret
    exact ⟨ret_int HC.out.symm, (ext_alloc _ _).trans h1⟩

set_option maxHeartbeats 400000 in
theorem s_code9 (p : Int) (a : Option Addr) (d cap : Nat) (qs : List Int) (al : Option Addr) (n cl : Nat) (rows : List (List Int)) (w : World) (hd : d ≤ 4194304) (hl : n ≤ 4194304) (hr : ∀ i, i < n → (nthR rows i).length ≤ 4194304)
    (hq : RdC w a d qs) (hx : RdR w al n rows) :
    Calls Try.prog 95 #[.agg #[.int .i64 p, .slice a d cap], .slice al n cl] w fun e w' => e = .returned (.int .i64 (codeA p qs rows)) ∧ Ext w w' := by
  by_cases hm : codeM p qs rows = 0
  · have hcb : (codeM p qs rows == 0) = true := by simp [hm]
    have HM := Lib.hid hm
    by_cases h4 : d ≤ 4
    · have HC := Lib.hid (show codeA p qs rows = 0 by simp [codeA, hm, hq.1, h4])
      clear hm
      go_enter Try.func95, Try.ntmps95
      go_wp2_with (go_at_call 90; refine (s_code _ _ _ _ _ _ _ _ _ _ hd hl hr (hq.ext (ext_alloc _ _)) (hx.ext (ext_alloc _ _))).mono ?_; rintro e w1 ⟨rfl, h1⟩; have hq0 : w1.cell? ⟨w.heap.size, 0, none⟩ = some (.int .i64 p) := h1.cell (by simp); have hq1 : w1.cell? ⟨w.heap.size, 1, none⟩ = some (.slice a d cap) := h1.cell (by simp))
      go_ret
      exact ⟨ret_int (by rw [HC.out, HM.out]), (ext_alloc _ _).trans h1⟩
    · have HC := Lib.hid (show codeA p qs rows = 3 by simp [codeA, hm, hq.1, h4])
      clear hm
      go_enter Try.func95, Try.ntmps95
      go_wp2_with (go_at_call 90; refine (s_code _ _ _ _ _ _ _ _ _ _ hd hl hr (hq.ext (ext_alloc _ _)) (hx.ext (ext_alloc _ _))).mono ?_; rintro e w1 ⟨rfl, h1⟩; have hq0 : w1.cell? ⟨w.heap.size, 0, none⟩ = some (.int .i64 p) := h1.cell (by simp); have hq1 : w1.cell? ⟨w.heap.size, 1, none⟩ = some (.slice a d cap) := h1.cell (by simp))
      go_ret
      exact ⟨ret_int HC.out.symm, (ext_alloc _ _).trans h1⟩
  · have hcb : (codeM p qs rows == 0) = false := by simp [hm]
    have HC := Lib.hid (show codeA p qs rows = codeM p qs rows by simp [codeA, hm])
    clear hm
    go_enter Try.func95, Try.ntmps95
    go_wp2_with (go_at_call 90; refine (s_code _ _ _ _ _ _ _ _ _ _ hd hl hr (hq.ext (ext_alloc _ _)) (hx.ext (ext_alloc _ _))).mono ?_; rintro e w1 ⟨rfl, h1⟩)
    go_ret
    exact ⟨ret_int HC.out.symm, (ext_alloc _ _).trans h1⟩

/-! ### The first number other than 0 -/
def leadN (xs : List Int) : Nat := match (List.range xs.length).find? (fun i => nth xs i != 0) with | some i => i | none => xs.length
theorem leadN_eq {xs : List Int} {k : Nat} (hk : k ≤ xs.length) (hz : ∀ j, j < k → nth xs j = 0) (he : k = xs.length ∨ nth xs k ≠ 0) : leadN xs = k := by
  unfold leadN
  rcases Nat.lt_or_ge k xs.length with h | h
  · have hne : nth xs k ≠ 0 := by rcases he with he | he; omega; exact he
    have : (List.range xs.length).find? (fun i => nth xs i != 0) = some k := by
      rw [List.find?_range_eq_some]
      exact ⟨by simpa using hne, by simpa using h, fun j hj => by simp [hz j hj]⟩
    rw [this]
  · have : (List.range xs.length).find? (fun i => nth xs i != 0) = none := by
      rw [List.find?_range_eq_none]
      exact fun j hj => by simp [hz j (by omega)]
    rw [this]; simp only; omega
theorem leadN_le (xs : List Int) : leadN xs ≤ xs.length := by
  unfold leadN
  split
  · rename_i i h
    have := List.mem_of_find?_eq_some h
    simp at this; omega
  · exact Nat.le_refl _
theorem leadN_zero {xs : List Int} {j : Nat} (h : j < leadN xs) : nth xs j = 0 := by
  unfold leadN at h
  split at h
  · rename_i i hf
    rw [List.find?_range_eq_some] at hf
    simpa using hf.2.2 j h
  · rename_i hf
    rw [List.find?_range_eq_none] at hf
    simpa using hf j h
theorem leadN_ne {xs : List Int} (h : leadN xs < xs.length) : nth xs (leadN xs) ≠ 0 := by
  have h0 := h
  unfold leadN at h0 ⊢
  split at h0
  · rename_i i hf
    have := List.find?_some hf
    simpa using this
  · omega
def zeroB (xs : List Int) : Bool := decide (leadN xs = xs.length)
theorem zeroB_iff {xs : List Int} : zeroB xs = true ↔ ∀ j, j < xs.length → nth xs j = 0 := by
  simp only [zeroB, decide_eq_true_eq]
  constructor
  · intro h j hj; exact leadN_zero (by omega)
  · intro h; exact leadN_eq (Nat.le_refl _) (fun j hj => h j hj) (.inl rfl)
theorem zero_minus {p : Int} {x y : List Int} {n : Nat} (hp : 1 ≤ p) (hx : Good p n x) (hy : Good p n y) : zeroB (plusL p x y (-1) n) = eqB x y := by
  rw [Bool.eq_iff_iff, zeroB_iff, plusL_len]
  simp only [eqB, decide_eq_true_eq]
  constructor
  · intro h
    refine ext_nth (by rw [hx.1, hy.1]) (fun i hi => ?_)
    rw [hx.1] at hi
    have hi' := h i hi
    rw [plusL_nth hi] at hi'
    unfold plusN at hi'
    have h1 := hx.2 i hi
    have h2 := hy.2 i hi
    obtain ⟨c, hc⟩ := Int.dvd_of_emod_eq_zero hi'
    have hc0 : c = 0 := by
      rcases Int.lt_trichotomy c 0 with h | h | h
      · have : p * c ≤ p * -1 := Int.mul_le_mul_of_nonneg_left (by omega) (by omega)
        omega
      · exact h
      · have : p * 1 ≤ p * c := Int.mul_le_mul_of_nonneg_left (by omega) (by omega)
        omega
    rw [hc0] at hc; omega
  · rintro rfl i hi
    rw [plusL_nth hi]; unfold plusN
    rw [show nth x i + -1 * nth x i = 0 by omega]; simp

set_option maxHeartbeats 400000 in
theorem c_lead (a : Option Addr) (n cap : Nat) (xs : List Int) (w : World) (hl : n ≤ 4194303) (hx : RdC w a n xs) :
    Calls Try.prog 177 #[.slice a n cap] w fun e w' => e = .returned (.int .i64 (leadN xs)) ∧ Ext w w' := by
  have HX := Lib.hid hx
  clear hx
  go_enter Try.func177, Try.ntmps177
  go_wp2_with (fail)
  go_loopw [3] (fun i wr => ∃ k : Nat, k ≤ n ∧ i = .int .i64 k ∧ Hid (∀ j, j < k → nth xs j = 0) ∧ Ext w wr) (fun i _ => n - (intOf i).toNat)
  case atStart => exact ⟨0, Nat.zero_le _, rfl, Lib.hid (fun j hj => by omega), Ext.refl _⟩
  case round =>
    obtain ⟨k, hk, rfl, HT, hext⟩ := hrel
    by_cases hlt : k < n
    · obtain ⟨b, off, rfl, hc⟩ := HX.out.2 k hlt
      have hc' := hext.cell hc
      clear hc
      by_cases hz : nth xs k = 0
      · have HZ := Lib.hid hz
        have hzb : (nth xs k == 0) = true := by simp [hz]
        clear hz
        go_wp2_with (fail)
        go_roundw
        case rel => exact ⟨k + 1, by omega, by go_num, Lib.hid (fun j hj => by
          by_cases hjk : j = k
          · subst hjk; exact HZ.out
          · exact HT.out j (by omega)), hext⟩
        case measure => simp [intOf]; omega
      · have HZ := Lib.hid hz
        have hzb : (nth xs k == 0) = false := by simp [hz]
        clear hz
        go_wp2_with (fail)
        go_ret
        exact ⟨ret_int (by rw [leadN_eq (by rw [HX.out.1]; omega) HT.out (.inr HZ.out)]), hext⟩
    · go_wp2_with (fail)
      go_ret
      exact ⟨ret_int (by rw [leadN_eq (by rw [HX.out.1]; omega) HT.out (.inl (by rw [HX.out.1]; omega))]), hext⟩
set_option maxHeartbeats 400000 in
theorem c_isZero (a : Option Addr) (n cap : Nat) (xs : List Int) (w : World) (hl : n ≤ 4194303) (hx : RdC w a n xs) :
    Calls Try.prog 196 #[.slice a n cap] w fun e w' => e = .returned (.bool (zeroB xs)) ∧ Ext w w' := by
  have HZ := Lib.hid (show (((leadN xs : Nat) : Int) == (n : Int)) = zeroB xs by rw [← hx.1, Bool.eq_iff_iff]; simp [zeroB]; omega)
  go_enter Try.func196, Try.ntmps196
  go_wp2_with (go_at_call 177; refine (c_lead _ _ _ _ _ hl hx).mono ?_; rintro e w1 ⟨rfl, h1⟩)
  go_ret
  exact ⟨ret_bool HZ.out, h1⟩

set_option maxHeartbeats 1000000 in
set_option maxRecDepth 100000 in
theorem s_same (a b : Option Addr) (n m ca cb : Nat) (xs ys : List Int) (w : World) (hl : n ≤ 4194303) (hm : m ≤ 4194303) (hx : RdC w a n xs) (hy : RdC w b m ys) :
    Calls Try.prog 165 #[.slice a n ca, .slice b m cb] w fun e w' => e = .returned (.bool (eqB xs ys)) ∧ Ext w w' := by
  by_cases hnm : n = m
  · subst hnm
    have HX := Lib.hid hx
    have HY := Lib.hid hy
    have hnb : ((n : Int) != (n : Int)) = false := by simp
    clear hx hy
    go_enter Try.func165, Try.ntmps165
    go_wp2_with (fail)
    go_loopw [5] (fun i wr => ∃ k : Nat, k ≤ n ∧ i = .int .i64 k ∧ Hid (∀ j, j < k → nth xs j = nth ys j) ∧ Ext w wr) (fun i _ => n - (intOf i).toNat)
    case atStart => exact ⟨0, Nat.zero_le _, rfl, Lib.hid (fun j hj => by omega), Ext.refl _⟩
    case round =>
      obtain ⟨k, hk, rfl, HT, hext⟩ := hrel
      by_cases hlt : k < n
      · obtain ⟨bx, ox, rfl, hcx⟩ := HX.out.2 k hlt
        obtain ⟨by', oy, rfl, hcy⟩ := HY.out.2 k hlt
        have Hcx := Lib.hid ((hext.trans (ext_drew _)).cell hcx)
        have Hcy := Lib.hid ((hext.trans (ext_drew _)).cell hcy)
        clear hcx hcy
        obtain ⟨u, hu⟩ : ∃ u, u = nth xs k := ⟨_, rfl⟩
        obtain ⟨v, hv⟩ : ∃ v, v = nth ys k := ⟨_, rfl⟩
        rw [← hu] at Hcx
        rw [← hv] at Hcy
        have HU := Lib.hid hu
        have HV := Lib.hid hv
        clear hu hv
        by_cases huv : u = v
        · have HE := Lib.hid huv
          have hub : (u != v) = false := by simp [huv]
          clear huv
          go_wp2_with (fail)
          refine wp_region_lex [] (by kernel_rfl) (by kernel_rfl) ?_
          repeat' first | (refine LexW.pure (v := ?_) rfl rfl (fun w1 he => ?_) ?_; rotate_left; ( have e3 := he.cell Hcx.out; have e4 := he.cell Hcy.out; go_simp; rfl); simp only [Act.put, List.setIfInBounds_toArray, List.set_cons_zero, List.set_cons_succ])
          refine LexW.nil (fun w2 he hkn => ?_)
          have G2 := Lib.hid (hext.trans ((ext_drew _).trans he))
          clear he hkn
          go_wp2_with (fail)
          go_roundw
          case rel => exact ⟨k + 1, by omega, by go_num, Lib.hid (fun j hj => by
            by_cases hjk : j = k
            · subst hjk; rw [← HU.out, ← HV.out]; exact HE.out
            · exact HT.out j (by omega)), G2.out⟩
          case measure => simp [intOf]; omega
        · have HE := Lib.hid huv
          have hub : (u != v) = true := by simp [huv]
          clear huv
          go_wp2_with (fail)
          refine wp_region_lex [] (by kernel_rfl) (by kernel_rfl) ?_
          repeat' first | (refine LexW.pure (v := ?_) rfl rfl (fun w1 he => ?_) ?_; rotate_left; ( have e3 := he.cell Hcx.out; have e4 := he.cell Hcy.out; go_simp; rfl); simp only [Act.put, List.setIfInBounds_toArray, List.set_cons_zero, List.set_cons_succ])
          refine LexW.nil (fun w2 he hkn => ?_)
          have G2 := Lib.hid (hext.trans ((ext_drew _).trans he))
          clear he hkn
          go_wp2_with (fail)
          go_ret
          exact ⟨ret_bool (eqB_nth (by rw [← HU.out, ← HV.out]; exact HE.out)).symm, G2.out⟩
      · go_wp2_with (fail)
        go_ret
        exact ⟨ret_bool (eqB_all HX.out.1 HY.out.1 (fun j hj => HT.out j (by omega))).symm, hext⟩
  · have HE := Lib.hid (eqB_len (show xs.length ≠ ys.length by rw [hx.1, hy.1]; exact hnm))
    have hnb : ((n : Int) != (m : Int)) = true := by simp; omega
    go_enter Try.func165, Try.ntmps165
    go_wp2_with (fail)
    go_ret
    exact ⟨ret_bool HE.out.symm, Ext.refl _⟩
end Go.Proofs.Ythimjfnmpicbiaa
