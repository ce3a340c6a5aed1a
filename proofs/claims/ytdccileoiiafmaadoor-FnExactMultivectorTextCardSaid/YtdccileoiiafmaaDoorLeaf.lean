/-
  Contracts of the small functions: numbers, checks of spaces and of multivectors, in the program and in the reference.
  No condition.
-/
import Derived.Test.YtdccileoiiafmaaDoorMem
namespace Go.Proofs.YtdccileoiiafmaaDoor
set_option maxRecDepth 100000
open Go.RowKit

def primeB (p : Int) : Bool := p == 3 || p == 5 || p == 7 || p == 11 || p == 13
theorem prime_bd {p : Int} (h : primeB p = true) : 3 ≤ p ∧ p ≤ 13 := by simp [primeB] at h; omega
def inB (n l h : Int) : Bool := decide (l ≤ n ∧ n ≤ h)
def isB (p : Int) (xs : List Int) : Bool := xs.all fun x => inB x 0 (p - 1)
theorem isB_snoc (p : Int) (xs : List Int) (y : Int) : isB p (xs ++ [y]) = (isB p xs && inB y 0 (p - 1)) := by simp [isB]
theorem isB_false {p : Int} {xs : List Int} {k : Nat} (hk : k < xs.length) (h : inB (nth xs k) 0 (p - 1) = false) : isB p xs = false := by
  unfold isB; rw [Bool.eq_false_iff]; intro ha
  have := List.all_eq_true.1 ha (nth xs k) (nth_mem hk)
  rw [h] at this; cases this
theorem isB_nth {p : Int} {xs : List Int} (h : isB p xs = true) {i : Nat} (hi : i < xs.length) : 0 ≤ nth xs i ∧ nth xs i < p := by
  have := List.all_eq_true.1 h (nth xs i) (nth_mem hi)
  simp [inB] at this; omega

def spaceB (p : Int) (qs : List Int) : Bool := primeB p && inB qs.length 1 6 && isB p qs
def multiB (p : Int) (d : Nat) (xs : List Int) : Bool := decide (xs.length = 2 ^ d) && isB p xs
theorem space_of {p : Int} {qs : List Int} (h : spaceB p qs = true) : primeB p = true ∧ 1 ≤ qs.length ∧ qs.length ≤ 6 ∧ isB p qs = true := by
  simp only [spaceB, Bool.and_eq_true, inB, decide_eq_true_eq] at h
  exact ⟨h.1.1, by omega, by omega, h.2⟩
theorem multi_of {p : Int} {d : Nat} {xs : List Int} (h : multiB p d xs = true) : xs.length = 2 ^ d ∧ isB p xs = true := by
  simpa [multiB] using h
theorem pow_le64 {d : Nat} (h : d ≤ 6) : 2 ^ d ≤ 64 := Nat.pow_le_pow_right (by omega) h

/-! ### Slices of slices of integers, read -/
def nthR (rows : List (List Int)) (i : Nat) : List Int := rows.getD i []
theorem nthR_eq {rows : List (List Int)} {i : Nat} (h : i < rows.length) : nthR rows i = rows[i] := by simp [nthR, h]
def RdR (w : World) (a : Option Addr) (n : Nat) (rows : List (List Int)) : Prop :=
  rows.length = n ∧ ∀ i, i < n → ∃ b off ai ci, a = some ⟨b, off, none⟩ ∧ w.cell? ⟨b, off + i, none⟩ = some (.slice ai (nthR rows i).length ci) ∧ RdC w ai (nthR rows i).length (nthR rows i)
theorem RdR.ext {w w' : World} {a : Option Addr} {n : Nat} {rows : List (List Int)} (h : RdR w a n rows) (he : Ext w w') : RdR w' a n rows :=
  ⟨h.1, fun i hi => let ⟨b, off, ai, ci, ha, hc, hr⟩ := h.2 i hi; ⟨b, off, ai, ci, ha, he.cell hc, hr.ext he⟩⟩

/-- The code of a space and of multivectors. -/
def codeM (p : Int) (qs : List Int) (rows : List (List Int)) : Int := if spaceB p qs then (if rows.all (multiB p qs.length) then 0 else 2) else 1

/-! ### Numbers -/
theorem num_eq {p n : Int} (h1 : 1 ≤ p) (h2 : p ≤ 1000) : (wrap64 (n.tmod p + p)).tmod p = n % p := by
  have hlt : -p < n.tmod p := by
    have := Int.lt_tmod_of_pos n (b := p) (by omega); omega
  have hlt2 : n.tmod p < p := Int.tmod_lt_of_pos n (by omega)
  rw [IntWalk.wrap64_in (n.tmod p + p) ⟨by omega, by omega⟩]
  have e1 : (n.tmod p + p).tmod p = (n.tmod p + p) % p := Int.tmod_eq_emod_of_nonneg (by omega)
  have e2 : n = p * n.tdiv p + n.tmod p := (Int.mul_tdiv_add_tmod n p).symm
  rw [e1, Int.add_emod_right]
  conv => rhs; rw [e2]
  rw [Int.mul_add_emod_self_left]

set_option maxHeartbeats 400000 in
theorem c_inRange (n l h : Int) (w : World) :
    Calls Tryd.prog 23 #[.int .i64 n, .int .i64 l, .int .i64 h] w fun e w' => e = .returned (.bool (inB n l h)) ∧ Ext w w' := by
  go_enter Tryd.func23, Tryd.ntmps23
  go_wp2
  all_goals go_ret
  all_goals refine ⟨?_, Ext.refl _⟩
  all_goals simp [inB]; omega

set_option maxHeartbeats 400000 in
theorem c_isPrime (p : Int) (w : World) :
    Calls Tryd.prog 34 #[.int .i64 p] w fun e w' => e = .returned (.bool (primeB p)) ∧ Ext w w' := by
  go_enter Tryd.func34, Tryd.ntmps34
  go_wp2
  all_goals go_ret
  all_goals refine ⟨?_, Ext.refl _⟩
  all_goals simp_all [primeB]

set_option maxHeartbeats 400000 in
theorem c_length (a : Option Addr) (n cap : Nat) (w : World) :
    Calls Tryd.prog 35 #[.slice a n cap] w fun e w' => e = .returned (.int .i64 n) ∧ Ext w w' := by
  go_enter Tryd.func35, Tryd.ntmps35
  go_wp2
  go_ret
  exact ⟨rfl, Ext.refl _⟩


set_option maxHeartbeats 400000 in
theorem c_is (p : Int) (a : Option Addr) (n cap : Nat) (xs : List Int) (w : World) (hp1 : 1 ≤ p) (hp2 : p ≤ 1000) (hl : n ≤ 4194304) (hx : RdC w a n xs) :
    Calls Tryd.prog 37 #[.int .i64 p, .slice a n cap] w fun e w' => e = .returned (.bool (isB p xs)) ∧ Ext w w' := by
  obtain ⟨hn, hx⟩ := hx
  have HX := Lib.hid hx
  have HN := Lib.hid hn
  clear hx hn
  go_enter Tryd.func37, Tryd.ntmps37
  go_wp2_with (fail)
  go_loopw [6, 9] (fun _ i wr => ∃ k : Nat, k ≤ n ∧ i = .int .i64 k ∧ isB p (xs.take k) = true ∧ Ext w wr) (fun _ i _ => n - (intOf i).toNat)
  case atStart => exact ⟨0, Nat.zero_le _, rfl, rfl, Ext.refl _⟩
  case round =>
    obtain ⟨k, hk, rfl, ht, hext⟩ := hrel
    have HT := Lib.hid ht; clear ht
    by_cases hlt : k < n
    · obtain ⟨b, off, rfl, hc⟩ := HX.out k hlt
      have hc' := hext.cell hc
      clear hc
      have HS := Lib.hid (take_snoc xs k (by rw [HN.out]; omega))
      cases hb : inB (nth xs k) 0 (p - 1)
      · have HB := Lib.hid hb
        go_wp2_with (go_at_call 23; refine (c_inRange _ _ _ _).mono ?_; rintro e w1 ⟨rfl, h1⟩)
        go_ret
        exact ⟨ret_bool (isB_false (by rw [HN.out]; exact hlt) HB.out).symm, hext.trans h1⟩
      · have HB := Lib.hid hb
        go_wp2_with (go_at_call 23; refine (c_inRange _ _ _ _).mono ?_; rintro e w1 ⟨rfl, h1⟩)
        go_roundw
        case rel => exact ⟨k + 1, by omega, by go_num, by rw [HS.out, isB_snoc, HT.out, HB.out]; rfl, hext.trans h1⟩
        case measure => simp [intOf]; omega
    · go_wp2_with (fail)
      go_ret
      have hh := HT.out
      rw [List.take_of_length_le (by rw [HN.out]; omega)] at hh
      exact ⟨ret_bool hh.symm, hext⟩

set_option maxHeartbeats 400000 in
theorem c_field (p : Int) (sq : Value) (w : World) :
    Calls Tryd.prog 36 #[.agg #[.int .i64 p, sq]] w fun e w' => e = .returned (.int .i64 p) ∧ Ext w w' := by
  go_enter Tryd.func36, Tryd.ntmps36
  go_wp2
  go_ret
  exact ⟨rfl, ext_alloc _ _⟩

set_option maxHeartbeats 400000 in
theorem c_dim (p : Int) (a : Option Addr) (n cap : Nat) (w : World) :
    Calls Tryd.prog 24 #[.agg #[.int .i64 p, .slice a n cap]] w fun e w' => e = .returned (.int .i64 n) ∧ Ext w w' := by
  go_enter Tryd.func24, Tryd.ntmps24
  go_wp2
  go_ret
  exact ⟨rfl, ext_alloc _ _⟩

/-! ### IsSpace -/
set_option maxHeartbeats 400000 in
theorem c_isSpace (p : Int) (a : Option Addr) (d cap : Nat) (qs : List Int) (w : World) (hl : d ≤ 4194304) (hq : RdC w a d qs) :
    Calls Tryd.prog 22 #[.agg #[.int .i64 p, .slice a d cap]] w fun e w' => e = .returned (.bool (spaceB p qs)) ∧ Ext w w' := by
  have hqw : RdC (w.alloc (.cells #[.int .i64 p, .slice a d cap] 28)).drew a d qs := hq.ext ((ext_alloc _ _).trans (ext_drew _))
  cases h1 : primeB p
  · have HF := Lib.hid (show spaceB p qs = false by simp [spaceB, h1])
    have H1 := Lib.hid h1
    clear h1
    go_enter Tryd.func22, Tryd.ntmps22
    go_wp2_with fail
    refine wp_region_lex [(2, .val (.bool false))] (by kernel_rfl) (by kernel_rfl) ?_
    repeat' first | (refine LexW.pure (v := ?_) rfl rfl (fun w1 he => ?_) ?_; rotate_left; (have hcc := Ext.cells he; go_simp; rfl); simp only [Act.put, List.setIfInBounds_toArray, List.set_cons_zero, List.set_cons_succ]) | (refine LexW.skip rfl rfl ?_; simp only [Act.put, List.setIfInBounds_toArray, List.set_cons_zero, List.set_cons_succ]) | (refine LexW.call (f := ?_) (args := ?_) rfl rfl (fun w1 => ?_) (fun w1 he hdep => ?_) ?_; rotate_left 2; (go_simp; refine ⟨?_, ?_⟩ <;> rfl); ( have H := c_isPrime p w1; rw [H1.out] at H; exact H); simp only [Act.put, List.setIfInBounds_toArray, List.set_cons_zero, List.set_cons_succ])
    refine LexW.nil (fun w1 he hk => ?_)
    go_wp2
    go_ret
    exact ⟨ret_bool HF.out.symm, (ext_alloc _ _).trans ((ext_drew _).trans he)⟩
  · have H1 := Lib.hid h1
    have hp := prime_bd h1
    clear h1
    cases h2 : inB (d : Int) 1 6
    · have HF := Lib.hid (show spaceB p qs = false by simp [spaceB, hq.1, h2])
      have H2 := Lib.hid h2
      clear h2
      go_enter Tryd.func22, Tryd.ntmps22
      go_wp2_with fail
      refine wp_region_lex [(2, .val (.bool true)), (6, .val (.int .i64 d)), (7, .val (.bool false))] (by kernel_rfl) (by kernel_rfl) ?_
      repeat' first | (refine LexW.pure (v := ?_) rfl rfl (fun w1 he => ?_) ?_; rotate_left; (have hcc := Ext.cells he; go_simp; rfl); simp only [Act.put, List.setIfInBounds_toArray, List.set_cons_zero, List.set_cons_succ]) | (refine LexW.skip rfl rfl ?_; simp only [Act.put, List.setIfInBounds_toArray, List.set_cons_zero, List.set_cons_succ]) | (refine LexW.call (f := ?_) (args := ?_) rfl rfl (fun w1 => ?_) (fun w1 he hdep => ?_) ?_; rotate_left 2; (go_simp; refine ⟨?_, ?_⟩ <;> rfl); ( first | (go_at_call 34; have H := c_isPrime p w1; rw [H1.out] at H; exact H) | (go_at_call 35; exact c_length _ _ _ _) | (go_at_call 23; have H := c_inRange (d : Int) 1 6 w1; rw [H2.out] at H; exact H)); simp only [Act.put, List.setIfInBounds_toArray, List.set_cons_zero, List.set_cons_succ])
      refine LexW.nil (fun w1 he hk => ?_)
      go_wp2
      go_ret
      exact ⟨ret_bool HF.out.symm, (ext_alloc _ _).trans ((ext_drew _).trans he)⟩
    · have HF := Lib.hid (show spaceB p qs = isB p qs by simp [spaceB, hq.1, h2, H1.out])
      have H2 := Lib.hid h2
      clear h2
      have HQ := Lib.hid hqw
      clear hqw
      go_enter Tryd.func22, Tryd.ntmps22
      go_wp2_with fail
      refine wp_region_lex [(2, .val (.bool true)), (6, .val (.int .i64 d)), (7, .val (.bool true)), (11, .val (.int .i64 p)), (14, .val (.bool (isB p qs)))] (by kernel_rfl) (by kernel_rfl) ?_
      repeat' first | (refine LexW.pure (v := ?_) rfl rfl (fun w1 he => ?_) ?_; rotate_left; (have hcc := Ext.cells he; go_simp; rfl); simp only [Act.put, List.setIfInBounds_toArray, List.set_cons_zero, List.set_cons_succ]) | (refine LexW.skip rfl rfl ?_; simp only [Act.put, List.setIfInBounds_toArray, List.set_cons_zero, List.set_cons_succ]) | (refine LexW.call (f := ?_) (args := ?_) rfl rfl (fun w1 => ?_) (fun w1 he hdep => ?_) ?_; rotate_left 2; (go_simp; refine ⟨?_, ?_⟩ <;> rfl); ( first | (go_at_call 34; have H := c_isPrime p w1; rw [H1.out] at H; exact H) | (go_at_call 35; exact c_length _ _ _ _) | (go_at_call 23; have H := c_inRange (d : Int) 1 6 w1; rw [H2.out] at H; exact H) | (go_at_call 36; exact c_field _ _ _) | (go_at_call 37; exact c_is _ _ _ _ _ _ (by omega) (by omega) hl (HQ.out.ext he))); simp only [Act.put, List.setIfInBounds_toArray, List.set_cons_zero, List.set_cons_succ])
      refine LexW.nil (fun w1 he hk => ?_)
      go_wp2
      go_ret
      exact ⟨ret_bool HF.out.symm, (ext_alloc _ _).trans ((ext_drew _).trans he)⟩

end Go.Proofs.YtdccileoiiafmaaDoor
