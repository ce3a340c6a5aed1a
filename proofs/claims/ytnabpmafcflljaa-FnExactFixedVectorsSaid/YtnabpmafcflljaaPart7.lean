/-
  Contracts and plain laws, part 7: IsMat.
  No condition.
-/
import Derived.Test.YtnabpmafcflljaaPart6
import Derived.Test.YtnabpmafcflljaaPart1
/-
  The reference's test of matrices.
  No condition.
-/
namespace Go.Proofs.Ytnabpmafcflljaa
set_option maxRecDepth 100000
open Go.RowKit

theorem mat_row {p : Int} {rows : List (List Int)} {k : Nat} (hk : k < rows.length) (h : rowOk p (nthR rows 0).length (nthR rows k) = false) : matB p rows = false := by
  unfold matB; rw [table_not hk rfl h]; simp
theorem mat_len {p : Int} {rows : List (List Int)} (h : rows.length < 1 ∨ 16 < rows.length) : matB p rows = false := by
  unfold matB
  rcases h with h | h
  · rw [decide_eq_false (by omega)]; rfl
  · rw [table_big h]; simp
set_option maxHeartbeats 4000000 in
set_option maxRecDepth 100000 in
theorem s_isMat (p : Int) (a : Option Addr) (n cap : Nat) (rows : List (List Int)) (w : World) (hpr : primeB p = true) (hl : n ≤ 4194304) (hr : ∀ i, i < n → (nthR rows i).length ≤ 4194304) (hx : RdR w a n rows) :
    Calls Try.prog 88 #[.int .i64 p, .slice a n cap] w fun e w' => e = .returned (.bool (matB p rows)) ∧ Ext w w' := by
  have hpb := prime_bd hpr
  have HPR := Lib.hid hpr
  have HX := Lib.hid hx
  have HLN := Lib.hid hx.1
  have HR := Lib.hid hr
  clear hpr hx hr
  go_enter Try.func88, Try.ntmps88
  go_wp2_with (fail)
  refine Calls.mono (s_prime p w) ?_
  rintro e w1 ⟨rfl, g1⟩
  rw [HPR.out]
  have HG := Lib.hid g1
  clear g1
  by_cases h1 : n < 1
  · have hc1 : (n : Int) < 1 := by omega
    have HB := Lib.hid (mat_len (p := p) (rows := rows) (.inl (by rw [HLN.out]; exact h1)))
    clear h1
    go_wp2_with (fail)
    go_ret
    exact ⟨ret_bool HB.out.symm, HG.out⟩
  have hc1 : ¬ (n : Int) < 1 := by omega
  by_cases h2 : 16 < n
  · have hc2 : (16 : Int) < n := by omega
    have HB := Lib.hid (mat_len (p := p) (rows := rows) (.inr (by rw [HLN.out]; exact h2)))
    clear h2
    go_wp2_with (fail)
    go_ret
    exact ⟨ret_bool HB.out.symm, HG.out⟩
  have hc2 : ¬ (16 : Int) < n := by omega
  have hn0 : 0 < n := by omega
  obtain ⟨b0, o0, a0, c0, rfl, hk0, _⟩ := HX.out.2 0 hn0
  rw [Nat.add_zero] at hk0
  obtain ⟨m, hm⟩ : ∃ m, m = (nthR rows 0).length := ⟨_, rfl⟩
  have hm4 : m ≤ 4194304 := by rw [hm]; exact HR.out 0 hn0
  rw [← hm] at hk0
  have HM := Lib.hid hm
  have HK0 := Lib.hid hk0
  have hk1 := HG.out.cell hk0
  clear hm hk0 h1 h2
  by_cases h3 : m < 1
  · have hc3 : (m : Int) < 1 := by omega
    have HB := Lib.hid (mat_row (p := p) (k := 0) (rows := rows) (by rw [HLN.out]; exact hn0) (by unfold rowOk; rw [← HM.out, decide_eq_false (p := 1 ≤ m) (by omega)]; simp))
    clear h3
    go_wp2_with (fail)
    go_ret
    exact ⟨ret_bool HB.out.symm, HG.out⟩
  have hc3 : ¬ (m : Int) < 1 := by omega
  by_cases h4 : 16 < m
  · have hc4 : (16 : Int) < m := by omega
    have HB := Lib.hid (mat_row (p := p) (k := 0) (rows := rows) (by rw [HLN.out]; exact hn0) (by unfold rowOk; rw [← HM.out, decide_eq_false (p := m ≤ 16) (by omega)]; simp))
    clear h4
    go_wp2_with (fail)
    go_ret
    exact ⟨ret_bool HB.out.symm, HG.out⟩
  have hc4 : ¬ (16 : Int) < m := by omega
  go_wp2_with (fail)
  clear hk1
  go_loopw [5] (fun x wr => ∃ (k : Nat), k ≤ n ∧ x = .int .i64 k ∧ Hid (∀ j, j < k → rowOk p (nthR rows 0).length (nthR rows j) = true) ∧ Hid (Ext w wr)) (fun x _ => n - (intOf x).toNat)
  case atStart => exact ⟨0, Nat.zero_le _, rfl, Lib.hid (fun j hj => by omega), HG⟩
  case round =>
    rename World => y
    obtain ⟨k, hk, rfl, HT, HY⟩ := hrel
    by_cases hlt : k < n
    · obtain ⟨b1, o1, a1, c1, hab, hk1, hr1⟩ := HX.out.2 k hlt
      cases hab
      obtain ⟨mk, hmk⟩ : ∃ m, m = (nthR rows k).length := ⟨_, rfl⟩
      have hmk4 : mk ≤ 4194304 := by rw [hmk]; exact HR.out k hlt
      rw [← hmk] at hk1 hr1
      have HMK := Lib.hid hmk
      have HK1 := Lib.hid ((HY.out.trans (ext_drew y)).cell hk1)
      have HKZ := Lib.hid ((HY.out.trans (ext_drew y)).cell HK0.out)
      have HRR := Lib.hid (hr1.ext (HY.out.trans (ext_drew y)))
      clear hmk hk1 hr1
      go_wp2_with (fail)
      by_cases he1 : mk = m
      · have hne : ((mk : Int) != (m : Int)) = false := by rw [he1]; simp
        have HEQ := Lib.hid he1
        obtain ⟨bb, hbb⟩ : ∃ x, x = isB p (nthR rows k) := ⟨_, rfl⟩
        have HBB := Lib.hid hbb
        clear hbb he1
        refine wp_region_lex [(16, .val (.bool bb))] (by kernel_rfl) (by kernel_rfl) ?_
        (refine LexW.pure (v := ?_) rfl rfl (fun w1 he => ?_) ?_; rotate_left; ( have e1 := he.cell HK1.out; have e2 := he.cell HKZ.out; go_simp; rfl); simp only [Act.put, List.setIfInBounds_toArray, List.set_cons_zero, List.set_cons_succ])
        (refine LexW.pure (v := ?_) rfl rfl (fun w1 he => ?_) ?_; rotate_left; ( have e1 := he.cell HK1.out; have e2 := he.cell HKZ.out; go_simp; rfl); simp only [Act.put, List.setIfInBounds_toArray, List.set_cons_zero, List.set_cons_succ])
        (refine LexW.pure (v := ?_) rfl rfl (fun w1 he => ?_) ?_; rotate_left; ( have e1 := he.cell HK1.out; have e2 := he.cell HKZ.out; go_simp; rfl); simp only [Act.put, List.setIfInBounds_toArray, List.set_cons_zero, List.set_cons_succ])
        (refine LexW.pure (v := ?_) rfl rfl (fun w1 he => ?_) ?_; rotate_left; ( have e1 := he.cell HK1.out; have e2 := he.cell HKZ.out; go_simp; rfl); simp only [Act.put, List.setIfInBounds_toArray, List.set_cons_zero, List.set_cons_succ])
        (refine LexW.pure (v := ?_) rfl rfl (fun w1 he => ?_) ?_; rotate_left; ( have e1 := he.cell HK1.out; have e2 := he.cell HKZ.out; go_simp; rfl); simp only [Act.put, List.setIfInBounds_toArray, List.set_cons_zero, List.set_cons_succ])
        (refine LexW.pure (v := ?_) rfl rfl (fun w1 he => ?_) ?_; rotate_left; ( have e1 := he.cell HK1.out; have e2 := he.cell HKZ.out; go_simp; rfl); simp only [Act.put, List.setIfInBounds_toArray, List.set_cons_zero, List.set_cons_succ])
        (refine LexW.pure (v := ?_) rfl rfl (fun w1 he => ?_) ?_; rotate_left; ( have e1 := he.cell HK1.out; have e2 := he.cell HKZ.out; go_simp; rfl); simp only [Act.put, List.setIfInBounds_toArray, List.set_cons_zero, List.set_cons_succ])
        (refine LexW.pure (v := ?_) rfl rfl (fun w1 he => ?_) ?_; rotate_left; ( have e1 := he.cell HK1.out; have e2 := he.cell HKZ.out; go_simp; rfl); simp only [Act.put, List.setIfInBounds_toArray, List.set_cons_zero, List.set_cons_succ])
        (refine LexW.pure (v := ?_) rfl rfl (fun w1 he => ?_) ?_; rotate_left; ( have e1 := he.cell HK1.out; have e2 := he.cell HKZ.out; go_simp; rfl); simp only [Act.put, List.setIfInBounds_toArray, List.set_cons_zero, List.set_cons_succ])
        (refine LexW.pure (v := ?_) rfl rfl (fun w1 he => ?_) ?_; rotate_left; ( have e1 := he.cell HK1.out; have e2 := he.cell HKZ.out; go_simp; rfl); simp only [Act.put, List.setIfInBounds_toArray, List.set_cons_zero, List.set_cons_succ])
        (refine LexW.pure (v := ?_) rfl rfl (fun w1 he => ?_) ?_; rotate_left; ( have e1 := he.cell HK1.out; have e2 := he.cell HKZ.out; go_simp; rfl); simp only [Act.put, List.setIfInBounds_toArray, List.set_cons_zero, List.set_cons_succ])
        (refine LexW.pure (v := ?_) rfl rfl (fun w1 he => ?_) ?_; rotate_left; ( have e1 := he.cell HK1.out; have e2 := he.cell HKZ.out; go_simp; rfl); simp only [Act.put, List.setIfInBounds_toArray, List.set_cons_zero, List.set_cons_succ])
        (refine LexW.pure (v := ?_) rfl rfl (fun w1 he => ?_) ?_; rotate_left; ( have e1 := he.cell HK1.out; have e2 := he.cell HKZ.out; go_simp; rfl); simp only [Act.put, List.setIfInBounds_toArray, List.set_cons_zero, List.set_cons_succ])
        (refine LexW.pure (v := ?_) rfl rfl (fun w1 he => ?_) ?_; rotate_left; ( have e1 := he.cell HK1.out; have e2 := he.cell HKZ.out; go_simp; rfl); simp only [Act.put, List.setIfInBounds_toArray, List.set_cons_zero, List.set_cons_succ])
        (refine LexW.pure (v := ?_) rfl rfl (fun w1 he => ?_) ?_; rotate_left; ( have e1 := he.cell HK1.out; have e2 := he.cell HKZ.out; go_simp; rfl); simp only [Act.put, List.setIfInBounds_toArray, List.set_cons_zero, List.set_cons_succ])
        (refine LexW.pure (v := ?_) rfl rfl (fun w1 he => ?_) ?_; rotate_left; ( have e1 := he.cell HK1.out; have e2 := he.cell HKZ.out; go_simp; rfl); simp only [Act.put, List.setIfInBounds_toArray, List.set_cons_zero, List.set_cons_succ])
        (refine LexW.call (f := ?_) (args := ?_) rfl rfl (fun w1 => ?_) (fun w1 he hdep => ?_) ?_; rotate_left 2; (go_simp; refine ⟨?_, ?_⟩ <;> rfl); ( rw [HBB.out]; exact s_numbers p a1 mk c1 (nthR rows k) w1 (by omega) (by omega) hmk4 (HRR.out.ext he)); simp only [Act.put, List.setIfInBounds_toArray, List.set_cons_zero, List.set_cons_succ])
        (refine LexW.pure (v := ?_) rfl rfl (fun w1 he => ?_) ?_; rotate_left; ( have e1 := he.cell HK1.out; have e2 := he.cell HKZ.out; go_simp; rfl); simp only [Act.put, List.setIfInBounds_toArray, List.set_cons_zero, List.set_cons_succ])
        (refine LexW.pure (v := ?_) rfl rfl (fun w1 he => ?_) ?_; rotate_left; ( have e1 := he.cell HK1.out; have e2 := he.cell HKZ.out; go_simp; rfl); simp only [Act.put, List.setIfInBounds_toArray, List.set_cons_zero, List.set_cons_succ])
        refine LexW.nil (fun w3 he hkn => ?_)
        have HE := Lib.hid ((HY.out.trans (ext_drew y)).trans he)
        clear he hkn 
        rename World => z
        cases bb
        · have HB := Lib.hid (mat_row (p := p) (rows := rows) (k := k) (by rw [HLN.out]; exact hlt) (by unfold rowOk; rw [← HBB.out]; simp))
          go_wp2_with (fail)
          go_ret
          exact ⟨ret_bool HB.out.symm, HE.out⟩
        · have HOKK := Lib.hid (show rowOk p (nthR rows 0).length (nthR rows k) = true by unfold rowOk; rw [← HBB.out, ← HM.out, ← HMK.out, HEQ.out, decide_eq_true rfl, decide_eq_true (p := 1 ≤ m) (by omega), decide_eq_true (p := m ≤ 16) (by omega)]; rfl)
          go_wp2_with (fail)
          go_roundw
          case rel => exact ⟨k + 1, by omega, by go_num, Lib.hid (fun j hj => by
            by_cases hjk : j = k
            · subst hjk; exact HOKK.out
            · exact HT.out j (by omega)), HE⟩
          case measure => simp [intOf]; omega
      · have hne : ((mk : Int) != (m : Int)) = true := by simp; omega
        have HB := Lib.hid (mat_row (p := p) (rows := rows) (k := k) (by rw [HLN.out]; exact hlt) (by unfold rowOk; rw [← HM.out, ← HMK.out, decide_eq_false he1]; simp))
        clear he1
        refine wp_region_lex [] (by kernel_rfl) (by kernel_rfl) ?_
        (refine LexW.pure (v := ?_) rfl rfl (fun w1 he => ?_) ?_; rotate_left; ( have e1 := he.cell HK1.out; have e2 := he.cell HKZ.out; go_simp; rfl); simp only [Act.put, List.setIfInBounds_toArray, List.set_cons_zero, List.set_cons_succ])
        (refine LexW.pure (v := ?_) rfl rfl (fun w1 he => ?_) ?_; rotate_left; ( have e1 := he.cell HK1.out; have e2 := he.cell HKZ.out; go_simp; rfl); simp only [Act.put, List.setIfInBounds_toArray, List.set_cons_zero, List.set_cons_succ])
        (refine LexW.pure (v := ?_) rfl rfl (fun w1 he => ?_) ?_; rotate_left; ( have e1 := he.cell HK1.out; have e2 := he.cell HKZ.out; go_simp; rfl); simp only [Act.put, List.setIfInBounds_toArray, List.set_cons_zero, List.set_cons_succ])
        (refine LexW.pure (v := ?_) rfl rfl (fun w1 he => ?_) ?_; rotate_left; ( have e1 := he.cell HK1.out; have e2 := he.cell HKZ.out; go_simp; rfl); simp only [Act.put, List.setIfInBounds_toArray, List.set_cons_zero, List.set_cons_succ])
        (refine LexW.pure (v := ?_) rfl rfl (fun w1 he => ?_) ?_; rotate_left; ( have e1 := he.cell HK1.out; have e2 := he.cell HKZ.out; go_simp; rfl); simp only [Act.put, List.setIfInBounds_toArray, List.set_cons_zero, List.set_cons_succ])
        (refine LexW.pure (v := ?_) rfl rfl (fun w1 he => ?_) ?_; rotate_left; ( have e1 := he.cell HK1.out; have e2 := he.cell HKZ.out; go_simp; rfl); simp only [Act.put, List.setIfInBounds_toArray, List.set_cons_zero, List.set_cons_succ])
        (refine LexW.pure (v := ?_) rfl rfl (fun w1 he => ?_) ?_; rotate_left; ( have e1 := he.cell HK1.out; have e2 := he.cell HKZ.out; go_simp; rfl); simp only [Act.put, List.setIfInBounds_toArray, List.set_cons_zero, List.set_cons_succ])
        (refine LexW.pure (v := ?_) rfl rfl (fun w1 he => ?_) ?_; rotate_left; ( have e1 := he.cell HK1.out; have e2 := he.cell HKZ.out; go_simp; rfl); simp only [Act.put, List.setIfInBounds_toArray, List.set_cons_zero, List.set_cons_succ])
        (refine LexW.pure (v := ?_) rfl rfl (fun w1 he => ?_) ?_; rotate_left; ( have e1 := he.cell HK1.out; have e2 := he.cell HKZ.out; go_simp; rfl); simp only [Act.put, List.setIfInBounds_toArray, List.set_cons_zero, List.set_cons_succ])
        (refine LexW.pure (v := ?_) rfl rfl (fun w1 he => ?_) ?_; rotate_left; ( have e1 := he.cell HK1.out; have e2 := he.cell HKZ.out; go_simp; rfl); simp only [Act.put, List.setIfInBounds_toArray, List.set_cons_zero, List.set_cons_succ])
        (refine LexW.pure (v := ?_) rfl rfl (fun w1 he => ?_) ?_; rotate_left; ( have e1 := he.cell HK1.out; have e2 := he.cell HKZ.out; go_simp; rfl); simp only [Act.put, List.setIfInBounds_toArray, List.set_cons_zero, List.set_cons_succ])
        (refine LexW.skip rfl rfl ?_; simp only [Act.put, List.setIfInBounds_toArray, List.set_cons_zero, List.set_cons_succ])
        (refine LexW.skip rfl rfl ?_; simp only [Act.put, List.setIfInBounds_toArray, List.set_cons_zero, List.set_cons_succ])
        (refine LexW.skip rfl rfl ?_; simp only [Act.put, List.setIfInBounds_toArray, List.set_cons_zero, List.set_cons_succ])
        (refine LexW.skip rfl rfl ?_; simp only [Act.put, List.setIfInBounds_toArray, List.set_cons_zero, List.set_cons_succ])
        (refine LexW.skip rfl rfl ?_; simp only [Act.put, List.setIfInBounds_toArray, List.set_cons_zero, List.set_cons_succ])
        (refine LexW.skip rfl rfl ?_; simp only [Act.put, List.setIfInBounds_toArray, List.set_cons_zero, List.set_cons_succ])
        (refine LexW.skip rfl rfl ?_; simp only [Act.put, List.setIfInBounds_toArray, List.set_cons_zero, List.set_cons_succ])
        (refine LexW.pure (v := ?_) rfl rfl (fun w1 he => ?_) ?_; rotate_left; ( have e1 := he.cell HK1.out; have e2 := he.cell HKZ.out; go_simp; rfl); simp only [Act.put, List.setIfInBounds_toArray, List.set_cons_zero, List.set_cons_succ])
        refine LexW.nil (fun w3 he hkn => ?_)
        have HE := Lib.hid ((HY.out.trans (ext_drew y)).trans he)
        clear he hkn 
        rename World => z
        go_wp2_with (fail)
        go_ret
        exact ⟨ret_bool HB.out.symm, HE.out⟩
    · obtain rfl : k = n := by omega
      have HB := Lib.hid (show matB p rows = true by unfold matB; rw [table_yes HLN.out (by omega) HT.out, decide_eq_true (by rw [HLN.out]; omega)]; rfl)
      go_wp2_with (fail)
      go_ret
      exact ⟨ret_bool HB.out.symm, HY.out⟩
end Go.Proofs.Ytnabpmafcflljaa
