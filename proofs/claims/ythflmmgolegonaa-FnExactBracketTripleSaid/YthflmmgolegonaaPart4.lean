/-
  Contracts and plain laws, part 4: DblS, DblP, Eleven, Float2, ExtS.
  No condition.
-/
import Derived.Test.YthflmmgolegonaaPart3
import Derived.Test.YthflmmgolegonaaPart1
import Derived.Test.YthflmmgolegonaaPart2
import Derived.Test.YthflmmgolegonaaPart0
/-
  Doublings: their checks in the reference; the codes of elements and matrices on both sides.
  No condition.
-/
namespace Go.Proofs.Ythflmmgolegonaa
set_option maxRecDepth 100000
open Go.RowKit

set_option maxHeartbeats 2000000 in
theorem s_is11 (p : Int) (a : Option Addr) (d cap : Nat) (qs : List Int) (w : World) (hl : d ≤ 4194304) (hq : RdC w a d qs) :
    Calls Try.prog 65 #[.agg #[.int .i64 p, .slice a d cap]] w fun e w' => e = .returned (.bool (doubB p qs)) ∧ Ext w w' := by
  have HQ := Lib.hid hq
  have HQL := Lib.hid hq.1
  clear hq
  cases h1 : primeB p
  · have HF := Lib.hid (doub_A (st := qs) h1)
    have H1 := Lib.hid h1
    clear h1
    go_enter Try.func65, Try.ntmps65
    go_wp2_with (fail)
    refine Calls.mono (s_prime p _) ?_
    rintro e w1 ⟨rfl, g1⟩
    rw [H1.out]
    have G1 := Lib.hid ((ext_alloc w (.cells #[.int .i64 p, .slice a d cap] 30)).trans g1)
    clear g1
    go_wp2_with (fail)
    go_ret
    exact ⟨ret_bool HF.out.symm, G1.out⟩
  have hpb := prime_bd h1
  have H1 := Lib.hid h1
  by_cases h2 : d ≤ 4
  · have HF := Lib.hid (doub_C (p := p) (st := qs) h1 (by rw [HQL.out]; exact h2))
    have h2i : ¬ (4 : Int) < (d : Int) := by omega
    have h2b : decide ((4 : Int) < (d : Int)) = false := by simpa using h2i
    clear h1
    go_enter Try.func65, Try.ntmps65
    go_wp2_with (fail)
    refine Calls.mono (s_prime p _) ?_
    rintro e w1 ⟨rfl, g1⟩
    rw [H1.out]
    have q0 : w1.cell? ⟨w.heap.size, 0, none⟩ = some (.int .i64 p) := g1.cell (by simp)
    have q1 : w1.cell? ⟨w.heap.size, 1, none⟩ = some (.slice a d cap) := g1.cell (by simp)
    have Q0 := Lib.hid q0
    have Q1 := Lib.hid q1
    have G1 := Lib.hid ((ext_alloc w (.cells #[.int .i64 p, .slice a d cap] 30)).trans g1)
    clear g1
    go_wp2_with (fail)
    go_loopw [3] (fun i wr => ∃ k : Nat, k ≤ d ∧ i = .int .i64 k ∧ Hid (∀ j, j < k → inB (nth qs j) 1 (p - 1) = true) ∧ Hid (Ext w1 wr)) (fun i _ => d - (intOf i).toNat)
    case atStart => exact ⟨0, Nat.zero_le _, rfl, Lib.hid (fun j hj => absurd hj (Nat.not_lt_zero _)), Lib.hid (Ext.refl _)⟩
    case round =>
      obtain ⟨k, hk, rfl, HT, HE⟩ := hrel
      rename World => wr
      clear q0 q1
      have q0 := HE.out.cell Q0.out
      have q1 := HE.out.cell Q1.out
      by_cases hlt : k < d
      · obtain ⟨b, off, rfl, hc⟩ := HQ.out.2 k hlt
        have E0 := Lib.hid (HE.out.trans (ext_drew wr))
        have C0 := Lib.hid (E0.out.cell Q0.out)
        have C1 := Lib.hid (E0.out.cell Q1.out)
        have C2 := Lib.hid ((G1.out.trans E0.out).cell hc)
        obtain ⟨x, hx⟩ : ∃ x, x = nth qs k := ⟨_, rfl⟩
        rw [← hx] at C2
        obtain ⟨q, hq⟩ : ∃ q, q = p - 1 := ⟨_, rfl⟩
        have HWq : Hid (IntKind.i64.wrap (p - 1) = q) := Lib.hid (by rw [hq]; exact IntWalk.i64_in _ (by omega))
        obtain ⟨bb, hbb⟩ : ∃ b, b = inB x 1 q := ⟨_, rfl⟩
        have HIN : Hid (∀ w1, Calls Try.prog 85 #[.int .i64 x, .int .i64 1, .int .i64 q] w1 fun e w' => e = .returned (.bool bb) ∧ Ext w1 w') := Lib.hid (fun w1 => by rw [hbb]; exact s_in x 1 q w1)
        have HB : Hid (inB (nth qs k) 1 (p - 1) = bb) := Lib.hid (by rw [hbb, hx, hq])
        clear hc hx hq hbb
        go_wp2_with (fail)
        refine wp_region_lex [(8, .val (.bool bb))] (by kernel_rfl) (by kernel_rfl) ?_
        repeat' first | (refine LexW.pure (v := ?_) rfl rfl (fun w1 he => ?_) ?_; rotate_left; ( have e0 := he.cell C0.out; have e1 := he.cell C1.out; have e2 := he.cell C2.out; have e3 := HWq.out; go_simp; rfl); simp only [Act.put, List.setIfInBounds_toArray, List.set_cons_zero, List.set_cons_succ]) | (refine LexW.call (f := ?_) (args := ?_) rfl rfl (fun w1 => ?_) (fun w1 he hdep => ?_) ?_; rotate_left 2; (go_simp; refine ⟨?_, ?_⟩ <;> rfl); ( exact HIN.out w1); simp only [Act.put, List.setIfInBounds_toArray, List.set_cons_zero, List.set_cons_succ])
        refine LexW.nil (fun w3 he hkn => ?_)
        have X3 := Lib.hid (E0.out.trans he)
        clear he hkn q0 q1
        cases bb
        · go_wp2_with (fail)
          go_ret
          exact ⟨ret_bool (by rw [HF.out, doub_no (k := k) (by rw [HQL.out]; exact hlt) HB.out]), G1.out.trans X3.out⟩
        · go_wp2_with (fail)
          go_roundw
          case rel => exact ⟨k + 1, by omega, by go_num, Lib.hid (fun j hj => by
            by_cases h : j = k
            · rw [h]; exact HB.out
            · exact HT.out j (by omega)), X3⟩
          case measure => simp [intOf]; omega
      · obtain rfl : k = d := by omega
        go_wp2_with (fail)
        go_ret
        exact ⟨ret_bool (by rw [HF.out, doub_yes (fun j hj => HT.out j (by rw [HQL.out] at hj; exact hj))]), G1.out.trans HE.out⟩
  · have HF := Lib.hid (doub_B (p := p) (st := qs) (by rw [HQL.out]; exact h2))
    have h2i : (4 : Int) < (d : Int) := by omega
    have h2b : decide ((4 : Int) < (d : Int)) = true := by simpa using h2i
    clear h1
    go_enter Try.func65, Try.ntmps65
    go_wp2_with (fail)
    refine Calls.mono (s_prime p _) ?_
    rintro e w1 ⟨rfl, g1⟩
    rw [H1.out]
    have q0 : w1.cell? ⟨w.heap.size, 0, none⟩ = some (.int .i64 p) := g1.cell (by simp)
    have q1 : w1.cell? ⟨w.heap.size, 1, none⟩ = some (.slice a d cap) := g1.cell (by simp)
    have G1 := Lib.hid ((ext_alloc w (.cells #[.int .i64 p, .slice a d cap] 30)).trans g1)
    clear g1
    go_wp2_with (fail)
    go_ret
    exact ⟨ret_bool HF.out.symm, G1.out⟩
theorem s_size11 (p : Int) (a : Option Addr) (d cap N : Nat) (w : World) (hd : d ≤ 6) (hN : N = 2 ^ d) :
    Calls Try.prog 67 #[.agg #[.int .i64 p, .slice a d cap]] w fun e w' => e = .returned (.int .i64 (N : Int)) ∧ Ext w w' := by
  have HW := Lib.hid (pow_wrap hd)
  have HN := Lib.hid hN
  clear hN
  go_enter Try.func67, Try.ntmps67
  go_wp2
  go_ret
  refine ⟨ret_int ?_, ext_alloc _ _⟩
  rw [HN.out, ← HW.out]
set_option maxHeartbeats 2000000 in
theorem s_elem11 (p : Int) (a : Option Addr) (d cap : Nat) (ax : Option Addr) (n cx : Nat) (xs : List Int) (w : World) (hp1 : 3 ≤ p) (hp2 : p ≤ 1000) (hd : d ≤ 6) (hl : n ≤ 4194303) (hx : RdC w ax n xs) :
    Calls Try.prog 66 #[.agg #[.int .i64 p, .slice a d cap], .slice ax n cx] w fun e w' => e = .returned (.bool (multiB p d xs)) ∧ Ext w w' := by
  obtain ⟨N, hN⟩ : ∃ N, N = 2 ^ d := ⟨_, rfl⟩
  have HN := Lib.hid hN
  have HX := Lib.hid hx
  have HXL := Lib.hid hx.1
  have HNO : Hid (∀ k, k < n → inB (nth xs k) 0 (p - 1) = false → multiB p d xs = false) := Lib.hid (fun k hk h => by unfold multiB; rw [isB_false (by rw [hx.1]; exact hk) h]; simp)
  have HYES : Hid ((∀ k, k < n → inB (nth xs k) 0 (p - 1) = true) → multiB p d xs = decide (n = N)) := Lib.hid (fun h => by
    unfold multiB
    rw [show isB p xs = true from Good.isB (N := n) ⟨hx.1, fun k hk => by have := h k hk; unfold inB at this; simp only [decide_eq_true_eq] at this; omega⟩, hx.1, hN]; simp)
  clear hx hN
  go_enter Try.func66, Try.ntmps66
  go_wp2_with (fail)
  obtain ⟨W, hW⟩ : ∃ W, W = w.alloc (.cells #[.int .i64 p, .slice a d cap] 30) := ⟨_, rfl⟩
  have G1 : Hid (Ext w W) := Lib.hid (by rw [hW]; exact ext_alloc _ _)
  have Q0 : Hid (W.cell? ⟨w.heap.size, 0, none⟩ = some (.int .i64 p)) := Lib.hid (by rw [hW]; simp)
  have Q1 : Hid (W.cell? ⟨w.heap.size, 1, none⟩ = some (.slice a d cap)) := Lib.hid (by rw [hW]; simp)
  rw [← hW]
  clear hW
  go_wp2_with (fail)
  go_loopw [5] (fun i wr => ∃ k : Nat, k ≤ n ∧ i = .int .i64 k ∧ Hid (∀ j, j < k → inB (nth xs j) 0 (p - 1) = true) ∧ Hid (Ext W wr)) (fun i _ => n - (intOf i).toNat)
  case atStart => exact ⟨0, Nat.zero_le _, rfl, Lib.hid (fun j hj => absurd hj (Nat.not_lt_zero _)), Lib.hid (Ext.refl _)⟩
  case round =>
    obtain ⟨k, hk, rfl, HT, HE⟩ := hrel
    rename World => wr
    by_cases hlt : k < n
    · obtain ⟨b, off, rfl, hc⟩ := HX.out.2 k hlt
      have E0 := Lib.hid (HE.out.trans (ext_drew wr))
      have C0 := Lib.hid (E0.out.cell Q0.out)
      have C2 := Lib.hid ((G1.out.trans E0.out).cell hc)
      obtain ⟨x, hx⟩ : ∃ x, x = nth xs k := ⟨_, rfl⟩
      rw [← hx] at C2
      obtain ⟨q, hq⟩ : ∃ q, q = p - 1 := ⟨_, rfl⟩
      have HWq : Hid (IntKind.i64.wrap (p - 1) = q) := Lib.hid (by rw [hq]; exact IntWalk.i64_in _ (by omega))
      obtain ⟨bb, hbb⟩ : ∃ b, b = inB x 0 q := ⟨_, rfl⟩
      have HIN : Hid (∀ w1, Calls Try.prog 85 #[.int .i64 x, .int .i64 0, .int .i64 q] w1 fun e w' => e = .returned (.bool bb) ∧ Ext w1 w') := Lib.hid (fun w1 => by rw [hbb]; exact s_in x 0 q w1)
      have HB : Hid (inB (nth xs k) 0 (p - 1) = bb) := Lib.hid (by rw [hbb, hx, hq])
      clear hc hx hq hbb
      go_wp2_with (fail)
      refine wp_region_lex [(7, .val (.bool bb))] (by kernel_rfl) (by kernel_rfl) ?_
      repeat' first | (refine LexW.pure (v := ?_) rfl rfl (fun w1 he => ?_) ?_; rotate_left; ( have e0 := he.cell C0.out; have e2 := he.cell C2.out; have e3 := HWq.out; go_simp; rfl); simp only [Act.put, List.setIfInBounds_toArray, List.set_cons_zero, List.set_cons_succ]) | (refine LexW.call (f := ?_) (args := ?_) rfl rfl (fun w1 => ?_) (fun w1 he hdep => ?_) ?_; rotate_left 2; (go_simp; refine ⟨?_, ?_⟩ <;> rfl); ( exact HIN.out w1); simp only [Act.put, List.setIfInBounds_toArray, List.set_cons_zero, List.set_cons_succ])
      refine LexW.nil (fun w3 he hkn => ?_)
      have X3 := Lib.hid (E0.out.trans he)
      clear he hkn
      cases bb
      · go_wp2_with (fail)
        go_ret
        exact ⟨ret_bool (HNO.out k hlt HB.out).symm, G1.out.trans X3.out⟩
      · go_wp2_with (fail)
        go_roundw
        case rel => exact ⟨k + 1, by omega, by go_num, Lib.hid (fun j hj => by
          by_cases h : j = k
          · rw [h]; exact HB.out
          · exact HT.out j (by omega)), X3⟩
        case measure => simp [intOf]; omega
    · obtain rfl : k = n := by omega
      have HF := Lib.hid (HYES.out HT.out)
      have q0 := HE.out.cell Q0.out
      have q1 := HE.out.cell Q1.out
      go_wp2_with (fail)
      refine Calls.mono (s_size11 p a d cap N _ hd HN.out) ?_
      rintro e w2 ⟨rfl, g2⟩
      have X2 := Lib.hid ((G1.out.trans HE.out).trans g2)
      clear g2 q0 q1
      go_wp2_with (fail)
      go_ret
      exact ⟨ret_bool (by rw [HF.out, Bool.eq_iff_iff]; simp; omega), X2.out⟩
set_option maxHeartbeats 2000000 in
theorem s_matrix14 (p : Int) (a : Option Addr) (d cap : Nat) (ax : Option Addr) (n cx : Nat) (rows : List (List Int)) (w : World) (hp1 : 3 ≤ p) (hp2 : p ≤ 1000) (hd : d ≤ 6) (hl : n ≤ 4194303) (hr : ∀ i, i < n → (nthR rows i).length ≤ 4194303) (hx : RdR w ax n rows) :
    Calls Try.prog 46 #[.agg #[.int .i64 p, .slice a d cap], .slice ax n cx] w fun e w' => e = .returned (.bool (matE p d rows)) ∧ Ext w w' := by
  obtain ⟨N, hN⟩ : ∃ N, N = 2 ^ d := ⟨_, rfl⟩
  have HN := Lib.hid hN
  have HX := Lib.hid hx
  have HR := Lib.hid hr
  have HNO : Hid (∀ k, k < n → multiB p d (nthR rows k) = false → matE p d rows = false) := Lib.hid (fun k hk h => by
    unfold matE
    cases ha : rows.all (multiB p d)
    · rfl
    · have := all_nth.1 ha k (by rw [hx.1]; exact hk); rw [h] at this; cases this)
  have HYES : Hid ((∀ k, k < n → multiB p d (nthR rows k) = true) → matE p d rows = decide (n = N)) := Lib.hid (fun h => by
    unfold matE
    rw [all_nth.2 fun k hk => h k (by rw [hx.1] at hk; exact hk), hx.1, hN]; simp)
  clear hx hr hN
  go_enter Try.func46, Try.ntmps46
  go_wp2_with (fail)
  obtain ⟨W, hW⟩ : ∃ W, W = w.alloc (.cells #[.int .i64 p, .slice a d cap] 30) := ⟨_, rfl⟩
  have G1 : Hid (Ext w W) := Lib.hid (by rw [hW]; exact ext_alloc _ _)
  have Q0 : Hid (W.cell? ⟨w.heap.size, 0, none⟩ = some (.int .i64 p)) := Lib.hid (by rw [hW]; simp)
  have Q1 : Hid (W.cell? ⟨w.heap.size, 1, none⟩ = some (.slice a d cap)) := Lib.hid (by rw [hW]; simp)
  rw [← hW]
  clear hW
  go_wp2_with (fail)
  go_loopw [5] (fun i wr => ∃ k : Nat, k ≤ n ∧ i = .int .i64 k ∧ Hid (∀ j, j < k → multiB p d (nthR rows j) = true) ∧ Hid (Ext W wr)) (fun i _ => n - (intOf i).toNat)
  case atStart => exact ⟨0, Nat.zero_le _, rfl, Lib.hid (fun j hj => absurd hj (Nat.not_lt_zero _)), Lib.hid (Ext.refl _)⟩
  case round =>
    obtain ⟨k, hk, rfl, HT, HE⟩ := hrel
    rename World => wr
    by_cases hlt : k < n
    · obtain ⟨b, off, ai, ci, rfl, hc, hri⟩ := HX.out.2 k hlt
      have E0 := Lib.hid (HE.out.trans (ext_drew wr))
      have C0 := Lib.hid (E0.out.cell Q0.out)
      have C1 := Lib.hid (E0.out.cell Q1.out)
      have C2 := Lib.hid ((G1.out.trans E0.out).cell hc)
      have HRi := Lib.hid (hri.ext (G1.out.trans E0.out))
      have HRl := Lib.hid (HR.out k hlt)
      obtain ⟨m, hm⟩ : ∃ m, m = (nthR rows k).length := ⟨_, rfl⟩
      rw [← hm] at C2 HRi HRl
      obtain ⟨bb, hbb⟩ : ∃ b, b = multiB p d (nthR rows k) := ⟨_, rfl⟩
      have HB := Lib.hid hbb.symm
      clear hc hri hm hbb
      go_wp2_with (fail)
      refine wp_region_lex [(5, .val (.bool bb))] (by kernel_rfl) (by kernel_rfl) ?_
      repeat' first | (refine LexW.pure (v := ?_) rfl rfl (fun w1 he => ?_) ?_; rotate_left; ( have e0 := he.cell C0.out; have e1 := he.cell C1.out; have e2 := he.cell C2.out; go_simp; rfl); simp only [Act.put, List.setIfInBounds_toArray, List.set_cons_zero, List.set_cons_succ]) | (refine LexW.call (f := ?_) (args := ?_) rfl rfl (fun w1 => ?_) (fun w1 he hdep => ?_) ?_; rotate_left 2; (go_simp; refine ⟨?_, ?_⟩ <;> rfl); ( have H := s_elem11 p a d cap ai m ci (nthR rows k) w1 hp1 hp2 hd HRl.out (HRi.out.ext he); rw [HB.out] at H; exact H); simp only [Act.put, List.setIfInBounds_toArray, List.set_cons_zero, List.set_cons_succ])
      refine LexW.nil (fun w3 he hkn => ?_)
      have X3 := Lib.hid (E0.out.trans he)
      clear he hkn
      cases bb
      · go_wp2_with (fail)
        go_ret
        exact ⟨ret_bool (HNO.out k hlt HB.out).symm, G1.out.trans X3.out⟩
      · go_wp2_with (fail)
        go_roundw
        case rel => exact ⟨k + 1, by omega, by go_num, Lib.hid (fun j hj => by
          by_cases h : j = k
          · rw [h]; exact HB.out
          · exact HT.out j (by omega)), X3⟩
        case measure => simp [intOf]; omega
    · obtain rfl : k = n := by omega
      have HF := Lib.hid (HYES.out HT.out)
      have q0 := HE.out.cell Q0.out
      have q1 := HE.out.cell Q1.out
      go_wp2_with (fail)
      refine Calls.mono (s_size11 p a d cap N _ hd HN.out) ?_
      rintro e w2 ⟨rfl, g2⟩
      have X2 := Lib.hid ((G1.out.trans HE.out).trans g2)
      clear g2 q0 q1
      go_wp2_with (fail)
      go_ret
      exact ⟨ret_bool (by rw [HF.out, Bool.eq_iff_iff]; simp; omega), X2.out⟩
/-- The code of a doubling with at most three steps. -/
def codeD (p : Int) (st : List Int) : Int := if doubB p st = true then (if st.length ≤ 3 then 0 else 3) else 1
theorem codeD_A {p : Int} {st : List Int} (h : doubB p st = false) : codeD p st = 1 := by unfold codeD; rw [h]; rfl
theorem codeD_B {p : Int} {st : List Int} (h : doubB p st = true) (h3 : ¬ st.length ≤ 3) : codeD p st = 3 := by unfold codeD; rw [h, if_pos rfl, if_neg h3]
theorem codeD_C {p : Int} {st : List Int} (h : doubB p st = true) (h3 : st.length ≤ 3) : codeD p st = 0 := by unfold codeD; rw [h, if_pos rfl, if_pos h3]
theorem codeD_zero {p : Int} {st : List Int} (h : codeD p st = 0) : doubB p st = true ∧ st.length ≤ 3 := by
  unfold codeD at h
  split at h
  · rename_i h1
    split at h
    · rename_i h2; exact ⟨h1, h2⟩
    · cases h
  · cases h
set_option maxHeartbeats 1000000 in
theorem s_code14 (p : Int) (a : Option Addr) (d cap : Nat) (qs : List Int) (w : World) (hl : d ≤ 4194304) (hq : RdC w a d qs) :
    Calls Try.prog 45 #[.agg #[.int .i64 p, .slice a d cap]] w fun e w' => e = .returned (.int .i64 (codeD p qs)) ∧ Ext w w' := by
  have HQ := Lib.hid hq
  have HQL := Lib.hid hq.1
  clear hq
  go_enter Try.func45, Try.ntmps45
  go_wp2_with (fail)
  refine Calls.mono (s_is11 p a d cap qs _ hl (HQ.out.ext (ext_alloc _ _))) ?_
  rintro e w1 ⟨rfl, g1⟩
  have q0 : w1.cell? ⟨w.heap.size, 0, none⟩ = some (.int .i64 p) := g1.cell (by simp)
  have q1 : w1.cell? ⟨w.heap.size, 1, none⟩ = some (.slice a d cap) := g1.cell (by simp)
  have G1 := Lib.hid ((ext_alloc w (.cells #[.int .i64 p, .slice a d cap] 30)).trans g1)
  clear g1
  cases hs : doubB p qs
  · have HC := Lib.hid (codeD_A hs)
    clear hs
    go_wp2_with (fail)
    go_ret
    exact ⟨ret_int HC.out.symm, G1.out⟩
  by_cases h3 : d ≤ 3
  · have HC := Lib.hid (codeD_C hs (by rw [HQL.out]; exact h3))
    have h3i : ¬ (3 : Int) < (d : Int) := by omega
    have h3b : decide ((3 : Int) < (d : Int)) = false := by simpa using h3i
    clear hs
    go_wp2_with (fail)
    go_ret
    exact ⟨ret_int HC.out.symm, G1.out⟩
  · have HC := Lib.hid (codeD_B hs (by rw [HQL.out]; exact h3))
    have h3i : (3 : Int) < (d : Int) := by omega
    have h3b : decide ((3 : Int) < (d : Int)) = true := by simpa using h3i
    clear hs
    go_wp2_with (fail)
    go_ret
    exact ⟨ret_int HC.out.symm, G1.out⟩
/-! ### Lists of matrices -/
def nthM (ms : List (List (List Int))) (i : Nat) : List (List Int) := ms.getD i []
def RdM (w : World) (a : Option Addr) (n : Nat) (ms : List (List (List Int))) : Prop :=
  ms.length = n ∧ ∀ i, i < n → ∃ b off ai ci, a = some ⟨b, off, none⟩ ∧ w.cell? ⟨b, off + i, none⟩ = some (.slice ai (nthM ms i).length ci) ∧ RdR w ai (nthM ms i).length (nthM ms i)
theorem RdM.ext {w w' : World} {a : Option Addr} {n : Nat} {ms : List (List (List Int))} (h : RdM w a n ms) (he : Ext w w') : RdM w' a n ms :=
  ⟨h.1, fun i hi => let ⟨b, off, ai, ci, ha, hc, hr⟩ := h.2 i hi; ⟨b, off, ai, ci, ha, he.cell hc, hr.ext he⟩⟩
theorem RdM.nil (w : World) (a : Option Addr) : RdM w a 0 [] := ⟨rfl, fun _ hi => absurd hi (Nat.not_lt_zero _)⟩
theorem nthM_eq {ms : List (List (List Int))} {i : Nat} (h : i < ms.length) : nthM ms i = ms[i] := by simp [nthM, h]
theorem all_nthM {f : List (List Int) → Bool} {ms : List (List (List Int))} : ms.all f = true ↔ ∀ i, i < ms.length → f (nthM ms i) = true := by
  rw [List.all_eq_true]
  constructor
  · intro h i hi; rw [nthM_eq hi]; exact h _ (List.getElem_mem hi)
  · intro h x hx; obtain ⟨i, hi, rfl⟩ := List.getElem_of_mem hx; have := h i hi; rwa [nthM_eq hi] at this
def code14 (p : Int) (st : List Int) (ms : List (List (List Int))) : Int := if codeD p st = 0 then (if ms.all (matE p st.length) = true then 0 else 2) else codeD p st
theorem code14_A {p : Int} {st : List Int} {ms : List (List (List Int))} (h : codeD p st ≠ 0) : code14 p st ms = codeD p st := by unfold code14; rw [if_neg h]
theorem code14_B {p : Int} {st : List Int} {ms : List (List (List Int))} (h : codeD p st = 0) : code14 p st ms = if ms.all (matE p st.length) = true then 0 else 2 := by unfold code14; rw [if_pos h]
theorem code14_zero {p : Int} {st : List Int} {ms : List (List (List Int))} (h : code14 p st ms = 0) : codeD p st = 0 ∧ ms.all (matE p st.length) = true := by
  by_cases h0 : codeD p st = 0
  · rw [code14_B h0] at h
    split at h
    · rename_i h1; exact ⟨h0, h1⟩
    · cases h
  · rw [code14_A h0] at h; exact absurd h h0
set_option maxHeartbeats 2000000 in
theorem s_two14 (p : Int) (a : Option Addr) (d cap : Nat) (st : List Int) (al : Option Addr) (n cl : Nat) (ms : List (List (List Int))) (w : World) (hd : d ≤ 4194304) (hl : n ≤ 4194303) (hr : ∀ i, i < n → (nthM ms i).length ≤ 4194303) (hr2 : ∀ i, i < n → ∀ j, j < (nthM ms i).length → (nthR (nthM ms i) j).length ≤ 4194303) (hq : RdC w a d st) (hx : RdM w al n ms) :
    Calls Try.prog 30 #[.agg #[.int .i64 p, .slice a d cap], .slice al n cl] w fun e w' => e = .returned (.int .i64 (code14 p st ms)) ∧ Ext w w' := by
  have HQ := Lib.hid hq
  have HQL := Lib.hid hq.1
  have HX := Lib.hid hx
  have HXL := Lib.hid hx.1
  have HR := Lib.hid hr
  have HR2 := Lib.hid hr2
  clear hq hx hr hr2
  go_enter Try.func30, Try.ntmps30
  go_wp2_with (fail)
  refine Calls.mono (s_code14 p a d cap st _ hd (HQ.out.ext (ext_alloc _ _))) ?_
  rintro e w1 ⟨rfl, g1⟩
  have q0 : w1.cell? ⟨w.heap.size, 0, none⟩ = some (.int .i64 p) := g1.cell (by simp)
  have q1 : w1.cell? ⟨w.heap.size, 1, none⟩ = some (.slice a d cap) := g1.cell (by simp)
  have Q0 := Lib.hid q0
  have Q1 := Lib.hid q1
  have G1 := Lib.hid ((ext_alloc w (.cells #[.int .i64 p, .slice a d cap] 30)).trans g1)
  clear g1
  obtain ⟨cc, hcc⟩ : ∃ x, x = codeD p st := ⟨_, rfl⟩
  rw [← hcc]
  by_cases hc : cc ≠ 0
  · have hcb : (cc != 0) = true := by simp [hc]
    have HC := Lib.hid ((code14_A (ms := ms) (by rw [← hcc]; exact hc)).trans hcc.symm)
    clear hcc hc
    go_wp2_with (fail)
    go_ret
    exact ⟨ret_int HC.out.symm, G1.out⟩
  obtain rfl : cc = 0 := by omega
  have hcb : ((0 : Int) != 0) = false := by simp
  have HC := Lib.hid (code14_B (ms := ms) hcc.symm)
  rw [HQL.out] at HC
  obtain ⟨hs, h3⟩ := codeD_zero hcc.symm
  rw [HQL.out] at h3
  obtain ⟨hpr, _, _, _⟩ := doub_of hs
  have hpb := prime_bd hpr
  have HNO : Hid (∀ k, k < n → matE p d (nthM ms k) = false → code14 p st ms = 2) := Lib.hid (fun k hk h => by
    rw [HC.out]
    cases ha : ms.all (matE p d)
    · rfl
    · have := all_nthM.1 ha k (by rw [HXL.out]; exact hk); rw [h] at this; cases this)
  have HYES : Hid ((∀ k, k < n → matE p d (nthM ms k) = true) → code14 p st ms = 0) := Lib.hid (fun h => by
    rw [HC.out, all_nthM.2 fun k hk => h k (by rw [HXL.out] at hk; exact hk)]; rfl)
  clear hcc hc hs hpr q0 q1
  go_wp2_with (fail)
  go_loopw [6] (fun i wr => ∃ k : Nat, k ≤ n ∧ i = .int .i64 k ∧ Hid (∀ j, j < k → matE p d (nthM ms j) = true) ∧ Hid (Ext w1 wr)) (fun i _ => n - (intOf i).toNat)
  case atStart => exact ⟨0, Nat.zero_le _, rfl, Lib.hid (fun j hj => absurd hj (Nat.not_lt_zero _)), Lib.hid (Ext.refl _)⟩
  case round =>
    obtain ⟨k, hk, rfl, HT, HE⟩ := hrel
    rename World => wr
    by_cases hlt : k < n
    · obtain ⟨b, off, ai, ci, rfl, hc, hri⟩ := HX.out.2 k hlt
      have E0 := Lib.hid (HE.out.trans (ext_drew wr))
      have C0 := Lib.hid (E0.out.cell Q0.out)
      have C1 := Lib.hid (E0.out.cell Q1.out)
      have C2 := Lib.hid ((G1.out.trans E0.out).cell hc)
      have HRi := Lib.hid (hri.ext (G1.out.trans E0.out))
      have HRl := Lib.hid (HR.out k hlt)
      have HRl2 := Lib.hid (HR2.out k hlt)
      obtain ⟨m, hm⟩ : ∃ m, m = (nthM ms k).length := ⟨_, rfl⟩
      rw [← hm] at C2 HRi HRl HRl2
      obtain ⟨bb, hbb⟩ : ∃ b, b = matE p d (nthM ms k) := ⟨_, rfl⟩
      have HB := Lib.hid hbb.symm
      clear hc hri hm hbb
      go_wp2_with (fail)
      refine wp_region_lex [(5, .val (.bool bb))] (by kernel_rfl) (by kernel_rfl) ?_
      repeat' first | (refine LexW.pure (v := ?_) rfl rfl (fun w1 he => ?_) ?_; rotate_left; ( have e0 := he.cell C0.out; have e1 := he.cell C1.out; have e2 := he.cell C2.out; go_simp; rfl); simp only [Act.put, List.setIfInBounds_toArray, List.set_cons_zero, List.set_cons_succ]) | (refine LexW.call (f := ?_) (args := ?_) rfl rfl (fun w1 => ?_) (fun w1 he hdep => ?_) ?_; rotate_left 2; (go_simp; refine ⟨?_, ?_⟩ <;> rfl); ( have H := s_matrix14 p a d cap ai m ci (nthM ms k) w1 (by omega) (by omega) (by omega) HRl.out HRl2.out (HRi.out.ext he); rw [HB.out] at H; exact H); simp only [Act.put, List.setIfInBounds_toArray, List.set_cons_zero, List.set_cons_succ])
      refine LexW.nil (fun w3 he hkn => ?_)
      have X3 := Lib.hid (E0.out.trans he)
      clear he hkn
      cases bb
      · go_wp2_with (fail)
        go_ret
        exact ⟨ret_int (HNO.out k hlt HB.out).symm, G1.out.trans X3.out⟩
      · go_wp2_with (fail)
        go_roundw
        case rel => exact ⟨k + 1, by omega, by go_num, Lib.hid (fun j hj => by
          by_cases h : j = k
          · rw [h]; exact HB.out
          · exact HT.out j (by omega)), X3⟩
        case measure => simp [intOf]; omega
    · obtain rfl : k = n := by omega
      go_wp2_with (fail)
      go_ret
      exact ⟨ret_int (HYES.out HT.out).symm, G1.out.trans HE.out⟩

set_option maxHeartbeats 1000000 in
theorem c_checkThree1 (p : Int) (a : Option Addr) (d cap : Nat) (ax : Option Addr) (n cx : Nat) (rows : List (List Int)) (q : Nat) (w : World) (hp1 : 1 ≤ p) (hp2 : p ≤ 1000) (hd : d ≤ 4) (hl : n ≤ 4194304) (hr : ∀ i, i < n → (nthR rows i).length ≤ 4194304) (hx : RdR w ax n rows)
    (hq0 : w.cell? ⟨q, 0, none⟩ = some (.int .i64 p)) (hq1 : w.cell? ⟨q, 1, none⟩ = some (.slice a d cap)) :
    Calls Try.prog 52 #[.slice ax n cx, .pointer (some ⟨q, 0, none⟩)] w fun e w' => e = .returned (.bool (!matE p d rows)) ∧ Ext w w' := by
  have HX := Lib.hid hx
  have HR := Lib.hid hr
  have HM := Lib.hid (mat_same (p := p) (rows := rows) hd)
  clear hx hr
  go_enter Try.func52, Try.ntmps52
  go_wp2_with (fail)
  refine Calls.mono (c_dIsMatrix p a d cap ax n cx rows w hp1 hp2 (by omega) hl HR.out HX.out) ?_
  rintro e w1 ⟨rfl, g1⟩
  rw [HM.out]
  have G1 := Lib.hid g1
  clear g1
  go_wp2_with (fail)
  go_ret
  exact ⟨rfl, G1.out⟩
/-- The matrices of a list, as values. -/
theorem RdM.choose {w : World} {al : Option Addr} {n : Nat} {ms : List (List (List Int))} (h : RdM w al n ms) : ∃ (R : Nat → Value), ∀ i, i < n → (∃ b off, al = some ⟨b, off, none⟩ ∧ w.cell? ⟨b, off + i, none⟩ = some (R i)) ∧ ∃ ai ci, R i = .slice ai (nthM ms i).length ci ∧ RdR w ai (nthM ms i).length (nthM ms i) := by
  refine ⟨fun i => if hi : i < n then .slice (Classical.choose (Classical.choose_spec (Classical.choose_spec (h.2 i hi)))) (nthM ms i).length (Classical.choose (Classical.choose_spec (Classical.choose_spec (Classical.choose_spec (h.2 i hi))))) else .bool false, fun i hi => ?_⟩
  have hs := Classical.choose_spec (Classical.choose_spec (Classical.choose_spec (Classical.choose_spec (h.2 i hi))))
  simp only [dif_pos hi]
  exact ⟨⟨_, _, hs.1, hs.2.1⟩, _, _, rfl, hs.2.2⟩
theorem any_mats (p : Int) (d n : Nat) (ms : List (List (List Int))) (hn : ms.length = n) : (List.range n).any (fun i => !matE p d (nthM ms i)) = !ms.all (matE p d) := by
  subst hn
  cases h : ms.all (matE p d)
  · rw [List.any_eq_true.2]
    · rfl
    · refine Classical.byContradiction fun hn => ?_
      have : ms.all (matE p d) = true := all_nthM.2 fun i hi => by
        cases hm : matE p d (nthM ms i)
        · exact absurd ⟨i, List.mem_range.2 hi, by rw [hm]; rfl⟩ hn
        · rfl
      rw [h] at this; cases this
  · rw [List.any_eq_false.2]
    · rfl
    · intro i hi
      have := all_nthM.1 h i (List.mem_range.1 hi)
      rw [this]; simp
def code3 (p : Int) (st : List Int) (es : List (List Int)) (ms : List (List (List Int))) : Int := if codeD p st = 0 then (if (es.all (multiB p st.length) && ms.all (matE p st.length)) = true then 0 else 2) else codeD p st
theorem code3_A {p : Int} {st : List Int} {es : List (List Int)} {ms : List (List (List Int))} (h : doubB p st = false) : code3 p st es ms = 1 := by unfold code3; rw [codeD_A h]; rfl
theorem code3_B {p : Int} {st : List Int} {es : List (List Int)} {ms : List (List (List Int))} (h : doubB p st = true) (h3 : ¬ st.length ≤ 3) : code3 p st es ms = 3 := by unfold code3; rw [codeD_B h h3]; rfl
theorem code3_C {p : Int} {st : List Int} {es : List (List Int)} {ms : List (List (List Int))} (h : doubB p st = true) (h3 : st.length ≤ 3) : code3 p st es ms = if (es.all (multiB p st.length) && ms.all (matE p st.length)) = true then 0 else 2 := by unfold code3; rw [codeD_C h h3]; rfl
theorem code3_mats {p : Int} {st : List Int} {ms : List (List (List Int))} : code3 p st [] ms = code14 p st ms := by unfold code3 code14; simp
set_option maxHeartbeats 2000000 in
theorem c_checkThree (p : Int) (a : Option Addr) (d cap : Nat) (st : List Int) (al : Option Addr) (n cl : Nat) (es : List (List Int)) (am : Option Addr) (m cm : Nat) (ms : List (List (List Int))) (w : World) (hd : d ≤ 4194304) (hl : n ≤ 4194304) (hr0 : ∀ i, i < n → (nthR es i).length ≤ 4194304) (hlm : m ≤ 4194303) (hr : ∀ i, i < m → (nthM ms i).length ≤ 4194303) (hr2 : ∀ i, i < m → ∀ j, j < (nthM ms i).length → (nthR (nthM ms i) j).length ≤ 4194303) (hq : RdC w a d st) (hx : RdR w al n es) (hm : RdM w am m ms) :
    Calls Try.prog 32 #[.agg #[.int .i64 p, .slice a d cap], .slice al n cl, .slice am m cm] w fun e w' => e = .returned (.int .i64 (code3 p st es ms)) ∧ Ext w w' := by
  have HQ := Lib.hid hq
  have HQL := Lib.hid hq.1
  have HX := Lib.hid hx
  have HR0 := Lib.hid hr0
  have HR := Lib.hid hr
  have HR2 := Lib.hid hr2
  have HM := Lib.hid hm
  have HML := Lib.hid hm.1
  obtain ⟨V, hV⟩ := hm.choose
  have HV := Lib.hid hV
  clear hq hx hr0 hr hr2 hm hV
  go_enter Try.func32, Try.ntmps32
  go_wp2_with (fail)
  refine Calls.mono (c_isDoubling p a d cap st _ hd (HQ.out.ext (ext_alloc _ _))) ?_
  rintro e w1 ⟨rfl, g1⟩
  have q0 : w1.cell? ⟨w.heap.size, 0, none⟩ = some (.int .i64 p) := g1.cell (by simp)
  have q1 : w1.cell? ⟨w.heap.size, 1, none⟩ = some (.slice a d cap) := g1.cell (by simp)
  have G1 := Lib.hid ((ext_alloc w (.cells #[.int .i64 p, .slice a d cap] 30)).trans g1)
  clear g1
  cases hs : doubB p st
  · have HC := Lib.hid (code3_A (es := es) (ms := ms) hs)
    clear hs
    go_wp2_with (fail)
    go_ret
    exact ⟨ret_int HC.out.symm, G1.out⟩
  obtain ⟨hpr, _, _, _⟩ := doub_of hs
  have hpb := prime_bd hpr
  by_cases h3 : d ≤ 3
  · have HC := Lib.hid (code3_C (es := es) (ms := ms) hs (by rw [HQL.out]; exact h3))
    have HCE := Lib.hid (codeE_B (es := es) hs)
    rw [HQL.out] at HC HCE
    have h3i : ¬ (3 : Int) < (d : Int) := by omega
    have h3b : decide ((3 : Int) < (d : Int)) = false := by simpa using h3i
    have HAN := Lib.hid (any_mats p d m ms HML.out)
    clear hs hpr
    go_wp2_with (fail)
    refine Calls.mono (c_checkElements p a d cap st al n cl es _ hd hl HR0.out (HQ.out.ext G1.out) (HX.out.ext G1.out)) ?_
    rintro e w2 ⟨rfl, g2⟩
    have Q0 := Lib.hid (g2.cell q0)
    have Q1 := Lib.hid (g2.cell q1)
    have G2 := Lib.hid (G1.out.trans g2)
    clear g2 q0 q1
    rw [HCE.out]
    cases ha : es.all (multiB p d)
    · rw [ha] at HC
      have hb1 : ((2 : Int) != 0) = true := by simp
      clear ha
      simp only [Bool.false_eq_true, if_false, Bool.false_and] at HC ⊢
      go_wp2_with (fail)
      go_ret
      exact ⟨ret_int HC.out.symm, G2.out⟩
    · rw [ha] at HC
      have hb1 : ((0 : Int) != 0) = false := by simp
      clear ha
      simp only [if_true, Bool.true_and] at HC ⊢
      go_wp2_with (fail)
      refine Calls.mono (c_containsFuncM am m cm 52 #[.pointer (some ⟨w.heap.size, 0, none⟩)] V (fun i => !matE p d (nthM ms i)) _ (by omega) ?_ (fun i hi => ?_) (fun i hi w4 he => ?_)) ?_
      · intro args w; rfl
      · obtain ⟨⟨b, off, hb1, hb2⟩, _⟩ := HV.out i hi
        exact ⟨b, off, hb1, G2.out.cell hb2⟩
      · obtain ⟨_, ai, ci, hv, hrd⟩ := HV.out i hi
        rw [hv]
        exact c_checkThree1 p a d cap _ _ _ _ _ _ (by omega) (by omega) (by omega) (by have := HR.out i hi; omega) (fun j hj => by have := HR2.out i hi j hj; omega) (hrd.ext (G2.out.trans he)) (he.cell Q0.out) (he.cell Q1.out)
      rintro e w3 ⟨rfl, g3⟩
      rw [HAN.out]
      have G3 := Lib.hid (G2.out.trans g3)
      clear g3
      cases hb : ms.all (matE p d)
      · rw [hb] at HC
        clear hb
        go_wp2_with (fail)
        go_ret
        exact ⟨ret_int HC.out.symm, G3.out⟩
      · rw [hb] at HC
        clear hb
        go_wp2_with (fail)
        go_ret
        exact ⟨ret_int HC.out.symm, G3.out⟩
  · have HC := Lib.hid (code3_B (es := es) (ms := ms) hs (by rw [HQL.out]; exact h3))
    have h3i : (3 : Int) < (d : Int) := by omega
    have h3b : decide ((3 : Int) < (d : Int)) = true := by simpa using h3i
    clear hs hpr
    go_wp2_with (fail)
    go_ret
    exact ⟨ret_int HC.out.symm, G1.out⟩
end Go.Proofs.Ythflmmgolegonaa

/-
  Products of doublings, in plain numbers.
  No condition. No program in sight.
-/
namespace Go.Proofs.Ythflmmgolegonaa
set_option maxRecDepth 100000
open Go.RowKit

/-- The conjugate: all places but the first one have the opposite number. -/
def conjL (p : Int) (x : List Int) : List Int := (List.range x.length).map fun i => if i = 0 then nth x 0 else scaleN p x (-1) i
theorem conjL_len (p : Int) (x : List Int) : (conjL p x).length = x.length := by simp [conjL]
theorem conjL_nth {p : Int} {x : List Int} {i : Nat} (h : i < x.length) : nth (conjL p x) i = if i = 0 then nth x 0 else scaleN p x (-1) i := by
  unfold conjL; rw [nth_map (by simpa using h)]; simp
theorem scaleL_len' (p : Int) (x : List Int) (k : Int) (n : Nat) : (scaleL p x k n).length = n := by simp [scaleL]
theorem scaleL_nth' {p : Int} {x : List Int} {k : Int} {n i : Nat} (h : i < n) : nth (scaleL p x k n) i = scaleN p x k i := by
  unfold scaleL; rw [nth_map (by simpa using h)]; simp
theorem conj_set {p : Int} {x : List Int} {n : Nat} (h : x.length = n) : (scaleL p x (-1) n).set 0 (nth x 0) = conjL p x := by
  refine ext_nth (by rw [List.length_set, scaleL_len', conjL_len, h]) fun i hi => ?_
  rw [List.length_set, scaleL_len'] at hi
  rw [nth_set (by rw [scaleL_len']; omega), conjL_nth (by omega)]
  by_cases h0 : i = 0
  · rw [if_pos h0.symm, if_pos h0]
  · rw [if_neg (Ne.symm h0), if_neg h0, scaleL_nth' hi]
theorem conj_set' {p : Int} {x : List Int} {n : Nat} (h : x.length = n) : (scaleL p x (p - 1) n).set 0 (nth x 0) = conjL p x := by
  rw [← conj_set h]
  congr 1
  refine ext_nth (by rw [scaleL_len', scaleL_len']) fun i hi => ?_
  rw [scaleL_len'] at hi
  rw [scaleL_nth' hi, scaleL_nth' hi]
  unfold scaleN
  rw [show nth x i * (p - 1) = nth x i * -1 + p * nth x i by grind, Int.add_mul_emod_self_left]
theorem conj_good {p : Int} {n : Nat} {x : List Int} (hp : 1 ≤ p) (h : Good p n x) : Good p n (conjL p x) := by
  refine ⟨by rw [conjL_len, h.1], fun i hi => ?_⟩
  rw [conjL_nth (by rw [h.1]; exact hi)]
  split
  · exact h.2 0 (by omega)
  · exact ⟨Int.emod_nonneg _ (by omega), Int.emod_lt_of_pos _ (by omega)⟩

/-- The product of two elements for n steps. -/
def dblL (p : Int) (st : List Int) : Nat → List Int → List Int → List Int
  | 0, x, y => [nth x 0 * nth y 0 % p]
  | n + 1, x, y =>
    plusL p (dblL p st n (x.take (2 ^ n)) (y.take (2 ^ n))) (dblL p st n (conjL p (y.drop (2 ^ n))) (x.drop (2 ^ n))) (nth st n) (2 ^ n) ++
    plusL p (dblL p st n (y.drop (2 ^ n)) (x.take (2 ^ n))) (dblL p st n (x.drop (2 ^ n)) (conjL p (y.take (2 ^ n)))) 1 (2 ^ n)
theorem tk_nth {x : List Int} {n i : Nat} (h : i < n) : nth (x.take n) i = nth x i := by
  unfold nth
  rw [List.getD_eq_getElem?_getD, List.getD_eq_getElem?_getD, List.getElem?_take, if_pos h]
theorem dp_nth {x : List Int} {n i : Nat} : nth (x.drop n) i = nth x (n + i) := by
  unfold nth
  rw [List.getD_eq_getElem?_getD, List.getD_eq_getElem?_getD, List.getElem?_drop]
theorem tk_good {p : Int} {n : Nat} {x : List Int} (h : Good p (n + n) x) : Good p n (x.take n) :=
  ⟨by rw [List.length_take, h.1]; omega, fun i hi => by rw [tk_nth hi]; exact h.2 i (by omega)⟩
theorem dp_good {p : Int} {n : Nat} {x : List Int} (h : Good p (n + n) x) : Good p n (x.drop n) :=
  ⟨by rw [List.length_drop, h.1]; omega, fun i hi => by rw [dp_nth]; exact h.2 (n + i) (by omega)⟩
theorem plus_goodN {p : Int} {x y : List Int} {k : Int} {n : Nat} (hp : 1 ≤ p) : Good p n (plusL p x y k n) :=
  ⟨plusL_len .., fun i hi => by rw [plusL_nth hi]; exact ⟨Int.emod_nonneg _ (by omega), Int.emod_lt_of_pos _ (by omega)⟩⟩
theorem cat_good {p : Int} {n : Nat} {x y : List Int} (hx : Good p n x) (hy : Good p n y) : Good p (n + n) (x ++ y) := by
  refine ⟨by rw [List.length_append, hx.1, hy.1], fun i hi => ?_⟩
  unfold nth
  rw [List.getD_eq_getElem?_getD]
  by_cases hlt : i < n
  · rw [List.getElem?_append_left (by rw [hx.1]; exact hlt), ← List.getD_eq_getElem?_getD]; exact hx.2 i hlt
  · rw [List.getElem?_append_right (by rw [hx.1]; omega), hx.1, ← List.getD_eq_getElem?_getD]; exact hy.2 (i - n) (by omega)
theorem two_pow_add (n : Nat) : 2 ^ (n + 1) = 2 ^ n + 2 ^ n := by rw [Nat.pow_succ]; omega
theorem dbl_good {p : Int} {st : List Int} (hp : 1 ≤ p) : ∀ (n : Nat) (x y : List Int), Good p (2 ^ n) (dblL p st n x y)
  | 0, x, y => ⟨rfl, fun i hi => by
      have : i = 0 := by simpa using hi
      subst this
      exact ⟨Int.emod_nonneg _ (by omega), Int.emod_lt_of_pos _ (by omega)⟩⟩
  | n + 1, x, y => by
    rw [two_pow_add]
    exact cat_good (plus_goodN hp) (plus_goodN hp)
theorem dbl_take {p : Int} {st : List Int} {n m : Nat} (h : n ≤ m) : ∀ x y : List Int, dblL p (st.take m) n x y = dblL p st n x y := by
  induction n with
  | zero => intro x y; rfl
  | succ n ih =>
    intro x y
    unfold dblL
    rw [ih (by omega), ih (by omega), ih (by omega), ih (by omega), tk_nth (by omega)]

theorem OwnC.capLe {B : Nat} {w : World} {a : Option Addr} {n cap : Nat} {xs : List Int} (h : OwnC B w a n cap xs) (hn : 0 < n) : n ≤ cap := by
  obtain ⟨_, _, _, _, _, _, h1, _⟩ := h.row hn
  exact h1
/-- Parts of lists that are read. -/
theorem rdC_take {w : World} {a : Option Addr} {n m : Nat} {x : List Int} (h : RdC w a m x) (hn : n ≤ m) : RdC w a n (x.take n) :=
  ⟨by rw [List.length_take, h.1]; omega, fun i hi => by
    obtain ⟨b, o, ha, hc⟩ := h.2 i (by omega)
    exact ⟨b, o, ha, by rw [tk_nth hi]; exact hc⟩⟩
theorem rdC_from {w : World} {b o n m : Nat} {x : List Int} (h : RdC w (some ⟨b, o, none⟩) (n + m) x) : RdC w (some ⟨b, o + n, none⟩) m (x.drop n) :=
  ⟨by rw [List.length_drop, h.1]; omega, fun i hi => by
    obtain ⟨b', o', ha, hc⟩ := h.2 (n + i) (by omega)
    simp only [Option.some.injEq, Addr.mk.injEq] at ha
    obtain ⟨rfl, rfl, _⟩ := ha
    exact ⟨b, o + n, rfl, by rw [dp_nth, Nat.add_assoc]; exact hc⟩⟩
end Go.Proofs.Ythflmmgolegonaa

/-
  Sums and multiples of elements in the reference: contracts.
  No condition.
-/
namespace Go.Proofs.Ythflmmgolegonaa
set_option maxRecDepth 100000
open Go.RowKit

set_option maxHeartbeats 400000 in
theorem s_mod (p n : Int) (w : World) (h1 : 1 ≤ p) (h2 : p ≤ 1000) :
    Calls Try.prog 86 #[.int .i64 p, .int .i64 n] w fun e w' => e = .returned (.int .i64 (n % p)) ∧ Ext w w' := by
  have HE := Lib.hid (num_eq (n := n) h1 h2)
  have hpz : ¬ p = 0 := by omega
  go_enter Try.func86, Try.ntmps86
  go_wp2
  go_ret
  exact ⟨ret_int HE.out, Ext.refl _⟩
set_option maxHeartbeats 1000000 in
theorem s_scale11 (p : Int) (ax : Option Addr) (n cx : Nat) (x : List Int) (k : Int) (w : World) (hp1 : 3 ≤ p) (hp2 : p ≤ 1000) (hk : -1000 ≤ k ∧ k ≤ 1000) (hn : n ≤ 4194303) (hx : RdC w ax n x) (hgx : Good p n x) :
    Calls Try.prog 72 #[.int .i64 p, .int .i64 k, .slice ax n cx] w fun e w' => ∃ g rc, e = .returned (.slice (some ⟨g, 0, none⟩) n rc) ∧ OwnC w.heap.size w' (some ⟨g, 0, none⟩) n rc (scaleL p x k n) ∧ Ext w w' := by
  have HX := Lib.hid hx
  have HGX := Lib.hid hgx
  clear hx hgx
  go_enter Try.func72, Try.ntmps72
  go_wp2_with (fail)
  go_loopw [7, 8] (fun v i wr => ∃ (j g rc : Nat), j ≤ n ∧ i = .int .i64 j ∧ v = .slice (some ⟨g, 0, none⟩) j rc ∧ OwnC w.heap.size wr (some ⟨g, 0, none⟩) j rc (scaleL p x k j) ∧ Ext w wr) (fun _ i _ => n - (intOf i).toNat)
  case atStart => exact ⟨0, _, _, Nat.zero_le _, rfl, rfl, own_empty w, ext_alloc _ _⟩
  case round =>
    obtain ⟨j, g, rc, hj, rfl, rfl, hown, hext⟩ := hrel
    have HOwn := Lib.hid hown
    have HExt := Lib.hid hext
    clear hown hext
    by_cases hlt : j < n
    · obtain ⟨bx, ox, rfl, hcx⟩ := HX.out.2 j hlt
      have hcx' := HExt.out.cell hcx
      have hbx := HGX.out.2 j hlt
      have hkb := kmul_bd hk hbx.1 (show nth x j ≤ 1000 by omega)
      have hw1 : IntKind.i64.wrap (k * nth x j) = k * nth x j := IntWalk.i64_in _ (by omega)
      have HP := Lib.hid (show (k * nth x j) % p = scaleN p x k j by unfold scaleN; rw [Int.mul_comm])
      clear hcx
      go_wp2_with (first | (go_at_call 86; refine (s_mod _ _ _ (by omega) hp2).mono ?_; rintro e w2 ⟨rfl, g2⟩; rw [HP.out]; have G2 := Lib.hid g2; clear g2) | (at_builtin; refine wpList_push rfl (.tmp 16) (.tmp 25) rfl rfl rfl (v := scaleN p x k j) (HOwn.out.ext (G2.out.trans (ext_alloc _ _))) ?hc ?hn ?hB ?hk))
      case hc => simp
      case hn => omega
      case hB => have hz := (HExt.out.trans G2.out).size'; simp; omega
      case hk =>
        intro g' cap' w3 ho3 hg3 he3
        have HO3 := Lib.hid ho3
        have HE3 := Lib.hid (he3 w (Nat.le_refl _) ((HExt.out.trans G2.out).alloc _))
        clear ho3 hg3 he3
        go_wp2_with (fail)
        go_roundw
        case rel => exact ⟨j + 1, g', cap', by omega, by go_num, rfl, by rw [scaleL_succ]; exact HO3.out, HE3.out⟩
        case measure => simp [intOf]; omega
    · go_wp2_with (fail)
      go_ret
      obtain rfl : j = n := by omega
      exact ⟨g, rc, rfl, HOwn.out, HExt.out⟩
set_option maxHeartbeats 1000000 in
theorem s_add11 (p : Int) (ax ay : Option Addr) (n cx cy : Nat) (x y : List Int) (w : World) (hp1 : 3 ≤ p) (hp2 : p ≤ 1000) (hn : n ≤ 4194303) (hx : RdC w ax n x) (hy : RdC w ay n y) (hgx : ∀ i, i < n → 0 ≤ nth x i ∧ nth x i ≤ 1000) (hgy : Good p n y) :
    Calls Try.prog 71 #[.int .i64 p, .slice ax n cx, .slice ay n cy] w fun e w' => ∃ g rc, e = .returned (.slice (some ⟨g, 0, none⟩) n rc) ∧ OwnC w.heap.size w' (some ⟨g, 0, none⟩) n rc (plusL p x y 1 n) ∧ Ext w w' := by
  have HX := Lib.hid hx
  have HY := Lib.hid hy
  have HGX := Lib.hid hgx
  have HGY := Lib.hid hgy
  clear hx hy hgx hgy
  go_enter Try.func71, Try.ntmps71
  go_wp2_with (fail)
  go_loopw [7, 8] (fun v i wr => ∃ (j g rc : Nat), j ≤ n ∧ i = .int .i64 j ∧ v = .slice (some ⟨g, 0, none⟩) j rc ∧ OwnC w.heap.size wr (some ⟨g, 0, none⟩) j rc (plusL p x y 1 j) ∧ Ext w wr) (fun _ i _ => n - (intOf i).toNat)
  case atStart => exact ⟨0, _, _, Nat.zero_le _, rfl, rfl, own_empty w, ext_alloc _ _⟩
  case round =>
    obtain ⟨j, g, rc, hj, rfl, rfl, hown, hext⟩ := hrel
    have HOwn := Lib.hid hown
    have HExt := Lib.hid hext
    clear hown hext
    by_cases hlt : j < n
    · obtain ⟨bx, ox, rfl, hcx⟩ := HX.out.2 j hlt
      obtain ⟨by', oy, rfl, hcy⟩ := HY.out.2 j hlt
      have Hcx := Lib.hid ((HExt.out.trans (ext_drew _)).cell hcx)
      have Hcy := Lib.hid ((HExt.out.trans (ext_drew _)).cell hcy)
      have hbx := HGX.out j hlt
      have hby := HGY.out.2 j hlt
      have hw2 : IntKind.i64.wrap (nth x j + nth y j) = nth x j + nth y j := IntWalk.i64_in _ (by omega)
      have HP := Lib.hid (show (nth x j + nth y j) % p = plusN p x y 1 j by unfold plusN; rw [Int.one_mul])
      clear hcx hcy
      go_wp2_with (fail)
      refine wp_region_lex_tail 13 [(11, .val (.int .i64 (plusN p x y 1 j))), (12, .one (plusN p x y 1 j))] (by kernel_rfl) (by kernel_rfl) ?_
      simp only [List.take, List.drop]
      repeat' first | (refine LexW.pure (v := ?_) rfl rfl (fun w1 he => ?_) ?_; rotate_left; ( have e3 := he.cell Hcx.out; have e4 := he.cell Hcy.out; go_simp; rfl); simp only [Act.put, List.setIfInBounds_toArray, List.set_cons_zero, List.set_cons_succ]) | (refine LexW.call (f := ?_) (args := ?_) rfl rfl (fun w1 => ?_) (fun w1 he hdep => ?_) ?_; rotate_left 2; (go_simp; refine ⟨?_, ?_⟩ <;> rfl); ( rw [← HP.out]; exact s_mod _ _ _ (by omega) hp2); simp only [Act.put, List.setIfInBounds_toArray, List.set_cons_zero, List.set_cons_succ]) | ((refine LexW.rel rfl rfl (fun w1 he hdep => ?_) (fun v hv => ?_); ( exact ⟨.slice (some ⟨w1.heap.size, 0, none⟩) 1 1, w1.alloc (.cells #[.int .i64 (plusN p x y 1 j)] 2), (by go_simp), ext_alloc _ _, _, rfl, (by simp)⟩); simp only [Act.put, List.setIfInBounds_toArray, List.set_cons_zero, List.set_cons_succ]); obtain ⟨_, g9, rfl, _⟩ := hv)
      refine LexW.nil (fun w2 he hkn => ?_)
      obtain ⟨_, q9, r9⟩ : (SPred.one (plusN p x y 1 j)).holds (.slice (some ⟨g9, 0, none⟩) 1 1) w2 := hkn (12, _) (by simp)
      cases q9
      have G2 := Lib.hid ((ext_drew _).trans he)
      have R9 := Lib.hid r9
      clear he hkn r9
      go_wp2_with (at_builtin; refine wpList_push rfl (.tmp 16) (.tmp 28) rfl rfl rfl (v := plusN p x y 1 j) (HOwn.out.ext G2.out) ?hc ?hn ?hB ?hk)
      case hc => exact R9.out
      case hn => omega
      case hB => exact (HExt.out.trans G2.out).size'
      case hk =>
        intro g' cap' w3 ho3 hg3 he3
        have HO3 := Lib.hid ho3
        have HE3 := Lib.hid (he3 w (Nat.le_refl _) (HExt.out.trans G2.out))
        clear ho3 hg3 he3
        go_wp2_with (fail)
        go_roundw
        case rel => exact ⟨j + 1, g', cap', by omega, by go_num, rfl, by rw [plusL_succ]; exact HO3.out, HE3.out⟩
        case measure => simp [intOf]; omega
    · go_wp2_with (fail)
      go_ret
      obtain rfl : j = n := by omega
      exact ⟨g, rc, rfl, HOwn.out, HExt.out⟩
theorem scale_plus {p : Int} {x y : List Int} {n : Nat} : plusL p x (scaleL p y (p - 1) n) 1 n = plusL p x y (-1) n := by
  unfold plusL
  refine List.map_congr_left fun i hi => ?_
  have hi' : i < n := List.mem_range.1 hi
  unfold plusN
  rw [scaleL_nth hi', scaleN, Int.one_mul, Int.add_emod_emod, show nth y i * (p - 1) = -1 * nth y i + p * nth y i by rw [Int.mul_sub, Int.mul_comm p]; omega, ← Int.add_assoc, Int.add_mul_emod_self_left]
set_option maxHeartbeats 400000 in
theorem s_minus11 (p : Int) (ax ay : Option Addr) (n cx cy : Nat) (x y : List Int) (w : World) (hp1 : 3 ≤ p) (hp2 : p ≤ 1000) (hn : n ≤ 4194303) (hx : RdC w ax n x) (hy : RdC w ay n y) (hgx : ∀ i, i < n → 0 ≤ nth x i ∧ nth x i ≤ 1000) (hgy : Good p n y) :
    Calls Try.prog 48 #[.int .i64 p, .slice ax n cx, .slice ay n cy] w fun e w' => ∃ g rc, e = .returned (.slice (some ⟨g, 0, none⟩) n rc) ∧ OwnC w.heap.size w' (some ⟨g, 0, none⟩) n rc (plusL p x y (-1) n) ∧ Ext w w' := by
  have hw1 : IntKind.i64.wrap (p - 1) = p - 1 := IntWalk.i64_in _ (by omega)
  have HX := Lib.hid hx
  have HY := Lib.hid hy
  have HGX := Lib.hid hgx
  have HGY := Lib.hid hgy
  clear hx hy hgx hgy
  go_enter Try.func48, Try.ntmps48
  go_wp2_with (first | (go_at_call 72; refine (s_scale11 p ay n cy y (p - 1) _ hp1 hp2 (by omega) hn HY.out HGY.out).mono ?_; rintro e w1 ⟨g1, r1, rfl, ho1, x1⟩; have HO1 := Lib.hid ho1; have X1 := Lib.hid x1; clear ho1 x1) | (go_at_call 71; refine (s_add11 p ax _ n cx _ x (scaleL p y (p - 1) n) _ hp1 hp2 hn (HX.out.ext X1.out) HO1.out.rd HGX.out (scale_good (by omega))).mono ?_; rintro e w2 ⟨g2, r2, rfl, ho2, x2⟩; rw [scale_plus] at ho2; have HO2 := Lib.hid ho2; have X2 := Lib.hid x2; clear ho2 x2))
  go_ret
  exact ⟨g2, r2, rfl, HO2.out.mono X1.out.size, X1.out.trans X2.out⟩
end Go.Proofs.Ythflmmgolegonaa

/-
  A region whose first two operations (an address, a load) may be carried out at any time while an invariant of the worlds holds: they are carried out first; its last operations go one after another and may write.
  No condition. General over every program.
-/
namespace Go.Proofs.Ythflmmgolegonaa
set_option maxRecDepth 100000
open Go.RowKit

section
variable {P : Program} {ops : Array Oper} {md : Region.Mode} {Q : Exit → Act → World → Prop} {I : World → Prop}

variable (P md ops Q I) in
/-- Whatever order is picked; the invariant holds of each world on the way. -/
def wpAnyI : Nat → Array Bool → Act → World → Prop
  | 0, listed, a, w => I w ∧ Region.ready md ops listed = [] ∧ Q .normal a w
  | f + 1, listed, a, w => I w ∧ (Region.ready md ops listed = [] → Q .normal a w) ∧ ∀ i ∈ Region.ready md ops listed, wpOp P ops Q i (wpAnyI f (listed.setIfInBounds i true)) a w
theorem wpAnyI.inv : ∀ {f : Nat} {listed : Array Bool} {a : Act} {w : World}, wpAnyI P ops md Q I f listed a w → I w
  | 0, _, _, _, h => h.1
  | _ + 1, _, _, _, h => h.1
theorem wpAnyI.plain : ∀ (f : Nat) (listed : Array Bool) (a : Act) (w : World), wpAnyI P ops md Q I f listed a w → wpAny P md ops Q f listed a w
  | 0, _, _, _, h => h.2
  | f + 1, _, _, _, h => ⟨h.2.1, fun i hi => wpOp_mono (fun a w => wpAnyI.plain f _ a w) (h.2.2 i hi)⟩

variable (P ops I) in
/-- The operation yields this value in every world of which the invariant holds. -/
def YieldsI (o : Oper) (v : Value) (a : Act) : Prop := Region.wanted o (yielded ops a.tmps) = true ∧ ∀ w, I w → (execOp a.eval o).run P w = .ok (.value v) w
theorem YieldsI.wpOp {i : Nat} {o : Oper} {v : Value} {a : Act} (hi : ops[i]? = some o) (hy : YieldsI P ops I o v a) {K : Act → World → Prop} {w : World} (hI : I w) (h : K (a.put o.dst v) w) : wpOp P ops Q i K a w := by
  unfold Go.wpOp
  simp only [hi]
  simp only [hy.1, if_true, Oper.wp, hy.2 w hI, Oper.upon]
  exact .inl h
theorem YieldsI.of_same {o : Oper} {v : Value} {a a' : Act} (hy : YieldsI P ops I o v a) (he : execOp a'.eval o = execOp a.eval o) (hw : Region.wanted o (yielded ops a'.tmps) = Region.wanted o (yielded ops a.tmps)) : YieldsI P ops I o v a' := by
  unfold YieldsI at *
  rw [he, hw]
  exact hy

theorem wpOp_putI {j : Nat} {oi oj : Oper} {v : Value} (hj : ops[j]? = some oj) (hap : oi.apart ops oj = true) (hsi : ∀ cs b, oi.op ≠ .select cs b) (hsj : ∀ cs b, oj.op ≠ .select cs b)
    (hQ : ∀ c a w, Q (.panic c) (a.put oi.dst v) w → Q (.panic c) a w) {K : Act → World → Prop} {a : Act} {w : World} (hy : YieldsI P ops I oi v a) (h : wpOp P ops Q j K (a.put oi.dst v) w) :
    wpOp P ops Q j (fun a' w' => YieldsI P ops I oi v a' ∧ K (a'.put oi.dst v) w') a w := by
  obtain ⟨h1, h2, h3⟩ := Oper.apart_spec hap
  have keep : ∀ (a : Act), YieldsI P ops I oi v a → ∀ u, YieldsI P ops I oi v (a.put oj.dst u) := fun a hy u => hy.of_same (execOp_put oi hsi a oj.dst u h3) (wanted_put oi a oj.dst u h3)
  have keepD : ∀ d, YieldsI P ops I oi v { a with defers := d :: a.defers } := fun d => hy.of_same rfl rfl
  unfold wpOp at *
  simp only [hj] at *
  rw [wanted_put oj a oi.dst v h1] at h
  split
  · rename_i hw
    simp only [hw, if_true] at h
    rcases h with h | ⟨hasks, hlets⟩
    · refine .inl ?_
      unfold Oper.wp at *
      rw [execOp_put oj hsj a oi.dst v h1] at h
      generalize (execOp a.eval oj).run P w = r at *
      cases r with
      | ok n w' =>
        cases n <;> simp only [Oper.upon] at h ⊢
        case value u => exact ⟨keep a hy u, by rw [← Act.put_comm a v u h2]; exact h⟩
        case skip => exact ⟨keep a hy _, by rw [← Act.put_comm a v undef h2]; exact h⟩
        case defer d => exact ⟨keep _ (keepD d) _, by rw [← Act.put_comm _ v undef h2, ← Act.put_defers]; exact h⟩
        case enter f args =>
          refine Calls.mono h fun e w'' he => ?_
          cases e with
          | returned u => exact ⟨keep a hy u, by rw [← Act.put_comm a v u h2]; exact he⟩
          | panicked c => exact hQ _ _ _ he
          | outgrown => exact he
        case row row args => exact Rows.mono h fun u w'' he => ⟨keep a hy u, by rw [← Act.put_comm a v u h2]; exact he⟩
      | halt x w' =>
        cases x <;> simp only [Oper.upon] at h ⊢
        case panic u => exact hQ _ _ _ h
    · exact .inr ⟨by unfold Oper.asks at *; rw [execOp_put oj hsj a oi.dst v h1] at hasks; exact hasks, hlets⟩
  · rename_i hw
    simp only [hw] at h
    exact ⟨keep a hy _, by rw [← Act.put_comm a v undef h2]; exact h⟩

theorem wpAnyI_first {i : Nat} {oi : Oper} {v : Value} (hi : ops[i]? = some oi) (hsel : ∀ (j : Nat) (o : Oper) cs b, ops[j]? = some o → o.op ≠ .select cs b)
    (hQ : ∀ c a w, Q (.panic c) (a.put oi.dst v) w → Q (.panic c) a w) :
    ∀ (f : Nat) (listed : Array Bool) (a : Act) (w : World),
      (∀ j oj, ops[j]? = some oj → j ≠ i → listed.getD j true = false → (∀ e ∈ oj.after, Region.binds md e = true → e.on ≠ i) → oi.apart ops oj = true) →
      i ∈ Region.ready md ops listed → YieldsI P ops I oi v a →
      wpAnyI P ops md Q I f (listed.setIfInBounds i true) (a.put oi.dst v) w → wpAnyI P ops md Q I (f + 1) listed a w := by
  intro f
  induction f with
  | zero =>
    intro listed a w _ hr hy H
    refine ⟨H.1, fun h => (by rw [h] at hr; cases hr), fun j hj => ?_⟩
    by_cases hji : j = i
    · subst hji; exact hy.wpOp hi H.1 H
    · have := ready_mono hj hji
      rw [H.2.1] at this
      cases this
  | succ f ih =>
    intro listed a w hfree hr hy H
    refine ⟨H.1, fun h => (by rw [h] at hr; cases hr), fun j hj => ?_⟩
    by_cases hji : j = i
    · subst hji; exact hy.wpOp hi H.1 H
    · have h1 := H.2.2 j (ready_mono hj hji)
      obtain ⟨hjun, oj, hoj, hall⟩ := mem_ready.1 hj
      have hnot : ∀ e ∈ oj.after, Region.binds md e = true → e.on ≠ i := fun e he hb heq => by
        have h1 := hall e he hb
        have h0 := (mem_ready.1 hr).1
        rw [heq, getD_both h0] at h1
        cases h1
      have h2 := wpOp_putI hoj (hfree j oj hoj hji hjun hnot) (fun cs b => hsel i oi cs b hi) (fun cs b => hsel j oj cs b hoj) hQ hy h1
      refine wpOp_mono (fun a' w' h3 => ih (listed.setIfInBounds j true) a' w' (fun k ok hk hki hun hno => ?_) (ready_mono hr (Ne.symm hji)) h3.1 ?_) h2
      · refine hfree k ok hk hki ?_ hno
        by_cases hjk : j = k
        · subst hjk; exact hjun
        · rw [getD_set_ne true hjk] at hun; exact hun
      · rw [Array.setIfInBounds_comm _ _ hji]
        exact h3.2

variable (P ops Q I) in
/-- Operations one after another; the invariant holds of each world on the way. -/
def wpListI : List Oper → Act → World → Prop
  | [], a, w => I w ∧ Q .normal a w
  | o :: l, a, w => I w ∧ Region.wanted o (yielded ops a.tmps) = true ∧ o.wp P a w (wpListI l) Q
theorem wpListI.value {o : Oper} {l : List Oper} {a : Act} {w w' : World} {v : Value} (hI : I w) (hw : Region.wanted o (yielded ops a.tmps) = true) (hr : (execOp a.eval o).run P w = .ok (.value v) w') (h : wpListI P ops Q I l (a.put o.dst v) w') : wpListI P ops Q I (o :: l) a w :=
  ⟨hI, hw, by unfold Oper.wp; rw [hr]; exact h⟩
theorem wpListI.skip {o : Oper} {l : List Oper} {a : Act} {w w' : World} (hI : I w) (hw : Region.wanted o (yielded ops a.tmps) = true) (hr : (execOp a.eval o).run P w = .ok .skip w') (h : wpListI P ops Q I l (a.put o.dst undef) w') : wpListI P ops Q I (o :: l) a w :=
  ⟨hI, hw, by unfold Oper.wp; rw [hr]; exact h⟩
theorem wpAnyI_of_seq : ∀ (l : List Oper) (k : Nat) (listed : Array Bool) (a : Act) (w : World), (∀ j, l[j]? = ops[k + j]?) →
    Region.seqB md ops l.length k listed = true → wpListI P ops Q I l a w → wpAnyI P ops md Q I l.length listed a w
  | [], _, _, _, _, _, hB, h => ⟨h.1, by simpa [Region.seqB] using hB, h.2⟩
  | o :: l, k, listed, a, w, hl, hB, h => by
    have h0 : ops[k]? = some o := by simpa using (hl 0).symm
    simp only [List.length_cons, Region.seqB, Bool.and_eq_true, decide_eq_true_eq] at hB
    refine ⟨h.1, fun h1 => (by rw [hB.1] at h1; cases h1), fun i hi => ?_⟩
    rw [hB.1] at hi
    have hik : i = k := by simpa using hi
    subst hik
    have hw : wpOp P ops Q i (wpListI P ops Q I l) a w := by unfold wpOp; simp only [h0, h.2.1, if_true]; exact .inl h.2.2
    exact wpOp_mono (fun a' w' h' => wpAnyI_of_seq l (i + 1) _ a' w' (fun j => by have := hl (j + 1); simpa [Nat.add_assoc, Nat.add_comm 1 j] using this) hB.2 h') hw

theorem AnyR.soundI {w0 : World} {sp : Nat → Option SPred} {n g : Nat} {L : Array Bool → Act → World → Prop} (hI : ∀ w, Ext w0 w → I w) (hL : ∀ listed a w, L listed a w → wpAnyI P ops md Q I g listed a w) :
    ∀ (f : Nat) (listed : Array Bool) (a : Act) (env : List (Nat × Value)) (w : World), Ext w0 w → Known sp env w → AnyR P ops md w0 sp n L f listed a env → wpAnyI P ops md Q I (f + g) listed a w
  | 0, _, _, _, w, he, hk, h => by rw [Nat.zero_add]; exact hL _ _ _ (h w he hk)
  | f + 1, listed, a, env, w, he, hk, h => by
    rw [show f + 1 + g = (f + g) + 1 by omega]
    refine ⟨hI w he, fun h0 => absurd h0 h.1, fun i hi => ?_⟩
    unfold wpOp
    split
    · rename_i hn
      obtain ⟨_, o, ho, _⟩ := mem_ready.1 hi
      rw [hn] at ho; cases ho
    · rename_i o ho
      obtain ⟨hc, hr⟩ := (h.2 i hi).2 o ho
      unfold Can at hc
      cases hp : sp i with
      | none =>
        rw [hp] at hc
        obtain ⟨v, hv⟩ := hc
        have hk' : Known sp ((i, v) :: env) w := hk.cons (by rw [hp]; trivial)
        have hres : Res P ops w0 sp i o a env v := by unfold Res; rw [hp]; exact hv
        have hnext := AnyR.soundI hI hL f _ _ _ w he hk' (hr v hres)
        rcases hv with ⟨hw, hrun⟩ | ⟨hw, rfl⟩
        · rw [if_pos hw]
          refine .inl ?_
          unfold Oper.wp
          rw [hrun w he]
          exact hnext
        · rw [if_neg (by rw [hw]; decide)]
          exact hnext
      | some p =>
        rw [hp] at hc
        obtain ⟨hw, hd, hrr⟩ := hc
        rw [if_pos hw]
        refine .inl (wp_of_wpS (hrr w he (hk.dep hd)) fun v w' ⟨he', hv⟩ => ?_)
        exact AnyR.soundI hI hL f _ _ _ w' (he.trans he') ((hk.ext he').cons (by rw [hp]; exact hv)) (hr v (by unfold Res; rw [hp]; exact ⟨w', he.trans he', hk.ext he', hv⟩))
end

def Region.tail2B (ops : Array Oper) (n N : Nat) : Bool :=
  Region.noSelect ops && decide (n < ops.size) && decide (2 ≤ n) && Region.sinkB1 .any ops 2 n && Region.chainB .any ops n && ((Region.ready .any ops (Array.replicate ops.size false)).contains 0 && Region.free .any ops (Array.replicate ops.size false) 0) &&
    ((Region.ready .any ops ((Array.replicate ops.size false).setIfInBounds 0 true)).contains 1 && Region.free .any ops ((Array.replicate ops.size false).setIfInBounds 0 true) 1) &&
    Region.lexHead .any ops (ops.size - n) (n - 2) 2 (((Array.replicate ops.size false).setIfInBounds 0 true).setIfInBounds 1 true) && ssaB ops && dstB ops N

/-- The first two operations yield their values wherever the invariant holds; the operations from number n on go one after another behind all others but these. -/
theorem wp_region_lex_tail2 {P : Program} {id : Nat} {Q : Exit → Act → World → Prop} {a : Act} {w : World} {o0 o1 : Oper} {l : List Oper} (n : Nat) (sps : List (Nat × SPred)) (v0 v1 : Value) (I : World → Prop) (hm : P.follows .mixedOrders = true)
    (hB : Region.tail2B (o0 :: o1 :: l).toArray n a.tmps.size = true) (hsp0 : spOf sps 0 = none) (hsp1 : spOf sps 1 = none) (hI : ∀ w', Ext w.drew w' → I w')
    (hy0 : YieldsI P (o0 :: o1 :: l).toArray I o0 v0 a) (hy1 : YieldsI P (o0 :: o1 :: l).toArray I o1 v1 (a.put o0.dst v0))
    (h : LexW P (o0 :: o1 :: l).toArray w.drew (spOf sps) (fun a' w' => wpListI P (o0 :: o1 :: l).toArray (strictQ Q) I ((o0 :: o1 :: l).drop n) a' w') (((o0 :: o1 :: l).take n).drop 2) 2 ((a.put o0.dst v0).put o1.dst v1) [(1, v1), (0, v0)]) : (Code.region id (o0 :: o1 :: l).toArray true).wp P Q a w := by
  simp only [Region.tail2B, Bool.and_eq_true, decide_eq_true_eq] at hB
  obtain ⟨⟨⟨⟨⟨⟨⟨⟨⟨hsel, hn⟩, hn1⟩, hs⟩, hc⟩, hr0, hf0⟩, hr1, hf1⟩, hlex⟩, hssa⟩, hdst⟩ := hB
  obtain ⟨ops, hops⟩ : ∃ ops, ops = (o0 :: o1 :: l).toArray := ⟨_, rfl⟩
  have h0 : ops[0]? = some o0 := by rw [hops]; simp
  have h1 : ops[1]? = some o1 := by rw [hops]; simp
  rw [← hops] at hn hsel hs hc hr0 hf0 hr1 hf1 hlex hssa hdst hy0 hy1 h ⊢
  have hsize : ops.size = l.length + 2 := by rw [hops]; simp
  obtain ⟨L, hL⟩ : ∃ L, L = o0 :: o1 :: l := ⟨_, rfl⟩
  have hLl : L.length = ops.size := by rw [hL, hsize]; simp
  rw [← hL] at h
  have hget : ∀ j, L[j]? = ops[j]? := fun j => by rw [hL, hops, List.getElem?_toArray]
  have htl : ((L.take n).drop 2).length = n - 2 := by simp; omega
  have hdl : (L.drop n).length = ops.size - n := by simp; omega
  have inv0 : HeadInv .any ops n (Array.replicate ops.size false) := by rw [hops]; exact headInv0 _ n
  have inv1 := inv0.set (by simpa using hr0) (show 0 < n by omega)
  have inv2 := inv1.set (by simpa using hr1) (show 1 < n by omega)
  have linv : LexInv ops a.tmps.size 2 ((a.put o0.dst v0).put o1.dst v1) [(1, v1), (0, v0)] := ((lexInv0 (ops := ops) a.tmps.size a rfl).step h0 hdst v0).step h1 hdst v1
  have hk1 : Known (spOf sps) [(1, v1), (0, v0)] w.drew := fun p hp => by
    simp only [List.mem_cons, List.not_mem_nil, or_false] at hp
    rcases hp with rfl | rfl
    · simp only [hsp1, holdsO]
    · simp only [hsp0, holdsO]
  have hR := LexW.lexR hssa hdst _ 2 _ _ (fun j hj => by
    rw [htl] at hj
    rw [List.getElem?_drop, List.getElem?_take_of_lt (by omega), hget]) linv h
  have H := LexR.any1 (md := .any) (m := 2) (n := n) (B := fun listed => Region.seqB .any ops (ops.size - n) n listed) hsel
    (fun i hi1 hin listed inv hun j hj => by
      rcases Nat.lt_or_ge j n with h | h
      · exact h
      · exact absurd hj (tail_waits1 hs hc hn inv _ i rfl hi1 hin hun j h))
    (fun listed hb => seqB_ready hb)
    (fun f k listed => Region.lexHead .any ops (ops.size - n) f k listed) (fun listed hh => by simpa [Region.lexHead] using hh)
    (fun f k listed hh => by simpa [Region.lexHead] using hh) ((L.take n).drop 2) 2 _ _ [(1, v1), (0, v0)] (Nat.le_refl _) (fun j hj => by
      rw [htl] at hj
      rw [List.getElem?_drop, List.getElem?_take_of_lt (by omega), hget]) (by rw [htl]; omega) inv2 ⟨w.drew, Ext.refl _, hk1⟩ (by rw [htl]; exact hlex) hR
  refine wp_region_any hm ?_
  have S := AnyR.soundI (Q := strictQ Q) (I := I) (g := ops.size - n) hI (fun listed a' w' hL' => by
    have := wpAnyI_of_seq (md := .any) (Q := strictQ Q) (I := I) (L.drop n) n listed a' w' (fun j => by rw [List.getElem?_drop, hget]) (by rw [hdl]; exact hL'.1) hL'.2
    rwa [hdl] at this) _ _ _ _ w.drew (Ext.refl _) hk1 H
  rw [htl, show n - 2 + (ops.size - n) = ops.size - 2 by omega] at S
  have T1 := wpAnyI_first (md := .any) (Q := strictQ Q) (I := I) h1 (Region.noSelect_spec hsel) (fun c a w hq => absurd hq.1 (by simp)) (ops.size - 2) ((Array.replicate ops.size false).setIfInBounds 0 true) (a.put o0.dst v0) w.drew (Region.free_spec h1 hf1) (by simpa using hr1) hy1 S
  rw [show ops.size - 2 + 1 = ops.size - 1 by omega] at T1
  have T0 := wpAnyI_first (md := .any) (Q := strictQ Q) (I := I) h0 (Region.noSelect_spec hsel) (fun c a w hq => absurd hq.1 (by simp)) (ops.size - 1) (Array.replicate ops.size false) a w.drew (Region.free_spec h0 hf0) (by simpa using hr0) hy0 T1
  rw [show ops.size - 1 + 1 = ops.size by omega] at T0
  exact wpAny_strict _ _ _ _ (wpAnyI.plain _ _ _ _ T0)

end Go.Proofs.Ythflmmgolegonaa

/-
  The extension of a space, infinity: contracts.
  No condition.
-/
namespace Go.Proofs.Ythflmmgolegonaa
set_option maxRecDepth 100000
open Go.RowKit

/-- The squares of the extension. -/
def extL (p : Int) (qs : List Int) : List Int := qs ++ [1, p - 1]
theorem extL_len (p : Int) (qs : List Int) : (extL p qs).length = qs.length + 2 := by simp [extL]
theorem extL_isB {p : Int} {qs : List Int} (hp : 3 ≤ p) (h : isB p qs = true) : isB p (extL p qs) = true := by
  unfold isB at h ⊢
  unfold extL
  rw [List.all_append, h]
  simp [inB]; omega
/-- Infinity. -/
def infL (d : Nat) : List Int := List.replicate d 0 ++ [1, 1]

theorem wpListI_appendAll {ops : Array Oper} {rest : List Oper} {o : Oper} {a : Act} {Q : Exit → Act → World → Prop} {I : World → Prop} {w : World} (hI : I w) (hwd : Region.wanted o (yielded ops a.tmps) = true) (s x : Operand)
    (ho : o.op = .call { callee := .builtin .append, args := #[s, x], argTypes := #[22, 22] })
    {B : Nat} {ra : Option Addr} {n cap : Nat} {xs : List Int} {b off m c : Nat} {ys : List Int} (hs : a.eval s = .slice ra n cap) (hx : a.eval x = .slice (some ⟨b, off, none⟩) m c)
    (hown : OwnC B w ra n cap xs) (hy : RdC w (some ⟨b, off, none⟩) m ys) (hm : 0 < m) (hn : n ≤ 4194304) (hml : m ≤ 4194304) (hB : B ≤ w.heap.size)
    (h : ∀ g' cap' w', OwnC B w' (some ⟨g', 0, none⟩) (n + m) cap' (xs ++ ys) → (∀ W : World, W.heap.size ≤ B → Ext W w → Ext W w') →
      wpListI Try.prog ops Q I rest (a.put o.dst (.slice (some ⟨g', 0, none⟩) (n + m) cap')) w') : wpListI Try.prog ops Q I (o :: rest) a w := by
  obtain ⟨g', cap', w', hr, h1, h2, h3⟩ := run_appendAll hown hy hm hn hml hB o.type (c := c)
  refine wpListI.value (v := .slice (some ⟨g', 0, none⟩) (n + m) cap') hI hwd ?_ (h g' cap' w' h1 h3)
  unfold execOp
  simp only [ho, resolve, invoke, builtin, Sem.run_bind, Sem.run_pure, Result.andThen_ok, List.map_toArray, List.map_cons, List.map_nil, hs, hx, hr]

/-- A row of two numbers. -/
def SPred.two (x y : Int) : SPred := ⟨fun v w => ∃ g, v = .slice (some ⟨g, 0, none⟩) 2 2 ∧ w.cell? ⟨g, 0, none⟩ = some (.int .i64 x) ∧ w.cell? ⟨g, 1, none⟩ = some (.int .i64 y), fun _ _ _ ⟨g, hv, h, h'⟩ he => ⟨g, hv, he.cell h, he.cell h'⟩⟩
theorem rdC_two {w : World} {g : Nat} {x y : Int} (h : w.cell? ⟨g, 0, none⟩ = some (.int .i64 x)) (h' : w.cell? ⟨g, 1, none⟩ = some (.int .i64 y)) : RdC w (some ⟨g, 0, none⟩) 2 [x, y] := by
  refine ⟨rfl, fun i hi => ?_⟩
  have : i = 0 ∨ i = 1 := by omega
  rcases this with rfl | rfl
  · exact ⟨g, 0, rfl, h⟩
  · exact ⟨g, 0, rfl, h'⟩


end Go.Proofs.Ythflmmgolegonaa
