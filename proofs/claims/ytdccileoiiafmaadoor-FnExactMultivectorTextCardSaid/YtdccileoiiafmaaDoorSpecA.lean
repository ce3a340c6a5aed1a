/-
  Contracts: checks of spaces and multivectors in the reference.
  No condition.
-/
import Derived.Test.YtdccileoiiafmaaDoorCheck
namespace Go.Proofs.YtdccileoiiafmaaDoor
set_option maxRecDepth 100000
open Go.RowKit

set_option maxHeartbeats 400000 in
theorem s_prime (p : Int) (w : World) :
    Calls Tryd.prog 31 #[.int .i64 p] w fun e w' => e = .returned (.bool (primeB p)) ∧ Ext w w' := by
  go_enter Tryd.func31, Tryd.ntmps31
  go_wp2
  all_goals go_ret
  all_goals refine ⟨?_, Ext.refl _⟩
  all_goals simp_all [primeB]

set_option maxHeartbeats 400000 in
theorem s_in (n l h : Int) (w : World) :
    Calls Tryd.prog 19 #[.int .i64 n, .int .i64 l, .int .i64 h] w fun e w' => e = .returned (.bool (inB n l h)) ∧ Ext w w' := by
  go_enter Tryd.func19, Tryd.ntmps19
  go_wp2
  all_goals go_ret
  all_goals refine ⟨?_, Ext.refl _⟩
  all_goals simp [inB]; omega

set_option maxHeartbeats 400000 in
theorem s_numbers (p : Int) (a : Option Addr) (n cap : Nat) (xs : List Int) (w : World) (hp1 : 1 ≤ p) (hp2 : p ≤ 1000) (hl : n ≤ 4194304) (hx : RdC w a n xs) :
    Calls Tryd.prog 32 #[.int .i64 p, .slice a n cap] w fun e w' => e = .returned (.bool (isB p xs)) ∧ Ext w w' := by
  obtain ⟨hn, hx⟩ := hx
  have HX := Lib.hid hx
  have HN := Lib.hid hn
  clear hx hn
  go_enter Tryd.func32, Tryd.ntmps32
  go_wp2_with (fail)
  go_loopw [5] (fun i wr => ∃ k : Nat, k ≤ n ∧ i = .int .i64 k ∧ isB p (xs.take k) = true ∧ Ext w wr) (fun i _ => n - (intOf i).toNat)
  case atStart => exact ⟨0, Nat.zero_le _, rfl, rfl, Ext.refl _⟩
  case round =>
    obtain ⟨k, hk, rfl, ht, hext⟩ := hrel
    have HT := Lib.hid ht; clear ht
    by_cases hlt : k < n
    · obtain ⟨b, off, rfl, hc⟩ := HX.out k hlt
      have hc' := hext.cell hc
      clear hc
      have HS := Lib.hid (take_snoc xs k (by rw [HN.out]; omega))
      cases hb : inB (nth xs k) 0 (p - 1)
      · have HB := Lib.hid hb
        go_wp2_with (go_at_call 19; refine (s_in _ _ _ _).mono ?_; rintro e w1 ⟨rfl, h1⟩)
        go_ret
        exact ⟨ret_bool (isB_false (by rw [HN.out]; exact hlt) HB.out).symm, hext.trans h1⟩
      · have HB := Lib.hid hb
        go_wp2_with (go_at_call 19; refine (s_in _ _ _ _).mono ?_; rintro e w1 ⟨rfl, h1⟩)
        go_roundw
        case rel => exact ⟨k + 1, by omega, by go_num, by rw [HS.out, isB_snoc, HT.out, HB.out]; rfl, hext.trans h1⟩
        case measure => simp [intOf]; omega
    · go_wp2_with (fail)
      go_ret
      have hh := HT.out
      rw [List.take_of_length_le (by rw [HN.out]; omega)] at hh
      exact ⟨ret_bool hh.symm, hext⟩

set_option maxHeartbeats 400000 in
theorem s_is (p : Int) (a : Option Addr) (d cap : Nat) (qs : List Int) (w : World) (hl : d ≤ 4194304) (hq : RdC w a d qs) :
    Calls Tryd.prog 18 #[.agg #[.int .i64 p, .slice a d cap]] w fun e w' => e = .returned (.bool (spaceB p qs)) ∧ Ext w w' := by
  cases h1 : primeB p
  · have HF := Lib.hid (show spaceB p qs = false by simp [spaceB, h1])
    have H1 := Lib.hid h1
    clear h1
    go_enter Tryd.func18, Tryd.ntmps18
    go_wp2_with (go_at_call 31; refine (s_prime _ _).mono ?_; rintro e w1 ⟨rfl, g1⟩; rw [H1.out]; have hcc := Ext.cells g1)
    go_ret
    exact ⟨ret_bool HF.out.symm, (ext_alloc _ _).trans g1⟩
  · have H1 := Lib.hid h1
    have hp := prime_bd h1
    clear h1
    cases h2 : inB (d : Int) 1 6
    · have HF := Lib.hid (show spaceB p qs = false by simp [spaceB, hq.1, h2])
      have H2 := Lib.hid h2
      clear h2
      go_enter Tryd.func18, Tryd.ntmps18
      go_wp2_with (first | (go_at_call 31; refine (s_prime _ _).mono ?_; rintro e w1 ⟨rfl, g1⟩; rw [H1.out]; have hcc := Ext.cells g1) | (go_at_call 19; refine (s_in _ _ _ _).mono ?_; rintro e w2 ⟨rfl, g2⟩; rw [H2.out]; have hcc2 := Ext.cells (g1.trans g2)))
      go_ret
      exact ⟨ret_bool HF.out.symm, (ext_alloc _ _).trans (g1.trans g2)⟩
    · have HF := Lib.hid (show spaceB p qs = isB p qs by simp [spaceB, hq.1, h2, H1.out])
      have H2 := Lib.hid h2
      clear h2
      go_enter Tryd.func18, Tryd.ntmps18
      go_wp2_with (first | (go_at_call 31; refine (s_prime _ _).mono ?_; rintro e w1 ⟨rfl, g1⟩; rw [H1.out]; have hcc := Ext.cells g1) | (go_at_call 19; refine (s_in _ _ _ _).mono ?_; rintro e w2 ⟨rfl, g2⟩; rw [H2.out]; have hcc2 := Ext.cells (g1.trans g2)) | (go_at_call 32; refine (s_numbers _ _ _ _ _ _ (by omega) (by omega) hl (hq.ext ((ext_alloc _ _).trans (g1.trans g2)))).mono ?_; rintro e w3 ⟨rfl, g3⟩))
      go_ret
      exact ⟨ret_bool HF.out.symm, (ext_alloc _ _).trans (g1.trans (g2.trans g3))⟩

set_option maxHeartbeats 400000 in
theorem s_size (p : Int) (a : Option Addr) (d cap : Nat) (w : World) (hd : d ≤ 6) :
    Calls Tryd.prog 20 #[.agg #[.int .i64 p, .slice a d cap]] w fun e w' => e = .returned (.int .i64 ((2 ^ d : Nat) : Int)) ∧ Ext w w' := by
  have HW := Lib.hid (pow_wrap hd)
  go_enter Tryd.func20, Tryd.ntmps20
  go_wp2
  go_ret
  refine ⟨ret_int ?_, ext_alloc _ _⟩
  rw [← HW.out]

set_option maxHeartbeats 400000 in
theorem s_is4 (p : Int) (a : Option Addr) (d cap : Nat) (qs : List Int) (ax : Option Addr) (n cx : Nat) (xs : List Int) (w : World) (hd : d ≤ 4194304) (hl : n ≤ 4194304) (hq : RdC w a d qs) (hx : RdC w ax n xs) :
    Calls Tryd.prog 39 #[.agg #[.int .i64 p, .slice a d cap], .slice ax n cx] w fun e w' => e = .returned (.bool (spaceB p qs && multiB p d xs)) ∧ Ext w w' := by
  cases hs : spaceB p qs
  · have HS := Lib.hid hs
    clear hs
    go_enter Tryd.func39, Tryd.ntmps39
    go_wp2_with (go_at_call 18; refine (s_is _ _ _ _ _ _ hd (hq.ext (ext_alloc _ _))).mono ?_; rintro e w1 ⟨rfl, g1⟩; rw [HS.out]; have hcc := Ext.cells g1)
    go_ret
    exact ⟨rfl, (ext_alloc _ _).trans g1⟩
  · obtain ⟨hp, hd1, hd6, _⟩ := space_of hs
    have hpb := prime_bd hp
    have hdq := hq.1
    have hd6' : d ≤ 6 := by omega
    have HS := Lib.hid hs
    clear hs hp hdq hd1 hd6
    obtain ⟨N, HN⟩ : ∃ N : Nat, Hid (2 ^ d = N) := ⟨_, Lib.hid rfl⟩
    by_cases hc : n = N
    · have HF := Lib.hid (show multiB p d xs = isB p xs by simp [multiB, hx.1, hc, HN.out])
      subst hc
      have hcb : ((n : Int) == (n : Int)) = true := by simp
      go_enter Tryd.func39, Tryd.ntmps39
      go_wp2_with (first | (go_at_call 18; refine (s_is _ _ _ _ _ _ hd (hq.ext (ext_alloc _ _))).mono ?_; rintro e w1 ⟨rfl, g1⟩; rw [HS.out]; have hcc := Ext.cells g1) | (go_at_call 20; refine (s_size _ _ _ _ _ hd6').mono ?_; rintro e w2 ⟨rfl, g2⟩; rw [HN.out]; have hcc2 := Ext.cells (g1.trans g2)) | (go_at_call 32; refine (s_numbers _ _ _ _ _ _ (by omega) (by omega) hl (hx.ext ((ext_alloc _ _).trans (g1.trans g2)))).mono ?_; rintro e w3 ⟨rfl, g3⟩))
      go_ret
      exact ⟨ret_bool (by rw [HF.out]; rfl), (ext_alloc _ _).trans (g1.trans (g2.trans g3))⟩
    · have HF := Lib.hid (show multiB p d xs = false by simp [multiB, hx.1, HN.out, hc])
      have hcb : ((n : Int) == (N : Int)) = false := by simp; omega
      go_enter Tryd.func39, Tryd.ntmps39
      go_wp2_with (first | (go_at_call 18; refine (s_is _ _ _ _ _ _ hd (hq.ext (ext_alloc _ _))).mono ?_; rintro e w1 ⟨rfl, g1⟩; rw [HS.out]; have hcc := Ext.cells g1) | (go_at_call 20; refine (s_size _ _ _ _ _ hd6').mono ?_; rintro e w2 ⟨rfl, g2⟩; rw [HN.out]; have hcc2 := Ext.cells (g1.trans g2)))
      go_ret
      exact ⟨ret_bool (by rw [HF.out]; rfl), (ext_alloc _ _).trans (g1.trans g2)⟩

theorem all_false {p : Int} {d n k : Nat} {rows : List (List Int)} (hn : rows.length = n) (hk : k < n) (h : multiB p d (nthR rows k) = false) : rows.all (multiB p d) = false := by
  rw [List.all_eq_false]
  subst hn
  exact ⟨rows[k], List.getElem_mem hk, by rw [nthR_eq hk] at h; simp [h]⟩
theorem all_true {p : Int} {d n : Nat} {rows : List (List Int)} (hn : rows.length = n) (h : ∀ j, j < n → multiB p d (nthR rows j) = true) : rows.all (multiB p d) = true := by
  rw [List.all_eq_true]
  intro x hx
  obtain ⟨i, hi, rfl⟩ := List.getElem_of_mem hx
  have := h i (by omega)
  rwa [nthR_eq hi] at this

set_option maxHeartbeats 400000 in
theorem s_code (p : Int) (a : Option Addr) (d cap : Nat) (qs : List Int) (al : Option Addr) (n cl : Nat) (rows : List (List Int)) (w : World) (hd : d ≤ 4194304) (hl : n ≤ 4194304) (hr : ∀ i, i < n → (nthR rows i).length ≤ 4194304)
    (hq : RdC w a d qs) (hx : RdR w al n rows) :
    Calls Tryd.prog 27 #[.agg #[.int .i64 p, .slice a d cap], .slice al n cl] w fun e w' => e = .returned (.int .i64 (codeM p qs rows)) ∧ Ext w w' := by
  cases hs : spaceB p qs
  · have HS := Lib.hid hs
    have HC := Lib.hid (show codeM p qs rows = 1 by simp [codeM, hs])
    clear hs
    go_enter Tryd.func27, Tryd.ntmps27
    go_wp2_with (go_at_call 18; refine (s_is _ _ _ _ _ _ hd (hq.ext (ext_alloc _ _))).mono ?_; rintro e w1 ⟨rfl, g1⟩; rw [HS.out]; have hcc := Ext.cells g1)
    go_ret
    exact ⟨ret_int HC.out.symm, (ext_alloc _ _).trans g1⟩
  · have HS := Lib.hid hs
    have HC := Lib.hid (show codeM p qs rows = if rows.all (multiB p d) then 0 else 2 by simp [codeM, hs, hq.1])
    have HL := Lib.hid hx.1
    have HR := Lib.hid hx.2
    have Hr := Lib.hid hr
    clear hs hx hr
    go_enter Tryd.func27, Tryd.ntmps27
    go_wp2_with (go_at_call 18; refine (s_is _ _ _ _ _ _ hd (hq.ext (ext_alloc _ _))).mono ?_; rintro e w1 ⟨rfl, g1⟩; rw [HS.out])
    have hq0 : w1.cell? ⟨w.heap.size, 0, none⟩ = some (.int .i64 p) := g1.cell (by simp)
    have hq1 : w1.cell? ⟨w.heap.size, 1, none⟩ = some (.slice a d cap) := g1.cell (by simp)
    have G1 := Lib.hid ((ext_alloc w (.cells #[.int .i64 p, .slice a d cap] 28)).trans g1)
    clear g1
    go_loopw [5] (fun i wr => ∃ k : Nat, k ≤ n ∧ i = .int .i64 k ∧ Hid (∀ j, j < k → multiB p d (nthR rows j) = true) ∧ Ext w1 wr) (fun i _ => n - (intOf i).toNat)
    case atStart => exact ⟨0, Nat.zero_le _, rfl, Lib.hid (fun j hj => by omega), Ext.refl _⟩
    case round =>
      obtain ⟨k, hk, rfl, HT, hext⟩ := hrel
      by_cases hlt : k < n
      · obtain ⟨b, off, ai, ci, rfl, hc, hrow⟩ := HR.out k hlt
        have g2 := G1.out.trans hext
        have hqk := hq.ext g2
        have hrk := hrow.ext g2
        have hc0 := (g2.trans (ext_drew _)).cell hc
        have hq0k := (hext.trans (ext_drew _)).cell hq0
        have hq1k := (hext.trans (ext_drew _)).cell hq1
        have hlb : b < wr.drew.heap.size := lt_of_cell hc0
        have hlq : w.heap.size < wr.drew.heap.size := lt_of_cell hq0k
        have Hc0 := Lib.hid hc0
        have Hq0 := Lib.hid hq0k
        have Hq1 := Lib.hid hq1k
        clear hc0 hq0k hq1k hc hq0 hq1
        have hl0 := Hr.out k hlt
        cases hb : multiB p d (nthR rows k)
        all_goals
          have HB := Lib.hid hb
          clear hb
          go_wp2_with (fail)
          refine wp_region_lex [(5, .val (.bool (multiB p d (nthR rows k))))] (by kernel_rfl) (by kernel_rfl) ?_
          repeat' first | (refine LexW.pure (v := ?_) rfl rfl (fun w1 he => ?_) ?_; rotate_left; ( have hc0 := he.cell Hc0.out; have hq0 := he.cell Hq0.out; have hq1 := he.cell Hq1.out; go_simp; rfl); simp only [Act.put, List.setIfInBounds_toArray, List.set_cons_zero, List.set_cons_succ]) | (refine LexW.call (f := ?_) (args := ?_) rfl rfl (fun w1 => ?_) (fun w1 he hdep => ?_) ?_; rotate_left 2; (go_simp; refine ⟨?_, ?_⟩ <;> rfl); ( have H := s_is4 p a d cap qs ai _ ci (nthR rows k) w1 hd hl0 (hqk.ext ((ext_drew _).trans he)) (hrk.ext ((ext_drew _).trans he)); rw [HS.out] at H; exact H); simp only [Act.put, List.setIfInBounds_toArray, List.set_cons_zero, List.set_cons_succ])
          refine LexW.nil (fun w2 he hk => ?_)
          rw [HB.out]
          go_wp2_with (fail)
        · go_ret
          refine ⟨ret_int ?_, g2.trans ((ext_drew _).trans he)⟩
          rw [HC.out, all_false HL.out hlt HB.out]; rfl
        · go_roundw
          case rel => exact ⟨k + 1, by omega, by go_num, Lib.hid (fun j hj => by
            by_cases hjk : j = k
            · subst hjk; exact HB.out
            · exact HT.out j (by omega)), hext.trans ((ext_drew _).trans he)⟩
          case measure => simp [intOf]; omega
      · go_wp2_with (fail)
        go_ret
        refine ⟨ret_int ?_, G1.out.trans hext⟩
        rw [HC.out, all_true HL.out (fun j hj => HT.out j (by omega))]; rfl

end Go.Proofs.YtdccileoiiafmaaDoor
