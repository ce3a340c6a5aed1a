/-
  Contracts: CountTerms in the program and in the reference.
  No condition.
-/
import Derived.Test.YtfkaijlnmmbpgaaSpecA
import Derived.Test.YtfkaijlnmmbpgaaLawA
namespace Go.Proofs.Ytfkaijlnmmbpgaa
open Go.RowKit

def termsN (xs : List Int) : Nat := (xs.filter (fun x => x != 0)).length
theorem termsN_le (xs : List Int) : termsN xs ≤ xs.length := List.length_filter_le _ _
theorem termsN_snoc_ne {xs : List Int} {x : Int} (h : x ≠ 0) : termsN (xs ++ [x]) = termsN xs + 1 := by simp [termsN, h]
theorem termsN_snoc_eq {xs : List Int} {x : Int} (h : x = 0) : termsN (xs ++ [x]) = termsN xs := by simp [termsN, h]

set_option maxHeartbeats 400000 in
theorem c_CountTerms_ok (p : Int) (a : Option Addr) (d cap : Nat) (qs : List Int) (ax : Option Addr) (n cx : Nat) (xs : List Int) (w : World) (hd : d ≤ 4194304) (hl : n ≤ 4194304) (hq : RdC w a d qs) (hx : RdC w ax n xs) (hc : codeM p qs [xs] = 0) :
    Calls Try.prog 19 #[.agg #[.int .i64 p, .slice a d cap], .slice ax n cx] w fun e w' => e = .returned (.tuple #[.int .i64 (termsN xs), .int .i64 0]) ∧ Ext w w' := by
  have HC := Lib.hid hc
  have hcb : ((0 : Int) != 0) = false := by simp
  clear hc
  go_enter Try.func19, Try.ntmps19
  go_wp2_with (go_at_call 49; refine (c_checkMultis p a d cap qs _ 1 _ [xs] _ hd (by omega) (len_one (by rw [hx.1]; exact hl)) (hq.ext (((ext_alloc _ _).alloc _))) (rdR_one (a := ax) (n := n) (cap := cx) (by simp) (hx.ext ((ext_alloc _ _).alloc _)))).mono ?_; rintro e w1 ⟨rfl, g1⟩; rw [HC.out])
  have G1 := Lib.hid (((ext_alloc w (.cells #[.int .i64 p, .slice a d cap] 28)).alloc (.cells #[.slice ax n cx] 22)).trans g1)
  have HX := Lib.hid hx.2
  have HN := Lib.hid hx.1
  clear g1 hx
  go_loopw [7, 9, 19] (fun m _ i wr => ∃ k : Nat, k ≤ n ∧ i = .int .i64 k ∧ m = .int .i64 (termsN (xs.take k)) ∧ Ext w1 wr) (fun m _ i _ => n - (intOf i).toNat)
  case atStart => exact ⟨0, Nat.zero_le _, rfl, rfl, Ext.refl _⟩
  case round =>
    obtain ⟨k, hk, rfl, rfl, hext⟩ := hrel
    have htl : termsN (xs.take k) ≤ k := Nat.le_trans (termsN_le _) (List.length_take_le _ _)
    by_cases hlt : k < n
    · obtain ⟨b, off, rfl, hc⟩ := HX.out k hlt
      have hc' := (G1.out.trans hext).cell hc
      clear hc
      have HS := Lib.hid (take_snoc xs k (by rw [HN.out]; omega))
      by_cases hb : nth xs k = 0
      · have HB := Lib.hid hb
        have hbb : (nth xs k != 0) = false := by simp [hb]
        clear hb
        go_wp2_with (fail)
        go_roundw
        case rel => exact ⟨k + 1, by omega, by go_num, by rw [HS.out, termsN_snoc_eq HB.out], hext⟩
        case measure => simp [intOf]; omega
      · have HB := Lib.hid hb
        have hbb : (nth xs k != 0) = true := by simp [hb]
        clear hb
        go_wp2_with (fail)
        go_roundw
        case rel => exact ⟨k + 1, by omega, by go_num, by rw [HS.out, termsN_snoc_ne HB.out]; go_num, hext⟩
        case measure => simp [intOf]; omega
    · go_wp2_with (fail)
      go_ret2
      refine ⟨?_, G1.out.trans hext⟩
      rw [List.take_of_length_le (by rw [HN.out]; omega)]
      rfl

set_option maxHeartbeats 400000 in
theorem c_CountTerms_bad (p : Int) (a : Option Addr) (d cap : Nat) (qs : List Int) (ax : Option Addr) (n cx : Nat) (xs : List Int) (w : World) (hd : d ≤ 4194304) (hl : n ≤ 4194304) (hq : RdC w a d qs) (hx : RdC w ax n xs) (hc : codeM p qs [xs] ≠ 0) :
    Calls Try.prog 19 #[.agg #[.int .i64 p, .slice a d cap], .slice ax n cx] w fun e w' => e = .returned (.tuple #[.int .i64 0, .int .i64 (codeM p qs [xs])]) ∧ Ext w w' := by
  have hcb : (codeM p qs [xs] != 0) = true := by simp [hc]
  clear hc
  go_enter Try.func19, Try.ntmps19
  go_wp2_with (go_at_call 49; refine (c_checkMultis p a d cap qs _ 1 _ [xs] _ hd (by omega) (len_one (by rw [hx.1]; exact hl)) (hq.ext (((ext_alloc _ _).alloc _))) (rdR_one (a := ax) (n := n) (cap := cx) (by simp) (hx.ext ((ext_alloc _ _).alloc _)))).mono ?_; rintro e w1 ⟨rfl, g1⟩)
  go_ret2
  exact ⟨rfl, (((ext_alloc _ _).alloc _).trans g1)⟩

set_option maxHeartbeats 400000 in
theorem s_CountTerms_ok (p : Int) (a : Option Addr) (d cap : Nat) (qs : List Int) (ax : Option Addr) (n cx : Nat) (xs : List Int) (w : World) (hd : d ≤ 4194304) (hl : n ≤ 4194304) (hq : RdC w a d qs) (hx : RdC w ax n xs) (hc : codeM p qs [xs] = 0) :
    Calls Try.prog 16 #[.agg #[.int .i64 p, .slice a d cap], .slice ax n cx] w fun e w' => e = .returned (.tuple #[.int .i64 (termsN xs), .int .i64 0]) ∧ Ext w w' := by
  have HC := Lib.hid hc
  have hcb : ((0 : Int) != 0) = false := by simp
  clear hc
  go_enter Try.func16, Try.ntmps16
  go_wp2_with (go_at_call 48; refine (s_code p a d cap qs _ 1 _ [xs] _ hd (by omega) (len_one (by rw [hx.1]; exact hl)) (hq.ext (((ext_alloc _ _).alloc _))) (rdR_one (a := ax) (n := n) (cap := cx) (by simp) (hx.ext ((ext_alloc _ _).alloc _)))).mono ?_; rintro e w1 ⟨rfl, g1⟩; rw [HC.out])
  have G1 := Lib.hid (((ext_alloc w (.cells #[.int .i64 p, .slice a d cap] 28)).alloc (.cells #[.slice ax n cx] 22)).trans g1)
  have HX := Lib.hid hx.2
  have HN := Lib.hid hx.1
  clear g1 hx
  go_loopw [7, 8] (fun m i wr => ∃ k : Nat, k ≤ n ∧ i = .int .i64 k ∧ m = .int .i64 (termsN (xs.take k)) ∧ Ext w1 wr) (fun m i _ => n - (intOf i).toNat)
  case atStart => exact ⟨0, Nat.zero_le _, rfl, rfl, Ext.refl _⟩
  case round =>
    obtain ⟨k, hk, rfl, rfl, hext⟩ := hrel
    have htl : termsN (xs.take k) ≤ k := Nat.le_trans (termsN_le _) (List.length_take_le _ _)
    by_cases hlt : k < n
    · obtain ⟨b, off, rfl, hc⟩ := HX.out k hlt
      have hc' := (G1.out.trans hext).cell hc
      clear hc
      have HS := Lib.hid (take_snoc xs k (by rw [HN.out]; omega))
      by_cases hb : nth xs k = 0
      · have HB := Lib.hid hb
        have hbb : (nth xs k != 0) = false := by simp [hb]
        clear hb
        go_wp2_with (fail)
        go_roundw
        case rel => exact ⟨k + 1, by omega, by go_num, by rw [HS.out, termsN_snoc_eq HB.out], hext⟩
        case measure => simp [intOf]; omega
      · have HB := Lib.hid hb
        have hbb : (nth xs k != 0) = true := by simp [hb]
        clear hb
        go_wp2_with (fail)
        go_roundw
        case rel => exact ⟨k + 1, by omega, by go_num, by rw [HS.out, termsN_snoc_ne HB.out]; go_num, hext⟩
        case measure => simp [intOf]; omega
    · go_wp2_with (fail)
      go_ret2
      refine ⟨?_, G1.out.trans hext⟩
      rw [List.take_of_length_le (by rw [HN.out]; omega)]
      rfl

set_option maxHeartbeats 400000 in
theorem s_CountTerms_bad (p : Int) (a : Option Addr) (d cap : Nat) (qs : List Int) (ax : Option Addr) (n cx : Nat) (xs : List Int) (w : World) (hd : d ≤ 4194304) (hl : n ≤ 4194304) (hq : RdC w a d qs) (hx : RdC w ax n xs) (hc : codeM p qs [xs] ≠ 0) :
    Calls Try.prog 16 #[.agg #[.int .i64 p, .slice a d cap], .slice ax n cx] w fun e w' => e = .returned (.tuple #[.int .i64 0, .int .i64 (codeM p qs [xs])]) ∧ Ext w w' := by
  have hcb : (codeM p qs [xs] != 0) = true := by simp [hc]
  clear hc
  go_enter Try.func16, Try.ntmps16
  go_wp2_with (go_at_call 48; refine (s_code p a d cap qs _ 1 _ [xs] _ hd (by omega) (len_one (by rw [hx.1]; exact hl)) (hq.ext (((ext_alloc _ _).alloc _))) (rdR_one (a := ax) (n := n) (cap := cx) (by simp) (hx.ext ((ext_alloc _ _).alloc _)))).mono ?_; rintro e w1 ⟨rfl, g1⟩)
  go_ret2
  exact ⟨rfl, (((ext_alloc _ _).alloc _).trans g1)⟩

end Go.Proofs.Ytfkaijlnmmbpgaa
