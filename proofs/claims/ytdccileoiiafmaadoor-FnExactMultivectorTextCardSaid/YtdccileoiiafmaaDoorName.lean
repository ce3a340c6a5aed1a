/-
  Names of blades: the functions that write them, in the program and in the reference.
  No condition.
-/
import Derived.Test.YtdccileoiiafmaaDoorSpecA
import Derived.Test.YtdccileoiiafmaaDoorBits
import Derived.Laws.IdiomStrings
namespace Go.Proofs.YtdccileoiiafmaaDoor
set_option maxRecDepth 100000
open Go.RowKit

def digB (i : Nat) : ByteArray := ⟨#[UInt8.ofNat (48 + i)]⟩
def nameS (m : Nat) : Nat → ByteArray
  | 0 => ⟨#[101]⟩
  | k + 1 => if m.testBit k then nameS m k ++ digB k else nameS m k
/-- The name of a blade of a space with d squares. -/
def nameL (m d : Nat) : ByteArray := if m = 0 then ⟨#[49]⟩ else nameS m d
theorem nameS_stop {m d : Nat} (h : m < 2 ^ d) : ∀ k, nameS m (d + k) = nameS m d
  | 0 => rfl
  | k + 1 => by
    have : m.testBit (d + k) = false := Nat.testBit_lt_two_pow (Nat.lt_of_lt_of_le h (Nat.pow_le_pow_right (by omega) (by omega)))
    show (if m.testBit (d + k) then _ else _) = _
    rw [this]
    exact nameS_stop h k
theorem name_six {m d : Nat} (h : m < 2 ^ d) (hd : d ≤ 6) : nameL m 6 = nameL m d := by
  unfold nameL
  have := nameS_stop h (6 - d)
  rw [show d + (6 - d) = 6 by omega] at this
  rw [this]
theorem name_yes {m k : Nat} (h : m.testBit k = true) : nameS m (k + 1) = nameS m k ++ digB k := by
  show (if m.testBit k then _ else _) = _
  rw [h]; rfl
theorem name_no {m k : Nat} (h : m.testBit k = false) : nameS m (k + 1) = nameS m k := by
  show (if m.testBit k then _ else _) = _
  rw [h]; rfl
theorem nameS_size (m : Nat) : ∀ k, (nameS m k).size ≤ k + 1
  | 0 => by show (1 : Nat) ≤ 0 + 1; omega
  | k + 1 => by
    have h := nameS_size m k
    unfold nameS
    split
    · rw [ByteArray.size_append]
      have : (digB k).size = 1 := rfl
      omega
    · omega

set_option maxHeartbeats 1000000 in
theorem c_small (i : Nat) (w : World) (hi : i < 10) :
    Calls Tryd.prog 52 #[.int .i64 i] w fun e w' => e = .returned (.string (digB i)) ∧ Ext w w' := by
  have h : i = 0 ∨ i = 1 ∨ i = 2 ∨ i = 3 ∨ i = 4 ∨ i = 5 ∨ i = 6 ∨ i = 7 ∨ i = 8 ∨ i = 9 := by omega
  rcases h with rfl | rfl | rfl | rfl | rfl | rfl | rfl | rfl | rfl | rfl <;>
  · go_enter Tryd.func52, Tryd.ntmps52
    go_wp2_with (fail)
    go_ret
    exact ⟨rfl, Ext.refl _⟩
set_option maxHeartbeats 1000000 in
theorem c_format (i : Nat) (w : World) (hi : i < 10) :
    Calls Tryd.prog 51 #[.int .i64 i, .int .i64 10] w fun e w' => e = .returned (.string (digB i)) ∧ Ext w w' := by
  have h0 : (0 : Int) ≤ (i : Int) := by omega
  have h1 : (i : Int) < 100 := by omega
  go_enter Tryd.func51, Tryd.ntmps51
  go_wp2_with (fail)
  refine Calls.mono (c_small i w hi) ?_
  rintro e w1 ⟨rfl, g1⟩
  go_wp2_with (fail)
  go_ret
  exact ⟨rfl, g1⟩
set_option maxHeartbeats 1000000 in
theorem c_itoa (i : Nat) (w : World) (hi : i < 10) :
    Calls Tryd.prog 46 #[.int .i64 i] w fun e w' => e = .returned (.string (digB i)) ∧ Ext w w' := by
  go_enter Tryd.func46, Tryd.ntmps46
  go_wp2_with (fail)
  refine Calls.mono (c_format i w hi) ?_
  rintro e w1 ⟨rfl, g1⟩
  go_wp2_with (fail)
  go_ret
  exact ⟨rfl, g1⟩
set_option maxHeartbeats 1000000 in
theorem c_Itoa (i : Nat) (w : World) (hi : i < 10) :
    Calls Tryd.prog 38 #[.int .i64 i] w fun e w' => e = .returned (.string (digB i)) ∧ Ext w w' := by
  go_enter Tryd.func38, Tryd.ntmps38
  go_wp2_with (fail)
  refine Calls.mono (c_itoa i w hi) ?_
  rintro e w1 ⟨rfl, g1⟩
  go_wp2_with (fail)
  go_ret
  exact ⟨rfl, g1⟩

theorem dec_conv (w : World) (c : Int) (n : UInt8) (h : c = (n.toNat : Int)) :
    (convert 64 9 (.slice (some ⟨w.heap.size, 0, none⟩) 1 1)).run Tryd.prog (w.alloc (.cells #[.int .u8 c] 5)) = .ok (.string ⟨#[n]⟩) (w.alloc (.cells #[.int .u8 c] 5)) :=
  run_convert_bytes_back _ _ _ 5 ⟨w.heap.size, 0, none⟩ 1 [n] Tryd.underlying64 Tryd.underlying5 Tryd.underlying9 (fun j hj => by
    have : j = 0 := by simpa using hj
    subst this
    subst h
    show (w.alloc _).cell? ⟨w.heap.size, 0, none⟩ = _
    simp)
set_option maxHeartbeats 1000000 in
theorem s_dec (i : Nat) (w : World) (hi : i < 10) :
    Calls Tryd.prog 33 #[.int .i64 i] w fun e w' => e = .returned (.string (digB i)) ∧ Ext w w' := by
  have h : i = 0 ∨ i = 1 ∨ i = 2 ∨ i = 3 ∨ i = 4 ∨ i = 5 ∨ i = 6 ∨ i = 7 ∨ i = 8 ∨ i = 9 := by omega
  rcases h with rfl | rfl | rfl | rfl | rfl | rfl | rfl | rfl | rfl | rfl
  · have hcv := dec_conv w 48 48 rfl
    go_enter Tryd.func33, Tryd.ntmps33
    go_wp2_with (fail)
    go_ret
    exact ⟨rfl, ext_alloc _ _⟩
  · have hcv := dec_conv w 49 49 rfl
    go_enter Tryd.func33, Tryd.ntmps33
    go_wp2_with (fail)
    go_ret
    exact ⟨rfl, ext_alloc _ _⟩
  · have hcv := dec_conv w 50 50 rfl
    go_enter Tryd.func33, Tryd.ntmps33
    go_wp2_with (fail)
    go_ret
    exact ⟨rfl, ext_alloc _ _⟩
  · have hcv := dec_conv w 51 51 rfl
    go_enter Tryd.func33, Tryd.ntmps33
    go_wp2_with (fail)
    go_ret
    exact ⟨rfl, ext_alloc _ _⟩
  · have hcv := dec_conv w 52 52 rfl
    go_enter Tryd.func33, Tryd.ntmps33
    go_wp2_with (fail)
    go_ret
    exact ⟨rfl, ext_alloc _ _⟩
  · have hcv := dec_conv w 53 53 rfl
    go_enter Tryd.func33, Tryd.ntmps33
    go_wp2_with (fail)
    go_ret
    exact ⟨rfl, ext_alloc _ _⟩
  · have hcv := dec_conv w 54 54 rfl
    go_enter Tryd.func33, Tryd.ntmps33
    go_wp2_with (fail)
    go_ret
    exact ⟨rfl, ext_alloc _ _⟩
  · have hcv := dec_conv w 55 55 rfl
    go_enter Tryd.func33, Tryd.ntmps33
    go_wp2_with (fail)
    go_ret
    exact ⟨rfl, ext_alloc _ _⟩
  · have hcv := dec_conv w 56 56 rfl
    go_enter Tryd.func33, Tryd.ntmps33
    go_wp2_with (fail)
    go_ret
    exact ⟨rfl, ext_alloc _ _⟩
  · have hcv := dec_conv w 57 57 rfl
    go_enter Tryd.func33, Tryd.ntmps33
    go_wp2_with (fail)
    go_ret
    exact ⟨rfl, ext_alloc _ _⟩

set_option maxHeartbeats 2000000 in
theorem c_nameOf (p : Int) (a : Option Addr) (d cap m : Nat) (w : World) (hd : d ≤ 6) (hm : m < 64) :
    Calls Tryd.prog 25 #[.agg #[.int .i64 p, .slice a d cap], .int .i64 m] w fun e w' => e = .returned (.string (nameL m d)) ∧ Ext w w' := by
  by_cases hz : m = 0
  · subst hz
    go_enter Tryd.func25, Tryd.ntmps25
    go_wp2_with (fail)
    go_ret
    exact ⟨rfl, ext_alloc _ _⟩
  have hzb : ((m : Int) == 0) = false := by simp [hz]
  have HN := Lib.hid (show nameL m d = nameS m d by unfold nameL; rw [if_neg hz])
  clear hz
  go_enter Tryd.func25, Tryd.ntmps25
  go_wp2_with (fail)
  refine Calls.mono (c_dim p a d cap _) ?_
  rintro e w1 ⟨rfl, g1⟩
  have HE := Lib.hid ((ext_alloc w (.cells #[.int .i64 p, .slice a d cap] 28)).trans g1)
  clear g1
  go_wp2_with (fail)
  go_loopw [5, 11] (fun s i wr => ∃ (k : Nat) (b : ByteArray), k ≤ d ∧ i = .int .i64 k ∧ s = .string b ∧ Hid (b = nameS m k) ∧ Hid (Ext w wr)) (fun _ i _ => d - (intOf i).toNat)
  case atStart => exact ⟨0, _, Nat.zero_le _, rfl, rfl, Lib.hid rfl, HE⟩
  case round =>
    obtain ⟨k, b, hk, rfl, rfl, HB, HX⟩ := hrel
    clear HE
    by_cases hlt : k < d
    · have hbit := bit_i m k hm (by omega)
      cases ht : m.testBit k
      · rw [ht] at hbit
        have HT := Lib.hid ht
        clear ht
        go_wp2_with (fail)
        go_roundw
        case rel => exact ⟨k + 1, b, by omega, by go_num, rfl, Lib.hid (by rw [name_no HT.out, HB.out]), HX⟩
        case measure => simp [intOf]; omega
      · rw [ht] at hbit
        have HT := Lib.hid ht
        clear ht
        go_wp2_with (fail)
        refine Calls.mono (c_Itoa k _ (by omega)) ?_
        rintro e w2 ⟨rfl, g2⟩
        have hcat : ¬ 9223372036854775807 < b.size + (digB k).size := by
          have h1 := nameS_size m k
          rw [← HB.out] at h1
          have h2 : (digB k).size = 1 := rfl
          omega
        replace HX := Lib.hid (HX.out.trans g2)
        clear g2
        go_wp2_with (fail)
        go_roundw
        case rel => exact ⟨k + 1, b ++ digB k, by omega, by go_num, rfl, Lib.hid (by rw [name_yes HT.out, HB.out]), HX⟩
        case measure => simp [intOf]; omega
    · obtain rfl : k = d := by omega
      go_wp2_with (fail)
      go_ret
      exact ⟨by rw [HB.out, HN.out]; rfl, HX.out⟩

set_option maxHeartbeats 2000000 in
theorem s_name (m : Nat) (w : World) (hm : m < 64) :
    Calls Tryd.prog 21 #[.int .i64 m] w fun e w' => e = .returned (.string (nameL m 6)) ∧ Ext w w' := by
  by_cases hz : m = 0
  · subst hz
    go_enter Tryd.func21, Tryd.ntmps21
    go_wp2_with (fail)
    go_ret
    exact ⟨rfl, Ext.refl _⟩
  have hzb : ((m : Int) == 0) = false := by simp [hz]
  have HN := Lib.hid (show nameL m 6 = nameS m 6 by unfold nameL; rw [if_neg hz])
  clear hz
  go_enter Tryd.func21, Tryd.ntmps21
  go_wp2_with (fail)
  go_loopw [3, 4] (fun s i wr => ∃ (k : Nat) (b : ByteArray), k ≤ 6 ∧ i = .int .i64 k ∧ s = .string b ∧ Hid (b = nameS m k) ∧ Hid (Ext w wr)) (fun _ i _ => 6 - (intOf i).toNat)
  case atStart => exact ⟨0, _, by omega, rfl, rfl, Lib.hid rfl, Lib.hid (Ext.refl _)⟩
  case round =>
    obtain ⟨k, b, hk, rfl, rfl, HB, HX⟩ := hrel
    by_cases hlt : k < 6
    · have hbit := bit_i m k hm (by omega)
      have hcv := conv_u k (by omega)
      cases ht : m.testBit k
      · rw [ht] at hbit
        have HT := Lib.hid ht
        clear ht
        go_wp2_with (fail)
        go_roundw
        case rel => exact ⟨k + 1, b, by omega, by go_num, rfl, Lib.hid (by rw [name_no HT.out, HB.out]), HX⟩
        case measure => simp [intOf]; omega
      · rw [ht] at hbit
        have HT := Lib.hid ht
        clear ht
        go_wp2_with (fail)
        refine Calls.mono (s_dec k _ (by omega)) ?_
        rintro e w2 ⟨rfl, g2⟩
        have hcat : ¬ 9223372036854775807 < b.size + (digB k).size := by
          have h1 := nameS_size m k
          rw [← HB.out] at h1
          have h2 : (digB k).size = 1 := rfl
          omega
        replace HX := Lib.hid (HX.out.trans g2)
        clear g2
        go_wp2_with (fail)
        go_roundw
        case rel => exact ⟨k + 1, b ++ digB k, by omega, by go_num, rfl, Lib.hid (by rw [name_yes HT.out, HB.out]), HX⟩
        case measure => simp [intOf]; omega
    · obtain rfl : k = 6 := by omega
      go_wp2_with (fail)
      go_ret
      exact ⟨by rw [HB.out, HN.out]; rfl, HX.out⟩
end Go.Proofs.YtdccileoiiafmaaDoor
