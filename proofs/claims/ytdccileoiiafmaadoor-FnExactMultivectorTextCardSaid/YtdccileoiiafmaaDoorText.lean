/-
  Texts of numbers and of terms.
  No condition.
-/
import Derived.Test.YtdccileoiiafmaaDoorTextF
namespace Go.Proofs.YtdccileoiiafmaaDoor
set_option maxRecDepth 100000
open Go.RowKit

def textN (p a : Int) : ByteArray := if (p - 1) / 2 < a then ⟨#[45]⟩ ++ digB (p - a).toNat else digB a.toNat
theorem half_of {p : Int} (h : primeB p = true) : ∃ t : Int, (p - 1).tdiv 2 = t ∧ (p - 1) / 2 = t ∧ 2 * t + 1 = p := by
  have hp : p = 3 ∨ p = 5 ∨ p = 7 ∨ p = 11 ∨ p = 13 := by simp [primeB] at h; omega
  rcases hp with rfl | rfl | rfl | rfl | rfl
  · exact ⟨1, rfl, rfl, rfl⟩
  · exact ⟨2, rfl, rfl, rfl⟩
  · exact ⟨3, rfl, rfl, rfl⟩
  · exact ⟨5, rfl, rfl, rfl⟩
  · exact ⟨6, rfl, rfl, rfl⟩
theorem dig_size (i : Nat) : (digB i).size = 1 := rfl
theorem minus_size : (⟨#[45]⟩ : ByteArray).size = 1 := rfl
theorem text_size {p a : Int} : (textN p a).size ≤ 2 := by
  unfold textN
  split
  · rw [ByteArray.size_append, dig_size, minus_size]; omega
  · rw [dig_size]; omega

set_option maxHeartbeats 2000000 in
theorem c_FormatInt (i : Nat) (w : World) (hi : i < 10) :
    Calls Tryd.prog 49 #[.int .i64 i, .int .i64 10] w fun e w' => e = .returned (.string (digB i)) ∧ Ext w w' := by
  go_enter Tryd.func49, Tryd.ntmps49
  go_wp2_with (fail)
  refine Calls.mono (c_format i w hi) ?_
  rintro e w1 ⟨rfl, g1⟩
  go_wp2_with (fail)
  go_ret
  exact ⟨rfl, g1⟩
set_option maxHeartbeats 2000000 in
theorem c_FormatIntN (k : Nat) (w : World) (hk : k = 1 ∨ k = 2 ∨ k = 3 ∨ k = 4 ∨ k = 5 ∨ k = 6) (hG : w.cell? ⟨0, 0, none⟩ = some (.int .u64 1)) :
    Calls Tryd.prog 49 #[.int .i64 (-(k : Int)), .int .i64 10] w fun e w' => e = .returned (.string (⟨#[45]⟩ ++ digB k)) ∧ Ext w w' := by
  have HK := Lib.hid hk
  clear hk
  go_enter Tryd.func49, Tryd.ntmps49
  go_wp2_with (fail)
  refine Calls.mono (c_formatN k w HK.out hG) ?_
  rintro e w1 ⟨rfl, g1⟩
  go_wp2_with (fail)
  go_ret
  exact ⟨rfl, g1⟩
set_option maxHeartbeats 2000000 in
theorem c_text (p a : Int) (w : World) (hpr : primeB p = true) (ha0 : 0 ≤ a) (ha : a < p) (hG : w.cell? ⟨0, 0, none⟩ = some (.int .u64 1)) :
    Calls Tryd.prog 44 #[.int .i64 p, .int .i64 a] w fun e w' => e = .returned (.string (textN p a)) ∧ Ext w w' := by
  have hpb := prime_bd hpr
  obtain ⟨t, ht1, ht2, ht3⟩ := half_of hpr
  clear hpr
  have hw1 : IntKind.i64.wrap (p - 1) = p - 1 := IntWalk.i64_in _ (by omega)
  have hw2 : wrap64 (p - 1) = p - 1 := by unfold wrap64; omega
  have hw3 : wrap64 t = t := by unfold wrap64; omega
  by_cases hn : t < a
  · obtain ⟨k, hk⟩ : ∃ k : Nat, a - p = -(k : Int) := ⟨(p - a).toNat, by omega⟩
    have HK := Lib.hid (show k = 1 ∨ k = 2 ∨ k = 3 ∨ k = 4 ∨ k = 5 ∨ k = 6 by omega)
    have HT := Lib.hid (show textN p a = ⟨#[45]⟩ ++ digB k by unfold textN; rw [ht2, if_pos hn]; congr 2; omega)
    have hw4 : wrap64 (a - p) = -(k : Int) := by unfold wrap64; omega
    have hw5 : IntKind.i64.wrap (a - p) = -(k : Int) := by rw [hk]; exact IntWalk.i64_in _ (by have := HK.out; omega)
    clear ht2 ht3 hk
    go_enter Tryd.func44, Tryd.ntmps44
    go_wp2_with (fail)
    refine Calls.mono (c_FormatIntN k w HK.out hG) ?_
    rintro e w1 ⟨rfl, g1⟩
    go_wp2_with (fail)
    go_ret
    exact ⟨by rw [HT.out]; rfl, g1⟩
  · obtain ⟨i, rfl⟩ : ∃ i : Nat, a = i := ⟨a.toNat, by omega⟩
    have HI := Lib.hid (show i < 10 by omega)
    have HT := Lib.hid (show textN p i = digB i by unfold textN; rw [ht2, if_neg hn]; rfl)
    clear ht2 ht3
    go_enter Tryd.func44, Tryd.ntmps44
    go_wp2_with (fail)
    refine Calls.mono (c_FormatInt i w HI.out) ?_
    rintro e w1 ⟨rfl, g1⟩
    go_wp2_with (fail)
    go_ret
    exact ⟨by rw [HT.out]; rfl, g1⟩

set_option maxHeartbeats 2000000 in
theorem s_text (p a : Int) (w : World) (hpr : primeB p = true) (ha0 : 0 ≤ a) (ha : a < p) :
    Calls Tryd.prog 47 #[.int .i64 p, .int .i64 a] w fun e w' => e = .returned (.string (textN p a)) ∧ Ext w w' := by
  have hpb := prime_bd hpr
  obtain ⟨t, ht1, ht2, ht3⟩ := half_of hpr
  clear hpr
  have hw1 : IntKind.i64.wrap (p - 1) = p - 1 := IntWalk.i64_in _ (by omega)
  have hw2 : wrap64 (p - 1) = p - 1 := by unfold wrap64; omega
  have hw3 : wrap64 t = t := by unfold wrap64; omega
  by_cases hn : t < a
  · obtain ⟨k, hk⟩ : ∃ k : Nat, p - a = (k : Int) := ⟨(p - a).toNat, by omega⟩
    have HI := Lib.hid (show k < 10 by omega)
    have HT := Lib.hid (show textN p a = ⟨#[45]⟩ ++ digB k by unfold textN; rw [ht2, if_pos hn]; congr 2; omega)
    have hw4 : wrap64 (p - a) = (k : Int) := by unfold wrap64; omega
    have hw5 : IntKind.i64.wrap (p - a) = (k : Int) := by rw [hk]; exact IntWalk.i64_in _ (by have := HI.out; omega)
    have hcat : ¬ 9223372036854775807 < (⟨#[45]⟩ : ByteArray).size + (digB k).size := by rw [dig_size, minus_size]; omega
    clear ht2 ht3 hk
    go_enter Tryd.func47, Tryd.ntmps47
    go_wp2_with (fail)
    refine Calls.mono (s_dec k w HI.out) ?_
    rintro e w1 ⟨rfl, g1⟩
    go_wp2_with (fail)
    go_ret
    exact ⟨by rw [HT.out]; rfl, g1⟩
  · obtain ⟨i, rfl⟩ : ∃ i : Nat, a = i := ⟨a.toNat, by omega⟩
    have HI := Lib.hid (show i < 10 by omega)
    have HT := Lib.hid (show textN p i = digB i by unfold textN; rw [ht2, if_neg hn]; rfl)
    clear ht2 ht3
    go_enter Tryd.func47, Tryd.ntmps47
    go_wp2_with (fail)
    refine Calls.mono (s_dec i w HI.out) ?_
    rintro e w1 ⟨rfl, g1⟩
    go_wp2_with (fail)
    go_ret
    exact ⟨by rw [HT.out]; rfl, g1⟩
end Go.Proofs.YtdccileoiiafmaaDoor
