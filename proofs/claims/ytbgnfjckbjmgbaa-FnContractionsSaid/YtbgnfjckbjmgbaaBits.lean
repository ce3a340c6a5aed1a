/-
  Bits of masks below 64: the walk's words for them, and the contracts of the functions that count them.
  No condition.
-/
import Derived.Test.YtbgnfjckbjmgbaaCheck
namespace Go.Proofs.Ytbgnfjckbjmgbaa
set_option maxRecDepth 100000
open Go.RowKit

def popF : Nat → Nat → Nat
  | 0, _ => 0
  | f + 1, n => n % 2 + popF f (n / 2)
/-- The number of bits of a mask below 64. -/
def popc (n : Nat) : Nat := popF 6 n
theorem popc_le {n : Nat} (h : n < 64) : popc n ≤ 6 := by
  have : ∀ n, n < 64 → popc n ≤ 6 := by decide +kernel
  exact this n h

theorem bit_i (y k : Nat) (hy : y < 64) (hk : k < 6) : (bits BinOp.and IntKind.i64 ((y : Int) / 2 ^ k) 1 == 1) = y.testBit k := by
  have : ∀ y : Nat, y < 64 → ∀ k : Nat, k < 6 → (bits BinOp.and IntKind.i64 ((y : Int) / 2 ^ k) 1 == 1) = y.testBit k := by decide +kernel
  exact this y hy k hk
theorem bit_z (y k : Nat) (hy : y < 64) (hk : k < 6) : (bits BinOp.and IntKind.i64 ((y : Int) / 2 ^ k) 1 == 0) = !y.testBit k := by
  have : ∀ y : Nat, y < 64 → ∀ k : Nat, k < 6 → (bits BinOp.and IntKind.i64 ((y : Int) / 2 ^ k) 1 == 0) = !y.testBit k := by decide +kernel
  exact this y hy k hk
theorem shr_u (x k : Nat) (hx : x < 64) (hk : k < 6) : IntKind.u64.wrap ((x : Int) / 2 ^ (k + 1)) = ((x >>> (k + 1) : Nat) : Int) := by
  have : ∀ x : Nat, x < 64 → ∀ k : Nat, k < 6 → IntKind.u64.wrap ((x : Int) / 2 ^ (k + 1)) = ((x >>> (k + 1) : Nat) : Int) := by decide +kernel
  exact this x hx k hk
theorem shr_lt {x : Nat} (k : Nat) (hx : x < 64) : x >>> k < 64 := Nat.lt_of_le_of_lt (Nat.shiftRight_le x k) hx

set_option maxHeartbeats 400000 in
theorem c_ones64 (x : Nat) (w : World) (hx : x < 64) :
    Calls Try.prog 208 #[.int .u64 x] w fun e w' => e = .returned (.int .i64 (popc x)) ∧ Ext w w' := by
  go_enter Try.func208, Try.ntmps208
  go_wp2
  go_ret
  refine ⟨ret_int ?_, Ext.refl _⟩
  clear w
  revert hx
  revert x
  decide +kernel

set_option maxHeartbeats 400000 in
theorem c_ones (x : Nat) (w : World) (hx : x < 64) :
    Calls Try.prog 193 #[.int .u64 x] w fun e w' => e = .returned (.int .i64 (popc x)) ∧ Ext w w' := by
  go_enter Try.func193, Try.ntmps193
  go_wp2_with (go_at_call 208; refine (c_ones64 _ _ hx).mono ?_; rintro e w1 ⟨rfl, g1⟩)
  go_ret
  exact ⟨rfl, g1⟩

theorem conv_u (x : Nat) (hx : x < 64) : IntKind.u64.wrap (x : Int) = (x : Int) := by
  have : ∀ x : Nat, x < 64 → IntKind.u64.wrap (x : Int) = (x : Int) := by decide +kernel
  exact this x hx
set_option maxHeartbeats 400000 in
theorem c_grade (x : Nat) (w : World) (hx : x < 64) :
    Calls Try.prog 192 #[.int .i64 x] w fun e w' => e = .returned (.int .i64 (popc x)) ∧ Ext w w' := by
  have hcv := conv_u x hx
  have hpl := popc_le hx
  go_enter Try.func192, Try.ntmps192
  go_wp2_with (go_at_call 193; refine (c_ones _ _ hx).mono ?_; rintro e w1 ⟨rfl, g1⟩)
  go_ret
  exact ⟨rfl, g1⟩

theorem popF_step (f n : Nat) : popF (f + 1) n = n % 2 + popF f (n / 2) := rfl
theorem popF_zero (f : Nat) : popF f 0 = 0 := by
  induction f with
  | zero => rfl
  | succ f ih => simp [popF, ih]
theorem popF_le (f n : Nat) : popF f n ≤ f := by
  induction f generalizing n with
  | zero => simp [popF]
  | succ f ih => have := ih (n / 2); simp only [popF]; omega

set_option maxHeartbeats 400000 in
theorem s_grade (x : Nat) (w : World) (hx : x < 64) :
    Calls Try.prog 190 #[.int .i64 x] w fun e w' => e = .returned (.int .i64 (popc x)) ∧ Ext w w' := by
  go_enter Try.func190, Try.ntmps190
  go_wp2_with (fail)
  go_loopw [0, 3] (fun m n wr => ∃ (f y g : Nat), f ≤ 6 ∧ y < 2 ^ f ∧ y < 64 ∧ g ≤ 64 ∧ m = .int .i64 y ∧ n = .int .i64 g ∧ Hid (g + popF f y = popc x) ∧ Ext w wr) (fun m _ _ => (intOf m).toNat)
  case atStart => exact ⟨6, x, 0, Nat.le_refl _, hx, hx, by omega, rfl, rfl, Lib.hid (by simp [popc]), Ext.refl _⟩
  case round =>
    obtain ⟨f, y, g, hf, hy, hy64, hg, rfl, rfl, HG, hext⟩ := hrel
    have HY := Lib.hid hy
    clear hy
    by_cases h0 : 0 < y
    · have hgl : g ≤ 6 := by have := HG.out; have := popc_le hx; omega
      go_wp2_with (fail)
      go_roundw
      case rel =>
        cases f with
        | zero => have := HY.out; simp at this; omega
        | succ f =>
          refine ⟨f, y / 2, g + y % 2, by omega, ?_, by omega, by omega, by go_num, by go_num, Lib.hid ?_, hext⟩
          · have := HY.out; rw [Nat.pow_succ] at this; omega
          · have := HG.out; rw [popF_step] at this; omega
      case measure => simp [intOf]; omega
    · obtain rfl : y = 0 := by omega
      go_wp2_with (fail)
      go_ret
      refine ⟨ret_int ?_, hext⟩
      have := HG.out
      rw [popF_zero] at this
      have h2 : g = popc x := by simpa using this
      rw [h2]

end Go.Proofs.Ytbgnfjckbjmgbaa
