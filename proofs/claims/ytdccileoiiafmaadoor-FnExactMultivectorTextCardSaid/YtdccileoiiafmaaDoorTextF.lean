/-
  Numbers as texts: the library's FormatInt at small negative numbers.
  No condition.
-/
import Derived.Test.YtdccileoiiafmaaDoorName
namespace Go.Proofs.YtdccileoiiafmaaDoor
set_option maxRecDepth 100000
open Go.RowKit

def lenN (k : Nat) : Nat := if k = 1 then 1 else if k ≤ 3 then 2 else 3
set_option maxHeartbeats 4000000 in
theorem c_len64 (k : Nat) (w : World) (hk : k = 1 ∨ k = 2 ∨ k = 3 ∨ k = 4 ∨ k = 5 ∨ k = 6) :
    Calls Tryd.prog 57 #[.int .u64 k] w fun e w' => e = .returned (.int .i64 (lenN k)) ∧ w' = w := by
  rcases hk with rfl | rfl | rfl | rfl | rfl | rfl <;>
  · go_enter Tryd.func57, Tryd.ntmps57
    go_wp2
    go_ret
    refine ⟨ret_int ?_, rfl⟩
    decide +kernel
set_option maxHeartbeats 4000000 in
theorem c_log (L : Nat) (w : World) (hk : L = 1 ∨ L = 2 ∨ L = 3) :
    Calls Tryd.prog 56 #[.int .i64 L] w fun e w' => e = .returned (.int .i64 0) ∧ w' = w := by
  rcases hk with rfl | rfl | rfl <;>
  · go_enter Tryd.func56, Tryd.ntmps56
    go_wp2
    go_ret
    refine ⟨ret_int ?_, rfl⟩
    decide +kernel
set_option maxHeartbeats 4000000 in
theorem c_numDigits (k : Nat) (w : World) (hk : k = 1 ∨ k = 2 ∨ k = 3 ∨ k = 4 ∨ k = 5 ∨ k = 6) (hG : w.cell? ⟨0, 0, none⟩ = some (.int .u64 1)) :
    Calls Tryd.prog 53 #[.int .u64 k] w fun e w' => e = .returned (.int .i64 1) ∧ w' = w := by
  have hL : lenN k = 1 ∨ lenN k = 2 ∨ lenN k = 3 := by unfold lenN; split; exact .inl rfl; split; exact .inr (.inl rfl); exact .inr (.inr rfl)
  have hk1 : (1 : Int) ≤ (k : Int) := by omega
  go_enter Tryd.func53, Tryd.ntmps53
  go_wp2_with (fail)
  refine Calls.mono (c_len64 k w hk) ?_
  rintro e w1 ⟨rfl, rfl⟩
  go_wp2_with (fail)
  refine Calls.mono (c_log (lenN k) _ hL) ?_
  rintro e w2 ⟨rfl, rfl⟩
  go_wp2
  go_ret
  exact ⟨rfl, rfl⟩
set_option maxHeartbeats 4000000 in
theorem c_base10 (k : Nat) (g c : Nat) (w : World) (hk : k = 1 ∨ k = 2 ∨ k = 3 ∨ k = 4 ∨ k = 5 ∨ k = 6) (hc : ∃ v, w.cell? ⟨g, 1, none⟩ = some v) (hf : w.frozen? ⟨g, 1, none⟩ = false) :
    Calls Tryd.prog 54 #[.slice (some ⟨g, 1, none⟩) 1 c, .int .u64 k] w fun e w' => e = .returned (.tuple #[]) ∧ w' = w.setCell ⟨g, 1, none⟩ (.int .u8 (48 + k)) := by
  obtain ⟨v, hv⟩ := hc
  rcases hk with rfl | rfl | rfl | rfl | rfl | rfl
  · go_enter Tryd.func54, Tryd.ntmps54
    go_wp2_with (fail)
    go_loopw [1, 4] (fun u i wr => u = .int .u64 1 ∧ i = .int .i64 1 ∧ wr = w) (fun _ _ _ => 0)
    case atStart => exact ⟨rfl, rfl, rfl⟩
    case round =>
      obtain ⟨rfl, rfl, rfl⟩ := hrel
      go_wp2_with (fail)
      go_end0
      exact ⟨rfl, rfl⟩
  · go_enter Tryd.func54, Tryd.ntmps54
    go_wp2_with (fail)
    go_loopw [1, 4] (fun u i wr => u = .int .u64 2 ∧ i = .int .i64 1 ∧ wr = w) (fun _ _ _ => 0)
    case atStart => exact ⟨rfl, rfl, rfl⟩
    case round =>
      obtain ⟨rfl, rfl, rfl⟩ := hrel
      go_wp2_with (fail)
      go_end0
      exact ⟨rfl, rfl⟩
  · go_enter Tryd.func54, Tryd.ntmps54
    go_wp2_with (fail)
    go_loopw [1, 4] (fun u i wr => u = .int .u64 3 ∧ i = .int .i64 1 ∧ wr = w) (fun _ _ _ => 0)
    case atStart => exact ⟨rfl, rfl, rfl⟩
    case round =>
      obtain ⟨rfl, rfl, rfl⟩ := hrel
      go_wp2_with (fail)
      go_end0
      exact ⟨rfl, rfl⟩
  · go_enter Tryd.func54, Tryd.ntmps54
    go_wp2_with (fail)
    go_loopw [1, 4] (fun u i wr => u = .int .u64 4 ∧ i = .int .i64 1 ∧ wr = w) (fun _ _ _ => 0)
    case atStart => exact ⟨rfl, rfl, rfl⟩
    case round =>
      obtain ⟨rfl, rfl, rfl⟩ := hrel
      go_wp2_with (fail)
      go_end0
      exact ⟨rfl, rfl⟩
  · go_enter Tryd.func54, Tryd.ntmps54
    go_wp2_with (fail)
    go_loopw [1, 4] (fun u i wr => u = .int .u64 5 ∧ i = .int .i64 1 ∧ wr = w) (fun _ _ _ => 0)
    case atStart => exact ⟨rfl, rfl, rfl⟩
    case round =>
      obtain ⟨rfl, rfl, rfl⟩ := hrel
      go_wp2_with (fail)
      go_end0
      exact ⟨rfl, rfl⟩
  · go_enter Tryd.func54, Tryd.ntmps54
    go_wp2_with (fail)
    go_loopw [1, 4] (fun u i wr => u = .int .u64 6 ∧ i = .int .i64 1 ∧ wr = w) (fun _ _ _ => 0)
    case atStart => exact ⟨rfl, rfl, rfl⟩
    case round =>
      obtain ⟨rfl, rfl, rfl⟩ := hrel
      go_wp2_with (fail)
      go_end0
      exact ⟨rfl, rfl⟩
theorem conv_two (W : World) (g : Nat) (c : Int) (n : UInt8) (h : c = (n.toNat : Int)) (h0 : ∃ v, W.cell? ⟨g, 0, none⟩ = some v) (h1 : ∃ v, W.cell? ⟨g, 1, none⟩ = some v) :
    (convert 64 9 (.slice (some ⟨g, 0, none⟩) 2 24)).run Tryd.prog ((W.setCell ⟨g, 1, none⟩ (.int .u8 c)).setCell ⟨g, 0, none⟩ (.int .u8 45)) = .ok (.string ⟨#[45, n]⟩) ((W.setCell ⟨g, 1, none⟩ (.int .u8 c)).setCell ⟨g, 0, none⟩ (.int .u8 45)) := by
  obtain ⟨v0, h0⟩ := h0
  obtain ⟨v1, h1⟩ := h1
  have e01 : ¬ (⟨g, 0, none⟩ : Addr) = ⟨g, 1, none⟩ := by simp
  have e10 : ¬ (⟨g, 1, none⟩ : Addr) = ⟨g, 0, none⟩ := by simp
  have k0 : (W.setCell ⟨g, 1, none⟩ (.int .u8 c)).cell? ⟨g, 0, none⟩ = some v0 := (World.cell?_setCell_other _ _ _ _ e10).trans h0
  have k1 : (W.setCell ⟨g, 1, none⟩ (.int .u8 c)).cell? ⟨g, 1, none⟩ = some (.int .u8 c) := World.cell?_setCell_same _ _ _ h1
  refine run_convert_bytes_back _ _ _ 5 ⟨g, 0, none⟩ 24 [45, n] Tryd.underlying64 Tryd.underlying5 Tryd.underlying9 (fun j hj => ?_)
  have hj' : j = 0 ∨ j = 1 := by simp at hj; omega
  rcases hj' with rfl | rfl
  · exact World.cell?_setCell_same _ _ _ k0
  · refine (World.cell?_setCell_other _ _ _ _ e01).trans ?_
    subst h
    exact k1
set_option maxHeartbeats 4000000 in
theorem c_formatN (k : Nat) (w : World) (hk : k = 1 ∨ k = 2 ∨ k = 3 ∨ k = 4 ∨ k = 5 ∨ k = 6) (hG : w.cell? ⟨0, 0, none⟩ = some (.int .u64 1)) :
    Calls Tryd.prog 51 #[.int .i64 (-(k : Int)), .int .i64 10] w fun e w' => e = .returned (.string (⟨#[45]⟩ ++ digB k)) ∧ Ext w w' := by

  obtain ⟨W, hW⟩ : ∃ W, W = w.alloc (.cells #[.int .u8 0, .int .u8 0, .int .u8 0, .int .u8 0, .int .u8 0, .int .u8 0, .int .u8 0, .int .u8 0, .int .u8 0, .int .u8 0, .int .u8 0, .int .u8 0, .int .u8 0, .int .u8 0, .int .u8 0, .int .u8 0, .int .u8 0, .int .u8 0, .int .u8 0, .int .u8 0, .int .u8 0, .int .u8 0, .int .u8 0, .int .u8 0] 68) := ⟨_, rfl⟩
  obtain ⟨g, hg0⟩ : ∃ g, g = w.heap.size := ⟨_, rfl⟩
  have hg : w.heap.size ≤ g := by omega
  have gW : Ext w W := by rw [hW]; exact ext_alloc _ _
  have h0 : ∃ v, W.cell? ⟨g, 0, none⟩ = some v := ⟨.int .u8 0, by rw [hW, hg0]; simp⟩
  have h1 : ∃ v, W.cell? ⟨g, 1, none⟩ = some v := ⟨.int .u8 0, by rw [hW, hg0]; simp⟩
  have hf0 : W.frozen? ⟨g, 0, none⟩ = false := by rw [hW, hg0]; simp
  have hf1 : W.frozen? ⟨g, 1, none⟩ = false := by rw [hW, hg0]; simp
  rcases hk with rfl | rfl | rfl | rfl | rfl | rfl
  · have hwk : IntKind.u64.wrap (-IntKind.u64.wrap (-1)) = 1 := by decide +kernel
    go_enter Tryd.func51, Tryd.ntmps51
    go_wp2_with (fail)
    rw [← hW, ← hg0]
    clear hW hg0
    refine Calls.mono (c_numDigits 1 W (by decide) (gW.cell hG)) ?_
    rintro e w1 ⟨rfl, rfl⟩
    go_wp2_with (fail)
    refine Calls.mono (c_base10 1 g _ w1 (by decide) h1 hf1) ?_
    rintro e w2 ⟨rfl, rfl⟩
    have hcv := conv_two w1 g 49 49 rfl h0 h1
    obtain ⟨v0, h0'⟩ := h0
    obtain ⟨v1, h1'⟩ := h1
    go_wp2_with (fail)
    go_ret
    exact ⟨rfl, (gW.setCell hg _).setCell hg _⟩
  · have hwk : IntKind.u64.wrap (-IntKind.u64.wrap (-2)) = 2 := by decide +kernel
    go_enter Tryd.func51, Tryd.ntmps51
    go_wp2_with (fail)
    rw [← hW, ← hg0]
    clear hW hg0
    refine Calls.mono (c_numDigits 2 W (by decide) (gW.cell hG)) ?_
    rintro e w1 ⟨rfl, rfl⟩
    go_wp2_with (fail)
    refine Calls.mono (c_base10 2 g _ w1 (by decide) h1 hf1) ?_
    rintro e w2 ⟨rfl, rfl⟩
    have hcv := conv_two w1 g 50 50 rfl h0 h1
    obtain ⟨v0, h0'⟩ := h0
    obtain ⟨v1, h1'⟩ := h1
    go_wp2_with (fail)
    go_ret
    exact ⟨rfl, (gW.setCell hg _).setCell hg _⟩
  · have hwk : IntKind.u64.wrap (-IntKind.u64.wrap (-3)) = 3 := by decide +kernel
    go_enter Tryd.func51, Tryd.ntmps51
    go_wp2_with (fail)
    rw [← hW, ← hg0]
    clear hW hg0
    refine Calls.mono (c_numDigits 3 W (by decide) (gW.cell hG)) ?_
    rintro e w1 ⟨rfl, rfl⟩
    go_wp2_with (fail)
    refine Calls.mono (c_base10 3 g _ w1 (by decide) h1 hf1) ?_
    rintro e w2 ⟨rfl, rfl⟩
    have hcv := conv_two w1 g 51 51 rfl h0 h1
    obtain ⟨v0, h0'⟩ := h0
    obtain ⟨v1, h1'⟩ := h1
    go_wp2_with (fail)
    go_ret
    exact ⟨rfl, (gW.setCell hg _).setCell hg _⟩
  · have hwk : IntKind.u64.wrap (-IntKind.u64.wrap (-4)) = 4 := by decide +kernel
    go_enter Tryd.func51, Tryd.ntmps51
    go_wp2_with (fail)
    rw [← hW, ← hg0]
    clear hW hg0
    refine Calls.mono (c_numDigits 4 W (by decide) (gW.cell hG)) ?_
    rintro e w1 ⟨rfl, rfl⟩
    go_wp2_with (fail)
    refine Calls.mono (c_base10 4 g _ w1 (by decide) h1 hf1) ?_
    rintro e w2 ⟨rfl, rfl⟩
    have hcv := conv_two w1 g 52 52 rfl h0 h1
    obtain ⟨v0, h0'⟩ := h0
    obtain ⟨v1, h1'⟩ := h1
    go_wp2_with (fail)
    go_ret
    exact ⟨rfl, (gW.setCell hg _).setCell hg _⟩
  · have hwk : IntKind.u64.wrap (-IntKind.u64.wrap (-5)) = 5 := by decide +kernel
    go_enter Tryd.func51, Tryd.ntmps51
    go_wp2_with (fail)
    rw [← hW, ← hg0]
    clear hW hg0
    refine Calls.mono (c_numDigits 5 W (by decide) (gW.cell hG)) ?_
    rintro e w1 ⟨rfl, rfl⟩
    go_wp2_with (fail)
    refine Calls.mono (c_base10 5 g _ w1 (by decide) h1 hf1) ?_
    rintro e w2 ⟨rfl, rfl⟩
    have hcv := conv_two w1 g 53 53 rfl h0 h1
    obtain ⟨v0, h0'⟩ := h0
    obtain ⟨v1, h1'⟩ := h1
    go_wp2_with (fail)
    go_ret
    exact ⟨rfl, (gW.setCell hg _).setCell hg _⟩
  · have hwk : IntKind.u64.wrap (-IntKind.u64.wrap (-6)) = 6 := by decide +kernel
    go_enter Tryd.func51, Tryd.ntmps51
    go_wp2_with (fail)
    rw [← hW, ← hg0]
    clear hW hg0
    refine Calls.mono (c_numDigits 6 W (by decide) (gW.cell hG)) ?_
    rintro e w1 ⟨rfl, rfl⟩
    go_wp2_with (fail)
    refine Calls.mono (c_base10 6 g _ w1 (by decide) h1 hf1) ?_
    rintro e w2 ⟨rfl, rfl⟩
    have hcv := conv_two w1 g 54 54 rfl h0 h1
    obtain ⟨v0, h0'⟩ := h0
    obtain ⟨v1, h1'⟩ := h1
    go_wp2_with (fail)
    go_ret
    exact ⟨rfl, (gW.setCell hg _).setCell hg _⟩
end Go.Proofs.YtdccileoiiafmaaDoor
