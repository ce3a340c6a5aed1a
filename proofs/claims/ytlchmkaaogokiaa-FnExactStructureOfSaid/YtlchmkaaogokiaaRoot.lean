/-
  Square roots of numbers, in the program and in the reference.
  No condition.
-/
import Derived.Test.YtlchmkaaogokiaaInv
namespace Go.Proofs.Ytlchmkaaogokiaa
set_option maxRecDepth 100000
open Go.RowKit

def rootB (p a : Int) : Bool := (List.range p.toNat).any fun (i : Nat) => ((i : Int) * (i : Int)) % p == a
theorem rootB_at {p a : Int} {k : Nat} (hk : (k : Int) < p) (h : ((k : Int) * (k : Int)) % p = a) : rootB p a = true := by
  unfold rootB
  rw [List.any_eq_true]
  exact ⟨k, List.mem_range.2 (by omega), by simp [h]⟩
theorem rootB_none {p a : Int} (h : ∀ j : Nat, (j : Int) < p → ((j : Int) * (j : Int)) % p ≠ a) : rootB p a = false := by
  unfold rootB
  rw [List.any_eq_false]
  intro j hj
  have := h j (by have := List.mem_range.1 hj; omega)
  simpa using this
def rootI (p a : Int) : Int := match (List.range p.toNat).find? (fun (i : Nat) => ((i : Int) * (i : Int)) % p == a) with | some i => (i : Int) | none => -1
theorem rootI_eq {p a : Int} {k : Nat} (hk : (k : Int) < p) (h : ((k : Int) * (k : Int)) % p = a) (hl : ∀ j : Nat, j < k → ((j : Int) * (j : Int)) % p ≠ a) : rootI p a = k := by
  unfold rootI
  have : (List.range p.toNat).find? (fun (i : Nat) => ((i : Int) * (i : Int)) % p == a) = some k := by
    rw [List.find?_range_eq_some]
    exact ⟨by simp [h], by simp; omega, fun j hj => by simp [hl j hj]⟩
  rw [this]
theorem rootI_none {p a : Int} (h : ∀ j : Nat, (j : Int) < p → ((j : Int) * (j : Int)) % p ≠ a) : rootI p a = -1 := by
  unfold rootI
  have : (List.range p.toNat).find? (fun (i : Nat) => ((i : Int) * (i : Int)) % p == a) = none := by
    rw [List.find?_range_eq_none]
    exact fun j hj => by simpa using h j (by omega)
  rw [this]
theorem rootI_dec (p a : Int) : (0 ≤ rootI p a) = (rootB p a = true) := by
  unfold rootI rootB
  cases h : (List.range p.toNat).find? (fun (i : Nat) => ((i : Int) * (i : Int)) % p == a) with
  | none =>
    rw [List.find?_eq_none] at h
    simp only [eq_iff_iff]
    constructor
    · intro h1; omega
    · intro h1
      obtain ⟨i, hi, hb⟩ := List.any_eq_true.1 h1
      exact absurd hb (h i hi)
  | some i =>
    simp only [eq_iff_iff]
    refine ⟨fun _ => List.any_eq_true.2 ⟨i, List.mem_of_find?_eq_some h, by simpa using List.find?_some h⟩, fun _ => by omega⟩

set_option maxHeartbeats 400000 in
theorem c_root (p a : Int) (w : World) (hp1 : 3 ≤ p) (hp2 : p ≤ 1000) :
    Calls Try.prog 124 #[.int .i64 p, .int .i64 a] w fun e w' => ∃ r : Int, e = .returned (.tuple #[.int .i64 r, .bool (rootB p a)]) ∧ Ext w w' := by
  go_enter Try.func124, Try.ntmps124
  go_wp2_with (fail)
  go_loopw [8] (fun i wr => ∃ k : Nat, (k : Int) ≤ p ∧ i = .int .i64 k ∧ Hid (∀ j : Nat, j < k → ((j : Int) * (j : Int)) % p ≠ a) ∧ Ext w wr) (fun i _ => p.toNat - (intOf i).toNat)
  case atStart => exact ⟨0, by omega, rfl, Lib.hid (fun j hj => by omega), Ext.refl _⟩
  case round =>
    obtain ⟨k, hk, rfl, HT, hext⟩ := hrel
    by_cases hlt : (k : Int) < p
    · obtain ⟨hm1, hm2⟩ := mul_bd hp2 (show 0 ≤ (k : Int) by omega) hlt (show 0 ≤ (k : Int) by omega) hlt
      obtain ⟨R, hR⟩ : ∃ R, R = (k : Int) * (k : Int) % p := ⟨_, rfl⟩
      have HR := Lib.hid hR
      have hw1 : IntKind.i64.wrap ((k : Int) * (k : Int)) = (k : Int) * (k : Int) := IntWalk.i64_in _ (by omega)
      clear hR
      by_cases hz : R = a
      · have HZ := Lib.hid hz
        have hzb : (R == a) = true := by simp [hz]
        clear hz
        go_wp2_with (go_at_call 136; refine (c_num _ _ _ (by omega) hp2).mono ?_; rintro e w2 ⟨rfl, g2⟩; rw [← HR.out])
        go_ret2
        first
          | exact ⟨⟨(k : Int), by rw [rootB_at (by omega) (by rw [← HR.out]; exact HZ.out)]; rfl⟩, hext.trans g2⟩
          | exact ⟨(k : Int), by rw [rootB_at (by omega) (by rw [← HR.out]; exact HZ.out)]; rfl, hext.trans g2⟩
      · have HZ := Lib.hid hz
        have hzb : (R == a) = false := by simp [hz]
        clear hz
        go_wp2_with (go_at_call 136; refine (c_num _ _ _ (by omega) hp2).mono ?_; rintro e w2 ⟨rfl, g2⟩; rw [← HR.out])
        go_roundw
        case rel => exact ⟨k + 1, by omega, by go_num, Lib.hid (fun j hj => by
          by_cases hjk : j = k
          · subst hjk; rw [← HR.out]; exact HZ.out
          · exact HT.out j (by omega)), hext.trans g2⟩
        case measure => simp [intOf]; omega
    · go_wp2_with (fail)
      go_ret2
      first
        | exact ⟨⟨0, by rw [rootB_none (fun j hj => HT.out j (by omega))]; rfl⟩, hext⟩
        | exact ⟨0, by rw [rootB_none (fun j hj => HT.out j (by omega))]; rfl, hext⟩
set_option maxHeartbeats 400000 in
theorem c_isSquare (p a : Int) (w : World) (hp1 : 3 ≤ p) (hp2 : p ≤ 1000) :
    Calls Try.prog 68 #[.int .i64 p, .int .i64 a] w fun e w' => e = .returned (.bool (rootB p a)) ∧ Ext w w' := by
  go_enter Try.func68, Try.ntmps68
  go_wp2_with (go_at_call 124; refine (c_root _ _ _ hp1 hp2).mono ?_; rintro e w2 ⟨r, rfl, g2⟩)
  go_ret
  exact ⟨rfl, g2⟩
set_option maxHeartbeats 400000 in
theorem s_root (p a : Int) (w : World) (hp1 : 3 ≤ p) (hp2 : p ≤ 1000) :
    Calls Try.prog 122 #[.int .i64 p, .int .i64 a] w fun e w' => e = .returned (.int .i64 (rootI p a)) ∧ Ext w w' := by
  have hpz : ¬ p = 0 := by omega
  go_enter Try.func122, Try.ntmps122
  go_wp2_with (fail)
  go_loopw [5] (fun i wr => ∃ k : Nat, (k : Int) ≤ p ∧ i = .int .i64 k ∧ Hid (∀ j : Nat, j < k → ((j : Int) * (j : Int)) % p ≠ a) ∧ Ext w wr) (fun i _ => p.toNat - (intOf i).toNat)
  case atStart => exact ⟨0, by omega, rfl, Lib.hid (fun j hj => by omega), Ext.refl _⟩
  case round =>
    obtain ⟨k, hk, rfl, HT, hext⟩ := hrel
    by_cases hlt : (k : Int) < p
    · obtain ⟨hm1, hm2⟩ := mul_bd hp2 (show 0 ≤ (k : Int) by omega) hlt (show 0 ≤ (k : Int) by omega) hlt
      obtain ⟨R, hR⟩ : ∃ R, R = (k : Int) * (k : Int) % p := ⟨_, rfl⟩
      have HR := Lib.hid hR
      have hw1 : IntKind.i64.wrap ((k : Int) * (k : Int)) = (k : Int) * (k : Int) := IntWalk.i64_in _ (by omega)
      have hw2 : ((k : Int) * (k : Int)).tmod p = R := by rw [hR]; exact Int.tmod_eq_emod_of_nonneg hm1
      clear hR
      by_cases hz : R = a
      · have HZ := Lib.hid hz
        have hzb : (R == a) = true := by simp [hz]
        clear hz
        go_wp2_with (fail)
        go_ret
        exact ⟨ret_int (rootI_eq (by omega) (by rw [← HR.out]; exact HZ.out) HT.out).symm, hext⟩
      · have HZ := Lib.hid hz
        have hzb : (R == a) = false := by simp [hz]
        clear hz
        go_wp2_with (fail)
        go_roundw
        case rel => exact ⟨k + 1, by omega, by go_num, Lib.hid (fun j hj => by
          by_cases hjk : j = k
          · subst hjk; rw [← HR.out]; exact HZ.out
          · exact HT.out j (by omega)), hext⟩
        case measure => simp [intOf]; omega
    · go_wp2_with (fail)
      go_ret
      exact ⟨ret_int (rootI_none (fun j hj => HT.out j (by omega))).symm, hext⟩
end Go.Proofs.Ytlchmkaaogokiaa
