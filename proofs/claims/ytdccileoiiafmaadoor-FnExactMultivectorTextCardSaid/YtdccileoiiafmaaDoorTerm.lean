/-
  Texts of terms of multivectors.
  No condition.
-/
import Derived.Test.YtdccileoiiafmaaDoorText
namespace Go.Proofs.YtdccileoiiafmaaDoor
set_option maxRecDepth 100000
open Go.RowKit

def termN (p a : Int) (m d : Nat) : ByteArray := if m = 0 then textN p a else if a = 1 then nameL m d else if a = p - 1 then ⟨#[45]⟩ ++ nameL m d else textN p a ++ nameL m d
def negB (p a : Int) : Bool := decide ((p - 1) / 2 < a)
theorem name_size {m d : Nat} (hd : d ≤ 6) : (nameL m d).size ≤ 7 := by
  unfold nameL
  split
  · show (1 : Nat) ≤ 7; omega
  · have := nameS_size m d; omega
theorem term_size {p a : Int} {m d : Nat} (hd : d ≤ 6) : (termN p a m d).size ≤ 9 := by
  have h1 := name_size (m := m) hd
  have h2 := text_size (p := p) (a := a)
  unfold termN
  split
  · omega
  · split
    · omega
    · split
      · rw [ByteArray.size_append, minus_size]; omega
      · rw [ByteArray.size_append]; omega
theorem append_assocB (a b c : ByteArray) : a ++ b ++ c = a ++ (b ++ c) := ByteArray.append_assoc
theorem nameS_lead (m : Nat) : ∀ k, ∃ t, nameS m k = ⟨#[101]⟩ ++ t
  | 0 => ⟨⟨#[]⟩, rfl⟩
  | k + 1 => by
    obtain ⟨t, ht⟩ := nameS_lead m k
    unfold nameS
    split
    · exact ⟨t ++ digB k, by rw [ht, append_assocB]⟩
    · exact ⟨t, ht⟩
theorem name_lead (m d : Nat) : ∃ c t, nameL m d = ⟨#[c]⟩ ++ t ∧ (c == 45) = false := by
  unfold nameL
  split
  · exact ⟨49, ⟨#[]⟩, rfl, rfl⟩
  · obtain ⟨t, ht⟩ := nameS_lead m d
    exact ⟨101, t, ht, rfl⟩
theorem prime_cases {p : Int} (h : primeB p = true) : p = 3 ∨ p = 5 ∨ p = 7 ∨ p = 11 ∨ p = 13 := by simp [primeB] at h; omega
theorem text_lead {p a : Int} (hp : primeB p = true) (h0 : 0 < a) (ha : a < p) : ∃ c t, textN p a = ⟨#[c]⟩ ++ t ∧ (c == 45) = negB p a := by
  have hpb := prime_bd hp
  unfold textN negB
  by_cases h : (p - 1) / 2 < a
  · rw [if_pos h, decide_eq_true h]; exact ⟨45, _, rfl, rfl⟩
  · rw [if_neg h, decide_eq_false h]
    refine ⟨UInt8.ofNat (48 + a.toNat), ⟨#[]⟩, rfl, ?_⟩
    have h2 : a.toNat ≤ 12 := by omega
    have : ∀ k : Nat, k ≤ 12 → (UInt8.ofNat (48 + k) == 45) = false := by decide +kernel
    exact this _ h2
theorem neg_one {p : Int} (hp : primeB p = true) : negB p 1 = false := by
  rcases prime_cases hp with rfl | rfl | rfl | rfl | rfl <;> decide
theorem neg_last {p : Int} (hp : primeB p = true) : negB p (p - 1) = true := by
  rcases prime_cases hp with rfl | rfl | rfl | rfl | rfl <;> decide
theorem term_lead {p a : Int} {m d : Nat} (hp : primeB p = true) (h0 : 0 < a) (ha : a < p) : ∃ c t, termN p a m d = ⟨#[c]⟩ ++ t ∧ (c == 45) = negB p a := by
  unfold termN
  split
  · exact text_lead hp h0 ha
  · split
    · rename_i h; subst h
      rw [neg_one hp]; exact name_lead m d
    · split
      · rename_i h; subst h
        rw [neg_last hp]; exact ⟨45, _, rfl, rfl⟩
      · obtain ⟨c, t, h1, h2⟩ := text_lead hp h0 ha
        exact ⟨c, t ++ nameL m d, by rw [h1, append_assocB], h2⟩
theorem text_one {p a : Int} (hp : primeB p = true) (h0 : 0 < a) (ha : a < p) : ((textN p a).toList == (⟨#[49]⟩ : ByteArray).toList) = decide (a = 1) := by
  have hpb := prime_bd hp
  obtain ⟨k, rfl⟩ : ∃ k : Nat, a = k := ⟨a.toNat, by omega⟩
  have H : ∀ p : Int, p = 3 ∨ p = 5 ∨ p = 7 ∨ p = 11 ∨ p = 13 → ∀ k : Nat, k < 13 → (0 : Int) < k → (k : Int) < p → ((textN p k).toList == (⟨#[49]⟩ : ByteArray).toList) = decide ((k : Int) = 1) := by
    rintro p (rfl | rfl | rfl | rfl | rfl) <;> decide +kernel
  exact H p (prime_cases hp) k (by omega) h0 ha
theorem text_mone {p a : Int} (hp : primeB p = true) (h0 : 0 < a) (ha : a < p) : ((textN p a).toList == (⟨#[45, 49]⟩ : ByteArray).toList) = decide (a = p - 1) := by
  have hpb := prime_bd hp
  obtain ⟨k, rfl⟩ : ∃ k : Nat, a = k := ⟨a.toNat, by omega⟩
  have H : ∀ p : Int, p = 3 ∨ p = 5 ∨ p = 7 ∨ p = 11 ∨ p = 13 → ∀ k : Nat, k < 13 → (0 : Int) < k → (k : Int) < p → ((textN p k).toList == (⟨#[45, 49]⟩ : ByteArray).toList) = decide ((k : Int) = p - 1) := by
    rintro p (rfl | rfl | rfl | rfl | rfl) <;> decide +kernel
  exact H p (prime_cases hp) k (by omega) h0 ha

theorem lead_ext (c : UInt8) (t : ByteArray) : ((⟨#[c]⟩ : ByteArray) ++ t).extract 0 1 = ⟨#[c]⟩ := by
  apply ByteArray.ext
  simp [ByteArray.data_extract, ByteArray.data_append]
set_option maxHeartbeats 2000000 in
theorem c_prefix (c : UInt8) (t : ByteArray) (w : World) (B : Bool) (hB : (c == 45) = B) :
    Calls Tryd.prog 50 #[.string (⟨#[c]⟩ ++ t), .string ⟨#[45]⟩] w fun e w' => e = .returned (.bool B) ∧ Ext w w' := by
  have HL := lead_ext c t
  have hs : ((⟨#[c]⟩ : ByteArray) ++ t).size = 1 + t.size := ByteArray.size_append
  go_enter Tryd.func50, Tryd.ntmps50
  go_wp2_with (fail)
  go_ret
  exact ⟨rfl, Ext.refl _⟩
set_option maxHeartbeats 2000000 in
theorem c_HasPrefix (c : UInt8) (t : ByteArray) (w : World) (B : Bool) (hB : (c == 45) = B) :
    Calls Tryd.prog 45 #[.string (⟨#[c]⟩ ++ t), .string ⟨#[45]⟩] w fun e w' => e = .returned (.bool B) ∧ Ext w w' := by
  go_enter Tryd.func45, Tryd.ntmps45
  go_wp2_with (fail)
  refine Calls.mono (c_prefix c t w B hB) ?_
  rintro e w1 ⟨rfl, g1⟩
  go_wp2_with (fail)
  go_ret
  exact ⟨rfl, g1⟩
end Go.Proofs.YtdccileoiiafmaaDoor
