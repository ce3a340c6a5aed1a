/-
  The listed function IsCentral.
  No condition.
-/
import Derived.Test.YthimjfnmpicbiaaIdem
import Derived.Test.YthimjfnmpicbiaaUndual
import Derived.Test.YthimjfnmpicbiaaVec
import Derived.Test.YthimjfnmpicbiaaAlgD
import Derived.Test.YthimjfnmpicbiaaRowsC
import Derived.Test.YthimjfnmpicbiaaRows3
import Derived.Test.YthimjfnmpicbiaaSolve
namespace Go.Proofs.Ythimjfnmpicbiaa
set_option maxRecDepth 100000
open Go.RowKit

def cenE (p : Int) (qs x : List Int) (k : Nat) : Bool := eqB (prodL p qs tkA x (bladeL (2 ^ qs.length) (2 ^ k))) (prodL p qs tkA (bladeL (2 ^ qs.length) (2 ^ k)) x)
def centB (p : Int) (qs x : List Int) : Bool := (List.range qs.length).all (cenE p qs x)
theorem centB_false {p : Int} {qs x : List Int} {k d : Nat} (hd : qs.length = d) (hk : k < d) (h : cenE p qs x k = false) : centB p qs x = false := by
  unfold centB
  rw [List.all_eq_false]
  exact ⟨k, List.mem_range.2 (by omega), by simp [h]⟩
theorem centB_true {p : Int} {qs x : List Int} {d : Nat} (hd : qs.length = d) (h : ∀ k, k < d → cenE p qs x k = true) : centB p qs x = true := by
  unfold centB
  rw [List.all_eq_true]
  intro k hk
  exact h k (by have := List.mem_range.1 hk; omega)
theorem eqB_comm (x y : List Int) : eqB x y = eqB y x := by
  unfold eqB
  rw [Bool.eq_iff_iff]
  simp only [decide_eq_true_eq]
  exact eq_comm
theorem vec_unit {d i : Nat} (hi : i < d) : vecL (2 ^ d) (bladeL d i) = bladeL (2 ^ d) (2 ^ i) := by
  have hl : (vecL (2 ^ d) (bladeL d i)).length = 2 ^ d := (vec_good (p := 3) (by omega) (blade_good (by omega))).1
  have hlt : 2 ^ i < 2 ^ d := Nat.pow_lt_pow_right (by omega) hi
  refine ext_nth (by rw [hl, bladeL_len]) (fun m hm => ?_)
  rw [hl] at hm
  rw [bladeL_nth hlt hm]
  by_cases h : ∃ j, j < d ∧ m = 2 ^ j
  · obtain ⟨j, hj, rfl⟩ := h
    rw [vec_bit (bladeL_len _ _) hj, bladeL_nth hi hj]
    by_cases hij : i = j
    · subst hij; simp
    · rw [if_neg hij, if_neg (fun h => hij ((Nat.pow_right_inj (by omega)).1 h))]
  · rw [vec_no (bladeL_len _ _) hm (fun j hj hmj => h ⟨j, hj, hmj⟩), if_neg (fun hmm => h ⟨i, hi, hmm.symm⟩)]



end Go.Proofs.Ythimjfnmpicbiaa
