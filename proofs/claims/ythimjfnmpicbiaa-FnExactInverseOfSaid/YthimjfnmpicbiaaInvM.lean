/-
  Inverses of multivectors from linear systems, in plain numbers.
  No condition. No program in sight.
-/
import Derived.Test.YthimjfnmpicbiaaKill
import Derived.Test.YthimjfnmpicbiaaAlgB
import Derived.Test.YthimjfnmpicbiaaMat
import Derived.Test.YthimjfnmpicbiaaSolve
namespace Go.Proofs.Ythimjfnmpicbiaa
set_option maxRecDepth 100000
open Go.RowKit

theorem mul_blade {p : Int} {qs x : List Int} {i j : Nat} (hp : 1 ≤ p) (hi : i < 2 ^ qs.length) (hj : j < 2 ^ qs.length) :
    nth (prodL p qs tkA x (bladeL (2 ^ qs.length) j)) i = (nth x (i ^^^ j) * facZ qs (i ^^^ j) j qs.length) % p := by
  have hij := Nat.xor_lt_two_pow hi hj
  rw [prodA_nth hp hi, sumN_single hij (fun a ha hne => by
    have : ¬ j = a ^^^ i := fun h => hne (by rw [h, Nat.xor_comm a i, ← Nat.xor_assoc, Nat.xor_self, Nat.zero_xor])
    rw [bladeL_nth hj (Nat.xor_lt_two_pow ha hi), if_neg this]; simp)]
  have e : i ^^^ j ^^^ i = j := by rw [Nat.xor_comm i j, Nat.xor_assoc, Nat.xor_self, Nat.xor_zero]
  rw [e, bladeL_nth hj hj, if_pos rfl, Int.mul_one]
/-- The left matrix leads a multivector to the product. -/
theorem mat_dot {p : Int} {qs x y : List Int} {i : Nat} (hp : 1 ≤ p) (hd : qs.length ≤ 6) (hi : i < 2 ^ qs.length) :
    dotN (2 ^ qs.length) (nthR (matM p qs x true) i) y % p = nth (prodL p qs tkA x y) i := by
  unfold dotN matM
  rw [turnL_nth hi, prodA_nth hp hi, ← sumN_xor hd hi]
  refine sumN_emod fun m hm => ?_
  have him := Nat.xor_lt_two_pow hi hm
  rw [colL_nth him, colsM_nth him, mulC, if_pos rfl, mul_blade hp hi him]
  have e : i ^^^ (i ^^^ m) = m := by rw [← Nat.xor_assoc, Nat.xor_self, Nat.zero_xor]
  have e2 : m ^^^ i = i ^^^ m := Nat.xor_comm _ _
  rw [e, e2]
  have : nth x m * nth y (i ^^^ m) * facZ qs m (i ^^^ m) qs.length = nth x m * facZ qs m (i ^^^ m) qs.length * nth y (i ^^^ m) := by ac_rfl
  rw [this]
  exact mul_emod_congr (Int.emod_emod _ _) rfl

/-- The rows that tell whether a multivector has an inverse. -/
def invRed (p : Int) (qs x : List Int) : List (List Int) := redL p (2 ^ qs.length) (matM p qs x true) (bladeL (2 ^ qs.length) 0) (2 ^ qs.length)
def invOk (p : Int) (qs x : List Int) : Bool := okS (2 ^ qs.length) (invRed p qs x)
def invL (p : Int) (qs x : List Int) : List Int := solR (2 ^ qs.length) (invRed p qs x)
theorem inv_right {p : Int} {qs x : List Int} (hp : primeB p = true) (hd : qs.length ≤ 6) (h : invOk p qs x = true) :
    Good p (2 ^ qs.length) (invL p qs x) ∧ prodL p qs tkA x (invL p qs x) = bladeL (2 ^ qs.length) 0 := by
  have hpb := prime_bd hp
  have hN := pow_pos' qs.length
  have hML : (matM p qs x true).length = 2 ^ qs.length := matM_len _ _ _ _
  have hMG : RowsG p (2 ^ qs.length) (matM p qs x true) := matM_good (by omega)
  have hBG : Good p (matM p qs x true).length (bladeL (2 ^ qs.length) 0) := by rw [hML]; exact blade_good (by omega)
  have e : invL p qs x = solL (2 ^ qs.length) (basisL p (2 ^ qs.length + 1) (wideL (matM p qs x true) (bladeL (2 ^ qs.length) 0) (matM p qs x true).length)) := by
    unfold invL solR
    rw [show okS (2 ^ qs.length) (invRed p qs x) = true from h, if_pos rfl, hML]; rfl
  have hs := sol_spec (v := bladeL (2 ^ qs.length) 0) hp hMG hBG (by rw [hML]; exact h)
  rw [← e] at hs
  have hg : Good p (2 ^ qs.length) (invL p qs x) := by
    rw [e]
    obtain ⟨c, hb⟩ := basis_red hp (wideL_good hMG hBG (Nat.le_refl _))
    exact sol_good (by omega) hb.good
  refine ⟨hg, ext_nth (by rw [(prod_good (by omega)).1, bladeL_len]) fun i hi => ?_⟩
  rw [(prod_good (by omega)).1] at hi
  rw [← mat_dot (by omega) hd hi, hs i (by rw [hML]; exact hi)]
  have hb := (blade_good (p := p) (N := 2 ^ qs.length) (m := 0) (by omega)).2 i hi
  exact Int.emod_eq_of_lt hb.1 hb.2
theorem inv_left {p : Int} {qs x : List Int} (hp : primeB p = true) (hd : qs.length ≤ 6) (hx : Good p (2 ^ qs.length) x) (h : invOk p qs x = true) :
    prodL p qs tkA (invL p qs x) x = bladeL (2 ^ qs.length) 0 := by
  have hpb := prime_bd hp
  obtain ⟨h1, h2⟩ := inv_right hp hd h
  exact inv_both (by omega) hd hx h1 h2
theorem inv_iff {p : Int} {qs x y : List Int} (hp : primeB p = true) (hd : qs.length ≤ 6) (hy : Good p (2 ^ qs.length) y) (h : prodL p qs tkA x y = bladeL (2 ^ qs.length) 0) : invOk p qs x = true := by
  have hpb := prime_bd hp
  have hML : (matM p qs x true).length = 2 ^ qs.length := matM_len _ _ _ _
  have hMG : RowsG p (2 ^ qs.length) (matM p qs x true) := matM_good (by omega)
  have hBG : Good p (matM p qs x true).length (bladeL (2 ^ qs.length) 0) := by rw [hML]; exact blade_good (by omega)
  have := sol_exists hp hMG hBG hy.1 (fun i hi => by
    rw [hML] at hi
    rw [mat_dot (by omega) hd hi, h]
    have hb := (blade_good (p := p) (N := 2 ^ qs.length) (m := 0) (by omega)).2 i hi
    exact (Int.emod_eq_of_lt hb.1 hb.2).symm)
  rw [hML] at this
  exact this

/-- A tuple of a slice of the call's own and a bool. -/
def SPred.sol (B n : Nat) (xs : List Int) (b : Bool) : SPred := ⟨fun v w => ∃ ra rc, v = .tuple #[.slice ra n rc, .bool b] ∧ OwnC B w ra n rc xs, fun _ _ _ ⟨ra, rc, hv, h⟩ he => ⟨ra, rc, hv, h.ext he⟩⟩

end Go.Proofs.Ythimjfnmpicbiaa
