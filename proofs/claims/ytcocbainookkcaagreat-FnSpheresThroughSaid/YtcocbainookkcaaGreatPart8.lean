/-
  Contracts and plain laws, part 8: SphP, MapK, Solve, Kernel, OrthL, RedP, AppR.
  No condition.
-/
import Derived.Test.YtcocbainookkcaaGreatPart7
import Derived.Maps.OwnSet
import Derived.Maps.RangeWalk
import Derived.Test.YtcocbainookkcaaGreatPart5
import Derived.Test.YtcocbainookkcaaGreatPart6
import Derived.Test.YtcocbainookkcaaGreatPart1
import Derived.Test.YtcocbainookkcaaGreatPart0
import Derived.Test.YtcocbainookkcaaGreatPart4
import Derived.Test.YtcocbainookkcaaGreatPart2
import Derived.Test.YtcocbainookkcaaGreatPart3
import Derived.Maps.AppendAt
/-
  Spheres, distances and places, in plain numbers.
  No condition. No program in sight.
-/
namespace Go.Proofs.YtcocbainookkcaaGreat
set_option maxRecDepth 100000
open Go.RowKit

/-- Equal but for a multiple of p. -/
def cg (p a b : Int) : Prop := ∃ s, a = b + p * s
theorem cg.refl (p a : Int) : cg p a a := ⟨0, by omega⟩
theorem cg.symm {p a b : Int} (h : cg p a b) : cg p b a := by obtain ⟨s, hs⟩ := h; exact ⟨-s, by grind⟩
theorem cg.trans {p a b c : Int} (h : cg p a b) (k : cg p b c) : cg p a c := by obtain ⟨s, hs⟩ := h; obtain ⟨t, ht⟩ := k; exact ⟨s + t, by grind⟩
theorem cg.add {p a b c d : Int} (h : cg p a b) (k : cg p c d) : cg p (a + c) (b + d) := by obtain ⟨s, hs⟩ := h; obtain ⟨t, ht⟩ := k; exact ⟨s + t, by grind⟩
theorem cg.sub {p a b c d : Int} (h : cg p a b) (k : cg p c d) : cg p (a - c) (b - d) := by obtain ⟨s, hs⟩ := h; obtain ⟨t, ht⟩ := k; exact ⟨s - t, by grind⟩
theorem cg.mul {p a b c d : Int} (h : cg p a b) (k : cg p c d) : cg p (a * c) (b * d) := by obtain ⟨s, hs⟩ := h; obtain ⟨t, ht⟩ := k; exact ⟨s * d + b * t + p * (s * t), by grind⟩
theorem cg.emod {p a b : Int} (h : cg p a b) : a % p = b % p := emod_add h
theorem cg_emod (p a : Int) : cg p (a % p) a := emod_ex p a
theorem cg_of {p a b : Int} (h : a % p = b % p) : cg p a b := ((cg_emod p a).symm.trans (by rw [h]; exact cg.refl _ _)).trans (cg_emod p b)
theorem cg_small {p a b : Int} (h : cg p a b) (ha : 0 ≤ a) (ha2 : a < p) (hb : 0 ≤ b) (hb2 : b < p) : a = b := by
  have := h.emod
  rwa [Int.emod_eq_of_lt ha ha2, Int.emod_eq_of_lt hb hb2] at this
theorem cg_zero {p a : Int} (h : cg p a 0) (ha : 0 ≤ a) (ha2 : a < p) : a = 0 := cg_small h ha ha2 (Int.le_refl _) (by omega)
theorem cg_half {p : Int} (hp : primeB p = true) : cg p (2 * invN p 2) 1 := half_spec hp
theorem cg_inv {p a : Int} (hp : primeB p = true) (h0 : 0 < a) (h1 : a < p) : cg p (a * invN p a) 1 := by
  have hb := prime_bd hp
  have := (inv_spec hp h0 h1).2.1
  exact cg_of (by rw [this, Int.emod_eq_of_lt (by omega) (by omega)])
/-- A factor with an inverse is taken off. -/
theorem cg_cancel {p a b c : Int} (hp : primeB p = true) (h0 : 0 < c) (h1 : c < p) (h : cg p (c * a) (c * b)) : cg p a b := by
  have hi := cg_inv hp h0 h1
  obtain ⟨s, hs⟩ := hi
  obtain ⟨t, ht⟩ := h
  exact ⟨invN p c * t - s * (a - b), by grind⟩
theorem cg_two {p a b : Int} (hp : primeB p = true) (h : cg p (2 * a) (2 * b)) : cg p a b := by
  have hb := prime_bd hp
  exact cg_cancel hp (by omega) (by omega) h

theorem pz_comm (Q x y : List Int) : pairZ Q x y = pairZ Q y x := by rw [quad_pairZ, quad_pairZ, quad_comm]
theorem pl_pz {p : Int} {Q x y : List Int} {n : Nat} (h : Q.length = n) : pairL p Q x y n = pairZ Q x y % p := by subst h; rw [pair_quad, quad_pairZ]
theorem pl_cg {p : Int} {Q x y : List Int} {n : Nat} (h : Q.length = n) : cg p (pairL p Q x y n) (pairZ Q x y) := by rw [pl_pz h]; exact cg_emod _ _
theorem sum_cg {p : Int} {f g : Nat → Int} : ∀ n, (∀ i, i < n → cg p (f i) (g i)) → cg p (sumN n f) (sumN n g)
  | 0, _ => cg.refl _ _
  | n + 1, h => (sum_cg n fun i hi => h i (by omega)).add (h n (by omega))
theorem pz_congr {p : Int} {Q x x' y y' : List Int} (hx : ∀ i, i < Q.length → cg p (nth x i) (nth x' i)) (hy : ∀ i, i < Q.length → cg p (nth y i) (nth y' i)) : cg p (pairZ Q x y) (pairZ Q x' y') :=
  sum_cg _ fun i hi => ((hx i hi).mul (hy i hi)).mul (cg.refl _ _)
theorem pz_plus {p k : Int} {Q x y z : List Int} {n : Nat} (h : Q.length = n) : cg p (pairZ Q (plusL p x y k n) z) (pairZ Q x z + k * pairZ Q y z) := by
  subst h
  have e : pairZ Q x z + k * pairZ Q y z = sumN Q.length fun i => (nth x i + k * nth y i) * nth z i * nth Q i := by
    unfold pairZ
    rw [← sumN_mul, ← sumN_add]
    exact sumN_congr fun i _ => by grind
  rw [e]
  refine sum_cg _ fun i hi => ((cg.mul ?_ (cg.refl _ _)).mul (cg.refl _ _))
  rw [plusL_nth hi]
  exact cg_emod _ _
theorem pz_scale {p k : Int} {Q x z : List Int} {n : Nat} (h : Q.length = n) : cg p (pairZ Q (scaleL p x k n) z) (k * pairZ Q x z) := by
  subst h
  have e : k * pairZ Q x z = sumN Q.length fun i => (nth x i * k) * nth z i * nth Q i := by
    unfold pairZ
    rw [← sumN_mul]
    exact sumN_congr fun i _ => by grind
  rw [e]
  refine sum_cg _ fun i hi => ((cg.mul ?_ (cg.refl _ _)).mul (cg.refl _ _))
  rw [scaleL_nth hi]
  exact cg_emod _ _
theorem plus_cg {p k : Int} {x y : List Int} {n i : Nat} (h : i < n) : cg p (nth (plusL p x y k n) i) (nth x i + k * nth y i) := by rw [plusL_nth h]; exact cg_emod _ _
theorem scale_cg {p k : Int} {x : List Int} {n i : Nat} (h : i < n) : cg p (nth (scaleL p x k n) i) (nth x i * k) := by rw [scaleL_nth h]; exact cg_emod _ _
theorem good_eq {p : Int} {n : Nat} {x y : List Int} (hx : Good p n x) (hy : Good p n y) (h : ∀ i, i < n → cg p (nth x i) (nth y i)) : x = y :=
  ext_nth (by rw [hx.1, hy.1]) fun i hi => by
    rw [hx.1] at hi
    exact cg_small (h i hi) (hx.2 i hi).1 (hx.2 i hi).2 (hy.2 i hi).1 (hy.2 i hi).2

section
variable {p : Int} {qs : List Int}
theorem inf_infc : cg p (pairZ (extL p qs) (infL qs.length) (infL qs.length)) 0 := ⟨1, by rw [inf_inf]; omega⟩
theorem two_ptQ {v : List Int} (hp : primeB p = true) : cg p (2 * ptQ p qs v) (pairZ qs v v) := by
  have h1 : cg p (ptQ p qs v) (pairZ qs v v * invN p 2) := (cg_emod _ _).trans ((pl_cg rfl).mul (cg.refl _ _))
  obtain ⟨s, hs⟩ := h1
  obtain ⟨t, ht⟩ := cg_half hp
  exact ⟨2 * s + pairZ qs v v * t, by grind⟩
/-- What point vectors have as product. -/
theorem pt_pt {v w : List Int} (hp : primeB p = true) (hv : v.length = qs.length) (hw : w.length = qs.length) : cg p (pairZ (extL p qs) (pointL p qs v) (pointL p qs w)) (pairZ qs v w - ptQ p qs v - ptQ p qs w) := by
  rw [pairZ_ext]
  obtain ⟨a, ha⟩ := point_nth (p := p) (qs := qs) (v := v) (i := qs.length) hv (by omega)
  obtain ⟨b, hb⟩ := point_nth (p := p) (qs := qs) (v := v) (i := qs.length + 1) hv (by omega)
  obtain ⟨a', ha'⟩ := point_nth (p := p) (qs := qs) (v := w) (i := qs.length) hw (by omega)
  obtain ⟨b', hb'⟩ := point_nth (p := p) (qs := qs) (v := w) (i := qs.length + 1) hw (by omega)
  rw [if_neg (by omega), if_pos rfl] at ha ha'
  rw [if_neg (by omega), if_neg (by omega)] at hb hb'
  have h1 : cg p (sumN qs.length fun i => nth (pointL p qs v) i * nth (pointL p qs w) i * nth qs i) (pairZ qs v w) :=
    sum_cg _ fun i hi => by
      obtain ⟨s, hs⟩ := point_nth (p := p) (qs := qs) (v := v) (i := i) hv (by omega)
      obtain ⟨t, ht⟩ := point_nth (p := p) (qs := qs) (v := w) (i := i) hw (by omega)
      rw [if_pos hi] at hs ht
      exact (cg.mul ⟨s, hs⟩ ⟨t, ht⟩).mul (cg.refl _ _)
  have h2 : cg p (nth (pointL p qs v) qs.length * nth (pointL p qs w) qs.length) ((ptQ p qs v - invN p 2) * (ptQ p qs w - invN p 2)) := cg.mul ⟨a, ha⟩ ⟨a', ha'⟩
  have h3 : cg p (nth (pointL p qs v) (qs.length + 1) * nth (pointL p qs w) (qs.length + 1) * (p - 1)) ((ptQ p qs v + invN p 2) * (ptQ p qs w + invN p 2) * (-1)) := (cg.mul ⟨b, hb⟩ ⟨b', hb'⟩).mul ⟨1, by omega⟩
  refine ((h1.add h2).add h3).trans ?_
  obtain ⟨t, ht⟩ := cg_half hp
  exact ⟨-(t * (ptQ p qs v + ptQ p qs w)), by grind⟩
theorem inf_pt {v : List Int} (hp : primeB p = true) (hv : v.length = qs.length) : cg p (pairZ (extL p qs) (infL qs.length) (pointL p qs v)) (-1) := inf_point hp hv
theorem pt_inf {v : List Int} (hp : primeB p = true) (hv : v.length = qs.length) : cg p (pairZ (extL p qs) (pointL p qs v) (infL qs.length)) (-1) := by rw [pz_comm]; exact inf_pt hp hv
theorem pt_null {v : List Int} (hp : primeB p = true) (hv : v.length = qs.length) : cg p (pairZ (extL p qs) (pointL p qs v) (pointL p qs v)) 0 := by
  refine (pt_pt hp hv hv).trans ?_
  obtain ⟨s, hs⟩ := two_ptQ (qs := qs) (v := v) hp
  exact ⟨-s, by grind⟩
/-- A null vector with this product with infinity is a point vector. -/
theorem null_point {z : List Int} (hp : primeB p = true) (hz : Good p (qs.length + 2) z) (h0 : cg p (pairZ (extL p qs) z z) 0) (h1 : cg p (pairZ (extL p qs) z (infL qs.length)) (-1)) : z = pointL p qs (z.take qs.length) := by
  have hb := prime_bd hp
  have hvl : (z.take qs.length).length = qs.length := by rw [List.length_take, hz.1]; omega
  refine good_eq hz (pointL_good (by omega) rfl) fun i hi => ?_
  obtain ⟨s, hs⟩ := point_nth (p := p) (qs := qs) (v := z.take qs.length) (i := i) hvl hi
  have hA : cg p (nth z (qs.length + 1)) (nth z qs.length + 1) := by
    rw [pairZ_ext, sumN_zero fun i hi => by rw [inf_nth, if_pos hi]; simp, inf_nth, inf_nth, if_neg (by omega), if_pos rfl, if_neg (by omega), if_neg (by omega), if_pos rfl] at h1
    obtain ⟨t, ht⟩ := h1
    exact ⟨nth z (qs.length + 1) - t, by grind⟩
  have hN : cg p (2 * nth z qs.length + 1) (pairZ qs (z.take qs.length) (z.take qs.length)) := by
    rw [pairZ_ext] at h0
    have e : (sumN qs.length fun i => nth z i * nth z i * nth qs i) = pairZ qs (z.take qs.length) (z.take qs.length) := sumN_congr fun i hi => by rw [tk_nth hi]
    rw [e] at h0
    obtain ⟨t, ht⟩ := h0
    obtain ⟨u, hu⟩ := hA
    rw [hu] at ht
    exact ⟨2 * u * (nth z qs.length + 1) * (p - 1) + p * u * u * (p - 1) + (nth z qs.length + 1) * (nth z qs.length + 1) - t, by grind⟩
  have hQ := two_ptQ (qs := qs) (v := z.take qs.length) hp
  have hH := cg_half hp
  have hd : cg p (nth z qs.length) (ptQ p qs (z.take qs.length) - invN p 2) := by
    refine cg_two hp ?_
    obtain ⟨a, ha⟩ := hN
    obtain ⟨b, hb⟩ := hQ
    obtain ⟨c, hc⟩ := hH
    exact ⟨a - b + c, by grind⟩
  refine cg.trans ?_ (cg.symm ⟨s, hs⟩)
  by_cases h : i < qs.length
  · rw [if_pos h, tk_nth h]; exact cg.refl _ _
  · rw [if_neg h]
    by_cases h2 : i = qs.length
    · rw [if_pos h2, h2]; exact hd
    · rw [if_neg h2, show i = qs.length + 1 by omega]
      obtain ⟨a, ha⟩ := hA
      obtain ⟨b, hb⟩ := hd
      obtain ⟨c, hc⟩ := hH
      exact ⟨a + b - c, by grind⟩

/-! ### Weights and places -/
theorem wgt_cg {x : List Int} : cg p (wgtI p qs x) (pairZ (extL p qs) x (infL qs.length)) := pl_cg (extL_len p qs)
theorem pt_wgt {v : List Int} (hp : primeB p = true) (hv : v.length = qs.length) : wgtI p qs (pointL p qs v) = p - 1 := by
  have hb := prime_bd hp
  have h := wgt_cg (p := p) (qs := qs) (x := pointL p qs v)
  have := wgtI_bd (p := p) (qs := qs) (x := pointL p qs v) (by omega)
  exact cg_small (h.trans ((pt_inf hp hv).trans ⟨-1, by omega⟩)) this.1 this.2 (by omega) (by omega)
theorem wgtN_cg {x : List Int} : cg p (wgtN p qs x) (-(pairZ (extL p qs) x (infL qs.length))) := by
  refine (cg_emod _ _).trans ?_
  obtain ⟨s, hs⟩ := wgt_cg (p := p) (qs := qs) (x := x)
  exact ⟨-s, by rw [hs]; grind⟩
theorem wgtN_pos {x : List Int} (hp : 1 ≤ p) (h : wgtI p qs x ≠ 0) : 0 < wgtN p qs x := by
  have h1 := wgtN_bd (p := p) (qs := qs) (x := x) hp
  have h2 := wgtI_bd (p := p) (qs := qs) (x := x) hp
  rcases Int.lt_or_eq_of_le h1.1 with h3 | h3
  · exact h3
  · exfalso
    have : cg p (wgtI p qs x) 0 := by
      have a := wgtN_cg (p := p) (qs := qs) (x := x)
      have b := wgt_cg (p := p) (qs := qs) (x := x)
      rw [← h3] at a
      obtain ⟨s, hs⟩ := a
      obtain ⟨t, ht⟩ := b
      exact ⟨s + t, by grind⟩
    exact h (cg_zero this h2.1 h2.2)
/-- The weight of what has been divided by the weight. -/
theorem fin_cg {x : List Int} {z : List Int} : cg p (pairZ (extL p qs) (finL p qs x) z) (invN p (wgtN p qs x) * pairZ (extL p qs) x z) := pz_scale (extL_len p qs)
theorem fin_inf {x : List Int} (hp : primeB p = true) (h : wgtI p qs x ≠ 0) : cg p (pairZ (extL p qs) (finL p qs x) (infL qs.length)) (-1) := by
  have hb := prime_bd hp
  have hi := cg_inv hp (wgtN_pos (by omega) h) (wgtN_bd (by omega)).2
  obtain ⟨s, hs⟩ := fin_cg (p := p) (qs := qs) (x := x) (z := infL qs.length)
  obtain ⟨t, ht⟩ := wgtN_cg (p := p) (qs := qs) (x := x)
  obtain ⟨u, hu⟩ := hi
  exact ⟨s - u + invN p (wgtN p qs x) * t, by grind⟩
theorem fin_good {x : List Int} (hp : 1 ≤ p) : Good p (qs.length + 2) (finL p qs x) := scale_good hp
/-- A null vector, divided by its weight, is the point vector of its place. -/
theorem fin_point {x : List Int} (hp : primeB p = true) (h : wgtI p qs x ≠ 0) (h0 : cg p (pairZ (extL p qs) x x) 0) : finL p qs x = pointL p qs (plcL p qs x) := by
  have hb := prime_bd hp
  refine null_point hp (fin_good (by omega)) ?_ (fin_inf hp h)
  refine fin_cg.trans ?_
  rw [pz_comm]
  obtain ⟨s, hs⟩ := fin_cg (p := p) (qs := qs) (x := x) (z := x)
  obtain ⟨t, ht⟩ := h0
  exact ⟨invN p (wgtN p qs x) * (s + invN p (wgtN p qs x) * t), by grind⟩
theorem point_inj_take {v : List Int} (hp : 1 ≤ p) (hv : Good p qs.length v) : (pointL p qs v).take qs.length = v := by
  refine good_eq (p := p) (n := qs.length) ⟨by rw [List.length_take, point_len]; omega, fun i hi => by rw [tk_nth hi]; exact (pointL_good hp rfl).2 i (by omega)⟩ hv fun i hi => ?_
  rw [tk_nth hi]
  obtain ⟨s, hs⟩ := point_nth (p := p) (qs := qs) (v := v) (i := i) hv.1 (by omega)
  rw [if_pos hi] at hs
  exact ⟨s, hs⟩
/-- What has the weight of k divided by k. -/
theorem fin_scale {x y : List Int} {k : Int} (hp : primeB p = true) (hk : 0 < k) (hk2 : k < p) (hx : ∀ i, i < qs.length + 2 → cg p (nth x i) (k * nth y i)) (hy : cg p (pairZ (extL p qs) y (infL qs.length)) (-1)) (hg : Good p (qs.length + 2) y) : wgtI p qs x ≠ 0 ∧ finL p qs x = y := by
  have hb := prime_bd hp
  have hw : cg p (pairZ (extL p qs) x (infL qs.length)) (-k) := by
    have h1 : cg p (pairZ (extL p qs) x (infL qs.length)) (pairZ (extL p qs) (scaleL p y k (qs.length + 2)) (infL qs.length)) :=
      pz_congr (fun i hi => by rw [extL_len] at hi; exact (hx i hi).trans ((scale_cg hi).symm.trans (cg.refl _ _) |>.symm.trans (by rw [Int.mul_comm]; exact cg.refl _ _) |>.symm)) (fun i _ => cg.refl _ _)
    refine h1.trans ((pz_scale (extL_len p qs)).trans ?_)
    obtain ⟨s, hs⟩ := hy
    exact ⟨k * s, by grind⟩
  have hne : wgtI p qs x ≠ 0 := fun h0 => by
    have h1 := (wgt_cg (p := p) (qs := qs) (x := x)).trans hw
    rw [h0] at h1
    obtain ⟨s, hs⟩ := h1
    have : cg p k 0 := ⟨s, by grind⟩
    have := cg_zero this (by omega) hk2
    omega
  have hN : wgtN p qs x = k := by
    have h1 := wgtN_bd (p := p) (qs := qs) (x := x) (by omega)
    refine cg_small (wgtN_cg.trans ?_) h1.1 h1.2 (by omega) hk2
    obtain ⟨s, hs⟩ := hw
    exact ⟨-s, by grind⟩
  refine ⟨hne, good_eq (fin_good (by omega)) hg fun i hi => ?_⟩
  unfold finL
  rw [hN]
  refine (scale_cg hi).trans ?_
  obtain ⟨s, hs⟩ := hx i hi
  obtain ⟨t, ht⟩ := cg_inv hp hk hk2
  exact ⟨nth y i * t + s * invN p k, by grind⟩
theorem point_place {v : List Int} (hp : primeB p = true) (hv : Good p qs.length v) : wgtI p qs (pointL p qs v) ≠ 0 ∧ plcL p qs (pointL p qs v) = v := by
  have hb := prime_bd hp
  obtain ⟨h1, h2⟩ := fin_scale (p := p) (qs := qs) (x := pointL p qs v) (y := pointL p qs v) (k := 1) hp (by omega) (by omega) (fun i _ => ⟨0, by omega⟩) (pt_inf hp hv.1) (pointL_good (by omega) rfl)
  refine ⟨h1, ?_⟩
  unfold plcL
  rw [h2]
  exact point_inj_take (by omega) hv

/-! ### Distances -/
theorem pex_cg {x v : List Int} : cg p (pexZ p qs x v) (pairZ (extL p qs) x (pointL p qs v)) := pl_cg (extL_len p qs)
theorem dist_cg {v w : List Int} (hp : primeB p = true) (hv : v.length = qs.length) (hw : w.length = qs.length) : cg p (distN p qs v w) (pairZ qs v v + pairZ qs w w - 2 * pairZ qs v w) := by
  refine (cg_emod _ _).trans ?_
  obtain ⟨s, hs⟩ := pex_cg (p := p) (qs := qs) (x := pointL p qs v) (v := w)
  obtain ⟨t, ht⟩ := pt_pt hp hv hw
  obtain ⟨a, ha⟩ := two_ptQ (qs := qs) (v := v) hp
  obtain ⟨b, hb⟩ := two_ptQ (qs := qs) (v := w) hp
  exact ⟨-2 * s - 2 * t + a + b, by grind⟩
/-- Distances are norms of differences. -/
theorem dist_norm {v w : List Int} (hp : primeB p = true) (hv : v.length = qs.length) (hw : w.length = qs.length) : distN p qs v w = pairL p qs (plusL p v (scaleL p w (-1) qs.length) 1 qs.length) (plusL p v (scaleL p w (-1) qs.length) 1 qs.length) qs.length := by
  have hb := prime_bd hp
  have hbd : 0 ≤ distN p qs v w ∧ distN p qs v w < p := ⟨Int.emod_nonneg _ (by omega), Int.emod_lt_of_pos _ (by omega)⟩
  have hpb := pairL_bd (p := p) (qs := qs) (v := plusL p v (scaleL p w (-1) qs.length) 1 qs.length) (w := plusL p v (scaleL p w (-1) qs.length) 1 qs.length) (n := qs.length) (by omega)
  refine cg_small ((dist_cg hp hv hw).trans (cg.symm ((pl_cg rfl).trans ?_))) hbd.1 hbd.2 hpb.1 hpb.2
  obtain ⟨D, hD⟩ : ∃ D, D = plusL p v (scaleL p w (-1) qs.length) 1 qs.length := ⟨_, rfl⟩
  rw [← hD]
  have h1 : ∀ z, cg p (pairZ qs D z) (pairZ qs v z - pairZ qs w z) := fun z => by
    rw [hD]
    refine (pz_plus rfl).trans ?_
    obtain ⟨s, hs⟩ := pz_scale (p := p) (k := -1) (Q := qs) (x := w) (z := z) rfl
    exact ⟨s, by grind⟩
  obtain ⟨a, ha⟩ := h1 D
  obtain ⟨b, hb⟩ := h1 v
  obtain ⟨c, hc⟩ := h1 w
  rw [pz_comm] at hb hc
  have hvw := pz_comm qs v w
  exact ⟨a + b - c, by grind⟩

/-! ### Spheres -/
theorem hr_cg {r : Int} (hp : primeB p = true) : cg p (2 * (r * invN p 2 % p)) r := by
  obtain ⟨s, hs⟩ := cg_emod p (r * invN p 2)
  obtain ⟨t, ht⟩ := cg_half hp
  exact ⟨2 * s + r * t, by grind⟩
theorem ball_cg {c z : List Int} {r : Int} : cg p (pairZ (extL p qs) (ballL p qs c r) z) (pairZ (extL p qs) (pointL p qs c) z - r * invN p 2 % p * pairZ (extL p qs) (infL qs.length) z) := by
  refine (pz_plus (extL_len p qs)).trans ⟨0, by grind⟩
theorem ball_inf {c : List Int} {r : Int} (hp : primeB p = true) (hc : c.length = qs.length) : cg p (pairZ (extL p qs) (ballL p qs c r) (infL qs.length)) (-1) := by
  refine ball_cg.trans ?_
  obtain ⟨s, hs⟩ := pt_inf hp hc
  obtain ⟨t, ht⟩ := inf_infc (p := p) (qs := qs)
  exact ⟨s - r * invN p 2 % p * t, by grind⟩
/-- The sphere vector, some multiple of it: centre and number. -/
theorem ball_of {c : List Int} {r k : Int} (hp : primeB p = true) (hc : Good p qs.length c) (hr : 0 ≤ r) (hr2 : r < p) (hk : 0 < k) (hk2 : k < p) :
    wgtI p qs (scaleL p (ballL p qs c r) k (qs.length + 2)) ≠ 0 ∧ plcL p qs (scaleL p (ballL p qs c r) k (qs.length + 2)) = c ∧ sphN p qs (scaleL p (ballL p qs c r) k (qs.length + 2)) = r := by
  have hb := prime_bd hp
  have hgb : Good p (qs.length + 2) (ballL p qs c r) := ball_good (by omega) rfl
  obtain ⟨h1, h2⟩ := fin_scale (p := p) (qs := qs) (x := scaleL p (ballL p qs c r) k (qs.length + 2)) (y := ballL p qs c r) (k := k) hp hk hk2 (fun i hi => (scale_cg hi).trans ⟨0, by grind⟩) (ball_inf hp hc.1) hgb
  have hpl : plcL p qs (scaleL p (ballL p qs c r) k (qs.length + 2)) = c := by
    unfold plcL
    rw [h2]
    refine good_eq (p := p) (n := qs.length) ⟨by rw [List.length_take, hgb.1]; omega, fun i hi => by rw [tk_nth hi]; exact hgb.2 i (by omega)⟩ hc fun i hi => ?_
    rw [tk_nth hi]
    refine (plus_cg (by omega)).trans ?_
    obtain ⟨s, hs⟩ := point_nth (p := p) (qs := qs) (v := c) (i := i) hc.1 (by omega)
    rw [if_pos hi] at hs
    rw [inf_nth, if_pos hi]
    exact ⟨s, by grind⟩
  refine ⟨h1, hpl, ?_⟩
  unfold sphN
  rw [h2, hpl]
  have hsb : 0 ≤ -2 * (nth (ballL p qs c r) qs.length - nth (pointL p qs c) qs.length) % p ∧ -2 * (nth (ballL p qs c r) qs.length - nth (pointL p qs c) qs.length) % p < p := ⟨Int.emod_nonneg _ (by omega), Int.emod_lt_of_pos _ (by omega)⟩
  refine cg_small ((cg_emod _ _).trans ?_) hsb.1 hsb.2 hr hr2
  obtain ⟨s, hs⟩ := plus_cg (p := p) (k := -(r * invN p 2 % p)) (x := pointL p qs c) (y := infL qs.length) (n := qs.length + 2) (i := qs.length) (by omega)
  rw [inf_nth, if_neg (by omega), if_pos rfl] at hs
  obtain ⟨t, ht⟩ := hr_cg (r := r) hp
  have hs' : nth (ballL p qs c r) qs.length = nth (pointL p qs c) qs.length + -(r * invN p 2 % p) * 1 + p * s := hs
  exact ⟨t - 2 * s, by rw [hs']; grind⟩
/-- A vector is on a sphere exactly if its distance from the centre is the number of the sphere. -/
theorem ball_on {c u : List Int} {r : Int} (hp : primeB p = true) (_hc : c.length = qs.length) (hu : u.length = qs.length) (hr : 0 ≤ r) (hr2 : r < p) : (pexZ p qs (ballL p qs c r) u == 0) = (distN p qs c u == r) := by
  have hb := prime_bd hp
  have hd : 0 ≤ distN p qs c u ∧ distN p qs c u < p := ⟨Int.emod_nonneg _ (by omega), Int.emod_lt_of_pos _ (by omega)⟩
  have hx : 0 ≤ pexZ p qs (ballL p qs c r) u ∧ pexZ p qs (ballL p qs c r) u < p := pairL_bd (by omega)
  have key : cg p (2 * pexZ p qs (ballL p qs c r) u) (r - distN p qs c u) := by
    obtain ⟨s, hs⟩ := pex_cg (p := p) (qs := qs) (x := ballL p qs c r) (v := u)
    obtain ⟨t, ht⟩ := ball_cg (p := p) (qs := qs) (c := c) (r := r) (z := pointL p qs u)
    obtain ⟨a, ha⟩ := inf_pt (qs := qs) (v := u) hp hu
    obtain ⟨b, hb⟩ := hr_cg (r := r) hp
    obtain ⟨e, he⟩ := cg_emod p (-2 * pexZ p qs (pointL p qs c) u)
    have he' : distN p qs c u = -2 * pexZ p qs (pointL p qs c) u + p * e := he
    obtain ⟨f, hf⟩ := pex_cg (p := p) (qs := qs) (x := pointL p qs c) (v := u)
    exact ⟨2 * s + 2 * t - 2 * (r * invN p 2 % p) * a + b + e - 2 * f, by grind⟩
  rw [Bool.eq_iff_iff, beq_iff_eq, beq_iff_eq]
  constructor
  · intro h
    rw [h] at key
    exact cg_small (by obtain ⟨s, hs⟩ := key; exact ⟨s, by grind⟩) hd.1 hd.2 hr hr2
  · intro h
    rw [h, Int.sub_self] at key
    exact cg_zero (cg_two hp (key.trans ⟨0, by omega⟩)) hx.1 hx.2
end
end Go.Proofs.YtcocbainookkcaaGreat

/-
  The map of the places of the first numbers of a reduced basis; a vector of the kernel filled in an order that nobody knows.
  No condition.
-/
namespace Go.Proofs.YtcocbainookkcaaGreat
set_option maxRecDepth 100000
open Go.RowKit

theorem keyI (x : Int) : WideAt.IsKeyLit (.int .i64 x) := trivial
/-- The map as read when the first k rows have been gone through. -/
def plD (red : List (List Int)) : Nat → DataW Unit
  | 0 => .map []
  | i + 1 => (plD red i).put (.int .i64 (leadN (nthR red i))) (.lit (.int .i64 i))
theorem plD_map (red : List (List Int)) : ∀ k, Maps.IsMap (plD red k)
  | 0 => Maps.isMap_empty
  | k + 1 => (plD_map red k).put _ _
theorem plD_has (red : List (List Int)) (x : Int) : ∀ k, Maps.has (plD red k) (.int .i64 x) = true ↔ ∃ i : Nat, i < k ∧ ((leadN (nthR red i) : Nat) : Int) = x
  | 0 => by
    constructor
    · intro h; cases h
    · rintro ⟨i, hi, _⟩; omega
  | k + 1 => by
    unfold plD
    by_cases h : ((leadN (nthR red k) : Nat) : Int) = x
    · subst h
      exact ⟨fun _ => ⟨k, by omega, rfl⟩, fun _ => Maps.has_put_same (plD_map red k) (keyI _) _⟩
    · rw [Maps.has_put_other (fun e => h (by injection e with _ e2; exact e2.symm)), plD_has red x k]
      constructor
      · rintro ⟨i, hi, e⟩; exact ⟨i, by omega, e⟩
      · rintro ⟨i, hi, e⟩
        refine ⟨i, ?_, e⟩
        rcases Nat.lt_or_ge i k with h1 | h1
        · exact h1
        · obtain rfl : i = k := by omega
          exact absurd e h
theorem plD_at {p : Int} {m : Nat} {red : List (List Int)} {c : Nat → Nat} (hb : Basis p m red c) (z : DataW Unit) : ∀ k, k ≤ red.length → ∀ i, i < k → (plD red k).atKey (.int .i64 (leadN (nthR red i))) z = .lit (.int .i64 i)
  | 0, _, i, hi => by omega
  | k + 1, hk, i, hi => by
    unfold plD
    by_cases h : i = k
    · subst h
      exact Maps.atKey_put_same (plD_map red i) (keyI _) _ _
    · rw [Maps.atKey_put_other (fun e => by
        injection e with _ e2
        have h1 := hb.leadN (i := i) (by omega)
        have h2 := hb.leadN (i := k) (by omega)
        rw [h1, h2] at e2
        exact h (hb.inj (by omega) (by omega) (by omega)))]
      exact plD_at hb z k (by omega) i (by omega)
theorem plD_entry {p : Int} {m : Nat} {red : List (List Int)} {cc : Nat → Nat} (hb : Basis p m red cc) {x c : Int} (h : ∀ zd, (plD red red.length).atKey (.int .i64 x) zd = .lit (.int .i64 c)) : ∃ i : Nat, i < red.length ∧ c = (i : Int) ∧ x = ((leadN (nthR red i) : Nat) : Int) := by
  have hh := Maps.has_true_of_atKey (D := plD red red.length) (k := .int .i64 x) (y := .lit (.int .i64 c)) h
  obtain ⟨i, hi, e⟩ := (plD_has red x red.length).1 hh
  refine ⟨i, hi, ?_, e.symm⟩
  have h1 := plD_at hb (.lit (.int .i64 0)) red.length (Nat.le_refl _) i hi
  rw [e, h] at h1
  injection h1 with h2
  injection h2
theorem plD_piv {red : List (List Int)} {t : Nat} : Maps.has (plD red red.length) (.int .i64 t) = (pivIx red t).isSome := by
  rw [Bool.eq_iff_iff, plD_has]
  cases h : pivIx red t with
  | none =>
    simp only [Option.isSome_none, Bool.false_eq_true, iff_false, not_exists, not_and]
    intro i hi e
    exact pivIx_none h i hi (by omega)
  | some i =>
    obtain ⟨h1, h2⟩ := pivIx_some h
    simp only [Option.isSome_some, iff_true]
    exact ⟨i, h1, by omega⟩

/-- The vector while some entries are still to come. -/
def kerE (p : Int) (red : List (List Int)) (f : Nat) (left : Lit → Bool) (t : Nat) : Int := if t = f then 1 else match pivIx red t with | some i => if left (.int .i64 t) = true then 0 else (-(nth (nthR red i) f)) % p | none => 0
def kerP (p : Int) (n : Nat) (red : List (List Int)) (f : Nat) (left : Lit → Bool) : List Int := (List.range n).map (kerE p red f left)
theorem kerP_len (p : Int) (n : Nat) (red : List (List Int)) (f : Nat) (left : Lit → Bool) : (kerP p n red f left).length = n := by simp [kerP]
theorem kerP_nth {p : Int} {n : Nat} {red : List (List Int)} {f t : Nat} {left : Lit → Bool} (h : t < n) : nth (kerP p n red f left) t = kerE p red f left t := by
  unfold kerP; rw [nth_map (by simpa using h)]; simp
theorem kerP_start {p : Int} {n : Nat} {red : List (List Int)} {f : Nat} (hf : f < n) : kerP p n red f (Maps.has (plD red red.length)) = bladeL n f := by
  refine ext_nth (by rw [kerP_len, bladeL_len]) (fun t ht => ?_)
  rw [kerP_len] at ht
  rw [kerP_nth ht, bladeL_nth hf ht]
  unfold kerE
  by_cases h : t = f
  · rw [if_pos h, if_pos h.symm]
  · rw [if_neg h, if_neg (fun e => h e.symm)]
    cases hp : pivIx red t with
    | none => rfl
    | some i => simp only [plD_piv, hp, Option.isSome_some, if_true]
theorem kerP_end {p : Int} {n : Nat} {red : List (List Int)} {f : Nat} {left : Lit → Bool} (h : ∀ kl, left kl = false) : kerP p n red f left = kerV p n red f := by
  unfold kerP kerV
  refine List.map_congr_left fun t _ => ?_
  unfold kerE kerN
  cases hp : pivIx red t with
  | none => rfl
  | some i => simp only [h, Bool.false_eq_true, if_false]
theorem kerP_step {p : Int} {m n : Nat} {red : List (List Int)} {c : Nat → Nat} (hb : Basis p m red c) {f i : Nat} {left : Lit → Bool} (hi : i < red.length) (hx : leadN (nthR red i) < n) (hf : pivIx red f = none) :
    kerP p n red f (fun z => left z && !z.sameKey (.int .i64 (leadN (nthR red i)))) = (kerP p n red f left).set (leadN (nthR red i)) ((-(nth (nthR red i) f)) % p) := by
  have hpi : pivIx red (leadN (nthR red i)) = some i := by rw [hb.leadN hi]; exact hb.piv hi
  have hne : leadN (nthR red i) ≠ f := fun e => by rw [e, hf] at hpi; cases hpi
  refine ext_nth (by rw [kerP_len, List.length_set, kerP_len]) (fun t ht => ?_)
  rw [kerP_len] at ht
  rw [kerP_nth ht, nth_set (by rw [kerP_len]; exact hx)]
  by_cases h : t = leadN (nthR red i)
  · subst h
    rw [if_pos rfl]
    unfold kerE
    rw [if_neg hne, hpi]
    simp only [WideAt.sameKey_self (keyI _), Bool.not_true, Bool.and_false, Bool.false_eq_true, if_false]
  · rw [if_neg (fun e => h e.symm), kerP_nth ht]
    unfold kerE
    have : (Lit.int .i64 (t : Int)).sameKey (.int .i64 (leadN (nthR red i))) = false := Maps.sameKey_ne (fun e => by injection e with _ e2; omega)
    simp only [this, Bool.not_false, Bool.and_true]
theorem ownsMap_ext {P : Program} {k : TypeId} {R : Value → Option (DataW Unit × List MemPlace)} {b n : Nat} {D : DataW Unit} {w w' : World} (h : w.ownsMap P k R b n D) (he : Ext w w') : w'.ownsMap P k R b n D := by
  obtain ⟨es, clock, h1, h2⟩ := h
  exact ⟨es, clock, he.heap h1, h2⟩
theorem ranges_ext {P : Program} {k : TypeId} {R : Value → Option (DataW Unit × List MemPlace)} {b r n : Nat} {D : DataW Unit} {left : Lit → Bool} {cnt : Nat} {w w' : World} (h : w.ranges P k R b r n D left cnt) (he : Ext w w') : w'.ranges P k R b r n D left cnt := by
  obtain ⟨es, clock, since, seen, c0, h1, h2, h3, h4, h5, h6⟩ := h
  exact ⟨es, clock, since, seen, c0, he.heap h1, h2, h3, h4, he.heap h5, h6⟩
theorem ranges_keep {P : Program} {k : TypeId} {R : Value → Option (DataW Unit × List MemPlace)} {b r n : Nat} {D : DataW Unit} {left : Lit → Bool} {cnt : Nat} {w w' : World} (h : w.ranges P k R b r n D left cnt) (hb : w'.heap[b]? = w.heap[b]?) (hr : w'.heap[r]? = w.heap[r]?) : w'.ranges P k R b r n D left cnt := by
  obtain ⟨es, clock, since, seen, c0, h1, h2, h3, h4, h5, h6⟩ := h
  exact ⟨es, clock, since, seen, c0, hb.trans h1, h2, h3, h4, hr.trans h5, h6⟩
theorem lawK : Maps.Keyed Tryz.prog 3 := Maps.int_keyed Tryz.underlying3
theorem zeroK (w : World) : (zeroValue 3).run Tryz.prog w = .ok (.int .i64 0) w := by kernel_rfl
end Go.Proofs.YtcocbainookkcaaGreat

/-
  Contracts: solutions of linear systems, in the program and in the reference.
  No condition.
-/
namespace Go.Proofs.YtcocbainookkcaaGreat
set_option maxRecDepth 100000
open Go.RowKit

theorem OwnR.other {B : Nat} {w : World} {a : Option Addr} {n cap : Nat} {rows : List (List Int)} (h : OwnR B w a n cap rows) {p : Addr} (hp : p.block < B) (v : Value) : OwnR B (w.setCell p v) a n cap rows := by
  obtain ⟨h1, vs, ⟨h2, h3⟩, hap, h4⟩ := h
  refine ⟨h1, vs, ⟨h2, ?_⟩, hap, fun i hi => ?_⟩
  · rcases h3 with h3 | ⟨g, c, cur, hv, hb, hh, h5⟩
    · exact .inl h3
    · exact .inr ⟨g, c, cur, hv, hb, by rw [Below.heap_setCell _ _ _ _ (by omega)]; exact hh, h5⟩
  · obtain ⟨ai, ci, h5, h6⟩ := h4 i hi
    exact ⟨ai, ci, h5, h6.other hp v⟩

/-- The solution and whether there is one. -/
def redL (p : Int) (m : Nat) (rows : List (List Int)) (u : List Int) (n : Nat) : List (List Int) := basisL p (m + 1) (wideL rows u n)
def solR (m : Nat) (red : List (List Int)) : List Int := if okS m red = true then solL m red else []

theorem solL_len' {n : Nat} {red : List (List Int)} : (solL n red).length = n := by simp [solL]


/-- The place of the first number other than 0, or -1. -/
def firstL (xs : List Int) : Int := if leadN xs = xs.length then -1 else (leadN xs : Int)
theorem OwnRH.otherH {lo hi : Nat} {w : World} {a : Option Addr} {n cap : Nat} {rows : List (List Int)} (h : OwnRH lo hi w a n cap rows) {p : Addr} (hp : p.block < lo ∨ hi ≤ p.block) (v : Value) : OwnRH lo hi (w.setCell p v) a n cap rows := by
  have hb := h.low.base_of
  obtain ⟨h1, h0, vs, ⟨h2, h3⟩, hap, h4⟩ := h
  refine ⟨h1, h0, vs, ⟨h2, ?_⟩, hap, fun i hi => ?_⟩
  · rcases h3 with h3 | ⟨g, c, cur, hv, hb', hh, h5⟩
    · exact .inl h3
    · refine .inr ⟨g, c, cur, hv, hb', ?_, h5⟩
      simp only [Value.slice.injEq] at hv
      have := h0 g hv.1
      rw [Below.heap_setCell _ _ _ _ (by omega)]; exact hh
  · obtain ⟨ai, ci, h5, h6, h7⟩ := h4 i hi
    refine ⟨ai, ci, h5, h6.keep fun g hg => ?_, h7⟩
    have := h7 g hg
    have := (h6.base_of g hg).1
    exact Below.heap_setCell _ _ _ _ (by omega)

end Go.Proofs.YtcocbainookkcaaGreat

/-
  Kernels: contracts of the program and the reference.
  No condition.
-/
namespace Go.Proofs.YtcocbainookkcaaGreat
set_option maxRecDepth 100000
open Go.RowKit

theorem kerR_no {p : Int} {n : Nat} {red : List (List Int)} {k i : Nat} (h : pivIx red k = some i) : kerR p n red (k + 1) = kerR p n red k := by unfold kerR; rw [freeL_no h]
theorem kerR_yes {p : Int} {n : Nat} {red : List (List Int)} {k : Nat} (h : pivIx red k = none) : kerR p n red (k + 1) = kerR p n red k ++ [kerV p n red k] := by unfold kerR; rw [freeL_yes h]; simp
theorem kerR_len (p : Int) (n : Nat) (red : List (List Int)) (k : Nat) : (kerR p n red k).length ≤ k := by unfold kerR; rw [List.length_map]; exact freeL_len red k
theorem kernL_cnt {p : Int} {n : Nat} {rows : List (List Int)} (hp : primeB p = true) : (kernL p n rows).length ≤ n ∧ RowsG p n (kernL p n rows) := by
  obtain ⟨c, hb⟩ := basis_red hp (kerR_good (n := n) (red := basisL p n rows) (k := n) (prime_bd hp).1)
  exact ⟨hb.len, hb.good⟩

set_option maxHeartbeats 8000000 in
set_option maxRecDepth 100000 in
theorem c_kernel (p : Int) (a : Option Addr) (m cap n : Nat) (rows : List (List Int)) (w : World) (hpr : primeB p = true) (hn : 0 < n) (hn2 : n ≤ 4095) (hm : m ≤ 4095) (hx : RdR w a m rows) (hg : RowsG p n rows) :
    Calls Tryz.prog 52 #[.int .i64 p, .slice a m cap, .int .i64 n] w fun e w' => ∃ g rc, e = .returned (.slice (some ⟨g, 0, none⟩) (kernL p n rows).length rc) ∧ OwnR w.heap.size w' (some ⟨g, 0, none⟩) (kernL p n rows).length rc (kernL p n rows) ∧ Ext w w' := by
  have hmm := @run_makeMap Tryz.prog
  have hpb := prime_bd hpr
  obtain ⟨cc, hbas⟩ := basis_red hpr hg
  have HPR := Lib.hid hpr
  have HX := Lib.hid hx
  have HG := Lib.hid hg
  obtain ⟨red, hred⟩ : ∃ red, red = basisL p n rows := ⟨_, rfl⟩
  have HBas := Lib.hid (show Basis p n red cc by rw [hred]; exact hbas)
  have HRed := Lib.hid hred
  have HKL := Lib.hid (show kernL p n rows = basisL p n (kerR p n red n) by unfold kernL; rw [hred])
  have hrl : red.length ≤ 4095 := by have := HBas.out.len; omega
  clear hx hg hbas hpr hred
  go_enter Tryz.func52, Tryz.ntmps52
  go_wp2_with (go_at_call 39; refine (c_basis p a m cap n rows _ HPR.out hn (by omega) (by omega) HX.out HG.out).mono ?_; rintro e w1 ⟨gb, cb, r, rfl, hob, hxb⟩; rw [← HRed.out] at hob; obtain rfl := hob.len; have HOb := Lib.hid hob; have X1 := Lib.hid hxb; clear hob hxb)
  go_loopw [24] (fun i wr => ∃ k : Nat, k ≤ red.length ∧ i = .int .i64 k ∧ wr.ownsMap Tryz.prog 3 (plainElem Tryz.prog 3) w1.heap.size k (plD red k) ∧ Ext w1 wr) (fun i _ => red.length - (intOf i).toNat)
  case atStart => exact ⟨0, Nat.zero_le _, rfl, World.ownsMap_made _ _ _ _, ext_alloc _ _⟩
  case round =>
    obtain ⟨k, hk, rfl, hown, hext⟩ := hrel
    have HOwn := Lib.hid hown
    have HExt := Lib.hid hext
    clear hown hext
    by_cases hlt : k < red.length
    · obtain ⟨aj, cj, hcj, hoj⟩ := HOb.out.at hlt
      have hjl := (HBas.out.good k hlt).1
      rw [hjl] at hcj hoj
      have hcj' := HExt.out.cell hcj
      have HOj := Lib.hid (hoj.rd.ext HExt.out)
      obtain ⟨L, hL⟩ : ∃ L, L = leadN (nthR red k) := ⟨_, rfl⟩
      have HL := Lib.hid hL
      have hLn : L ≤ n := by rw [hL, ← hjl]; exact leadN_le _
      clear hcj hoj hjl hL
      go_wp2_with (first
        | (go_at_call 82; refine (c_lead aj n cj (nthR red k) _ (by omega) HOj.out).mono ?_; rintro e w2 ⟨rfl, g2⟩; rw [← HL.out]; have G2 := Lib.hid g2; clear g2)
        | (at_mapUpdate; refine wpList_mapUpdate_own _ rfl _ _ _ 93 rfl 3 3 lawK Tryz.underlying93 _ w1.heap.size k _ rfl (ownsMap_ext HOwn.out G2.out) (by unfold maxLen; omega) _ _ _ rfl rfl (Maps.keyOf_int_mk Tryz.underlying3 (WalkArith.wf_i64 (by omega))) _ [] (plainElem_int Tryz.underlying3 (WalkArith.wf_i64 (by omega))) ?_; intro w3 hown3 hgrow3; have HO3 := Lib.hid hown3; have HE3 := Lib.hid ((HExt.out.trans G2.out).grown hgrow3 (fun j hj => by cases hj; exact Nat.le_refl _)); clear hown3 hgrow3))
      go_roundw
      case rel => exact ⟨k + 1, by omega, by go_num, by (show World.ownsMap _ _ _ _ _ _ ((plD red k).put (.int .i64 (leadN (nthR red k))) (.lit (.int .i64 k)))); rw [← HL.out]; exact HO3.out, HE3.out⟩
      case measure => simp [intOf]; omega
    · obtain rfl : k = red.length := by omega
      have HM := HOwn
      have X2 := HExt
      have HRd := Lib.hid (HOb.out.ext X2.out)
      have GW := Lib.hid (X1.out.trans X2.out)
      clear HOwn HExt HOb
      rename World => wM
      go_wp2_with (fail)
      go_loopw [11, 36] (fun v i wq => ∃ (f g rc : Nat), f ≤ n ∧ i = .int .i64 f ∧ v = .slice (some ⟨g, 0, none⟩) (kerR p n red f).length rc ∧ OwnW wM.heap.size wq (some ⟨g, 0, none⟩) (kerR p n red f).length rc (kerR p n red f) ∧ Ext wM wq) (fun _ i _ => n - (intOf i).toNat)
      case atStart => exact ⟨0, _, _, Nat.zero_le _, rfl, rfl, OwnW.start _ _ _, ext_alloc _ _⟩
      case round =>
        obtain ⟨f, g, rc, hf, rfl, rfl, hown, hext⟩ := hrel
        rename World => wq
        have HOwn := Lib.hid hown
        have HExt := Lib.hid hext
        clear hown hext
        have hkl := kerR_len p n red f
        by_cases hlf : f < n
        · have hmap := ownsMap_ext HM.out HExt.out
          have hpiv := @plD_piv red f
          cases hp : pivIx red f with
          | some j =>
            rw [hp] at hpiv
            have HK := Lib.hid (kerR_no (p := p) (n := n) hp)
            have hhas : Maps.has (plD red red.length) (.int .i64 f) = true := hpiv
            clear hp hpiv
            go_wp2_with (at_lookup; refine wpList_lookup_own_ok_int _ rfl _ _ 93 rfl 3 3 .i64 lawK Tryz.underlying93 Tryz.underlying3 (zeroK _) w1.heap.size red.length _ rfl hmap _ _ rfl (Maps.keyOf_int_mk Tryz.underlying3 (WalkArith.wf_i64 (by omega))) ?_; intro c hat hwc; rw [hhas])
            go_roundw
            case rel => exact ⟨f + 1, g, rc, by omega, by go_num, by rw [HK.out], by rw [HK.out]; exact HOwn.out, HExt.out⟩
            case measure => simp [intOf]; omega
          | none =>
            rw [hp] at hpiv
            have HK := Lib.hid (kerR_yes (p := p) (n := n) hp)
            have HP := Lib.hid hp
            have hhas : Maps.has (plD red red.length) (.int .i64 f) = false := hpiv
            clear hp hpiv
            obtain ⟨w4, hmk, ho4, he4⟩ := make_ints wq n (by omega)
            obtain ⟨g0, hg0⟩ : ∃ g, g = wq.heap.size := ⟨_, rfl⟩
            rw [← hg0] at hmk ho4
            have HG0 := Lib.hid hg0
            have hge : wq.heap.size ≤ g0 := by omega
            have hgl : g0 < w4.heap.size := (ho4.base_of _ rfl).2
            have HO4 := Lib.hid ho4
            have HE4 := Lib.hid he4
            have hcg := ho4.cell hlf
            have hfz := ho4.frozen f
            have HM5 := Lib.hid (ownsMap_ext hmap (he4.setCell (p := ⟨g0, f, none⟩) hge (.int .i64 1)))
            clear ho4 he4 hg0
            go_wp2_with (first
              | (at_lookup; refine wpList_lookup_own_ok_int _ rfl _ _ 93 rfl 3 3 .i64 lawK Tryz.underlying93 Tryz.underlying3 (zeroK _) w1.heap.size red.length _ rfl hmap _ _ rfl (Maps.keyOf_int_mk Tryz.underlying3 (WalkArith.wf_i64 (by omega))) ?_; intro c hat hwc; rw [hhas])
              | (at_range; refine wpList_range_own _ rfl _ 93 rfl 3 3 lawK Tryz.underlying93 _ w1.heap.size red.length _ rfl HM5.out ?_; intro w6 hrg6 hg6 hs6))
            go_frame
            have hszg : (w4.setCell ⟨g0, f, none⟩ (.int .i64 1)).heap.size = w4.heap.size := by simp
            rw [hszg]
            clear hszg
            have X5 := Lib.hid (HE4.out.setCell (p := ⟨g0, f, none⟩) hge (.int .i64 1))
            have HO5 := Lib.hid (HO4.out.store hlf 1)
            have HSz := Lib.hid (show (w4.setCell ⟨g0, f, none⟩ (.int .i64 1)).heap.size = w4.heap.size by simp)
            obtain ⟨w5, hw5⟩ : ∃ w5, w5 = w4.setCell ⟨g0, f, none⟩ (.int .i64 1) := ⟨_, rfl⟩
            rw [← hw5] at hrg6 hg6 hs6 X5 HO5 HSz
            have hsz5 := HSz.out
            rw [hsz5] at hrg6
            have E6 := Lib.hid ((Ext.refl w5).grown hg6 (fun j hj => by cases hj))
            have HR6 := Lib.hid hrg6
            clear hcg hfz hmap hw5 hrg6 hg6 hs6 hmk hsz5
            go_loopw [53] (fun _ wz => ∃ (left : Lit → Bool) (cnt : Nat), wz.ranges Tryz.prog 3 (plainElem (H := Unit) Tryz.prog 3) w1.heap.size w4.heap.size red.length (plD red red.length) left cnt ∧ OwnC wq.heap.size wz (some ⟨g0, 0, none⟩) n n (kerP p n red f left) ∧ Ext wq wz) (fun _ wz => wz.rangeLeft w1.heap.size w4.heap.size)
            case atStart => exact ⟨_, _, HR6.out, by rw [kerP_start hlf]; exact (HO5.out.mono hge).ext E6.out, X5.out.trans E6.out⟩
            case round =>
              obtain ⟨left, cnt, hrg, hown, hext⟩ := hrel
              rename World => wz
              have HRg := Lib.hid hrg
              have HOz := Lib.hid hown
              have HEz := Lib.hid hext
              clear hrg hown hext
              go_wp2_with (at_next; refine wpList_next_ranges_ii _ rfl _ rfl 3 3 .i64 .i64 lawK Tryz.underlying3 Tryz.underlying3 w1.heap.size w4.heap.size red.length _ _ _ ?hit HRg.out ?_ ?_)
              case hit => simp [Act.eval]
              · intro _ hl0
                have HKE := Lib.hid (kerP_end (p := p) (n := n) (red := red) (f := f) hl0)
                clear hl0
                go_wp2_with (at_builtin; refine wpList_pushRW (w0 := wq) rfl (.tmp 71) (.tmp 73) rfl rfl rfl HOwn.out (HEz.out.trans (ext_alloc _ _)) (xs := kerV p n red f) (by rw [← HKE.out]; exact HOz.out.ext (ext_alloc _ _)) ?hc (by omega) HExt.out.size ?hk)
                case hc => exact cell_new _ _ rfl _ _
                case hk =>
                  intro g' cap' w9 ho9 he9
                  have HO9 := Lib.hid ho9
                  have HE9 := Lib.hid (he9 wM (Nat.le_refl _) ((HExt.out.trans HEz.out).alloc _))
                  clear ho9 he9
                  go_wp2_with (fail)
                  go_roundw
                  case rel => exact ⟨f + 1, g', cap', by omega, by go_num, by rw [HK.out, List.length_append]; rfl, by rw [HK.out, List.length_append]; exact .inr HO9.out, HE9.out⟩
                  case measure => simp [intOf]; omega
              · intro x c w7 cnt7 hwx hwc hlx hat hrg7 hlt7 hg7 hs7 hen
                obtain ⟨i, hi, rfl, rfl⟩ := plD_entry HBas.out hat
                have hjl := (HBas.out.good i hi).1
                have hlt : leadN (nthR red i) < n := by rw [HBas.out.leadN hi]; exact HBas.out.clt i hi
                have hbd := (HBas.out.good i hi).2 f hlf
                obtain ⟨ai, ci, hci, hoi⟩ := HRd.out.at hi
                rw [hjl] at hci hoi
                have HSt := Lib.hid (kerP_step (p := p) (n := n) (left := left) HBas.out hi hlt HP.out)
                have hw5 : wq.heap.size ≤ w4.heap.size := HE4.out.size'
                have HE7 := Lib.hid (HEz.out.grown hg7 (fun j hj => by cases hj; exact hw5))
                obtain ⟨bj, oj, rfl, hcm⟩ := hoi.rd.2 f (by omega)
                have hci7 := (HExt.out.trans HE7.out).cell hci
                have hcm7 := (HExt.out.trans HE7.out).cell hcm
                obtain ⟨u, hu⟩ : ∃ u, u = nth (nthR red i) f := ⟨_, rfl⟩
                rw [← hu] at hcm7 hbd HSt
                have hwn : IntKind.i64.wrap (-u) = -u := IntWalk.i64_in _ (by omega)
                have ho7 := HOz.out.grown hg7 (fun g hg => by cases hg; intro he; injection he with he; have := HSz.out; omega)
                obtain ⟨L, hL⟩ : ∃ L, L = leadN (nthR red i) := ⟨_, rfl⟩
                rw [← hL] at hlt HSt hrg7 hen hwx hlx
                have HO7 := Lib.hid ho7
                have HRg7 := Lib.hid hrg7
                have hcg := ho7.cell hlt
                have hfz := ho7.frozen L
                have HCnt := Lib.hid hlt7
                clear hci hoi hcm hat hlx hwx hwc ho7 hrg7 hL hu hg7 hs7 hlt7 hjl
                go_wp2_with (go_at_call 81; refine (c_num _ _ _ (by omega) (by omega)).mono ?_; rintro e w10 ⟨rfl, g10⟩; have G10 := Lib.hid g10; have hcg' := g10.cell hcg; have hfz' := (HO7.out.ext g10).frozen L; clear g10)
                go_roundw
                case rel => exact ⟨_, cnt7, ranges_keep (ranges_ext HRg7.out G10.out) (Below.heap_setCell _ _ _ _ (by show w1.heap.size ≠ g0; have := HExt.out.size'; have := HM.out.lt; omega)) (Below.heap_setCell _ _ _ _ (by show w4.heap.size ≠ g0; have := HSz.out; omega)), by rw [HSt.out]; exact (HO7.out.ext G10.out).store hlt _, (HE7.out.trans G10.out).setCell hge _⟩
                case measure =>
                  have h1 := HRg.out.left_eq
                  have h2 := (ranges_keep (w' := w10.setCell ⟨g0, L, none⟩ (.int .i64 (-u % p))) (ranges_ext HRg7.out G10.out) (Below.heap_setCell _ _ _ _ (by show w1.heap.size ≠ g0; have := HExt.out.size'; have := HM.out.lt; omega)) (Below.heap_setCell _ _ _ _ (by show w4.heap.size ≠ g0; have := HSz.out; omega))).left_eq
                  have h3 := HCnt.out
                  omega
        · obtain rfl : f = n := by omega
          go_wp2_with (go_at_call 39; refine (c_basis p (some ⟨g, 0, none⟩) (kerR p f red f).length rc f (kerR p f red f) _ HPR.out hn (by omega) (by omega) HOwn.out.rd (kerR_good (by omega))).mono ?_; rintro e w8 ⟨g8, c8, r, rfl, ho8, x8⟩; rw [← HKL.out] at ho8; obtain rfl := ho8.len; have HO8 := Lib.hid ho8; have X8 := Lib.hid x8; clear ho8 x8)
          go_ret
          exact ⟨g8, c8, rfl, HO8.out.mono (GW.out.trans HExt.out).size, GW.out.trans (HExt.out.trans X8.out)⟩
end Go.Proofs.YtcocbainookkcaaGreat

/-
  Vectors orthogonal to some, in the program.
  No condition.
-/
namespace Go.Proofs.YtcocbainookkcaaGreat
set_option maxRecDepth 100000
open Go.RowKit

def wtsL (p : Int) (qs : List Int) (vs : List (List Int)) (d k : Nat) : List (List Int) := (List.range k).map fun i => wtL p qs (nthR vs i) d
theorem wtsL_succ (p : Int) (qs : List Int) (vs : List (List Int)) (d k : Nat) : wtsL p qs vs d (k + 1) = wtsL p qs vs d k ++ [wtL p qs (nthR vs k) d] := by simp [wtsL, List.range_succ]
theorem wtsL_len (p : Int) (qs : List Int) (vs : List (List Int)) (d k : Nat) : (wtsL p qs vs d k).length = k := by simp [wtsL]
theorem wtsL_nth {p : Int} {qs : List Int} {vs : List (List Int)} {d k i : Nat} (h : i < k) : nthR (wtsL p qs vs d k) i = wtL p qs (nthR vs i) d := by
  unfold wtsL; rw [nthR_map (by simpa using h)]; simp
theorem wtsL_good {p : Int} {qs : List Int} {vs : List (List Int)} {d k : Nat} (hp : 1 ≤ p) : RowsG p d (wtsL p qs vs d k) := fun i hi => by
  rw [wtsL_len] at hi
  rw [wtsL_nth hi]; exact wt_good hp
set_option maxHeartbeats 4000000 in
set_option maxRecDepth 100000 in
theorem c_orthogonal (p : Int) (a : Option Addr) (d cap : Nat) (qs : List Int) (al : Option Addr) (n cl : Nat) (vs : List (List Int)) (w : World) (hpr : primeB p = true) (hd0 : 0 < d) (hd : d ≤ 6) (hn : n ≤ 4095) (hq : RdC w a d qs) (hqb : isB p qs = true) (hx : RdR w al n vs) (hg : RowsG p d vs) :
    Calls Tryz.prog 26 #[.agg #[.int .i64 p, .slice a d cap], .slice al n cl] w fun e w' => ∃ g rc, e = .returned (.slice (some ⟨g, 0, none⟩) (kernL p d (wtsL p qs vs d n)).length rc) ∧ OwnR w.heap.size w' (some ⟨g, 0, none⟩) (kernL p d (wtsL p qs vs d n)).length rc (kernL p d (wtsL p qs vs d n)) ∧ Ext w w' := by
  have hpb := prime_bd hpr
  have HPR := Lib.hid hpr
  have HQ := Lib.hid hq
  have HQB := Lib.hid hqb
  have HX := Lib.hid hx
  have HG := Lib.hid hg
  have HLN := Lib.hid hx.1
  clear hpr hq hqb hx hg
  obtain ⟨W, hW⟩ : ∃ W, W = w.alloc (.cells #[.int .i64 p, .slice a d cap] 26) := ⟨_, rfl⟩
  have gW : Ext w W := by rw [hW]; exact ext_alloc _ _
  have hs0 : W.cell? ⟨w.heap.size, 0, none⟩ = some (.int .i64 p) := by rw [hW]; simp
  have hs1 : W.cell? ⟨w.heap.size, 1, none⟩ = some (.slice a d cap) := by rw [hW]; simp
  have HS0 := Lib.hid (hs0)
  have HS1 := Lib.hid (hs1)
  have GW := Lib.hid (gW)
  have HW := Lib.hid hW
  clear hs0 hs1 gW hW
  go_enter Tryz.func26, Tryz.ntmps26
  go_wp2_with (fail)
  rw [← HW.out]
  have hs0 := HS0.out
  have hs1 := HS1.out
  go_wp2_with (fail)
  go_loopw [5, 11] (fun v i wr => ∃ (k g rc : Nat), k ≤ n ∧ i = .int .i64 k ∧ v = .slice (some ⟨g, 0, none⟩) k rc ∧ OwnW W.heap.size wr (some ⟨g, 0, none⟩) k rc (wtsL p qs vs d k) ∧ Ext W wr) (fun _ i _ => n - (intOf i).toNat)
  case atStart => exact ⟨0, _, _, Nat.zero_le _, rfl, rfl, OwnW.start _ _ _, ext_alloc _ _⟩
  case round =>
    obtain ⟨k, g, rc, hk, rfl, rfl, hown, hext⟩ := hrel
    rename World => wr
    have HOwn := Lib.hid hown
    have HExt := Lib.hid hext
    clear hown hext hs0 hs1
    by_cases hlt : k < n
    · obtain ⟨b, off, ak, ck, rfl, hc0, hrk⟩ := HX.out.2 k hlt
      have HGk := Lib.hid (HG.out k (by rw [HLN.out]; exact hlt))
      rw [HGk.out.1] at hc0 hrk
      have hc0' := (GW.out.trans HExt.out).cell hc0
      have HRk := Lib.hid (hrk.ext (GW.out.trans HExt.out))
      have hs0 := HExt.out.cell HS0.out
      have hs1 := HExt.out.cell HS1.out
      clear hc0 hrk
      go_wp2_with (first
        | (go_at_call 51; refine (c_weighted p a d cap qs ak ck (nthR vs k) _ (by omega) (by omega) (by omega) (HQ.out.ext (GW.out.trans HExt.out)) HQB.out HRk.out HGk.out).mono ?_; rintro e w4 ⟨g4, r4, rfl, ho4, x4⟩; have HO4 := Lib.hid ho4; have X4 := Lib.hid x4; clear ho4 x4)
        | (at_builtin; refine wpList_pushRW (w0 := wr) rfl (.tmp 15) (.tmp 19) rfl rfl rfl HOwn.out (X4.out.trans (ext_alloc _ _)) (HO4.out.ext (ext_alloc _ _)) ?hc (by omega) HExt.out.size ?hk))
      case hc => exact cell_new _ _ rfl _ _
      case hk =>
        intro g' cap' w3 ho3 he3
        have HO3 := Lib.hid ho3
        have HE3 := Lib.hid (he3 W (Nat.le_refl _) ((HExt.out.trans X4.out).alloc _))
        clear ho3 he3 hs0 hs1 hc0'
        go_wp2_with (fail)
        go_roundw
        case rel => exact ⟨k + 1, g', cap', by omega, by go_num, rfl, by rw [wtsL_succ]; exact .inr HO3.out, HE3.out⟩
        case measure => simp [intOf]; omega
    · obtain rfl : k = n := by omega
      have T0 := Lib.hid ((ext_drew wr).cell (HExt.out.cell HS0.out))
      have T1 := Lib.hid ((ext_drew wr).cell (HExt.out.cell HS1.out))
      have GX := Lib.hid ((GW.out.trans HExt.out).trans (ext_drew wr))
      have OW := Lib.hid (HOwn.out.rd.ext (ext_drew wr))
      go_wp2_with (fail)
      refine wp_region_lex [(1, .val (.int .i64 p)), (4, .val (.int .i64 d)), (5, .ownR w.heap.size (kernL p d (wtsL p qs vs d k)).length (kernL p d (wtsL p qs vs d k)))] (by kernel_rfl) (by kernel_rfl) ?_
      (refine LexW.pure (v := ?_) rfl rfl (fun w1 he => ?_) ?_; rotate_left; ( have e1 := he.cell T0.out; have e2 := he.cell T1.out; go_simp; rfl); simp only [Act.put, List.setIfInBounds_toArray, List.set_cons_zero, List.set_cons_succ])
      (refine LexW.call (f := ?_) (args := ?_) rfl rfl (fun w1 => ?_) (fun w1 he hdep => ?_) ?_; rotate_left 2; (go_simp; refine ⟨?_, ?_⟩ <;> rfl); ( exact c_field p _ w1); simp only [Act.put, List.setIfInBounds_toArray, List.set_cons_zero, List.set_cons_succ])
      (refine LexW.pure (v := ?_) rfl rfl (fun w1 he => ?_) ?_; rotate_left; ( have e1 := he.cell T0.out; have e2 := he.cell T1.out; go_simp; rfl); simp only [Act.put, List.setIfInBounds_toArray, List.set_cons_zero, List.set_cons_succ])
      (refine LexW.pure (v := ?_) rfl rfl (fun w1 he => ?_) ?_; rotate_left; ( have e1 := he.cell T0.out; have e2 := he.cell T1.out; go_simp; rfl); simp only [Act.put, List.setIfInBounds_toArray, List.set_cons_zero, List.set_cons_succ])
      (refine LexW.call (f := ?_) (args := ?_) rfl rfl (fun w1 => ?_) (fun w1 he hdep => ?_) ?_; rotate_left 2; (go_simp; refine ⟨?_, ?_⟩ <;> rfl); ( exact c_dim _ _ _ _ _); simp only [Act.put, List.setIfInBounds_toArray, List.set_cons_zero, List.set_cons_succ])
      (refine LexW.callR (f := ?_) (args := ?_) rfl rfl (fun w1 => ?_) (fun w1 he hdep => ?_) (fun v hv => ?_); rotate_left 2; (go_simp; refine ⟨?_, ?_⟩ <;> rfl); ( refine (c_kernel p _ k _ d (wtsL p qs vs d k) w1 HPR.out hd0 (by omega) (by omega) (OW.out.ext he) (wtsL_good (by omega))).mono ?_; rintro e w2 ⟨g, rc, rfl, ho, g2⟩; exact ⟨_, rfl, g2, g, rc, rfl, ho.mono (Nat.le_trans GX.out.size he.size)⟩); simp only [Act.put, List.setIfInBounds_toArray, List.set_cons_zero, List.set_cons_succ])
      obtain ⟨_, g27, c27, rfl, _⟩ := hv
      (refine LexW.pure (v := ?_) rfl rfl (fun w1 he => ?_) ?_; rotate_left; ( have e1 := he.cell T0.out; have e2 := he.cell T1.out; go_simp; rfl); simp only [Act.put, List.setIfInBounds_toArray, List.set_cons_zero, List.set_cons_succ])
      refine LexW.nil (fun w3 he hkn => ?_)
      obtain ⟨_, _, q27, r27⟩ : (SPred.ownR w.heap.size (kernL p d (wtsL p qs vs d k)).length (kernL p d (wtsL p qs vs d k))).holds (.slice (some ⟨g27, 0, none⟩) (kernL p d (wtsL p qs vs d k)).length c27) w3 := hkn (5, _) (by simp)
      cases q27
      have R27 := Lib.hid r27
      have HE := Lib.hid (GX.out.trans he)
      clear he hkn r27
      go_wp2_with (fail)
      go_ret
      exact ⟨_, _, rfl, R27.out, HE.out⟩
end Go.Proofs.YtcocbainookkcaaGreat

/-
  Reduced bases are unique; the reduced basis with one more list; in plain numbers.
  No condition. No program in sight.
-/
namespace Go.Proofs.YtcocbainookkcaaGreat
set_option maxRecDepth 100000
open Go.RowKit

/-- What is left of x when multiples of the first rows are taken away. -/
def restS (p : Int) (m : Nat) (rows : List (List Int)) (x : List Int) : Nat → List Int
  | 0 => x
  | i + 1 => plusL p (restS p m rows x i) (nthR rows i) (-(nth (restS p m rows x i) (leadN (nthR rows i)))) m
theorem restS_good {p : Int} {m : Nat} {rows : List (List Int)} {x : List Int} (hp : 1 ≤ p) (hx : Good p m x) : ∀ i, Good p m (restS p m rows x i)
  | 0 => hx
  | _ + 1 => plus_good hp
theorem restS_zero {p : Int} {m : Nat} {rows : List (List Int)} {x : List Int} {i : Nat} (hp : 1 ≤ p) (hx : Good p m x) (h : nth (restS p m rows x i) (leadN (nthR rows i)) = 0) : restS p m rows x (i + 1) = restS p m rows x i := by
  show plusL p _ _ _ m = _
  rw [h, Int.neg_zero, plus_zero (restS_good hp hx i)]
theorem rest_nth {p : Int} {m : Nat} {rows : List (List Int)} {c : Nat → Nat} {x : List Int} (h : Basis p m rows c) (hx : Good p m x) : ∀ k, k ≤ rows.length → ∀ t, t < m → nth (restS p m rows x k) t % p = (nth x t - sumN k (fun i => nth x (c i) * nth (nthR rows i) t)) % p
  | 0, _, t, _ => by simp [restS, sumN]
  | k + 1, hk, t, ht => by
    have ih := rest_nth h hx k (by omega)
    have hl := h.leadN (i := k) (by omega)
    have hck := h.clt k (by omega)
    show nth (plusL p _ _ _ m) t % p = _
    rw [plusL_nth ht, plusN, Int.emod_emod, hl]
    have e0 : nth (restS p m rows x k) (c k) % p = nth x (c k) % p := by
      rw [ih (c k) hck, sumN_zero fun i hi => by rw [h.one k (by omega) i (by omega), if_neg (by omega), Int.mul_zero], Int.sub_zero]
    rw [Int.add_emod, ih t ht, Int.neg_mul, Int.neg_emod_eq_sub_emod, ← Int.add_emod] 
    simp only [sumN]
    have e1 : nth (restS p m rows x k) (c k) * nth (nthR rows k) t % p = nth x (c k) * nth (nthR rows k) t % p := mul_emod_congr e0 rfl
    obtain ⟨z, hz⟩ : ∃ z, nth (restS p m rows x k) (c k) * nth (nthR rows k) t - nth x (c k) * nth (nthR rows k) t = p * z := Int.dvd_of_emod_eq_zero (by rw [Int.sub_emod, e1, Int.sub_self, Int.zero_emod])
    rw [show nth x t - sumN k (fun i => nth x (c i) * nth (nthR rows i) t) + (p - nth (restS p m rows x k) (c k) * nth (nthR rows k) t) = nth x t - (sumN k (fun i => nth x (c i) * nth (nthR rows i) t) + nth x (c k) * nth (nthR rows k) t) + p * (1 - z) by
      rw [Int.mul_sub, ← hz]; omega, Int.add_mul_emod_self_left]
/-- What is left has 0 at the places of the rows. -/
theorem rest_piv {p : Int} {m : Nat} {rows : List (List Int)} {c : Nat → Nat} {x : List Int} (hp : 1 ≤ p) (h : Basis p m rows c) (hx : Good p m x) {i : Nat} (hi : i < rows.length) : nth (restS p m rows x rows.length) (c i) = 0 := by
  have hb := (restS_good (rows := rows) hp hx rows.length).2 (c i) (h.clt i hi)
  have e := rest_nth h hx rows.length (Nat.le_refl _) (c i) (h.clt i hi)
  rw [sumN_single hi fun j hj hne => by rw [h.one i hi j hj, if_neg (by omega), Int.mul_zero], h.one i hi i hi, if_pos rfl, Int.mul_one, Int.sub_self, Int.zero_emod, Int.emod_eq_of_lt hb.1 hb.2] at e
  exact e
theorem rest_dot {p : Int} {m : Nat} {rows : List (List Int)} {x z : List Int} (hz : Kill p m rows z) : ∀ k, k ≤ rows.length → dotN m (restS p m rows x k) z % p = dotN m x z % p
  | 0, _ => rfl
  | k + 1, hk => by
    show dotN m (plusL p _ _ _ m) z % p = _
    rw [dot_plus, Int.add_emod, Int.mul_emod, hz k (by omega), Int.mul_zero, Int.zero_emod, Int.add_zero, Int.emod_emod]
    exact rest_dot hz k (by omega)
/-- The vectors of the kernel of a reduced basis. -/
theorem ker_kill {p : Int} {m : Nat} {rows : List (List Int)} {c : Nat → Nat} (_hp : 3 ≤ p) (h : Basis p m rows c) {f : Nat} (hf : f < m) (hn : ∀ i, i < rows.length → c i ≠ f) : Kill p m rows (kerV p m rows f) := by
  intro j hj
  have hcj := h.clt j hj
  have hne := hn j hj
  have hpn : pivIx rows f = none := by
    cases e : pivIx rows f with
    | none => rfl
    | some i => obtain ⟨hi, hl⟩ := pivIx_some e; rw [h.leadN hi] at hl; exact absurd hl (hn i hi)
  unfold dotN
  have e : sumN m (fun t => nth (nthR rows j) t * nth (kerV p m rows f) t) = sumN m (fun t => (if t = f then nth (nthR rows j) f else 0) + (if t = c j then nth (kerV p m rows f) (c j) else 0)) := sumN_congr fun t ht => by
    by_cases h1 : t = f
    · subst h1
      rw [if_pos rfl, if_neg (Ne.symm hne), kerV_nth ht, kerN, if_pos rfl, Int.mul_one, Int.add_zero]
    · rw [if_neg h1, Int.zero_add]
      by_cases h2 : t = c j
      · subst h2
        rw [if_pos rfl, h.one j hj j hj, if_pos rfl, Int.one_mul]
      · rw [if_neg h2, kerV_nth ht, kerN, if_neg h1]
        cases e : pivIx rows t with
        | none => exact Int.mul_zero _
        | some i =>
          obtain ⟨hi, hl⟩ := pivIx_some e
          rw [h.leadN hi] at hl
          subst hl
          rw [h.one i hi j hj, if_neg (fun e => h2 (by rw [e])), Int.zero_mul]
  rw [e, sumN_add, sumN_single hf fun i _ hi => if_neg hi, sumN_single hcj fun i _ hi => if_neg hi, if_pos rfl, if_pos rfl, kerV_nth hcj, kerN, if_neg hne, h.piv hj]
  show (_ + -_ % p) % p = 0
  rw [Int.add_emod, Int.emod_emod, ← Int.add_emod, Int.add_right_neg, Int.zero_emod]
/-- A vector whose product with the kernel is 0 is made by the rows. -/
theorem rest_null {p : Int} {m : Nat} {rows : List (List Int)} {c : Nat → Nat} {x : List Int} (hp : 3 ≤ p) (h : Basis p m rows c) (hx : Good p m x) (hk : ∀ z, Kill p m rows z → dotN m x z % p = 0) : ∀ t, t < m → nth (restS p m rows x rows.length) t = 0 := by
  intro f hf
  by_cases hc : ∃ i, i < rows.length ∧ c i = f
  · obtain ⟨i, hi, rfl⟩ := hc; exact rest_piv (by omega) h hx hi
  · have hn : ∀ i, i < rows.length → c i ≠ f := fun i hi he => hc ⟨i, hi, he⟩
    have hz := ker_kill hp h hf hn
    have e := rest_dot (x := x) hz rows.length (Nat.le_refl _)
    rw [hk _ hz] at e
    unfold dotN at e
    rw [sumN_single hf fun t ht hne => by
      rw [kerV_nth ht, kerN, if_neg hne]
      cases e : pivIx rows t with
      | none => exact Int.mul_zero _
      | some i =>
        obtain ⟨hi, hl⟩ := pivIx_some e
        rw [h.leadN hi] at hl
        subst hl
        rw [rest_piv (by omega) h hx hi, Int.zero_mul], kerV_nth hf, kerN, if_pos rfl, Int.mul_one] at e
    have hb := (restS_good (rows := rows) (by omega) hx rows.length).2 f hf
    rwa [Int.emod_eq_of_lt hb.1 hb.2] at e
theorem span_nth {p : Int} {m : Nat} {rows : List (List Int)} {c : Nat → Nat} {x : List Int} (hp : 3 ≤ p) (h : Basis p m rows c) (hx : Good p m x) (hk : ∀ z, Kill p m rows z → dotN m x z % p = 0) {t : Nat} (ht : t < m) : nth x t = sumN rows.length (fun i => nth x (c i) * nth (nthR rows i) t) % p := by
  have e := rest_nth h hx rows.length (Nat.le_refl _) t ht
  rw [rest_null hp h hx hk t ht, Int.zero_emod] at e
  have := sub_zero_iff.1 e.symm
  have hb := hx.2 t ht
  rwa [Int.emod_eq_of_lt hb.1 hb.2] at this
theorem sumN_some {n : Nat} {f : Nat → Int} (h : sumN n f ≠ 0) : ∃ i, i < n ∧ f i ≠ 0 :=
  Classical.byContradiction fun hn => h (sumN_zero fun i hi => Classical.byContradiction fun hf => hn ⟨i, hi, hf⟩)
theorem piv_sub {p : Int} {m : Nat} {R S : List (List Int)} {c d : Nat → Nat} (hp : 3 ≤ p) (h : Basis p m R c) (h' : Basis p m S d) (hk : ∀ z, Kill p m R z → Kill p m S z) {j : Nat} (hj : j < S.length) : ∃ i, i < R.length ∧ c i = d j := by
  have e := span_nth hp h (h'.good j hj) (fun z hz => hk z hz j hj) (h'.clt j hj)
  rw [h'.one j hj j hj, if_pos rfl] at e
  obtain ⟨i, hi, hne⟩ := sumN_some (n := R.length) (f := fun i => nth (nthR S j) (c i) * nth (nthR R i) (d j)) (by intro h0; rw [h0, Int.zero_emod] at e; omega)
  refine ⟨i, hi, ?_⟩
  have h1 : ¬ c i < d j := fun hl => hne (by show _ * _ = (0 : Int); rw [h'.lead j hj _ hl, Int.zero_mul])
  have h2 : ¬ d j < c i := fun hl => hne (by show _ * _ = (0 : Int); rw [h.lead i hi _ hl, Int.mul_zero])
  omega
theorem mono_same {n n' : Nat} {f g : Nat → Nat} (hf : ∀ i j, i < j → j < n → f i < f j) (hg : ∀ i j, i < j → j < n' → g i < g j) (h1 : ∀ i, i < n → ∃ j, j < n' ∧ g j = f i) (h2 : ∀ j, j < n' → ∃ i, i < n ∧ f i = g j) : ∀ i, i < n → i < n' ∧ g i = f i := by
  intro i
  induction i using Nat.strongRecOn with
  | ind i ih =>
    intro hi
    obtain ⟨j, hj, he⟩ := h1 i hi
    have hij : i ≤ j := Classical.byContradiction fun hn => by
      obtain ⟨_, e⟩ := ih j (by omega) (by omega)
      have := hf j i (by omega) hi
      omega
    have hin : i < n' := by omega
    obtain ⟨l, hl, hle⟩ := h2 i hin
    have hil : i ≤ l := Classical.byContradiction fun hn => by
      obtain ⟨_, e⟩ := ih l (by omega) (by omega)
      have := hg l i (by omega) hin
      omega
    refine ⟨hin, ?_⟩
    rcases Nat.lt_or_eq_of_le hij with h | h
    · have := hg i j h hj
      rcases Nat.lt_or_eq_of_le hil with h' | h'
      · have := hf i l h' hl; omega
      · subst h'; omega
    · subst h; exact he
/-- Reduced bases with the same kernel are the same. -/
theorem basis_unique {p : Int} {m : Nat} {R S : List (List Int)} {c d : Nat → Nat} (hp : 3 ≤ p) (h : Basis p m R c) (h' : Basis p m S d) (hk : ∀ z, Kill p m R z ↔ Kill p m S z) : R = S := by
  have s1 := fun j (hj : j < S.length) => piv_sub hp h h' (fun z => (hk z).1) hj
  have s2 := fun j (hj : j < R.length) => piv_sub hp h' h (fun z => (hk z).2) hj
  have m1 := mono_same h.mono h'.mono s2 s1
  have m2 := mono_same h'.mono h.mono s1 s2
  have hl : R.length = S.length := by
    rcases Nat.lt_trichotomy R.length S.length with hlt | he | hlt
    · have := (m2 R.length hlt).1; omega
    · exact he
    · have := (m1 S.length hlt).1; omega
  refine ext_rows hl fun j hj => ?_
  have gj := h.good j hj
  have gj' := h'.good j (by omega)
  refine ext_nth (by rw [gj.1, gj'.1]) fun t ht => ?_
  rw [gj.1] at ht
  have e := span_nth hp h' gj (fun z hz => (hk z).2 hz j hj) ht
  rw [e, sumN_single (show j < S.length by omega) fun i hi hne => by
    rw [(m1 i (by omega)).2, h.one i (by omega) j hj, if_neg (by omega), Int.zero_mul], (m1 j hj).2, h.one j hj j hj, if_pos rfl, Int.one_mul]
  have hb := gj'.2 t ht
  exact Int.emod_eq_of_lt hb.1 hb.2

/-! ### One more list -/
/-- The place of the first row that leads behind the place `at`, or the number of rows. -/
def insQ (rows : List (List Int)) (t : Nat) : Nat := match (List.range rows.length).find? (fun i => decide (t < leadN (nthR rows i))) with | some i => i | none => rows.length
theorem insQ_le (rows : List (List Int)) (t : Nat) : insQ rows t ≤ rows.length := by
  unfold insQ
  split
  · rename_i i h
    rw [List.find?_range_eq_some] at h
    have := h.2.1
    simp at this
    omega
  · exact Nat.le_refl _
theorem insQ_iff {p : Int} {m : Nat} {rows : List (List Int)} {c : Nat → Nat} (h : Basis p m rows c) (t : Nat) {i : Nat} (hi : i < rows.length) : t < c i ↔ insQ rows t ≤ i := by
  unfold insQ
  split
  · rename_i q hq
    rw [List.find?_range_eq_some] at hq
    obtain ⟨h1, h2, h3⟩ := hq
    have h2' : q < rows.length := by simpa using h2
    have h1' : t < c q := by have := of_decide_eq_true h1; rwa [h.leadN h2'] at this
    constructor
    · intro hc
      refine Classical.byContradiction fun hn => ?_
      have := h3 i (by omega)
      simp [h.leadN hi] at this
      omega
    · intro hqi
      rcases Nat.lt_or_eq_of_le hqi with hlt | he
      · have := h.mono q i hlt hi; omega
      · subst he; exact h1'
  · rename_i hn
    rw [List.find?_range_eq_none] at hn
    have := hn i hi
    simp [h.leadN hi] at this
    omega
/-- The rows, without their multiples of r, r inserted at place q: number j. -/
def putN (p : Int) (m : Nat) (rows : List (List Int)) (r : List Int) (t q j : Nat) : List Int :=
  if j < q then plusL p (nthR rows j) r (-(nth (nthR rows j) t)) m else if j = q then r else plusL p (nthR rows (j - 1)) r (-(nth (nthR rows (j - 1)) t)) m
def putP (p : Int) (m : Nat) (rows : List (List Int)) (r : List Int) (t q k : Nat) : List (List Int) := (List.range k).map (putN p m rows r t q)
theorem putP_len (p : Int) (m : Nat) (rows : List (List Int)) (r : List Int) (t q k : Nat) : (putP p m rows r t q k).length = k := by simp [putP]
theorem putP_succ (p : Int) (m : Nat) (rows : List (List Int)) (r : List Int) (t q k : Nat) : putP p m rows r t q (k + 1) = putP p m rows r t q k ++ [putN p m rows r t q k] := by simp [putP, List.range_succ]
theorem putP_nth {p : Int} {m : Nat} {rows : List (List Int)} {r : List Int} {t q k j : Nat} (hj : j < k) : nthR (putP p m rows r t q k) j = putN p m rows r t q j := by
  unfold putP; rw [nthR_map (by simpa using hj)]; simp
theorem putN_good {p : Int} {m : Nat} {rows : List (List Int)} {r : List Int} {t q j : Nat} (hp : 1 ≤ p) (hr : Good p m r) : Good p m (putN p m rows r t q j) := by
  unfold putN
  split
  · exact plus_good hp
  · split
    · exact hr
    · exact plus_good hp
def restL (p : Int) (m : Nat) (rows : List (List Int)) (x : List Int) : List Int := restS p m rows x rows.length
def oneL (p : Int) (m : Nat) (rest : List Int) : List Int := scaleL p rest (invN p (nth rest (leadN rest))) m
def putL (p : Int) (m : Nat) (rows : List (List Int)) (x : List Int) : List (List Int) :=
  if leadN (restL p m rows x) = m then rows
  else putP p m rows (oneL p m (restL p m rows x)) (leadN (restL p m rows x)) (insQ rows (leadN (restL p m rows x))) (rows.length + 1)
theorem put_ok {p : Int} {m : Nat} {rows : List (List Int)} {c : Nat → Nat} {x : List Int} (hp : primeB p = true) (h : Basis p m rows c) (hx : Good p m x) :
    (∃ c', Basis p m (putL p m rows x) c') ∧ ∀ z, Kill p m (putL p m rows x) z ↔ Kill p m rows z ∧ dotN m x z % p = 0 := by
  have hpb := prime_bd hp
  obtain ⟨rest, hrest⟩ : ∃ r, r = restL p m rows x := ⟨_, rfl⟩
  have gr : Good p m rest := by rw [hrest]; exact restS_good (by omega) hx _
  have rp : ∀ i, i < rows.length → nth rest (c i) = 0 := fun i hi => by rw [hrest]; exact rest_piv (by omega) h hx hi
  have rd : ∀ z, Kill p m rows z → dotN m rest z % p = dotN m x z % p := fun z hz => by rw [hrest]; exact rest_dot hz _ (Nat.le_refl _)
  unfold putL
  rw [← hrest]
  clear hrest
  by_cases hl : leadN rest = m
  · rw [if_pos hl]
    refine ⟨⟨c, h⟩, fun z => ⟨fun hz => ⟨hz, ?_⟩, fun hz => hz.1⟩⟩
    rw [← rd z hz]
    unfold dotN
    rw [sumN_zero fun t ht => by rw [leadN_zero (by omega), Int.zero_mul], Int.zero_emod]
  rw [if_neg hl]
  obtain ⟨t, ht⟩ : ∃ t, t = leadN rest := ⟨_, rfl⟩
  have htm : t < m := by have := leadN_le rest; rw [gr.1] at this; omega
  have rz : ∀ s, s < t → nth rest s = 0 := fun s hs => leadN_zero (by omega)
  have rn : nth rest t ≠ 0 := by rw [ht]; exact leadN_ne (by rw [gr.1]; omega)
  have rb := gr.2 t htm
  have hinv := (inv_spec hp (show 0 < nth rest t by omega) rb.2).2.1
  obtain ⟨r, hr⟩ : ∃ r, r = oneL p m rest := ⟨_, rfl⟩
  have grr : Good p m r := by rw [hr]; exact scale_good (by omega)
  have r1 : nth r t = 1 := by rw [hr, oneL, ← ht, scaleL_nth htm, scaleN, hinv]
  have r0 : ∀ s, s < t → nth r s = 0 := fun s hs => by rw [hr, oneL, scaleL_nth (by omega), scaleN, rz s hs, Int.zero_mul, Int.zero_emod]
  have rc : ∀ i, i < rows.length → nth r (c i) = 0 := fun i hi => by rw [hr, oneL, scaleL_nth (h.clt i hi), scaleN, rp i hi, Int.zero_mul, Int.zero_emod]
  have rk : ∀ z, dotN m r z % p = 0 ↔ dotN m rest z % p = 0 := fun z => by
    rw [hr, oneL, ← ht, dot_scale]
    constructor
    · intro h0
      have e : nth rest t * (invN p (nth rest t) * dotN m rest z) % p = 0 := by rw [Int.mul_emod, h0, Int.mul_zero, Int.zero_emod]
      rwa [← Int.mul_assoc, Int.mul_emod, hinv, Int.one_mul, Int.emod_emod] at e
    · intro h0; rw [Int.mul_emod, h0, Int.mul_zero, Int.zero_emod]
  rw [← ht, ← hr]
  clear hr hinv rb rn rz
  have hct : ∀ i, i < rows.length → c i ≠ t := fun i hi he => by have := rc i hi; rw [he, r1] at this; omega
  obtain ⟨q, hq⟩ : ∃ q, q = insQ rows t := ⟨_, rfl⟩
  have hqn : q ≤ rows.length := by rw [hq]; exact insQ_le _ _
  have hqi : ∀ i, i < rows.length → (t < c i ↔ q ≤ i) := fun i hi => by rw [hq]; exact insQ_iff h t hi
  rw [← hq]
  clear hq
  have P : ∀ j, j < rows.length + 1 → nthR (putP p m rows r t q (rows.length + 1)) j = putN p m rows r t q j := fun j hj => putP_nth hj
  -- the rows with multiples taken away
  obtain ⟨U, hU⟩ : ∃ U : Nat → List Int, U = fun j => plusL p (nthR rows j) r (-(nth (nthR rows j) t)) m := ⟨_, rfl⟩
  have U1 : ∀ j, j < rows.length → ∀ i, i < rows.length → nth (U j) (c i) = if j = i then 1 else 0 := fun j hj i hi => by
    rw [hU]; show nth (plusL p _ _ _ m) _ = _
    rw [plusL_nth (h.clt i hi), plusN, rc i hi, Int.mul_zero, Int.add_zero, h.one i hi j hj]
    split
    · exact Int.emod_eq_of_lt (by omega) (by omega)
    · rfl
  have Ut : ∀ j, nth (U j) t = 0 := fun j => by
    rw [hU]; show nth (plusL p _ _ _ m) _ = _
    rw [plusL_nth htm, plusN, r1, Int.mul_one, Int.add_right_neg, Int.zero_emod]
  have Ul : ∀ j, j < rows.length → ∀ s, s < c j → nth (U j) s = 0 := fun j hj s hs => by
    rw [hU]; show nth (plusL p _ _ _ m) _ = _
    have hsm : s < m := by have := h.clt j hj; omega
    rw [plusL_nth hsm, plusN, h.lead j hj s hs]
    by_cases hst : s < t
    · rw [r0 s hst, Int.mul_zero, Int.zero_add, Int.zero_emod]
    · have : nth (nthR rows j) t = 0 := by
        rcases Nat.lt_or_ge t (c j) with h1 | h1
        · exact h.lead j hj t h1
        · omega
      rw [this, Int.neg_zero, Int.zero_mul, Int.zero_add, Int.zero_emod]
  have N1 : ∀ j, j < q → putN p m rows r t q j = U j := fun j hj => by rw [putN, if_pos hj, hU]
  have N2 : putN p m rows r t q q = r := by rw [putN, if_neg (Nat.lt_irrefl _), if_pos rfl]
  have N3 : ∀ j, q < j → putN p m rows r t q j = U (j - 1) := fun j hj => by rw [putN, if_neg (by omega), if_neg (by omega), hU]
  refine ⟨⟨fun j => if j < q then c j else if j = q then t else c (j - 1), ?_⟩, ?_⟩
  · constructor
    · intro j hj
      rw [putP_len] at hj
      rw [P j hj]; exact putN_good (by omega) grr
    · rw [putP_len]
      -- the places are different: at most m of them
      by_cases he : rows.length < m
      · omega
      · exfalso
        have hlen := h.len
        have hm0 : rows.length = m := by omega
        have : ∀ i, i ≤ rows.length → i < rows.length → i ≤ c i := by
          intro i _ hi
          induction i with
          | zero => omega
          | succ k ih => have := ih (by omega) (by omega); have := h.mono k (k + 1) (by omega) hi; omega
        have hup : ∀ e i, i + e + 1 = rows.length → c i ≤ i := by
          intro e
          induction e with
          | zero => intro i hi; have := h.clt i (by omega); omega
          | succ e ih => intro i hi; have := ih (i + 1) (by omega); have := h.mono i (i + 1) (by omega) (by omega); omega
        have e := hct t (by omega)
        have := this t (by omega) (by omega)
        have := hup (rows.length - t - 1) t (by omega)
        omega
    · intro i hi
      rw [putP_len] at hi
      show (if i < q then c i else if i = q then t else c (i - 1)) < m
      split
      · exact h.clt i (by omega)
      · split
        · exact htm
        · exact h.clt (i - 1) (by omega)
    · intro i j hij hj
      rw [putP_len] at hj
      show (if i < q then c i else if i = q then t else c (i - 1)) < (if j < q then c j else if j = q then t else c (j - 1))
      by_cases h1 : i < q
      · rw [if_pos h1]
        have hci : c i < t := by have := hqi i (by omega); have := hct i (by omega); omega
        by_cases h2 : j < q
        · rw [if_pos h2]; exact h.mono i j hij (by omega)
        · rw [if_neg h2]
          by_cases h3 : j = q
          · rw [if_pos h3]; exact hci
          · rw [if_neg h3]
            have := (hqi (j - 1) (by omega)).2 (by omega)
            omega
      · rw [if_neg h1, if_neg (show ¬ j < q by omega), if_neg (show ¬ j = q by omega)]
        by_cases h3 : i = q
        · rw [if_pos h3]; exact (hqi (j - 1) (by omega)).2 (by omega)
        · rw [if_neg h3]; exact h.mono (i - 1) (j - 1) (by omega) (by omega)
    · intro i hi j hj
      rw [putP_len] at hi hj
      rw [P j hj]
      show nth _ (if i < q then c i else if i = q then t else c (i - 1)) = _
      by_cases j1 : j < q
      · rw [N1 j j1]
        by_cases i1 : i < q
        · rw [if_pos i1, U1 j (by omega) i (by omega)]
        · rw [if_neg i1, if_neg (show ¬ j = i by omega)]
          by_cases i2 : i = q
          · rw [if_pos i2]; exact Ut j
          · rw [if_neg i2, U1 j (by omega) (i - 1) (by omega), if_neg (by omega)]
      · by_cases j2 : j = q
        · subst j2
          rw [N2]
          by_cases i1 : i < j
          · rw [if_pos i1, rc i (by omega), if_neg (by omega)]
          · rw [if_neg i1]
            by_cases i2 : i = j
            · rw [if_pos i2, if_pos i2.symm]; exact r1
            · rw [if_neg i2, if_neg (Ne.symm i2)]; exact rc (i - 1) (by omega)
        · rw [N3 j (by omega)]
          by_cases i1 : i < q
          · rw [if_pos i1, U1 (j - 1) (by omega) i (by omega), if_neg (by omega), if_neg (by omega)]
          · rw [if_neg i1]
            by_cases i2 : i = q
            · rw [if_pos i2, if_neg (by omega)]; exact Ut _
            · rw [if_neg i2, U1 (j - 1) (by omega) (i - 1) (by omega)]
              by_cases e : j = i
              · rw [if_pos (by omega), if_pos e]
              · rw [if_neg (by omega), if_neg e]
    · intro i hi s hs
      rw [putP_len] at hi
      rw [P i hi]
      replace hs : s < (if i < q then c i else if i = q then t else c (i - 1)) := hs
      by_cases i1 : i < q
      · rw [if_pos i1] at hs
        rw [N1 i i1]; exact Ul i (by omega) s hs
      · rw [if_neg i1] at hs
        by_cases i2 : i = q
        · rw [if_pos i2] at hs
          subst i2
          rw [N2]; exact r0 s hs
        · rw [if_neg i2] at hs
          rw [N3 i (by omega)]; exact Ul (i - 1) (by omega) s hs
  · intro z
    have Uk : ∀ j, dotN m r z % p = 0 → (dotN m (U j) z % p = 0 ↔ dotN m (nthR rows j) z % p = 0) := fun j h0 => by
      rw [hU]; show dotN m (plusL p _ _ _ m) z % p = 0 ↔ _
      rw [dot_plus, Int.add_emod, Int.mul_emod _ (dotN m r z), h0, Int.mul_zero, Int.zero_emod, Int.add_zero, Int.emod_emod]
    constructor
    · intro hz
      have hz' : ∀ j, j < rows.length + 1 → dotN m (putN p m rows r t q j) z % p = 0 := fun j hj => by
        have := hz j (by rw [putP_len]; exact hj)
        rwa [P j hj] at this
      have hr0 : dotN m r z % p = 0 := by have := hz' q (by omega); rwa [N2] at this
      have hR : Kill p m rows z := fun j hj => by
        rw [← Uk j hr0]
        by_cases hjq : j < q
        · have := hz' j (by omega); rwa [N1 j hjq] at this
        · have := hz' (j + 1) (by omega); rwa [N3 (j + 1) (by omega)] at this
      exact ⟨hR, by rw [← rd z hR]; exact (rk z).1 hr0⟩
    · rintro ⟨hR, h0⟩
      have hr0 : dotN m r z % p = 0 := (rk z).2 (by rw [rd z hR]; exact h0)
      intro j hj
      rw [putP_len] at hj
      rw [P j hj]
      by_cases j1 : j < q
      · rw [N1 j j1, Uk j hr0]; exact hR j (by omega)
      · by_cases j2 : j = q
        · rw [j2, N2]; exact hr0
        · rw [N3 j (by omega), Uk _ hr0]; exact hR _ (by omega)
/-- The reduced basis of the first k lists. -/
def redS (p : Int) (m : Nat) (lists : List (List Int)) : Nat → List (List Int)
  | 0 => []
  | k + 1 => putL p m (redS p m lists k) (nthR lists k)
theorem redS_ok {p : Int} {m : Nat} {lists : List (List Int)} (hp : primeB p = true) (hg : RowsG p m lists) : ∀ k, k ≤ lists.length → (∃ c, Basis p m (redS p m lists k) c) ∧ ∀ z, Kill p m (redS p m lists k) z ↔ ∀ i, i < k → dotN m (nthR lists i) z % p = 0
  | 0, _ => ⟨⟨fun _ => 0, ⟨fun i hi => absurd hi (Nat.not_lt_zero _), Nat.zero_le _, fun i hi => absurd hi (Nat.not_lt_zero _), fun i j _ hj => absurd hj (Nat.not_lt_zero _), fun i hi => absurd hi (Nat.not_lt_zero _), fun i hi => absurd hi (Nat.not_lt_zero _)⟩⟩, fun z => ⟨fun _ i hi => absurd hi (Nat.not_lt_zero _), fun _ i hi => absurd hi (Nat.not_lt_zero _)⟩⟩
  | k + 1, hk => by
    obtain ⟨⟨c, h1⟩, h2⟩ := redS_ok hp hg k (by omega)
    obtain ⟨h3, h4⟩ := put_ok hp h1 (hg k (by omega))
    refine ⟨h3, fun z => ?_⟩
    show Kill p m (putL p m (redS p m lists k) (nthR lists k)) z ↔ _
    rw [h4 z, h2 z]
    constructor
    · rintro ⟨ha, hb⟩ i hi
      by_cases h : i < k
      · exact ha i h
      · rw [show i = k by omega]; exact hb
    · intro h; exact ⟨fun i hi => h i (by omega), h k (by omega)⟩
/-- The two ways to a reduced basis lead to the same one. -/
theorem redS_basis {p : Int} {m : Nat} {lists : List (List Int)} (hp : primeB p = true) (hg : RowsG p m lists) : redS p m lists lists.length = basisL p m lists := by
  obtain ⟨⟨c, h1⟩, h2⟩ := redS_ok hp hg lists.length (Nat.le_refl _)
  obtain ⟨d, h3⟩ := basis_red hp hg
  exact basis_unique (prime_bd hp).1 h1 h3 fun z => by rw [h2 z, kill_basis hp hg]; rfl
end Go.Proofs.YtcocbainookkcaaGreat

/-
  append of rows to rows; sums of matrices.
  No condition.
-/
namespace Go.Proofs.YtcocbainookkcaaGreat
set_option maxRecDepth 100000
open Go.RowKit

/-- append of rows of the call's own. -/
theorem run_appendRows {B : Nat} {w0 w : World} {ra : Option Addr} {n cap : Nat} {rows : List (List Int)} {g2 m c2 : Nat} {rows2 : List (List Int)} (hown : OwnR B w0 ra n cap rows) (he : Ext w0 w) (hx : OwnR w0.heap.size w (some ⟨g2, 0, none⟩) m c2 rows2) (hm : 0 < m) (hn : n ≤ 4194304) (hml : m ≤ 4194304) (hB : B ≤ w0.heap.size) (ty : TypeId) :
    ∃ g' cap' w', (Builtin.append_ #[27, 27] ty #[.slice ra n cap, .slice (some ⟨g2, 0, none⟩) m c2]).run Tryz.prog w = .ok (.slice (some ⟨g', 0, none⟩) (n + m) cap') w' ∧
      OwnR B w' (some ⟨g', 0, none⟩) (n + m) cap' (rows ++ rows2) ∧ (∀ W : World, W.heap.size ≤ B → Ext W w → Ext W w') := by
  obtain ⟨i0, hi, hz0, hz1, hz2⟩ := info_parts Tryz.infoR
  have hown0 := hown
  obtain ⟨h1, vs, h2, hap, h4⟩ := hown
  obtain ⟨x1, us, x2, xap, x4⟩ := hx
  have h2' := ownsRow_ext h2 he
  have hvl : vs.length = n := by have := h2.1; omega
  have hul : us.length = m := by have := x2.1; omega
  have hcell : ∀ j u, us[j]? = some u → w.cell? ⟨g2, j, none⟩ = some u := fun j u hj => by
    have hjl : j < m := by
      rcases Nat.lt_or_ge j m with h | h
      · exact h
      · rw [List.getElem?_eq_none (by omega)] at hj; cases hj
    rcases x2.2 with ⟨_, h3⟩ | ⟨g, c, cur, hv, hb, hh, hc1, hc2, hc3, hc4⟩
    · omega
    · simp only [Value.slice.injEq] at hv
      obtain ⟨hv1, _, _⟩ := hv
      cases hv1
      rw [← hc4, List.getElem?_take_of_lt (by omega), Array.getElem?_toList] at hj
      simp only [World.cell?, hh]
      simpa using hj
  obtain ⟨v', w', hr, h5, h6, _⟩ := run_append_own (P := Tryz.prog) w B 27 ty 24 i0 (.slice none 0 0) 1 24 Tryz.underlying27 hi hz0 hz1 hz2 rfl (by decide) (.slice ra n cap) n vs h2'
    ⟨g2, 0, none⟩ m c2 us (by omega) (fun j u hj => by
      have := hcell j u hj
      by_cases hj0 : j = 0
      · subst hj0; simpa [Addr.add] using this
      · simpa [Addr.add, hj0] using this) (fun u hu => by
        obtain ⟨j, hj, rfl⟩ := List.getElem_of_mem hu
        obtain ⟨ai, ci, h7, _⟩ := x4 j (by omega)
        rw [List.getElem?_eq_getElem hj] at h7
        rw [Option.some.inj h7]; rfl) (by unfold maxLen; omega) (by omega) (Nat.le_trans hB he.size)
  have form : ∃ g cap, v' = .slice (some ⟨g, 0, none⟩) (n + m) cap := by
    rcases h5.2 with ⟨_, h3⟩ | ⟨g, c, cur, hv, _⟩
    · omega
    · exact ⟨g, c, hv⟩
  obtain ⟨g', cap', rfl⟩ := form
  refine ⟨g', cap', w', hr, ⟨by simp [h1, x1], vs ++ us, h5, ?_, fun i hin => ?_⟩, fun W hW hE => hE.grown h6 fun k hk => Nat.le_trans hW (hown0.blk k hk)⟩
  · intro i k g1 n1 c1 n2 c2 hik hi hk
    have old : ∀ l n3 c3, l < n → vs[l]? = some (Value.slice (some ⟨g1, 0, none⟩) n3 c3) → g1 < w0.heap.size := fun l n3 c3 hl e => by
      obtain ⟨ai, ci, h5, h6⟩ := h4 l hl
      rw [h5] at e
      simp only [Option.some.injEq, Value.slice.injEq] at e
      exact (h6.base_of g1 e.1).2
    have new : ∀ l n3 c3, us[l]? = some (Value.slice (some ⟨g1, 0, none⟩) n3 c3) → w0.heap.size ≤ g1 := fun l n3 c3 e => by
      have hl : l < m := by
        rcases Nat.lt_or_ge l m with h | h
        · exact h
        · rw [List.getElem?_eq_none (by omega)] at e; cases e
      obtain ⟨ai, ci, h5, h6⟩ := x4 l hl
      rw [h5] at e
      simp only [Option.some.injEq, Value.slice.injEq] at e
      exact (h6.base_of g1 e.1).1
    by_cases li : i < n
    · rw [List.getElem?_append_left (by omega)] at hi
      by_cases lk : k < n
      · rw [List.getElem?_append_left (by omega)] at hk
        exact hap i k g1 _ _ _ _ hik hi hk
      · rw [List.getElem?_append_right (by omega)] at hk
        have := new _ _ _ hk; have := old i _ _ li hi; omega
    · rw [List.getElem?_append_right (by omega)] at hi
      by_cases lk : k < n
      · rw [List.getElem?_append_left (by omega)] at hk
        have := new _ _ _ hi; have := old k _ _ lk hk; omega
      · rw [List.getElem?_append_right (by omega)] at hk
        exact xap _ _ g1 _ _ _ _ (by omega) hi hk
  · by_cases hlt : i < n
    · obtain ⟨ai, ci, h7, h8⟩ := h4 i hlt
      have e : nthR (rows ++ rows2) i = nthR rows i := by simp [nthR, List.getElem?_append_left (show i < rows.length by omega)]
      rw [e]
      exact ⟨ai, ci, by rw [List.getElem?_append_left (by omega)]; exact h7, (h8.ext he).grown h6 (own_apart h2' (h8.ext he))⟩
    · obtain ⟨ai, ci, h7, h8⟩ := x4 (i - n) (by omega)
      have e : nthR (rows ++ rows2) i = nthR rows2 (i - n) := by
        unfold nthR
        rw [List.getD_eq_getElem?_getD, List.getD_eq_getElem?_getD, List.getElem?_append_right (by omega), h1]
      rw [e]
      exact ⟨ai, ci, by rw [List.getElem?_append_right (by omega), hvl]; exact h7, (h8.mono hB).grown h6 (own_apart h2' h8)⟩

theorem append_emptyN (w : World) (b t : Addr) (m c : Nat) (us : List Value) (ty : TypeId) (hul : us.length = m) (hn : ∀ j u, us[j]? = some u → w.cell? (t.add j) = some u) (hm : 0 < m) (hml : m ≤ 4194304) :
    (Builtin.append_ #[27, 27] ty #[.slice (some b) 0 0, .slice (some t) m c]).run Tryz.prog w =
    (Builtin.append_ #[27, 27] ty #[.slice none 0 0, .slice (some t) m c]).run Tryz.prog w := by
  obtain ⟨i0, hi, hz0, hz1, hz2⟩ := info_parts Tryz.infoR
  have e : Builtin.nextslicecap (0 + m) 0 * i0.bytes ≤ 281474976710656 := by
    rw [hz2]; unfold Builtin.nextslicecap; rw [if_pos (by omega)]; omega
  rw [run_append_grow (P := Tryz.prog) w 27 ty 24 i0 (.slice none 0 0) Tryz.underlying27 hi hz0 b 0 0 [] (by simp) (fun j u hj => by simp at hj) t m c us (by simp [hz1, hul]) hn (by omega) (by omega) e,
    run_append_nil (P := Tryz.prog) w 27 ty 24 i0 (.slice none 0 0) Tryz.underlying27 hi hz0 t m c us (by simp [hz1, hul]) hn (by omega) (by omega) (by rw [hz2]; omega)]
  simp

/-- The cells of owned rows. -/
theorem ownR_cells {B : Nat} {w : World} {g m c : Nat} {rows : List (List Int)} (h : OwnR B w (some ⟨g, 0, none⟩) m c rows) (hm : 0 < m) : ∃ us : List Value, us.length = m ∧ ∀ j u, us[j]? = some u → w.cell? ((⟨g, 0, none⟩ : Addr).add j) = some u := by
  obtain ⟨x1, us, x2, xap, x4⟩ := h
  have hul : us.length = m := by have := x2.1; omega
  refine ⟨us, hul, fun j u hj => ?_⟩
  have hjl : j < m := by
    rcases Nat.lt_or_ge j m with h | h
    · exact h
    · rw [List.getElem?_eq_none (by omega)] at hj; cases hj
  have hc : w.cell? ⟨g, j, none⟩ = some u := by
    rcases x2.2 with ⟨_, h3⟩ | ⟨g, c, cur, hv, hb, hh, hc1, hc2, hc3, hc4⟩
    · omega
    · simp only [Value.slice.injEq] at hv
      obtain ⟨hv1, _, _⟩ := hv
      cases hv1
      rw [← hc4, List.getElem?_take_of_lt (by omega), Array.getElem?_toList] at hj
      simp only [World.cell?, hh]
      simpa using hj
  by_cases hj0 : j = 0
  · subst hj0; simpa [Addr.add] using hc
  · simpa [Addr.add, hj0] using hc

theorem run_appendRowsW {B : Nat} {w0 w : World} {ra : Option Addr} {n cap : Nat} {rows : List (List Int)} {g2 m c2 : Nat} {rows2 : List (List Int)} (hown : OwnW B w0 ra n cap rows) (he : Ext w0 w) (hx : OwnR w0.heap.size w (some ⟨g2, 0, none⟩) m c2 rows2) (hm : 0 < m) (hn : n ≤ 4194304) (hml : m ≤ 4194304) (hB : B ≤ w0.heap.size) (ty : TypeId) :
    ∃ g' cap' w', (Builtin.append_ #[27, 27] ty #[.slice ra n cap, .slice (some ⟨g2, 0, none⟩) m c2]).run Tryz.prog w = .ok (.slice (some ⟨g', 0, none⟩) (n + m) cap') w' ∧
      OwnR B w' (some ⟨g', 0, none⟩) (n + m) cap' (rows ++ rows2) ∧ (∀ W : World, W.heap.size ≤ B → Ext W w → Ext W w') := by
  rcases hown with ⟨rfl, rfl, rfl, g0, rfl⟩ | hown
  · obtain ⟨us, hul, hcs⟩ := ownR_cells hx hm
    obtain ⟨g', cap', w', h1, h2, h4⟩ := run_appendRows (OwnR.nil B w0) he hx hm hn hml hB ty
    exact ⟨g', cap', w', by rw [append_emptyN w _ _ m c2 us ty hul hcs hm hml]; exact h1, h2, h4⟩
  · exact run_appendRows hown he hx hm hn hml hB ty

theorem wpList_appendRowsW {ops : Array Oper} {rest : List Oper} {o : Oper} {a : Act} {Q : Exit → Act → World → Prop} {w0 w : World} (hgd : o.guard = none) (s x : Operand)
    (ho : o.op = .call { callee := .builtin .append, args := #[s, x], argTypes := #[27, 27] })
    {B : Nat} {ra : Option Addr} {n cap : Nat} {rows : List (List Int)} {g2 m c2 : Nat} {rows2 : List (List Int)} (hs : a.eval s = .slice ra n cap) (hx : a.eval x = .slice (some ⟨g2, 0, none⟩) m c2)
    (hown : OwnW B w0 ra n cap rows) (he : Ext w0 w) (hxs : OwnR w0.heap.size w (some ⟨g2, 0, none⟩) m c2 rows2) (hm : 0 < m) (hn : n ≤ 4194304) (hml : m ≤ 4194304) (hB : B ≤ w0.heap.size)
    (h : ∀ g' cap' w', OwnR B w' (some ⟨g', 0, none⟩) (n + m) cap' (rows ++ rows2) → (∀ W : World, W.heap.size ≤ B → Ext W w → Ext W w') →
      wpList Tryz.prog ops Q rest (a.put o.dst (.slice (some ⟨g', 0, none⟩) (n + m) cap')) w') : wpList Tryz.prog ops Q (o :: rest) a w := by
  refine wpList_plain hgd fun K hK => ?_
  obtain ⟨g', cap', w', hr, h1, h3⟩ := run_appendRowsW hown he hxs hm hn hml hB o.type
  unfold Oper.wp execOp
  simp only [ho, resolve, invoke, builtin, Sem.run_bind, Sem.run_pure, Result.andThen_ok, List.map_toArray, List.map_cons, List.map_nil, hs, hx, hr]
  exact hK _ _ (h g' cap' w' h1 h3)

theorem run_pushR_at {B : Nat} {w0 w : World} {ra : Option Addr} {n cap : Nat} {rows : List (List Int)} {b : Option Addr} {m c : Nat} {xs : List Int} {g : Nat} (hown : OwnR B w0 ra n cap rows) (he : Ext w0 w) (hc : w.cell? ⟨g, 0, none⟩ = some (.slice b m c)) (hx : OwnC w0.heap.size w b m c xs) (hn : n ≤ 4194304) (hB : B ≤ w0.heap.size) (ty : TypeId) :
    ∃ g' cap' w', (Builtin.append_ #[27, 27] ty #[.slice ra n cap, .slice (some ⟨g, 0, none⟩) 1 1]).run Tryz.prog w = .ok (.slice (some ⟨g', 0, none⟩) (n + 1) cap') w' ∧
      OwnR B w' (some ⟨g', 0, none⟩) (n + 1) cap' (rows ++ [xs]) ∧ w.grownBy w' (Value.slice ra n cap).ownBlock ∧ (g' = w.heap.size ∨ (Value.slice ra n cap).ownBlock = some g') ∧ (∀ W : World, W.heap.size ≤ B → Ext W w → Ext W w') := by
  obtain ⟨i0, hi, hz0, hz1, hz2⟩ := info_parts Tryz.infoR
  have hown0 := hown
  obtain ⟨h1, vs, h2, hap, h4⟩ := hown
  have h2' := ownsRow_ext h2 he
  have hvl : vs.length = n := by have := h2.1; omega
  obtain ⟨v', w', hr, h5, h6, _, hbk⟩ := run_append_own_at (P := Tryz.prog) w B 27 ty 24 i0 (.slice none 0 0) 1 24 Tryz.underlying27 hi hz0 hz1 hz2 rfl (by decide) (.slice ra n cap) n vs h2'
    ⟨g, 0, none⟩ 1 1 [.slice b m c] rfl (fun j u hj => by
      cases j with
      | zero => simp only [List.getElem?_cons_zero, Option.some.injEq] at hj; subst hj; simpa [Addr.add] using hc
      | succ j => simp at hj) (fun u hu => by simp only [List.mem_singleton] at hu; subst hu; rfl) (by unfold maxLen; omega) (by omega) (Nat.le_trans hB he.size)
  have form : ∃ g cap, v' = .slice (some ⟨g, 0, none⟩) (n + 1) cap := by
    rcases h5.2 with ⟨_, h3⟩ | ⟨g, c, cur, hv, _⟩
    · omega
    · exact ⟨g, c, hv⟩
  obtain ⟨g', cap', rfl⟩ := form
  refine ⟨g', cap', w', hr, ⟨by simp [h1], vs ++ [.slice b m c], h5, ?_, fun i hin => ?_⟩, h6, hbk.elim (fun h => .inr h.symm) (fun h => .inl (Option.some.inj h)), fun W hW hE => hE.grown h6 fun k hk => Nat.le_trans hW (hown0.blk k hk)⟩
  · intro i k g1 n1 c1 n2 c2 hik hi hk
    have old : ∀ l n3 c3, l < n → vs[l]? = some (.slice (some ⟨g1, 0, none⟩) n3 c3) → g1 < w0.heap.size := fun l n3 c3 hl e => by
      obtain ⟨ai, ci, h5, h6⟩ := h4 l hl
      rw [h5] at e
      simp only [Option.some.injEq, Value.slice.injEq] at e
      exact (h6.base_of g1 e.1).2
    have new : (some (Value.slice b m c)) = some (.slice (some ⟨g1, 0, none⟩) n1 c1) ∨ (some (Value.slice b m c)) = some (.slice (some ⟨g1, 0, none⟩) n2 c2) → w0.heap.size ≤ g1 := fun e => by
      rcases e with e | e
      all_goals
        simp only [Option.some.injEq, Value.slice.injEq] at e
        exact (hx.base_of g1 e.1).1
    rcases Nat.lt_trichotomy i n with li | li | li
    · rw [List.getElem?_append_left (by omega)] at hi
      rcases Nat.lt_trichotomy k n with lk | lk | lk
      · rw [List.getElem?_append_left (by omega)] at hk
        exact hap i k g1 _ _ _ _ hik hi hk
      · rw [lk, ← hvl, List.getElem?_concat_length] at hk
        have := new (.inr hk); have := old i _ _ li hi; omega
      · rw [List.getElem?_eq_none (by simp; omega)] at hk; cases hk
    · rw [li, ← hvl, List.getElem?_concat_length] at hi
      rcases Nat.lt_trichotomy k n with lk | lk | lk
      · rw [List.getElem?_append_left (by omega)] at hk
        have := new (.inl hi); have := old k _ _ lk hk; omega
      · omega
      · rw [List.getElem?_eq_none (by simp; omega)] at hk; cases hk
    · rw [List.getElem?_eq_none (by simp; omega)] at hi; cases hi
  · by_cases hlt : i < n
    · obtain ⟨ai, ci, h7, h8⟩ := h4 i hlt
      have e : nthR (rows ++ [xs]) i = nthR rows i := by simp [nthR, List.getElem?_append_left (show i < rows.length by omega)]
      rw [e]
      exact ⟨ai, ci, by rw [List.getElem?_append_left (by omega)]; exact h7, (h8.ext he).grown h6 (own_apart h2' (h8.ext he))⟩
    · obtain rfl : i = n := by omega
      have e : nthR (rows ++ [xs]) i = xs := by simp [nthR, ← h1]
      rw [e, hx.1]
      exact ⟨b, c, by rw [← hvl]; simp, (hx.mono hB).grown h6 (own_apart h2' hx)⟩

theorem wpList_pushR_at {ops : Array Oper} {rest : List Oper} {o : Oper} {a : Act} {Q : Exit → Act → World → Prop} {w0 w : World} (hgd : o.guard = none) (s x : Operand)
    (ho : o.op = .call { callee := .builtin .append, args := #[s, x], argTypes := #[27, 27] })
    {B : Nat} {ra : Option Addr} {n cap : Nat} {rows : List (List Int)} {b : Option Addr} {m c : Nat} {xs : List Int} {g : Nat} (hs : a.eval s = .slice ra n cap) (hx : a.eval x = .slice (some ⟨g, 0, none⟩) 1 1)
    (hown : OwnR B w0 ra n cap rows) (he : Ext w0 w) (hxs : OwnC w0.heap.size w b m c xs) (hc : w.cell? ⟨g, 0, none⟩ = some (.slice b m c)) (hn : n ≤ 4194304) (hB : B ≤ w0.heap.size)
    (h : ∀ g' cap' w', OwnR B w' (some ⟨g', 0, none⟩) (n + 1) cap' (rows ++ [xs]) → w.grownBy w' (Value.slice ra n cap).ownBlock → (g' = w.heap.size ∨ (Value.slice ra n cap).ownBlock = some g') → (∀ W : World, W.heap.size ≤ B → Ext W w → Ext W w') →
      wpList Tryz.prog ops Q rest (a.put o.dst (.slice (some ⟨g', 0, none⟩) (n + 1) cap')) w') : wpList Tryz.prog ops Q (o :: rest) a w := by
  refine wpList_plain hgd fun K hK => ?_
  obtain ⟨g', cap', w', hr, h1, h2, h2b, h3⟩ := run_pushR_at hown he hc hxs hn hB o.type
  unfold Oper.wp execOp
  simp only [ho, resolve, invoke, builtin, Sem.run_bind, Sem.run_pure, Result.andThen_ok, List.map_toArray, List.map_cons, List.map_nil, hs, hx, hr]
  exact hK _ _ (h g' cap' w' h1 h2 h2b h3)

/-- Owned rows stay, where another list of rows is grown. -/
theorem OwnR.grown2 {B B2 : Nat} {w w' : World} {a ra : Option Addr} {n cap m c : Nat} {rows rows2 : List (List Int)} (h : OwnR B w a n cap rows) (h2 : OwnR B2 w ra m c rows2) (hg : w.grownBy w' (Value.slice ra m c).ownBlock) (hne : ∀ g, a = some ⟨g, 0, none⟩ → (Value.slice ra m c).ownBlock ≠ some g) : OwnR B w' a n cap rows := by
  have hlt := h.base_of
  obtain ⟨h1, vs, hv, hap, h4⟩ := h
  obtain ⟨_, us, hu, _⟩ := h2
  refine ⟨h1, vs, ⟨hv.1, ?_⟩, hap, fun i hi => ?_⟩
  · rcases hv.2 with h3 | ⟨g, c, cur, hv, hb, hh, h4⟩
    · exact .inl h3
    · refine .inr ⟨g, c, cur, hv, hb, ?_, h4⟩
      simp only [Value.slice.injEq] at hv
      rw [hg.block g (hlt g hv.1).2 (fun e => hne g hv.1 e.symm)]; exact hh
  · obtain ⟨ai, ci, h5, h6⟩ := h4 i hi
    exact ⟨ai, ci, h5, h6.grown hg (own_apart hu h6)⟩

/-! ### Sums of matrices -/
def sumM (p : Int) (A B : List (List Int)) (k : Int) (m n : Nat) : List (List Int) := (List.range n).map fun i => plusL p (nthR A i) (nthR B i) k m
theorem sumM_succ (p : Int) (A B : List (List Int)) (k : Int) (m n : Nat) : sumM p A B k m (n + 1) = sumM p A B k m n ++ [plusL p (nthR A n) (nthR B n) k m] := by simp [sumM, List.range_succ]
theorem sumM_len (p : Int) (A B : List (List Int)) (k : Int) (m n : Nat) : (sumM p A B k m n).length = n := by simp [sumM]
theorem sumM_nth {p : Int} {A B : List (List Int)} {k : Int} {m n i : Nat} (h : i < n) : nthR (sumM p A B k m n) i = plusL p (nthR A i) (nthR B i) k m := by
  unfold sumM; rw [nthR_map (by simpa using h)]; simp
theorem sumM_good {p : Int} {A B : List (List Int)} {k : Int} {m n : Nat} (hp : 1 ≤ p) : RowsG p m (sumM p A B k m n) := fun i hi => by
  rw [sumM_len] at hi
  rw [sumM_nth hi]
  exact plus_good hp

end Go.Proofs.YtcocbainookkcaaGreat
