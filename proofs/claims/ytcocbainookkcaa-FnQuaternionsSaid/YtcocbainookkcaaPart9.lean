/-
  Contracts and plain laws, part 9: SphP, QuatP, QuatG, Solve, InvM, Inverse, Dbl, DblS.
  No condition.
-/
import Derived.Test.YtcocbainookkcaaPart8
import Derived.Test.YtcocbainookkcaaPart7
import Derived.Test.YtcocbainookkcaaPart5
import Derived.Test.YtcocbainookkcaaPart6
import Derived.Test.YtcocbainookkcaaPart1
import Derived.Test.YtcocbainookkcaaPart0
import Derived.Test.YtcocbainookkcaaPart4
import Derived.Test.YtcocbainookkcaaPart2
/-
  Spheres, distances and places, in plain numbers.
  No condition. No program in sight.
-/
namespace Go.Proofs.Ytcocbainookkcaa
set_option maxRecDepth 100000
open Go.RowKit

/-- Equal but for a multiple of p. -/
def cg (p a b : Int) : Prop := ∃ s, a = b + p * s
theorem cg.refl (p a : Int) : cg p a a := ⟨0, by omega⟩
theorem cg.symm {p a b : Int} (h : cg p a b) : cg p b a := by obtain ⟨s, hs⟩ := h; exact ⟨-s, by grind⟩
theorem cg.trans {p a b c : Int} (h : cg p a b) (k : cg p b c) : cg p a c := by obtain ⟨s, hs⟩ := h; obtain ⟨t, ht⟩ := k; exact ⟨s + t, by grind⟩
theorem cg.add {p a b c d : Int} (h : cg p a b) (k : cg p c d) : cg p (a + c) (b + d) := by obtain ⟨s, hs⟩ := h; obtain ⟨t, ht⟩ := k; exact ⟨s + t, by grind⟩
theorem cg.sub {p a b c d : Int} (h : cg p a b) (k : cg p c d) : cg p (a - c) (b - d) := by obtain ⟨s, hs⟩ := h; obtain ⟨t, ht⟩ := k; exact ⟨s - t, by grind⟩
theorem cg.mul {p a b c d : Int} (h : cg p a b) (k : cg p c d) : cg p (a * c) (b * d) := by obtain ⟨s, hs⟩ := h; obtain ⟨t, ht⟩ := k; exact ⟨s * d + b * t + p * (s * t), by grind⟩
theorem cg.emod {p a b : Int} (h : cg p a b) : a % p = b % p := emod_add h
theorem cg_emod (p a : Int) : cg p (a % p) a := emod_ex p a
theorem cg_of {p a b : Int} (h : a % p = b % p) : cg p a b := ((cg_emod p a).symm.trans (by rw [h]; exact cg.refl _ _)).trans (cg_emod p b)
theorem cg_small {p a b : Int} (h : cg p a b) (ha : 0 ≤ a) (ha2 : a < p) (hb : 0 ≤ b) (hb2 : b < p) : a = b := by
  have := h.emod
  rwa [Int.emod_eq_of_lt ha ha2, Int.emod_eq_of_lt hb hb2] at this
theorem cg_zero {p a : Int} (h : cg p a 0) (ha : 0 ≤ a) (ha2 : a < p) : a = 0 := cg_small h ha ha2 (Int.le_refl _) (by omega)
theorem cg_half {p : Int} (hp : primeB p = true) : cg p (2 * invN p 2) 1 := half_spec hp
theorem cg_inv {p a : Int} (hp : primeB p = true) (h0 : 0 < a) (h1 : a < p) : cg p (a * invN p a) 1 := by
  have hb := prime_bd hp
  have := (inv_spec hp h0 h1).2.1
  exact cg_of (by rw [this, Int.emod_eq_of_lt (by omega) (by omega)])
/-- A factor with an inverse is taken off. -/
theorem cg_cancel {p a b c : Int} (hp : primeB p = true) (h0 : 0 < c) (h1 : c < p) (h : cg p (c * a) (c * b)) : cg p a b := by
  have hi := cg_inv hp h0 h1
  obtain ⟨s, hs⟩ := hi
  obtain ⟨t, ht⟩ := h
  exact ⟨invN p c * t - s * (a - b), by grind⟩
theorem cg_two {p a b : Int} (hp : primeB p = true) (h : cg p (2 * a) (2 * b)) : cg p a b := by
  have hb := prime_bd hp
  exact cg_cancel hp (by omega) (by omega) h

theorem pz_comm (Q x y : List Int) : pairZ Q x y = pairZ Q y x := by rw [quad_pairZ, quad_pairZ, quad_comm]
theorem pl_pz {p : Int} {Q x y : List Int} {n : Nat} (h : Q.length = n) : pairL p Q x y n = pairZ Q x y % p := by subst h; rw [pair_quad, quad_pairZ]
theorem pl_cg {p : Int} {Q x y : List Int} {n : Nat} (h : Q.length = n) : cg p (pairL p Q x y n) (pairZ Q x y) := by rw [pl_pz h]; exact cg_emod _ _
theorem sum_cg {p : Int} {f g : Nat → Int} : ∀ n, (∀ i, i < n → cg p (f i) (g i)) → cg p (sumN n f) (sumN n g)
  | 0, _ => cg.refl _ _
  | n + 1, h => (sum_cg n fun i hi => h i (by omega)).add (h n (by omega))
theorem pz_congr {p : Int} {Q x x' y y' : List Int} (hx : ∀ i, i < Q.length → cg p (nth x i) (nth x' i)) (hy : ∀ i, i < Q.length → cg p (nth y i) (nth y' i)) : cg p (pairZ Q x y) (pairZ Q x' y') :=
  sum_cg _ fun i hi => ((hx i hi).mul (hy i hi)).mul (cg.refl _ _)
theorem pz_plus {p k : Int} {Q x y z : List Int} {n : Nat} (h : Q.length = n) : cg p (pairZ Q (plusL p x y k n) z) (pairZ Q x z + k * pairZ Q y z) := by
  subst h
  have e : pairZ Q x z + k * pairZ Q y z = sumN Q.length fun i => (nth x i + k * nth y i) * nth z i * nth Q i := by
    unfold pairZ
    rw [← sumN_mul, ← sumN_add]
    exact sumN_congr fun i _ => by grind
  rw [e]
  refine sum_cg _ fun i hi => ((cg.mul ?_ (cg.refl _ _)).mul (cg.refl _ _))
  rw [plusL_nth hi]
  exact cg_emod _ _
theorem pz_scale {p k : Int} {Q x z : List Int} {n : Nat} (h : Q.length = n) : cg p (pairZ Q (scaleL p x k n) z) (k * pairZ Q x z) := by
  subst h
  have e : k * pairZ Q x z = sumN Q.length fun i => (nth x i * k) * nth z i * nth Q i := by
    unfold pairZ
    rw [← sumN_mul]
    exact sumN_congr fun i _ => by grind
  rw [e]
  refine sum_cg _ fun i hi => ((cg.mul ?_ (cg.refl _ _)).mul (cg.refl _ _))
  rw [scaleL_nth hi]
  exact cg_emod _ _
theorem plus_cg {p k : Int} {x y : List Int} {n i : Nat} (h : i < n) : cg p (nth (plusL p x y k n) i) (nth x i + k * nth y i) := by rw [plusL_nth h]; exact cg_emod _ _
theorem scale_cg {p k : Int} {x : List Int} {n i : Nat} (h : i < n) : cg p (nth (scaleL p x k n) i) (nth x i * k) := by rw [scaleL_nth h]; exact cg_emod _ _
theorem good_eq {p : Int} {n : Nat} {x y : List Int} (hx : Good p n x) (hy : Good p n y) (h : ∀ i, i < n → cg p (nth x i) (nth y i)) : x = y :=
  ext_nth (by rw [hx.1, hy.1]) fun i hi => by
    rw [hx.1] at hi
    exact cg_small (h i hi) (hx.2 i hi).1 (hx.2 i hi).2 (hy.2 i hi).1 (hy.2 i hi).2

section
variable {p : Int} {qs : List Int}
theorem inf_infc : cg p (pairZ (extL p qs) (infL qs.length) (infL qs.length)) 0 := ⟨1, by rw [inf_inf]; omega⟩
theorem two_ptQ {v : List Int} (hp : primeB p = true) : cg p (2 * ptQ p qs v) (pairZ qs v v) := by
  have h1 : cg p (ptQ p qs v) (pairZ qs v v * invN p 2) := (cg_emod _ _).trans ((pl_cg rfl).mul (cg.refl _ _))
  obtain ⟨s, hs⟩ := h1
  obtain ⟨t, ht⟩ := cg_half hp
  exact ⟨2 * s + pairZ qs v v * t, by grind⟩
/-- What point vectors have as product. -/
theorem pt_pt {v w : List Int} (hp : primeB p = true) (hv : v.length = qs.length) (hw : w.length = qs.length) : cg p (pairZ (extL p qs) (pointL p qs v) (pointL p qs w)) (pairZ qs v w - ptQ p qs v - ptQ p qs w) := by
  rw [pairZ_ext]
  obtain ⟨a, ha⟩ := point_nth (p := p) (qs := qs) (v := v) (i := qs.length) hv (by omega)
  obtain ⟨b, hb⟩ := point_nth (p := p) (qs := qs) (v := v) (i := qs.length + 1) hv (by omega)
  obtain ⟨a', ha'⟩ := point_nth (p := p) (qs := qs) (v := w) (i := qs.length) hw (by omega)
  obtain ⟨b', hb'⟩ := point_nth (p := p) (qs := qs) (v := w) (i := qs.length + 1) hw (by omega)
  rw [if_neg (by omega), if_pos rfl] at ha ha'
  rw [if_neg (by omega), if_neg (by omega)] at hb hb'
  have h1 : cg p (sumN qs.length fun i => nth (pointL p qs v) i * nth (pointL p qs w) i * nth qs i) (pairZ qs v w) :=
    sum_cg _ fun i hi => by
      obtain ⟨s, hs⟩ := point_nth (p := p) (qs := qs) (v := v) (i := i) hv (by omega)
      obtain ⟨t, ht⟩ := point_nth (p := p) (qs := qs) (v := w) (i := i) hw (by omega)
      rw [if_pos hi] at hs ht
      exact (cg.mul ⟨s, hs⟩ ⟨t, ht⟩).mul (cg.refl _ _)
  have h2 : cg p (nth (pointL p qs v) qs.length * nth (pointL p qs w) qs.length) ((ptQ p qs v - invN p 2) * (ptQ p qs w - invN p 2)) := cg.mul ⟨a, ha⟩ ⟨a', ha'⟩
  have h3 : cg p (nth (pointL p qs v) (qs.length + 1) * nth (pointL p qs w) (qs.length + 1) * (p - 1)) ((ptQ p qs v + invN p 2) * (ptQ p qs w + invN p 2) * (-1)) := (cg.mul ⟨b, hb⟩ ⟨b', hb'⟩).mul ⟨1, by omega⟩
  refine ((h1.add h2).add h3).trans ?_
  obtain ⟨t, ht⟩ := cg_half hp
  exact ⟨-(t * (ptQ p qs v + ptQ p qs w)), by grind⟩
theorem inf_pt {v : List Int} (hp : primeB p = true) (hv : v.length = qs.length) : cg p (pairZ (extL p qs) (infL qs.length) (pointL p qs v)) (-1) := inf_point hp hv
theorem pt_inf {v : List Int} (hp : primeB p = true) (hv : v.length = qs.length) : cg p (pairZ (extL p qs) (pointL p qs v) (infL qs.length)) (-1) := by rw [pz_comm]; exact inf_pt hp hv
theorem pt_null {v : List Int} (hp : primeB p = true) (hv : v.length = qs.length) : cg p (pairZ (extL p qs) (pointL p qs v) (pointL p qs v)) 0 := by
  refine (pt_pt hp hv hv).trans ?_
  obtain ⟨s, hs⟩ := two_ptQ (qs := qs) (v := v) hp
  exact ⟨-s, by grind⟩
/-- A null vector with this product with infinity is a point vector. -/
theorem null_point {z : List Int} (hp : primeB p = true) (hz : Good p (qs.length + 2) z) (h0 : cg p (pairZ (extL p qs) z z) 0) (h1 : cg p (pairZ (extL p qs) z (infL qs.length)) (-1)) : z = pointL p qs (z.take qs.length) := by
  have hb := prime_bd hp
  have hvl : (z.take qs.length).length = qs.length := by rw [List.length_take, hz.1]; omega
  refine good_eq hz (pointL_good (by omega) rfl) fun i hi => ?_
  obtain ⟨s, hs⟩ := point_nth (p := p) (qs := qs) (v := z.take qs.length) (i := i) hvl hi
  have hA : cg p (nth z (qs.length + 1)) (nth z qs.length + 1) := by
    rw [pairZ_ext, sumN_zero fun i hi => by rw [inf_nth, if_pos hi]; simp, inf_nth, inf_nth, if_neg (by omega), if_pos rfl, if_neg (by omega), if_neg (by omega), if_pos rfl] at h1
    obtain ⟨t, ht⟩ := h1
    exact ⟨nth z (qs.length + 1) - t, by grind⟩
  have hN : cg p (2 * nth z qs.length + 1) (pairZ qs (z.take qs.length) (z.take qs.length)) := by
    rw [pairZ_ext] at h0
    have e : (sumN qs.length fun i => nth z i * nth z i * nth qs i) = pairZ qs (z.take qs.length) (z.take qs.length) := sumN_congr fun i hi => by rw [tk_nth hi]
    rw [e] at h0
    obtain ⟨t, ht⟩ := h0
    obtain ⟨u, hu⟩ := hA
    rw [hu] at ht
    exact ⟨2 * u * (nth z qs.length + 1) * (p - 1) + p * u * u * (p - 1) + (nth z qs.length + 1) * (nth z qs.length + 1) - t, by grind⟩
  have hQ := two_ptQ (qs := qs) (v := z.take qs.length) hp
  have hH := cg_half hp
  have hd : cg p (nth z qs.length) (ptQ p qs (z.take qs.length) - invN p 2) := by
    refine cg_two hp ?_
    obtain ⟨a, ha⟩ := hN
    obtain ⟨b, hb⟩ := hQ
    obtain ⟨c, hc⟩ := hH
    exact ⟨a - b + c, by grind⟩
  refine cg.trans ?_ (cg.symm ⟨s, hs⟩)
  by_cases h : i < qs.length
  · rw [if_pos h, tk_nth h]; exact cg.refl _ _
  · rw [if_neg h]
    by_cases h2 : i = qs.length
    · rw [if_pos h2, h2]; exact hd
    · rw [if_neg h2, show i = qs.length + 1 by omega]
      obtain ⟨a, ha⟩ := hA
      obtain ⟨b, hb⟩ := hd
      obtain ⟨c, hc⟩ := hH
      exact ⟨a + b - c, by grind⟩

/-! ### Weights and places -/
theorem wgt_cg {x : List Int} : cg p (wgtI p qs x) (pairZ (extL p qs) x (infL qs.length)) := pl_cg (extL_len p qs)
theorem pt_wgt {v : List Int} (hp : primeB p = true) (hv : v.length = qs.length) : wgtI p qs (pointL p qs v) = p - 1 := by
  have hb := prime_bd hp
  have h := wgt_cg (p := p) (qs := qs) (x := pointL p qs v)
  have := wgtI_bd (p := p) (qs := qs) (x := pointL p qs v) (by omega)
  exact cg_small (h.trans ((pt_inf hp hv).trans ⟨-1, by omega⟩)) this.1 this.2 (by omega) (by omega)
theorem wgtN_cg {x : List Int} : cg p (wgtN p qs x) (-(pairZ (extL p qs) x (infL qs.length))) := by
  refine (cg_emod _ _).trans ?_
  obtain ⟨s, hs⟩ := wgt_cg (p := p) (qs := qs) (x := x)
  exact ⟨-s, by rw [hs]; grind⟩
theorem wgtN_pos {x : List Int} (hp : 1 ≤ p) (h : wgtI p qs x ≠ 0) : 0 < wgtN p qs x := by
  have h1 := wgtN_bd (p := p) (qs := qs) (x := x) hp
  have h2 := wgtI_bd (p := p) (qs := qs) (x := x) hp
  rcases Int.lt_or_eq_of_le h1.1 with h3 | h3
  · exact h3
  · exfalso
    have : cg p (wgtI p qs x) 0 := by
      have a := wgtN_cg (p := p) (qs := qs) (x := x)
      have b := wgt_cg (p := p) (qs := qs) (x := x)
      rw [← h3] at a
      obtain ⟨s, hs⟩ := a
      obtain ⟨t, ht⟩ := b
      exact ⟨s + t, by grind⟩
    exact h (cg_zero this h2.1 h2.2)
/-- The weight of what has been divided by the weight. -/
theorem fin_cg {x : List Int} {z : List Int} : cg p (pairZ (extL p qs) (finL p qs x) z) (invN p (wgtN p qs x) * pairZ (extL p qs) x z) := pz_scale (extL_len p qs)
theorem fin_inf {x : List Int} (hp : primeB p = true) (h : wgtI p qs x ≠ 0) : cg p (pairZ (extL p qs) (finL p qs x) (infL qs.length)) (-1) := by
  have hb := prime_bd hp
  have hi := cg_inv hp (wgtN_pos (by omega) h) (wgtN_bd (by omega)).2
  obtain ⟨s, hs⟩ := fin_cg (p := p) (qs := qs) (x := x) (z := infL qs.length)
  obtain ⟨t, ht⟩ := wgtN_cg (p := p) (qs := qs) (x := x)
  obtain ⟨u, hu⟩ := hi
  exact ⟨s - u + invN p (wgtN p qs x) * t, by grind⟩
theorem fin_good {x : List Int} (hp : 1 ≤ p) : Good p (qs.length + 2) (finL p qs x) := scale_good hp
/-- A null vector, divided by its weight, is the point vector of its place. -/
theorem fin_point {x : List Int} (hp : primeB p = true) (h : wgtI p qs x ≠ 0) (h0 : cg p (pairZ (extL p qs) x x) 0) : finL p qs x = pointL p qs (plcL p qs x) := by
  have hb := prime_bd hp
  refine null_point hp (fin_good (by omega)) ?_ (fin_inf hp h)
  refine fin_cg.trans ?_
  rw [pz_comm]
  obtain ⟨s, hs⟩ := fin_cg (p := p) (qs := qs) (x := x) (z := x)
  obtain ⟨t, ht⟩ := h0
  exact ⟨invN p (wgtN p qs x) * (s + invN p (wgtN p qs x) * t), by grind⟩
theorem point_inj_take {v : List Int} (hp : 1 ≤ p) (hv : Good p qs.length v) : (pointL p qs v).take qs.length = v := by
  refine good_eq (p := p) (n := qs.length) ⟨by rw [List.length_take, point_len]; omega, fun i hi => by rw [tk_nth hi]; exact (pointL_good hp rfl).2 i (by omega)⟩ hv fun i hi => ?_
  rw [tk_nth hi]
  obtain ⟨s, hs⟩ := point_nth (p := p) (qs := qs) (v := v) (i := i) hv.1 (by omega)
  rw [if_pos hi] at hs
  exact ⟨s, hs⟩
/-- What has the weight of k divided by k. -/
theorem fin_scale {x y : List Int} {k : Int} (hp : primeB p = true) (hk : 0 < k) (hk2 : k < p) (hx : ∀ i, i < qs.length + 2 → cg p (nth x i) (k * nth y i)) (hy : cg p (pairZ (extL p qs) y (infL qs.length)) (-1)) (hg : Good p (qs.length + 2) y) : wgtI p qs x ≠ 0 ∧ finL p qs x = y := by
  have hb := prime_bd hp
  have hw : cg p (pairZ (extL p qs) x (infL qs.length)) (-k) := by
    have h1 : cg p (pairZ (extL p qs) x (infL qs.length)) (pairZ (extL p qs) (scaleL p y k (qs.length + 2)) (infL qs.length)) :=
      pz_congr (fun i hi => by rw [extL_len] at hi; exact (hx i hi).trans ((scale_cg hi).symm.trans (cg.refl _ _) |>.symm.trans (by rw [Int.mul_comm]; exact cg.refl _ _) |>.symm)) (fun i _ => cg.refl _ _)
    refine h1.trans ((pz_scale (extL_len p qs)).trans ?_)
    obtain ⟨s, hs⟩ := hy
    exact ⟨k * s, by grind⟩
  have hne : wgtI p qs x ≠ 0 := fun h0 => by
    have h1 := (wgt_cg (p := p) (qs := qs) (x := x)).trans hw
    rw [h0] at h1
    obtain ⟨s, hs⟩ := h1
    have : cg p k 0 := ⟨s, by grind⟩
    have := cg_zero this (by omega) hk2
    omega
  have hN : wgtN p qs x = k := by
    have h1 := wgtN_bd (p := p) (qs := qs) (x := x) (by omega)
    refine cg_small (wgtN_cg.trans ?_) h1.1 h1.2 (by omega) hk2
    obtain ⟨s, hs⟩ := hw
    exact ⟨-s, by grind⟩
  refine ⟨hne, good_eq (fin_good (by omega)) hg fun i hi => ?_⟩
  unfold finL
  rw [hN]
  refine (scale_cg hi).trans ?_
  obtain ⟨s, hs⟩ := hx i hi
  obtain ⟨t, ht⟩ := cg_inv hp hk hk2
  exact ⟨nth y i * t + s * invN p k, by grind⟩
theorem point_place {v : List Int} (hp : primeB p = true) (hv : Good p qs.length v) : wgtI p qs (pointL p qs v) ≠ 0 ∧ plcL p qs (pointL p qs v) = v := by
  have hb := prime_bd hp
  obtain ⟨h1, h2⟩ := fin_scale (p := p) (qs := qs) (x := pointL p qs v) (y := pointL p qs v) (k := 1) hp (by omega) (by omega) (fun i _ => ⟨0, by omega⟩) (pt_inf hp hv.1) (pointL_good (by omega) rfl)
  refine ⟨h1, ?_⟩
  unfold plcL
  rw [h2]
  exact point_inj_take (by omega) hv

/-! ### Distances -/
theorem pex_cg {x v : List Int} : cg p (pexZ p qs x v) (pairZ (extL p qs) x (pointL p qs v)) := pl_cg (extL_len p qs)
theorem dist_cg {v w : List Int} (hp : primeB p = true) (hv : v.length = qs.length) (hw : w.length = qs.length) : cg p (distN p qs v w) (pairZ qs v v + pairZ qs w w - 2 * pairZ qs v w) := by
  refine (cg_emod _ _).trans ?_
  obtain ⟨s, hs⟩ := pex_cg (p := p) (qs := qs) (x := pointL p qs v) (v := w)
  obtain ⟨t, ht⟩ := pt_pt hp hv hw
  obtain ⟨a, ha⟩ := two_ptQ (qs := qs) (v := v) hp
  obtain ⟨b, hb⟩ := two_ptQ (qs := qs) (v := w) hp
  exact ⟨-2 * s - 2 * t + a + b, by grind⟩
/-- Distances are norms of differences. -/
theorem dist_norm {v w : List Int} (hp : primeB p = true) (hv : v.length = qs.length) (hw : w.length = qs.length) : distN p qs v w = pairL p qs (plusL p v (scaleL p w (-1) qs.length) 1 qs.length) (plusL p v (scaleL p w (-1) qs.length) 1 qs.length) qs.length := by
  have hb := prime_bd hp
  have hbd : 0 ≤ distN p qs v w ∧ distN p qs v w < p := ⟨Int.emod_nonneg _ (by omega), Int.emod_lt_of_pos _ (by omega)⟩
  have hpb := pairL_bd (p := p) (qs := qs) (v := plusL p v (scaleL p w (-1) qs.length) 1 qs.length) (w := plusL p v (scaleL p w (-1) qs.length) 1 qs.length) (n := qs.length) (by omega)
  refine cg_small ((dist_cg hp hv hw).trans (cg.symm ((pl_cg rfl).trans ?_))) hbd.1 hbd.2 hpb.1 hpb.2
  obtain ⟨D, hD⟩ : ∃ D, D = plusL p v (scaleL p w (-1) qs.length) 1 qs.length := ⟨_, rfl⟩
  rw [← hD]
  have h1 : ∀ z, cg p (pairZ qs D z) (pairZ qs v z - pairZ qs w z) := fun z => by
    rw [hD]
    refine (pz_plus rfl).trans ?_
    obtain ⟨s, hs⟩ := pz_scale (p := p) (k := -1) (Q := qs) (x := w) (z := z) rfl
    exact ⟨s, by grind⟩
  obtain ⟨a, ha⟩ := h1 D
  obtain ⟨b, hb⟩ := h1 v
  obtain ⟨c, hc⟩ := h1 w
  rw [pz_comm] at hb hc
  have hvw := pz_comm qs v w
  exact ⟨a + b - c, by grind⟩

/-! ### Spheres -/
theorem hr_cg {r : Int} (hp : primeB p = true) : cg p (2 * (r * invN p 2 % p)) r := by
  obtain ⟨s, hs⟩ := cg_emod p (r * invN p 2)
  obtain ⟨t, ht⟩ := cg_half hp
  exact ⟨2 * s + r * t, by grind⟩
theorem ball_cg {c z : List Int} {r : Int} : cg p (pairZ (extL p qs) (ballL p qs c r) z) (pairZ (extL p qs) (pointL p qs c) z - r * invN p 2 % p * pairZ (extL p qs) (infL qs.length) z) := by
  refine (pz_plus (extL_len p qs)).trans ⟨0, by grind⟩
theorem ball_inf {c : List Int} {r : Int} (hp : primeB p = true) (hc : c.length = qs.length) : cg p (pairZ (extL p qs) (ballL p qs c r) (infL qs.length)) (-1) := by
  refine ball_cg.trans ?_
  obtain ⟨s, hs⟩ := pt_inf hp hc
  obtain ⟨t, ht⟩ := inf_infc (p := p) (qs := qs)
  exact ⟨s - r * invN p 2 % p * t, by grind⟩
/-- The sphere vector, some multiple of it: centre and number. -/
theorem ball_of {c : List Int} {r k : Int} (hp : primeB p = true) (hc : Good p qs.length c) (hr : 0 ≤ r) (hr2 : r < p) (hk : 0 < k) (hk2 : k < p) :
    wgtI p qs (scaleL p (ballL p qs c r) k (qs.length + 2)) ≠ 0 ∧ plcL p qs (scaleL p (ballL p qs c r) k (qs.length + 2)) = c ∧ sphN p qs (scaleL p (ballL p qs c r) k (qs.length + 2)) = r := by
  have hb := prime_bd hp
  have hgb : Good p (qs.length + 2) (ballL p qs c r) := ball_good (by omega) rfl
  obtain ⟨h1, h2⟩ := fin_scale (p := p) (qs := qs) (x := scaleL p (ballL p qs c r) k (qs.length + 2)) (y := ballL p qs c r) (k := k) hp hk hk2 (fun i hi => (scale_cg hi).trans ⟨0, by grind⟩) (ball_inf hp hc.1) hgb
  have hpl : plcL p qs (scaleL p (ballL p qs c r) k (qs.length + 2)) = c := by
    unfold plcL
    rw [h2]
    refine good_eq (p := p) (n := qs.length) ⟨by rw [List.length_take, hgb.1]; omega, fun i hi => by rw [tk_nth hi]; exact hgb.2 i (by omega)⟩ hc fun i hi => ?_
    rw [tk_nth hi]
    refine (plus_cg (by omega)).trans ?_
    obtain ⟨s, hs⟩ := point_nth (p := p) (qs := qs) (v := c) (i := i) hc.1 (by omega)
    rw [if_pos hi] at hs
    rw [inf_nth, if_pos hi]
    exact ⟨s, by grind⟩
  refine ⟨h1, hpl, ?_⟩
  unfold sphN
  rw [h2, hpl]
  have hsb : 0 ≤ -2 * (nth (ballL p qs c r) qs.length - nth (pointL p qs c) qs.length) % p ∧ -2 * (nth (ballL p qs c r) qs.length - nth (pointL p qs c) qs.length) % p < p := ⟨Int.emod_nonneg _ (by omega), Int.emod_lt_of_pos _ (by omega)⟩
  refine cg_small ((cg_emod _ _).trans ?_) hsb.1 hsb.2 hr hr2
  obtain ⟨s, hs⟩ := plus_cg (p := p) (k := -(r * invN p 2 % p)) (x := pointL p qs c) (y := infL qs.length) (n := qs.length + 2) (i := qs.length) (by omega)
  rw [inf_nth, if_neg (by omega), if_pos rfl] at hs
  obtain ⟨t, ht⟩ := hr_cg (r := r) hp
  have hs' : nth (ballL p qs c r) qs.length = nth (pointL p qs c) qs.length + -(r * invN p 2 % p) * 1 + p * s := hs
  exact ⟨t - 2 * s, by rw [hs']; grind⟩
/-- A vector is on a sphere exactly if its distance from the centre is the number of the sphere. -/
theorem ball_on {c u : List Int} {r : Int} (hp : primeB p = true) (_hc : c.length = qs.length) (hu : u.length = qs.length) (hr : 0 ≤ r) (hr2 : r < p) : (pexZ p qs (ballL p qs c r) u == 0) = (distN p qs c u == r) := by
  have hb := prime_bd hp
  have hd : 0 ≤ distN p qs c u ∧ distN p qs c u < p := ⟨Int.emod_nonneg _ (by omega), Int.emod_lt_of_pos _ (by omega)⟩
  have hx : 0 ≤ pexZ p qs (ballL p qs c r) u ∧ pexZ p qs (ballL p qs c r) u < p := pairL_bd (by omega)
  have key : cg p (2 * pexZ p qs (ballL p qs c r) u) (r - distN p qs c u) := by
    obtain ⟨s, hs⟩ := pex_cg (p := p) (qs := qs) (x := ballL p qs c r) (v := u)
    obtain ⟨t, ht⟩ := ball_cg (p := p) (qs := qs) (c := c) (r := r) (z := pointL p qs u)
    obtain ⟨a, ha⟩ := inf_pt (qs := qs) (v := u) hp hu
    obtain ⟨b, hb⟩ := hr_cg (r := r) hp
    obtain ⟨e, he⟩ := cg_emod p (-2 * pexZ p qs (pointL p qs c) u)
    have he' : distN p qs c u = -2 * pexZ p qs (pointL p qs c) u + p * e := he
    obtain ⟨f, hf⟩ := pex_cg (p := p) (qs := qs) (x := pointL p qs c) (v := u)
    exact ⟨2 * s + 2 * t - 2 * (r * invN p 2 % p) * a + b + e - 2 * f, by grind⟩
  rw [Bool.eq_iff_iff, beq_iff_eq, beq_iff_eq]
  constructor
  · intro h
    rw [h] at key
    exact cg_small (by obtain ⟨s, hs⟩ := key; exact ⟨s, by grind⟩) hd.1 hd.2 hr hr2
  · intro h
    rw [h, Int.sub_self] at key
    exact cg_zero (cg_two hp (key.trans ⟨0, by omega⟩)) hx.1 hx.2
end
end Go.Proofs.Ytcocbainookkcaa

/-
  Elements of two steps: the product is the geometric product of the plane with the steps as squares; conjugates and norms. In plain numbers.
  No condition. No program in sight.
-/
namespace Go.Proofs.Ytcocbainookkcaa
set_option maxRecDepth 100000
open Go.RowKit

section
variable {p : Int} {st x y : List Int}
theorem nth_append_at {xs ys : List Int} {n i : Nat} (h : xs.length = n) : nth (xs ++ ys) (n + i) = nth ys i := by
  subst h
  unfold nth
  rw [List.getD_eq_getElem?_getD, List.getD_eq_getElem?_getD, List.getElem?_append_right (by omega), Nat.add_sub_cancel_left]
theorem conj_cg0 {z : List Int} (h : 0 < z.length) : nth (conjL p z) 0 = nth z 0 := by rw [conjL_nth h, if_pos rfl]
theorem conj_cg {z : List Int} {i : Nat} (h : i < z.length) (h0 : i ≠ 0) : cg p (nth (conjL p z) i) (-(nth z i)) := by
  rw [conjL_nth h, if_neg h0]
  refine (cg_emod p (nth z i * -1)).trans ⟨0, by omega⟩
theorem dbl0 : cg p (nth (dblL p st 0 x y) 0) (nth x 0 * nth y 0) := by
  show cg p (nth [nth x 0 * nth y 0 % p] 0) _
  exact cg_emod _ _
theorem dblS_left {n i : Nat} (h : i < 2 ^ n) : cg p (nth (dblL p st (n + 1) x y) i) (nth (dblL p st n (x.take (2 ^ n)) (y.take (2 ^ n))) i + nth st n * nth (dblL p st n (conjL p (y.drop (2 ^ n))) (x.drop (2 ^ n))) i) := by
  rw [dblL, nth_append_left (by rw [plusL_len]; exact h)]
  exact plus_cg h
theorem dblS_right {n i : Nat} (h : i < 2 ^ n) : cg p (nth (dblL p st (n + 1) x y) (2 ^ n + i)) (nth (dblL p st n (y.drop (2 ^ n)) (x.take (2 ^ n))) i + 1 * nth (dblL p st n (x.drop (2 ^ n)) (conjL p (y.take (2 ^ n)))) i) := by
  rw [dblL, nth_append_at (plusL_len ..)]
  exact plus_cg h
theorem dbl1_0 (hy : y.length = 2) : cg p (nth (dblL p st 1 x y) 0) (nth x 0 * nth y 0 + nth st 0 * (nth y 1 * nth x 1)) := by
  refine (dblS_left (n := 0) (i := 0) (by decide)).trans ?_
  have e1 : nth (x.take (2 ^ 0)) 0 = nth x 0 := tk_nth (by decide)
  have e2 : nth (y.take (2 ^ 0)) 0 = nth y 0 := tk_nth (by decide)
  have e3 : nth (conjL p (y.drop (2 ^ 0))) 0 = nth y 1 := by rw [conj_cg0 (by rw [List.length_drop, hy]; decide)]; exact dp_nth
  have e4 : nth (x.drop (2 ^ 0)) 0 = nth x 1 := dp_nth
  have h1 := dbl0 (p := p) (st := st) (x := x.take (2 ^ 0)) (y := y.take (2 ^ 0))
  have h2 := dbl0 (p := p) (st := st) (x := conjL p (y.drop (2 ^ 0))) (y := x.drop (2 ^ 0))
  rw [e1, e2] at h1
  rw [e3, e4] at h2
  exact h1.add ((cg.refl _ _).mul h2)
theorem dbl1_1 (hy : y.length = 2) : cg p (nth (dblL p st 1 x y) 1) (nth y 1 * nth x 0 + nth x 1 * nth y 0) := by
  refine (dblS_right (n := 0) (i := 0) (by decide)).trans ?_
  have e1 : nth (y.drop (2 ^ 0)) 0 = nth y 1 := dp_nth
  have e2 : nth (x.take (2 ^ 0)) 0 = nth x 0 := tk_nth (by decide)
  have e3 : nth (x.drop (2 ^ 0)) 0 = nth x 1 := dp_nth
  have e4 : nth (conjL p (y.take (2 ^ 0))) 0 = nth y 0 := by rw [conj_cg0 (by rw [List.length_take, hy]; decide)]; exact tk_nth (by decide)
  have h1 := dbl0 (p := p) (st := st) (x := y.drop (2 ^ 0)) (y := x.take (2 ^ 0))
  have h2 := dbl0 (p := p) (st := st) (x := x.drop (2 ^ 0)) (y := conjL p (y.take (2 ^ 0)))
  rw [e1, e2] at h1
  rw [e3, e4] at h2
  refine (h1.add ((cg.refl _ _).mul h2)).trans ⟨0, by omega⟩
theorem tk2 {z : List Int} : nth (z.take (2 ^ 1)) 0 = nth z 0 ∧ nth (z.take (2 ^ 1)) 1 = nth z 1 ∧ nth (z.drop (2 ^ 1)) 0 = nth z 2 ∧ nth (z.drop (2 ^ 1)) 1 = nth z 3 := ⟨tk_nth (by decide), tk_nth (by decide), dp_nth, dp_nth⟩
/-- The four coefficients of the product of elements of two steps. -/
theorem dbl2 (hx : x.length = 4) (hy : y.length = 4) :
    cg p (nth (dblL p st 2 x y) 0) (nth x 0 * nth y 0 + nth st 0 * (nth x 1 * nth y 1) + nth st 1 * (nth x 2 * nth y 2) - nth st 0 * nth st 1 * (nth x 3 * nth y 3)) ∧
    cg p (nth (dblL p st 2 x y) 1) (nth x 0 * nth y 1 + nth x 1 * nth y 0 + nth st 1 * (nth x 3 * nth y 2) - nth st 1 * (nth x 2 * nth y 3)) ∧
    cg p (nth (dblL p st 2 x y) 2) (nth x 0 * nth y 2 + nth x 2 * nth y 0 + nth st 0 * (nth x 1 * nth y 3) - nth st 0 * (nth x 3 * nth y 1)) ∧
    cg p (nth (dblL p st 2 x y) 3) (nth x 0 * nth y 3 + nth x 3 * nth y 0 + nth x 1 * nth y 2 - nth x 2 * nth y 1) := by
  obtain ⟨a0, a1, b0, b1⟩ := tk2 (z := x)
  obtain ⟨c0, c1, d0, d1⟩ := tk2 (z := y)
  have hlc : (y.take (2 ^ 1)).length = 2 := by rw [List.length_take, hy]; decide
  have hld : (y.drop (2 ^ 1)).length = 2 := by rw [List.length_drop, hy]
  have hla : (x.take (2 ^ 1)).length = 2 := by rw [List.length_take, hx]; decide
  have hlb : (x.drop (2 ^ 1)).length = 2 := by rw [List.length_drop, hx]
  have kd0 : nth (conjL p (y.drop (2 ^ 1))) 0 = nth y 2 := by rw [conj_cg0 (by omega), d0]
  have kc0 : nth (conjL p (y.take (2 ^ 1))) 0 = nth y 0 := by rw [conj_cg0 (by omega), c0]
  obtain ⟨s, hs⟩ : cg p (nth (conjL p (y.drop (2 ^ 1))) 1) (-(nth y 3)) := by rw [← d1]; exact conj_cg (by omega) (by omega)
  obtain ⟨t, ht⟩ : cg p (nth (conjL p (y.take (2 ^ 1))) 1) (-(nth y 1)) := by rw [← c1]; exact conj_cg (by omega) (by omega)
  have hlk : (conjL p (y.take (2 ^ 1))).length = 2 := by rw [conjL_len, hlc]
  have L0 := dblS_left (p := p) (st := st) (x := x) (y := y) (n := 1) (i := 0) (by decide)
  have L1 := dblS_left (p := p) (st := st) (x := x) (y := y) (n := 1) (i := 1) (by decide)
  have R0 := dblS_right (p := p) (st := st) (x := x) (y := y) (n := 1) (i := 0) (by decide)
  have R1 := dblS_right (p := p) (st := st) (x := x) (y := y) (n := 1) (i := 1) (by decide)
  obtain ⟨u0, e0⟩ := dbl1_0 (p := p) (st := st) (x := x.take (2 ^ 1)) hlc
  obtain ⟨u1, e1⟩ := dbl1_1 (p := p) (st := st) (x := x.take (2 ^ 1)) hlc
  obtain ⟨u2, e2⟩ := dbl1_0 (p := p) (st := st) (x := conjL p (y.drop (2 ^ 1))) hlb
  obtain ⟨u3, e3⟩ := dbl1_1 (p := p) (st := st) (x := conjL p (y.drop (2 ^ 1))) hlb
  obtain ⟨u4, e4⟩ := dbl1_0 (p := p) (st := st) (x := y.drop (2 ^ 1)) hla
  obtain ⟨u5, e5⟩ := dbl1_1 (p := p) (st := st) (x := y.drop (2 ^ 1)) hla
  obtain ⟨u6, e6⟩ := dbl1_0 (p := p) (st := st) (x := x.drop (2 ^ 1)) hlk
  obtain ⟨u7, e7⟩ := dbl1_1 (p := p) (st := st) (x := x.drop (2 ^ 1)) hlk
  rw [a0, a1, c0, c1] at e0 e1
  rw [kd0, hs, b0, b1] at e2 e3
  rw [d0, d1, a0, a1] at e4 e5
  rw [b0, b1, kc0, ht] at e6 e7
  rw [e0, e2] at L0
  rw [e1, e3] at L1
  rw [e4, e6] at R0
  rw [e5, e7] at R1
  clear e0 e1 e2 e3 e4 e5 e6 e7 hs ht kd0 kc0
  refine ⟨L0.trans ⟨u0 + nth st 1 * (u2 + nth st 0 * nth x 3 * s), ?_⟩, L1.trans ⟨u1 + nth st 1 * (u3 + nth x 2 * s), ?_⟩, R0.trans ⟨u4 + u6 + nth st 0 * nth x 3 * t, ?_⟩, R1.trans ⟨u5 + u7 + nth x 2 * t, ?_⟩⟩ <;> grind
end
end Go.Proofs.Ytcocbainookkcaa

/-
  The geometric product of a plane, coefficient by coefficient; the product of elements of two steps is the same.
  No condition. No program in sight.
-/
namespace Go.Proofs.Ytcocbainookkcaa
set_option maxRecDepth 100000
open Go.RowKit

section
variable {p : Int} {qs x y : List Int}
theorem fac_cg2 (h : qs.length = 2) (a b : Nat) : cg p (fac p qs a b) (facZ qs a b 2) := by
  have e := fac_emod (p := p) (qs := qs) (a := a) (b := b)
  rw [h] at e
  obtain ⟨s, hs⟩ := emod_ex p (fac p qs a b)
  obtain ⟨t, ht⟩ := emod_ex p (facZ qs a b 2)
  exact ⟨t - s, by rw [hs, ht] at e; grind⟩
theorem fz00 : facZ qs 0 0 2 = 1 := by simp (decide := true) [facZ, stZ]
theorem fz11 : facZ qs 1 1 2 = nth qs 0 := by simp (decide := true) [facZ, stZ, sgZ]
theorem fz22 : facZ qs 2 2 2 = nth qs 1 := by simp (decide := true) [facZ, stZ, sgZ]
theorem fz33 : facZ qs 3 3 2 = -(nth qs 0 * nth qs 1) := by simp (decide := true) [facZ, stZ, sgZ, Int.neg_mul]
theorem fz01 : facZ qs 0 1 2 = 1 := by simp (decide := true) [facZ, stZ]
theorem fz10 : facZ qs 1 0 2 = 1 := by simp (decide := true) [facZ, stZ]
theorem fz23 : facZ qs 2 3 2 = -(nth qs 1) := by simp (decide := true) [facZ, stZ, sgZ]
theorem fz32 : facZ qs 3 2 2 = nth qs 1 := by simp (decide := true) [facZ, stZ, sgZ]
theorem fz02 : facZ qs 0 2 2 = 1 := by simp (decide := true) [facZ, stZ]
theorem fz20 : facZ qs 2 0 2 = 1 := by simp (decide := true) [facZ, stZ]
theorem fz13 : facZ qs 1 3 2 = nth qs 0 := by simp (decide := true) [facZ, stZ, sgZ]
theorem fz31 : facZ qs 3 1 2 = -(nth qs 0) := by simp (decide := true) [facZ, stZ, sgZ]
theorem fz03 : facZ qs 0 3 2 = 1 := by simp (decide := true) [facZ, stZ]
theorem fz30 : facZ qs 3 0 2 = 1 := by simp (decide := true) [facZ, stZ]
theorem fz12 : facZ qs 1 2 2 = 1 := by simp (decide := true) [facZ, stZ, sgZ]
theorem fz21 : facZ qs 2 1 2 = -1 := by simp (decide := true) [facZ, stZ, sgZ]
theorem geo_sum (hp : 1 ≤ p) (h : qs.length = 2) {k : Nat} (hk : k < 4) :
    cg p (nth (prodL p qs tkA x y) k) (nth x 0 * nth y (0 ^^^ k) * facZ qs 0 (0 ^^^ k) 2 + nth x 1 * nth y (1 ^^^ k) * facZ qs 1 (1 ^^^ k) 2 + nth x 2 * nth y (2 ^^^ k) * facZ qs 2 (2 ^^^ k) 2 + nth x 3 * nth y (3 ^^^ k) * facZ qs 3 (3 ^^^ k) 2) := by
  rw [prod_nth1 hp (by rw [h]; exact hk), h]
  refine (cg_emod _ _).trans ?_
  have e : (sumN (2 ^ 2) fun i => if tkA i (i ^^^ k) = true then nth x i * nth y (i ^^^ k) * fac p qs i (i ^^^ k) else 0) = nth x 0 * nth y (0 ^^^ k) * fac p qs 0 (0 ^^^ k) + nth x 1 * nth y (1 ^^^ k) * fac p qs 1 (1 ^^^ k) + nth x 2 * nth y (2 ^^^ k) * fac p qs 2 (2 ^^^ k) + nth x 3 * nth y (3 ^^^ k) * fac p qs 3 (3 ^^^ k) := by
    show 0 + _ + _ + _ + _ = _
    simp only [tkA, if_true, Int.zero_add]
  rw [e]
  exact ((((cg.refl _ _).mul (fac_cg2 h _ _)).add ((cg.refl _ _).mul (fac_cg2 h _ _))).add ((cg.refl _ _).mul (fac_cg2 h _ _))).add ((cg.refl _ _).mul (fac_cg2 h _ _))
/-- The product of elements of two steps is the geometric product. -/
theorem quat_prod (hp : 1 ≤ p) (h : qs.length = 2) (hx : x.length = 4) (hy : y.length = 4) : prodL p qs tkA x y = dblL p qs 2 x y := by
  have hg : Good p 4 (prodL p qs tkA x y) := by have := prod_good (p := p) (qs := qs) (tk := tkA) (x := x) (y := y) hp; rw [h] at this; exact this
  have hd : Good p 4 (dblL p qs 2 x y) := dbl_good hp 2 x y
  obtain ⟨d0, d1, d2, d3⟩ := dbl2 (p := p) (st := qs) hx hy
  refine good_eq hg hd fun i hi => ?_
  have hi4 : i = 0 ∨ i = 1 ∨ i = 2 ∨ i = 3 := by omega
  rcases hi4 with rfl | rfl | rfl | rfl
  · refine (geo_sum hp h (k := 0) (by decide)).trans (cg.trans ?_ d0.symm)
    rw [show (0 : Nat) ^^^ 0 = 0 by decide, show (1 : Nat) ^^^ 0 = 1 by decide, show (2 : Nat) ^^^ 0 = 2 by decide, show (3 : Nat) ^^^ 0 = 3 by decide, fz00, fz11, fz22, fz33]
    exact ⟨0, by grind⟩
  · refine (geo_sum hp h (k := 1) (by decide)).trans (cg.trans ?_ d1.symm)
    rw [show (0 : Nat) ^^^ 1 = 1 by decide, show (1 : Nat) ^^^ 1 = 0 by decide, show (2 : Nat) ^^^ 1 = 3 by decide, show (3 : Nat) ^^^ 1 = 2 by decide, fz01, fz10, fz23, fz32]
    exact ⟨0, by grind⟩
  · refine (geo_sum hp h (k := 2) (by decide)).trans (cg.trans ?_ d2.symm)
    rw [show (0 : Nat) ^^^ 2 = 2 by decide, show (1 : Nat) ^^^ 2 = 3 by decide, show (2 : Nat) ^^^ 2 = 0 by decide, show (3 : Nat) ^^^ 2 = 1 by decide, fz02, fz13, fz20, fz31]
    exact ⟨0, by grind⟩
  · refine (geo_sum hp h (k := 3) (by decide)).trans (cg.trans ?_ d3.symm)
    rw [show (0 : Nat) ^^^ 3 = 3 by decide, show (1 : Nat) ^^^ 3 = 2 by decide, show (2 : Nat) ^^^ 3 = 1 by decide, show (3 : Nat) ^^^ 3 = 0 by decide, fz03, fz12, fz21, fz30]
    exact ⟨0, by grind⟩
/-- The norm form of two steps. -/
def qdiaL (p : Int) (st : List Int) : List Int := [1, -(nth st 0) % p, -(nth st 1) % p, nth st 0 * nth st 1 % p]
theorem quat_norm (hx : x.length = 4) : cg p (nth (dblL p qs 2 x (conjL p x)) 0) (nth x 0 * nth x 0 - nth qs 0 * (nth x 1 * nth x 1) - nth qs 1 * (nth x 2 * nth x 2) + nth qs 0 * nth qs 1 * (nth x 3 * nth x 3)) := by
  obtain ⟨d0, _⟩ := dbl2 (p := p) (st := qs) hx (show (conjL p x).length = 4 by rw [conjL_len, hx])
  refine d0.trans ?_
  obtain ⟨a, ha⟩ := conj_cg (p := p) (z := x) (i := 1) (by omega) (by omega)
  obtain ⟨b, hb⟩ := conj_cg (p := p) (z := x) (i := 2) (by omega) (by omega)
  obtain ⟨c, hc⟩ := conj_cg (p := p) (z := x) (i := 3) (by omega) (by omega)
  rw [ha, hb, hc, conj_cg0 (by omega)]
  exact ⟨nth qs 0 * nth x 1 * a + nth qs 1 * nth x 2 * b - nth qs 0 * nth qs 1 * nth x 3 * c, by grind⟩
end
end Go.Proofs.Ytcocbainookkcaa

/-
  Contracts: solutions of linear systems, in the program and in the reference.
  No condition.
-/
namespace Go.Proofs.Ytcocbainookkcaa
set_option maxRecDepth 100000
open Go.RowKit

theorem OwnR.other {B : Nat} {w : World} {a : Option Addr} {n cap : Nat} {rows : List (List Int)} (h : OwnR B w a n cap rows) {p : Addr} (hp : p.block < B) (v : Value) : OwnR B (w.setCell p v) a n cap rows := by
  obtain ⟨h1, vs, ⟨h2, h3⟩, hap, h4⟩ := h
  refine ⟨h1, vs, ⟨h2, ?_⟩, hap, fun i hi => ?_⟩
  · rcases h3 with h3 | ⟨g, c, cur, hv, hb, hh, h5⟩
    · exact .inl h3
    · exact .inr ⟨g, c, cur, hv, hb, by rw [Below.heap_setCell _ _ _ _ (by omega)]; exact hh, h5⟩
  · obtain ⟨ai, ci, h5, h6⟩ := h4 i hi
    exact ⟨ai, ci, h5, h6.other hp v⟩

/-- The solution and whether there is one. -/
def redL (p : Int) (m : Nat) (rows : List (List Int)) (u : List Int) (n : Nat) : List (List Int) := basisL p (m + 1) (wideL rows u n)
def solR (m : Nat) (red : List (List Int)) : List Int := if okS m red = true then solL m red else []

theorem solL_len' {n : Nat} {red : List (List Int)} : (solL n red).length = n := by simp [solL]


/-- The place of the first number other than 0, or -1. -/
def firstL (xs : List Int) : Int := if leadN xs = xs.length then -1 else (leadN xs : Int)
theorem OwnRH.otherH {lo hi : Nat} {w : World} {a : Option Addr} {n cap : Nat} {rows : List (List Int)} (h : OwnRH lo hi w a n cap rows) {p : Addr} (hp : p.block < lo ∨ hi ≤ p.block) (v : Value) : OwnRH lo hi (w.setCell p v) a n cap rows := by
  have hb := h.low.base_of
  obtain ⟨h1, h0, vs, ⟨h2, h3⟩, hap, h4⟩ := h
  refine ⟨h1, h0, vs, ⟨h2, ?_⟩, hap, fun i hi => ?_⟩
  · rcases h3 with h3 | ⟨g, c, cur, hv, hb', hh, h5⟩
    · exact .inl h3
    · refine .inr ⟨g, c, cur, hv, hb', ?_, h5⟩
      simp only [Value.slice.injEq] at hv
      have := h0 g hv.1
      rw [Below.heap_setCell _ _ _ _ (by omega)]; exact hh
  · obtain ⟨ai, ci, h5, h6, h7⟩ := h4 i hi
    refine ⟨ai, ci, h5, h6.keep fun g hg => ?_, h7⟩
    have := h7 g hg
    have := (h6.base_of g hg).1
    exact Below.heap_setCell _ _ _ _ (by omega)

end Go.Proofs.Ytcocbainookkcaa

/-
  Inverses of multivectors from linear systems, in plain numbers.
  No condition. No program in sight.
-/
namespace Go.Proofs.Ytcocbainookkcaa
set_option maxRecDepth 100000
open Go.RowKit

theorem mul_blade {p : Int} {qs x : List Int} {i j : Nat} (hp : 1 ≤ p) (hi : i < 2 ^ qs.length) (hj : j < 2 ^ qs.length) :
    nth (prodL p qs tkA x (bladeL (2 ^ qs.length) j)) i = (nth x (i ^^^ j) * facZ qs (i ^^^ j) j qs.length) % p := by
  have hij := Nat.xor_lt_two_pow hi hj
  rw [prodA_nth hp hi, sumN_single hij (fun a ha hne => by
    have : ¬ j = a ^^^ i := fun h => hne (by rw [h, Nat.xor_comm a i, ← Nat.xor_assoc, Nat.xor_self, Nat.zero_xor])
    rw [bladeL_nth hj (Nat.xor_lt_two_pow ha hi), if_neg this]; simp)]
  have e : i ^^^ j ^^^ i = j := by rw [Nat.xor_comm i j, Nat.xor_assoc, Nat.xor_self, Nat.xor_zero]
  rw [e, bladeL_nth hj hj, if_pos rfl, Int.mul_one]
/-- The left matrix leads a multivector to the product. -/
theorem mat_dot {p : Int} {qs x y : List Int} {i : Nat} (hp : 1 ≤ p) (hd : qs.length ≤ 6) (hi : i < 2 ^ qs.length) :
    dotN (2 ^ qs.length) (nthR (matM p qs x true) i) y % p = nth (prodL p qs tkA x y) i := by
  unfold dotN matM
  rw [turnL_nth hi, prodA_nth hp hi, ← sumN_xor hd hi]
  refine sumN_emod fun m hm => ?_
  have him := Nat.xor_lt_two_pow hi hm
  rw [colL_nth him, colsM_nth him, mulC, if_pos rfl, mul_blade hp hi him]
  have e : i ^^^ (i ^^^ m) = m := by rw [← Nat.xor_assoc, Nat.xor_self, Nat.zero_xor]
  have e2 : m ^^^ i = i ^^^ m := Nat.xor_comm _ _
  rw [e, e2]
  have : nth x m * nth y (i ^^^ m) * facZ qs m (i ^^^ m) qs.length = nth x m * facZ qs m (i ^^^ m) qs.length * nth y (i ^^^ m) := by ac_rfl
  rw [this]
  exact mul_emod_congr (Int.emod_emod _ _) rfl

/-- The rows that tell whether a multivector has an inverse. -/
def invRed (p : Int) (qs x : List Int) : List (List Int) := redL p (2 ^ qs.length) (matM p qs x true) (bladeL (2 ^ qs.length) 0) (2 ^ qs.length)
def invOk (p : Int) (qs x : List Int) : Bool := okS (2 ^ qs.length) (invRed p qs x)
def invL (p : Int) (qs x : List Int) : List Int := solR (2 ^ qs.length) (invRed p qs x)
theorem inv_right {p : Int} {qs x : List Int} (hp : primeB p = true) (hd : qs.length ≤ 6) (h : invOk p qs x = true) :
    Good p (2 ^ qs.length) (invL p qs x) ∧ prodL p qs tkA x (invL p qs x) = bladeL (2 ^ qs.length) 0 := by
  have hpb := prime_bd hp
  have hN := pow_pos' qs.length
  have hML : (matM p qs x true).length = 2 ^ qs.length := matM_len _ _ _ _
  have hMG : RowsG p (2 ^ qs.length) (matM p qs x true) := matM_good (by omega)
  have hBG : Good p (matM p qs x true).length (bladeL (2 ^ qs.length) 0) := by rw [hML]; exact blade_good (by omega)
  have e : invL p qs x = solL (2 ^ qs.length) (basisL p (2 ^ qs.length + 1) (wideL (matM p qs x true) (bladeL (2 ^ qs.length) 0) (matM p qs x true).length)) := by
    unfold invL solR
    rw [show okS (2 ^ qs.length) (invRed p qs x) = true from h, if_pos rfl, hML]; rfl
  have hs := sol_spec (v := bladeL (2 ^ qs.length) 0) hp hMG hBG (by rw [hML]; exact h)
  rw [← e] at hs
  have hg : Good p (2 ^ qs.length) (invL p qs x) := by
    rw [e]
    obtain ⟨c, hb⟩ := basis_red hp (wideL_good hMG hBG (Nat.le_refl _))
    exact sol_good (by omega) hb.good
  refine ⟨hg, ext_nth (by rw [(prod_good (by omega)).1, bladeL_len]) fun i hi => ?_⟩
  rw [(prod_good (by omega)).1] at hi
  rw [← mat_dot (by omega) hd hi, hs i (by rw [hML]; exact hi)]
  have hb := (blade_good (p := p) (N := 2 ^ qs.length) (m := 0) (by omega)).2 i hi
  exact Int.emod_eq_of_lt hb.1 hb.2
theorem inv_left {p : Int} {qs x : List Int} (hp : primeB p = true) (hd : qs.length ≤ 6) (hx : Good p (2 ^ qs.length) x) (h : invOk p qs x = true) :
    prodL p qs tkA (invL p qs x) x = bladeL (2 ^ qs.length) 0 := by
  have hpb := prime_bd hp
  obtain ⟨h1, h2⟩ := inv_right hp hd h
  exact inv_both (by omega) hd hx h1 h2
theorem inv_iff {p : Int} {qs x y : List Int} (hp : primeB p = true) (hd : qs.length ≤ 6) (hy : Good p (2 ^ qs.length) y) (h : prodL p qs tkA x y = bladeL (2 ^ qs.length) 0) : invOk p qs x = true := by
  have hpb := prime_bd hp
  have hML : (matM p qs x true).length = 2 ^ qs.length := matM_len _ _ _ _
  have hMG : RowsG p (2 ^ qs.length) (matM p qs x true) := matM_good (by omega)
  have hBG : Good p (matM p qs x true).length (bladeL (2 ^ qs.length) 0) := by rw [hML]; exact blade_good (by omega)
  have := sol_exists hp hMG hBG hy.1 (fun i hi => by
    rw [hML] at hi
    rw [mat_dot (by omega) hd hi, h]
    have hb := (blade_good (p := p) (N := 2 ^ qs.length) (m := 0) (by omega)).2 i hi
    exact (Int.emod_eq_of_lt hb.1 hb.2).symm)
  rw [hML] at this
  exact this

/-- A tuple of a slice of the call's own and a bool. -/
def SPred.sol (B n : Nat) (xs : List Int) (b : Bool) : SPred := ⟨fun v w => ∃ ra rc, v = .tuple #[.slice ra n rc, .bool b] ∧ OwnC B w ra n rc xs, fun _ _ _ ⟨ra, rc, hv, h⟩ he => ⟨ra, rc, hv, h.ext he⟩⟩

end Go.Proofs.Ytcocbainookkcaa

/-
  Inverses of multivectors.
  No condition.
-/
namespace Go.Proofs.Ytcocbainookkcaa
set_option maxRecDepth 100000
open Go.RowKit



end Go.Proofs.Ytcocbainookkcaa

/-
  Doublings: their checks, in the program and in the reference.
  No condition.
-/
namespace Go.Proofs.Ytcocbainookkcaa
set_option maxRecDepth 100000
open Go.RowKit

def doubB (p : Int) (st : List Int) : Bool := primeB p && decide (st.length ≤ 4) && isB p st && !hasB st 0
theorem doub_of {p : Int} {st : List Int} (h : doubB p st = true) : primeB p = true ∧ st.length ≤ 4 ∧ isB p st = true ∧ hasB st 0 = false := by
  unfold doubB at h
  simp only [Bool.and_eq_true, decide_eq_true_eq, Bool.not_eq_true'] at h
  exact ⟨h.1.1.1, h.1.1.2, h.1.2, h.2⟩
theorem doub_A {p : Int} {st : List Int} (h : primeB p = false) : doubB p st = false := by unfold doubB; rw [h]; rfl
theorem doub_B {p : Int} {st : List Int} (h : ¬ st.length ≤ 4) : doubB p st = false := by unfold doubB; rw [decide_eq_false h]; simp
theorem doub_C {p : Int} {st : List Int} (h1 : primeB p = true) (h2 : st.length ≤ 4) : doubB p st = (isB p st && !hasB st 0) := by unfold doubB; rw [h1, decide_eq_true h2]; simp
theorem has_at {xs : List Int} {v : Int} {k : Nat} (hk : k < xs.length) (h : nth xs k = v) : hasB xs v = true := by
  unfold hasB; rw [List.any_eq_true]; exact ⟨k, List.mem_range.2 hk, by simp [h]⟩
theorem has_none {xs : List Int} {v : Int} (h : ∀ k, k < xs.length → nth xs k ≠ v) : hasB xs v = false := by
  unfold hasB; rw [List.any_eq_false]; intro k hk; have := h k (List.mem_range.1 hk); simp; exact fun e => this e.symm
theorem doub_no {p : Int} {st : List Int} {k : Nat} (hk : k < st.length) (h : inB (nth st k) 1 (p - 1) = false) : (isB p st && !hasB st 0) = false := by
  by_cases h0 : nth st k = 0
  · rw [has_at hk h0]; simp
  · rw [isB_false hk (by unfold inB at h ⊢; simp only [decide_eq_false_iff_not] at h ⊢; omega)]; rfl
theorem doub_yes {p : Int} {st : List Int} (h : ∀ k, k < st.length → inB (nth st k) 1 (p - 1) = true) : (isB p st && !hasB st 0) = true := by
  have h' : ∀ k, k < st.length → 1 ≤ nth st k ∧ nth st k ≤ p - 1 := fun k hk => by have := h k hk; unfold inB at this; simpa using this
  rw [has_none fun k hk => by have := h' k hk; omega, (show isB p st = true from Good.isB (N := st.length) ⟨rfl, fun k hk => by have := h' k hk; omega⟩)]; rfl
def matD (p : Int) (d : Nat) (rows : List (List Int)) : Bool := matB p rows && decide (rows.length = 2 ^ d) && decide ((nthR rows 0).length = 2 ^ d)
def matE (p : Int) (d : Nat) (rows : List (List Int)) : Bool := rows.all (multiB p d) && decide (rows.length = 2 ^ d)
theorem multi_good {p : Int} {d : Nat} {xs : List Int} (h : multiB p d xs = true) : Good p (2 ^ d) xs := by
  obtain ⟨h1, h2⟩ := multi_of h
  exact good_isB h1 h2
theorem good_multi {p : Int} {d : Nat} {xs : List Int} (h : Good p (2 ^ d) xs) : multiB p d xs = true := by
  unfold multiB; rw [decide_eq_true h.1, h.isB]; rfl
theorem all_nth {f : List Int → Bool} {rows : List (List Int)} : rows.all f = true ↔ ∀ i, i < rows.length → f (nthR rows i) = true := by
  rw [List.all_eq_true]
  constructor
  · intro h i hi; rw [nthR_eq hi]; exact h _ (List.getElem_mem hi)
  · intro h x hx; obtain ⟨i, hi, rfl⟩ := List.getElem_of_mem hx; have := h i hi; rwa [nthR_eq hi] at this
theorem matE_of {p : Int} {d : Nat} {rows : List (List Int)} (h : matE p d rows = true) : RowsG p (2 ^ d) rows ∧ rows.length = 2 ^ d := by
  unfold matE at h
  simp only [Bool.and_eq_true, decide_eq_true_eq] at h
  exact ⟨fun i hi => multi_good (all_nth.1 h.1 i hi), h.2⟩
theorem mat_same {p : Int} {d : Nat} {rows : List (List Int)} (hd : d ≤ 4) : matD p d rows = matE p d rows := by
  have h16 : 2 ^ d ≤ 16 := Nat.le_trans (Nat.pow_le_pow_right (by omega) hd) (by decide)
  have h1 : 1 ≤ 2 ^ d := Nat.one_le_two_pow
  rw [Bool.eq_iff_iff]
  constructor
  · intro h
    unfold matD at h
    simp only [Bool.and_eq_true, decide_eq_true_eq] at h
    obtain ⟨⟨h2, h3⟩, h4⟩ := h
    have hg : RowsG p (2 ^ d) rows := by
      obtain ⟨h5, _, m, _, _, hg⟩ := matB_of h2
      have : 2 ^ d = m := by rw [← h4]; exact (hg 0 h5).1
      rw [this]; exact hg
    unfold matE
    rw [decide_eq_true h3, all_nth.2 fun i hi => good_multi (hg i hi)]; rfl
  · intro h
    obtain ⟨hg, hl⟩ := matE_of h
    unfold matD
    rw [matB_good hl (by omega) h16 h1 h16 (fun i hi => hg i (by omega)), decide_eq_true hl, decide_eq_true (hg 0 (by omega)).1]; rfl

theorem c_dfield (p : Int) (sq : Value) (w : World) :
    Calls Try.prog 84 #[.agg #[.int .i64 p, sq]] w fun e w' => e = .returned (.int .i64 p) ∧ Ext w w' := by
  go_enter Try.func84, Try.ntmps84
  go_wp2
  go_ret
  exact ⟨rfl, ext_alloc _ _⟩
theorem c_dsize (p : Int) (a : Option Addr) (d cap N : Nat) (w : World) (hd : d ≤ 6) (hN : N = 2 ^ d) :
    Calls Try.prog 118 #[.agg #[.int .i64 p, .slice a d cap]] w fun e w' => e = .returned (.int .i64 (N : Int)) ∧ Ext w w' := by
  have HW := Lib.hid (pow_wrap hd)
  have HN := Lib.hid hN
  clear hN
  go_enter Try.func118, Try.ntmps118
  go_wp2
  go_ret
  refine ⟨ret_int ?_, ext_alloc _ _⟩
  rw [HN.out, ← HW.out]
set_option maxHeartbeats 2000000 in
theorem c_isDoubling (p : Int) (a : Option Addr) (d cap : Nat) (qs : List Int) (w : World) (hl : d ≤ 4194304) (hq : RdC w a d qs) :
    Calls Try.prog 88 #[.agg #[.int .i64 p, .slice a d cap]] w fun e w' => e = .returned (.bool (doubB p qs)) ∧ Ext w w' := by
  have hqw : RdC (w.alloc (.cells #[.int .i64 p, .slice a d cap] 52)).drew a d qs := hq.ext ((ext_alloc _ _).trans (ext_drew _))
  cases h1 : primeB p
  · have HF := Lib.hid (doub_A (st := qs) h1)
    have H1 := Lib.hid h1
    clear h1
    go_enter Try.func88, Try.ntmps88
    go_wp2_with fail
    refine wp_region_lex [(2, .val (.bool false))] (by kernel_rfl) (by kernel_rfl) ?_
    repeat' first | (refine LexW.pure (v := ?_) rfl rfl (fun w1 he => ?_) ?_; rotate_left; (have hcc := Ext.cells he; go_simp; rfl); simp only [Act.put, List.setIfInBounds_toArray, List.set_cons_zero, List.set_cons_succ]) | (refine LexW.skip rfl rfl ?_; simp only [Act.put, List.setIfInBounds_toArray, List.set_cons_zero, List.set_cons_succ]) | (refine LexW.call (f := ?_) (args := ?_) rfl rfl (fun w1 => ?_) (fun w1 he hdep => ?_) ?_; rotate_left 2; (go_simp; refine ⟨?_, ?_⟩ <;> rfl); ( have H := c_isPrime p w1; rw [H1.out] at H; exact H); simp only [Act.put, List.setIfInBounds_toArray, List.set_cons_zero, List.set_cons_succ])
    refine LexW.nil (fun w1 he hk => ?_)
    go_wp2
    go_ret
    exact ⟨ret_bool HF.out.symm, (ext_alloc _ _).trans ((ext_drew _).trans he)⟩
  · have H1 := Lib.hid h1
    have hp := prime_bd h1
    by_cases h2 : d ≤ 4
    · have HF := Lib.hid (doub_C (p := p) (st := qs) h1 (by rw [hq.1]; exact h2))
      have h2b : decide ((d : Int) ≤ 4) = true := by simp; omega
      have h2i : (d : Int) ≤ 4 := by omega
      have HQ := Lib.hid hqw
      clear hqw h1 hq
      cases h3 : isB p qs
      · rw [h3] at HF
        have H3 := Lib.hid h3
        clear h3
        go_enter Try.func88, Try.ntmps88
        go_wp2_with fail
        refine wp_region_lex [(2, .val (.bool true)), (11, .val (.int .i64 p)), (14, .val (.bool false))] (by kernel_rfl) (by kernel_rfl) ?_
        repeat' first | (refine LexW.pure (v := ?_) rfl rfl (fun w1 he => ?_) ?_; rotate_left; (have hcc := Ext.cells he; go_simp; rfl); simp only [Act.put, List.setIfInBounds_toArray, List.set_cons_zero, List.set_cons_succ]) | (refine LexW.skip rfl rfl ?_; simp only [Act.put, List.setIfInBounds_toArray, List.set_cons_zero, List.set_cons_succ]) | (refine LexW.call (f := ?_) (args := ?_) rfl rfl (fun w1 => ?_) (fun w1 he hdep => ?_) ?_; rotate_left 2; (go_simp; refine ⟨?_, ?_⟩ <;> rfl); ( first | (go_at_call 130; have H := c_isPrime p w1; rw [H1.out] at H; exact H) | (go_at_call 84; exact c_dfield _ _ _) | (go_at_call 70; have H := c_is p a d cap qs w1 (by omega) (by omega) hl (HQ.out.ext he); rw [H3.out] at H; exact H)); simp only [Act.put, List.setIfInBounds_toArray, List.set_cons_zero, List.set_cons_succ])
        refine LexW.nil (fun w1 he hk => ?_)
        go_wp2
        go_ret
        exact ⟨ret_bool HF.out.symm, (ext_alloc _ _).trans ((ext_drew _).trans he)⟩
      · rw [h3] at HF
        have H3 := Lib.hid h3
        clear h3
        go_enter Try.func88, Try.ntmps88
        go_wp2_with fail
        refine wp_region_lex [(2, .val (.bool true)), (11, .val (.int .i64 p)), (14, .val (.bool true)), (19, .val (.bool (hasB qs 0)))] (by kernel_rfl) (by kernel_rfl) ?_
        repeat' first | (refine LexW.pure (v := ?_) rfl rfl (fun w1 he => ?_) ?_; rotate_left; (have hcc := Ext.cells he; go_simp; rfl); simp only [Act.put, List.setIfInBounds_toArray, List.set_cons_zero, List.set_cons_succ]) | (refine LexW.skip rfl rfl ?_; simp only [Act.put, List.setIfInBounds_toArray, List.set_cons_zero, List.set_cons_succ]) | (refine LexW.call (f := ?_) (args := ?_) rfl rfl (fun w1 => ?_) (fun w1 he hdep => ?_) ?_; rotate_left 2; (go_simp; refine ⟨?_, ?_⟩ <;> rfl); ( first | (go_at_call 130; have H := c_isPrime p w1; rw [H1.out] at H; exact H) | (go_at_call 84; exact c_dfield _ _ _) | (go_at_call 70; have H := c_is p a d cap qs w1 (by omega) (by omega) hl (HQ.out.ext he); rw [H3.out] at H; exact H) | (go_at_call 131; exact c_contains a d cap qs 0 w1 hl (HQ.out.ext he))); simp only [Act.put, List.setIfInBounds_toArray, List.set_cons_zero, List.set_cons_succ])
        refine LexW.nil (fun w1 he hk => ?_)
        go_wp2
        go_ret
        exact ⟨ret_bool (by rw [HF.out]; simp), (ext_alloc _ _).trans ((ext_drew _).trans he)⟩
    · have HF := Lib.hid (doub_B (p := p) (st := qs) (by rw [hq.1]; exact h2))
      have h2b : decide ((d : Int) ≤ 4) = false := by simp; omega
      have h2i : ¬ (d : Int) ≤ 4 := by omega
      clear hqw h1 hq
      go_enter Try.func88, Try.ntmps88
      go_wp2_with fail
      refine wp_region_lex [(2, .val (.bool true))] (by kernel_rfl) (by kernel_rfl) ?_
      repeat' first | (refine LexW.pure (v := ?_) rfl rfl (fun w1 he => ?_) ?_; rotate_left; (have hcc := Ext.cells he; go_simp; rfl); simp only [Act.put, List.setIfInBounds_toArray, List.set_cons_zero, List.set_cons_succ]) | (refine LexW.skip rfl rfl ?_; simp only [Act.put, List.setIfInBounds_toArray, List.set_cons_zero, List.set_cons_succ]) | (refine LexW.call (f := ?_) (args := ?_) rfl rfl (fun w1 => ?_) (fun w1 he hdep => ?_) ?_; rotate_left 2; (go_simp; refine ⟨?_, ?_⟩ <;> rfl); ( have H := c_isPrime p w1; rw [H1.out] at H; exact H); simp only [Act.put, List.setIfInBounds_toArray, List.set_cons_zero, List.set_cons_succ])
      refine LexW.nil (fun w1 he hk => ?_)
      go_wp2
      go_ret
      exact ⟨ret_bool HF.out.symm, (ext_alloc _ _).trans ((ext_drew _).trans he)⟩


set_option maxHeartbeats 1000000 in
theorem c_checkElements1 (p : Int) (a : Option Addr) (d cap : Nat) (ax : Option Addr) (n cx : Nat) (xs : List Int) (q : Nat) (w : World) (hp1 : 1 ≤ p) (hp2 : p ≤ 1000) (hd : d ≤ 6) (hl : n ≤ 4194304) (hx : RdC w ax n xs)
    (hq0 : w.cell? ⟨q, 0, none⟩ = some (.int .i64 p)) (hq1 : w.cell? ⟨q, 1, none⟩ = some (.slice a d cap)) :
    Calls Try.prog 117 #[.slice ax n cx, .pointer (some ⟨q, 0, none⟩)] w fun e w' => e = .returned (.bool (!multiB p d xs)) ∧ Ext w w' := by
  obtain ⟨N, hN⟩ : ∃ N, N = 2 ^ d := ⟨_, rfl⟩
  have HN := Lib.hid hN
  have HX := Lib.hid hx
  by_cases h : n = N
  · have HF := Lib.hid (show multiB p d xs = isB p xs by unfold multiB; rw [hx.1, ← hN, decide_eq_true h]; rfl)
    subst h
    have h2i : ((n : Int) != (n : Int)) = false := by simp
    clear hx hN
    go_enter Try.func117, Try.ntmps117
    go_wp2_with (fail)
    refine Calls.mono (c_dsize p a d cap n w hd HN.out) ?_
    rintro e w1 ⟨rfl, g1⟩
    have G1 := Lib.hid g1
    replace hq0 := g1.cell hq0
    replace hq1 := g1.cell hq1
    clear g1
    go_wp2_with (fail)
    refine Calls.mono (c_dfield p _ _) ?_
    rintro e w2 ⟨rfl, g2⟩
    have G2 := Lib.hid (G1.out.trans g2)
    clear g2
    go_wp2_with (fail)
    refine Calls.mono (c_is p ax n cx xs _ hp1 hp2 hl (HX.out.ext G2.out)) ?_
    rintro e w3 ⟨rfl, g3⟩
    have G3 := Lib.hid (G2.out.trans g3)
    clear g3
    go_wp2_with (fail)
    go_ret
    exact ⟨ret_bool (by rw [HF.out]), G3.out⟩
  · have HF := Lib.hid (show multiB p d xs = false by unfold multiB; rw [hx.1, ← hN, decide_eq_false h]; rfl)
    have h2i : ((n : Int) != (N : Int)) = true := by simp; omega
    clear hx hN
    go_enter Try.func117, Try.ntmps117
    go_wp2_with (fail)
    refine Calls.mono (c_dsize p a d cap N w hd HN.out) ?_
    rintro e w1 ⟨rfl, g1⟩
    have G1 := Lib.hid g1
    clear g1
    go_wp2_with (fail)
    go_ret
    exact ⟨ret_bool (by rw [HF.out]; rfl), G1.out⟩
def codeE (p : Int) (st : List Int) (es : List (List Int)) : Int := if doubB p st = true then (if es.all (multiB p st.length) = true then 0 else 2) else 1
theorem codeE_A {p : Int} {st : List Int} {es : List (List Int)} (h : doubB p st = false) : codeE p st es = 1 := by unfold codeE; rw [h]; rfl
theorem codeE_B {p : Int} {st : List Int} {es : List (List Int)} (h : doubB p st = true) : codeE p st es = if es.all (multiB p st.length) = true then 0 else 2 := by unfold codeE; rw [h]; rfl
theorem codeE_zero {p : Int} {st : List Int} {es : List (List Int)} (h : codeE p st es = 0) : doubB p st = true ∧ es.all (multiB p st.length) = true := by
  unfold codeE at h
  split at h
  · rename_i h1
    split at h
    · rename_i h2; exact ⟨h1, h2⟩
    · cases h
  · cases h
set_option maxHeartbeats 1000000 in
theorem c_checkElements (p : Int) (a : Option Addr) (d cap : Nat) (st : List Int) (al : Option Addr) (n cl : Nat) (es : List (List Int)) (w : World) (hd : d ≤ 4194304) (hl : n ≤ 4194304) (hr : ∀ i, i < n → (nthR es i).length ≤ 4194304) (hq : RdC w a d st) (hx : RdR w al n es) :
    Calls Try.prog 78 #[.agg #[.int .i64 p, .slice a d cap], .slice al n cl] w fun e w' => e = .returned (.int .i64 (codeE p st es)) ∧ Ext w w' := by
  obtain ⟨ai, ci, hR, hrow⟩ := hx.choose
  have HRR := Lib.hid hR
  have HRow := Lib.hid hrow
  have HX := Lib.hid hx
  have HXL := Lib.hid hx.1
  have Hr := Lib.hid hr
  have HQ := Lib.hid hq
  have HQL := Lib.hid hq.1
  clear hx hr hq hR hrow
  go_enter Try.func78, Try.ntmps78
  go_wp2_with (fail)
  refine Calls.mono (c_isDoubling p a d cap st _ hd (HQ.out.ext (ext_alloc _ _))) ?_
  rintro e w1 ⟨rfl, g1⟩
  have q0 : w1.cell? ⟨w.heap.size, 0, none⟩ = some (.int .i64 p) := g1.cell (by simp)
  have q1 : w1.cell? ⟨w.heap.size, 1, none⟩ = some (.slice a d cap) := g1.cell (by simp)
  have Q0 := Lib.hid q0
  have Q1 := Lib.hid q1
  have G1 := Lib.hid ((ext_alloc w (.cells #[.int .i64 p, .slice a d cap] 52)).trans g1)
  clear g1
  cases hs : doubB p st
  · have HC := Lib.hid (codeE_A (es := es) hs)
    clear hs
    go_wp2_with (fail)
    go_ret
    exact ⟨ret_int HC.out.symm, G1.out⟩
  have HC := Lib.hid (codeE_B (es := es) hs)
  obtain ⟨hpr, hd4, _, _⟩ := doub_of hs
  have hpb := prime_bd hpr
  rw [HQL.out] at hd4 HC
  have HAN := Lib.hid (any_rows p d n es HXL.out)
  clear hs hpr q0 q1
  go_wp2_with (fail)
  refine Calls.mono (c_containsFunc al n cl 117 #[.pointer (some ⟨w.heap.size, 0, none⟩)] (rowV ai ci es) (fun i => !multiB p d (nthR es i)) _ hl ?_ (fun i hi => ?_) (fun i hi w2 he => ?_)) ?_
  · intro args w; rfl
  · obtain ⟨b, off, hb1, hb2⟩ := HRR.out i hi
    exact ⟨b, off, hb1, G1.out.cell hb2⟩
  · have hrow := HRow.out i hi
    unfold rowV
    exact c_checkElements1 p a d cap _ _ _ _ _ _ (by omega) (by omega) (by omega) (Hr.out i hi) (hrow.ext (G1.out.trans he)) (he.cell Q0.out) (he.cell Q1.out)
  rintro e w3 ⟨rfl, g3⟩
  rw [HAN.out]
  have G3 := Lib.hid (G1.out.trans g3)
  clear g3
  cases ha : es.all (multiB p d)
  · rw [ha] at HC
    clear ha
    go_wp2_with (fail)
    go_ret
    exact ⟨ret_int HC.out.symm, G3.out⟩
  · rw [ha] at HC
    clear ha
    go_wp2_with (fail)
    go_ret
    exact ⟨ret_int HC.out.symm, G3.out⟩
end Go.Proofs.Ytcocbainookkcaa

/-
  Doublings: their checks in the reference; the codes of elements and matrices on both sides.
  No condition.
-/
namespace Go.Proofs.Ytcocbainookkcaa
set_option maxRecDepth 100000
open Go.RowKit

set_option maxHeartbeats 2000000 in
theorem s_is11 (p : Int) (a : Option Addr) (d cap : Nat) (qs : List Int) (w : World) (hl : d ≤ 4194304) (hq : RdC w a d qs) :
    Calls Try.prog 120 #[.agg #[.int .i64 p, .slice a d cap]] w fun e w' => e = .returned (.bool (doubB p qs)) ∧ Ext w w' := by
  have HQ := Lib.hid hq
  have HQL := Lib.hid hq.1
  clear hq
  cases h1 : primeB p
  · have HF := Lib.hid (doub_A (st := qs) h1)
    have H1 := Lib.hid h1
    clear h1
    go_enter Try.func120, Try.ntmps120
    go_wp2_with (fail)
    refine Calls.mono (s_prime p _) ?_
    rintro e w1 ⟨rfl, g1⟩
    rw [H1.out]
    have G1 := Lib.hid ((ext_alloc w (.cells #[.int .i64 p, .slice a d cap] 52)).trans g1)
    clear g1
    go_wp2_with (fail)
    go_ret
    exact ⟨ret_bool HF.out.symm, G1.out⟩
  have hpb := prime_bd h1
  have H1 := Lib.hid h1
  by_cases h2 : d ≤ 4
  · have HF := Lib.hid (doub_C (p := p) (st := qs) h1 (by rw [HQL.out]; exact h2))
    have h2i : ¬ (4 : Int) < (d : Int) := by omega
    have h2b : decide ((4 : Int) < (d : Int)) = false := by simpa using h2i
    clear h1
    go_enter Try.func120, Try.ntmps120
    go_wp2_with (fail)
    refine Calls.mono (s_prime p _) ?_
    rintro e w1 ⟨rfl, g1⟩
    rw [H1.out]
    have q0 : w1.cell? ⟨w.heap.size, 0, none⟩ = some (.int .i64 p) := g1.cell (by simp)
    have q1 : w1.cell? ⟨w.heap.size, 1, none⟩ = some (.slice a d cap) := g1.cell (by simp)
    have Q0 := Lib.hid q0
    have Q1 := Lib.hid q1
    have G1 := Lib.hid ((ext_alloc w (.cells #[.int .i64 p, .slice a d cap] 52)).trans g1)
    clear g1
    go_wp2_with (fail)
    go_loopw [3] (fun i wr => ∃ k : Nat, k ≤ d ∧ i = .int .i64 k ∧ Hid (∀ j, j < k → inB (nth qs j) 1 (p - 1) = true) ∧ Hid (Ext w1 wr)) (fun i _ => d - (intOf i).toNat)
    case atStart => exact ⟨0, Nat.zero_le _, rfl, Lib.hid (fun j hj => absurd hj (Nat.not_lt_zero _)), Lib.hid (Ext.refl _)⟩
    case round =>
      obtain ⟨k, hk, rfl, HT, HE⟩ := hrel
      rename World => wr
      clear q0 q1
      have q0 := HE.out.cell Q0.out
      have q1 := HE.out.cell Q1.out
      by_cases hlt : k < d
      · obtain ⟨b, off, rfl, hc⟩ := HQ.out.2 k hlt
        have E0 := Lib.hid (HE.out.trans (ext_drew wr))
        have C0 := Lib.hid (E0.out.cell Q0.out)
        have C1 := Lib.hid (E0.out.cell Q1.out)
        have C2 := Lib.hid ((G1.out.trans E0.out).cell hc)
        obtain ⟨x, hx⟩ : ∃ x, x = nth qs k := ⟨_, rfl⟩
        rw [← hx] at C2
        obtain ⟨q, hq⟩ : ∃ q, q = p - 1 := ⟨_, rfl⟩
        have HWq : Hid (IntKind.i64.wrap (p - 1) = q) := Lib.hid (by rw [hq]; exact IntWalk.i64_in _ (by omega))
        obtain ⟨bb, hbb⟩ : ∃ b, b = inB x 1 q := ⟨_, rfl⟩
        have HIN : Hid (∀ w1, Calls Try.prog 75 #[.int .i64 x, .int .i64 1, .int .i64 q] w1 fun e w' => e = .returned (.bool bb) ∧ Ext w1 w') := Lib.hid (fun w1 => by rw [hbb]; exact s_in x 1 q w1)
        have HB : Hid (inB (nth qs k) 1 (p - 1) = bb) := Lib.hid (by rw [hbb, hx, hq])
        clear hc hx hq hbb
        go_wp2_with (fail)
        refine wp_region_lex [(8, .val (.bool bb))] (by kernel_rfl) (by kernel_rfl) ?_
        repeat' first | (refine LexW.pure (v := ?_) rfl rfl (fun w1 he => ?_) ?_; rotate_left; ( have e0 := he.cell C0.out; have e1 := he.cell C1.out; have e2 := he.cell C2.out; have e3 := HWq.out; go_simp; rfl); simp only [Act.put, List.setIfInBounds_toArray, List.set_cons_zero, List.set_cons_succ]) | (refine LexW.call (f := ?_) (args := ?_) rfl rfl (fun w1 => ?_) (fun w1 he hdep => ?_) ?_; rotate_left 2; (go_simp; refine ⟨?_, ?_⟩ <;> rfl); ( exact HIN.out w1); simp only [Act.put, List.setIfInBounds_toArray, List.set_cons_zero, List.set_cons_succ])
        refine LexW.nil (fun w3 he hkn => ?_)
        have X3 := Lib.hid (E0.out.trans he)
        clear he hkn q0 q1
        cases bb
        · go_wp2_with (fail)
          go_ret
          exact ⟨ret_bool (by rw [HF.out, doub_no (k := k) (by rw [HQL.out]; exact hlt) HB.out]), G1.out.trans X3.out⟩
        · go_wp2_with (fail)
          go_roundw
          case rel => exact ⟨k + 1, by omega, by go_num, Lib.hid (fun j hj => by
            by_cases h : j = k
            · rw [h]; exact HB.out
            · exact HT.out j (by omega)), X3⟩
          case measure => simp [intOf]; omega
      · obtain rfl : k = d := by omega
        go_wp2_with (fail)
        go_ret
        exact ⟨ret_bool (by rw [HF.out, doub_yes (fun j hj => HT.out j (by rw [HQL.out] at hj; exact hj))]), G1.out.trans HE.out⟩
  · have HF := Lib.hid (doub_B (p := p) (st := qs) (by rw [HQL.out]; exact h2))
    have h2i : (4 : Int) < (d : Int) := by omega
    have h2b : decide ((4 : Int) < (d : Int)) = true := by simpa using h2i
    clear h1
    go_enter Try.func120, Try.ntmps120
    go_wp2_with (fail)
    refine Calls.mono (s_prime p _) ?_
    rintro e w1 ⟨rfl, g1⟩
    rw [H1.out]
    have q0 : w1.cell? ⟨w.heap.size, 0, none⟩ = some (.int .i64 p) := g1.cell (by simp)
    have q1 : w1.cell? ⟨w.heap.size, 1, none⟩ = some (.slice a d cap) := g1.cell (by simp)
    have G1 := Lib.hid ((ext_alloc w (.cells #[.int .i64 p, .slice a d cap] 52)).trans g1)
    clear g1
    go_wp2_with (fail)
    go_ret
    exact ⟨ret_bool HF.out.symm, G1.out⟩
theorem s_size11 (p : Int) (a : Option Addr) (d cap N : Nat) (w : World) (hd : d ≤ 6) (hN : N = 2 ^ d) :
    Calls Try.prog 144 #[.agg #[.int .i64 p, .slice a d cap]] w fun e w' => e = .returned (.int .i64 (N : Int)) ∧ Ext w w' := by
  have HW := Lib.hid (pow_wrap hd)
  have HN := Lib.hid hN
  clear hN
  go_enter Try.func144, Try.ntmps144
  go_wp2
  go_ret
  refine ⟨ret_int ?_, ext_alloc _ _⟩
  rw [HN.out, ← HW.out]
set_option maxHeartbeats 2000000 in
theorem s_elem11 (p : Int) (a : Option Addr) (d cap : Nat) (ax : Option Addr) (n cx : Nat) (xs : List Int) (w : World) (hp1 : 3 ≤ p) (hp2 : p ≤ 1000) (hd : d ≤ 6) (hl : n ≤ 4194303) (hx : RdC w ax n xs) :
    Calls Try.prog 121 #[.agg #[.int .i64 p, .slice a d cap], .slice ax n cx] w fun e w' => e = .returned (.bool (multiB p d xs)) ∧ Ext w w' := by
  obtain ⟨N, hN⟩ : ∃ N, N = 2 ^ d := ⟨_, rfl⟩
  have HN := Lib.hid hN
  have HX := Lib.hid hx
  have HXL := Lib.hid hx.1
  have HNO : Hid (∀ k, k < n → inB (nth xs k) 0 (p - 1) = false → multiB p d xs = false) := Lib.hid (fun k hk h => by unfold multiB; rw [isB_false (by rw [hx.1]; exact hk) h]; simp)
  have HYES : Hid ((∀ k, k < n → inB (nth xs k) 0 (p - 1) = true) → multiB p d xs = decide (n = N)) := Lib.hid (fun h => by
    unfold multiB
    rw [show isB p xs = true from Good.isB (N := n) ⟨hx.1, fun k hk => by have := h k hk; unfold inB at this; simp only [decide_eq_true_eq] at this; omega⟩, hx.1, hN]; simp)
  clear hx hN
  go_enter Try.func121, Try.ntmps121
  go_wp2_with (fail)
  obtain ⟨W, hW⟩ : ∃ W, W = w.alloc (.cells #[.int .i64 p, .slice a d cap] 52) := ⟨_, rfl⟩
  have G1 : Hid (Ext w W) := Lib.hid (by rw [hW]; exact ext_alloc _ _)
  have Q0 : Hid (W.cell? ⟨w.heap.size, 0, none⟩ = some (.int .i64 p)) := Lib.hid (by rw [hW]; simp)
  have Q1 : Hid (W.cell? ⟨w.heap.size, 1, none⟩ = some (.slice a d cap)) := Lib.hid (by rw [hW]; simp)
  rw [← hW]
  clear hW
  go_wp2_with (fail)
  go_loopw [5] (fun i wr => ∃ k : Nat, k ≤ n ∧ i = .int .i64 k ∧ Hid (∀ j, j < k → inB (nth xs j) 0 (p - 1) = true) ∧ Hid (Ext W wr)) (fun i _ => n - (intOf i).toNat)
  case atStart => exact ⟨0, Nat.zero_le _, rfl, Lib.hid (fun j hj => absurd hj (Nat.not_lt_zero _)), Lib.hid (Ext.refl _)⟩
  case round =>
    obtain ⟨k, hk, rfl, HT, HE⟩ := hrel
    rename World => wr
    by_cases hlt : k < n
    · obtain ⟨b, off, rfl, hc⟩ := HX.out.2 k hlt
      have E0 := Lib.hid (HE.out.trans (ext_drew wr))
      have C0 := Lib.hid (E0.out.cell Q0.out)
      have C2 := Lib.hid ((G1.out.trans E0.out).cell hc)
      obtain ⟨x, hx⟩ : ∃ x, x = nth xs k := ⟨_, rfl⟩
      rw [← hx] at C2
      obtain ⟨q, hq⟩ : ∃ q, q = p - 1 := ⟨_, rfl⟩
      have HWq : Hid (IntKind.i64.wrap (p - 1) = q) := Lib.hid (by rw [hq]; exact IntWalk.i64_in _ (by omega))
      obtain ⟨bb, hbb⟩ : ∃ b, b = inB x 0 q := ⟨_, rfl⟩
      have HIN : Hid (∀ w1, Calls Try.prog 75 #[.int .i64 x, .int .i64 0, .int .i64 q] w1 fun e w' => e = .returned (.bool bb) ∧ Ext w1 w') := Lib.hid (fun w1 => by rw [hbb]; exact s_in x 0 q w1)
      have HB : Hid (inB (nth xs k) 0 (p - 1) = bb) := Lib.hid (by rw [hbb, hx, hq])
      clear hc hx hq hbb
      go_wp2_with (fail)
      refine wp_region_lex [(7, .val (.bool bb))] (by kernel_rfl) (by kernel_rfl) ?_
      repeat' first | (refine LexW.pure (v := ?_) rfl rfl (fun w1 he => ?_) ?_; rotate_left; ( have e0 := he.cell C0.out; have e2 := he.cell C2.out; have e3 := HWq.out; go_simp; rfl); simp only [Act.put, List.setIfInBounds_toArray, List.set_cons_zero, List.set_cons_succ]) | (refine LexW.call (f := ?_) (args := ?_) rfl rfl (fun w1 => ?_) (fun w1 he hdep => ?_) ?_; rotate_left 2; (go_simp; refine ⟨?_, ?_⟩ <;> rfl); ( exact HIN.out w1); simp only [Act.put, List.setIfInBounds_toArray, List.set_cons_zero, List.set_cons_succ])
      refine LexW.nil (fun w3 he hkn => ?_)
      have X3 := Lib.hid (E0.out.trans he)
      clear he hkn
      cases bb
      · go_wp2_with (fail)
        go_ret
        exact ⟨ret_bool (HNO.out k hlt HB.out).symm, G1.out.trans X3.out⟩
      · go_wp2_with (fail)
        go_roundw
        case rel => exact ⟨k + 1, by omega, by go_num, Lib.hid (fun j hj => by
          by_cases h : j = k
          · rw [h]; exact HB.out
          · exact HT.out j (by omega)), X3⟩
        case measure => simp [intOf]; omega
    · obtain rfl : k = n := by omega
      have HF := Lib.hid (HYES.out HT.out)
      have q0 := HE.out.cell Q0.out
      have q1 := HE.out.cell Q1.out
      go_wp2_with (fail)
      refine Calls.mono (s_size11 p a d cap N _ hd HN.out) ?_
      rintro e w2 ⟨rfl, g2⟩
      have X2 := Lib.hid ((G1.out.trans HE.out).trans g2)
      clear g2 q0 q1
      go_wp2_with (fail)
      go_ret
      exact ⟨ret_bool (by rw [HF.out, Bool.eq_iff_iff]; simp; omega), X2.out⟩
/-- The code of a doubling with at most three steps. -/
def codeD (p : Int) (st : List Int) : Int := if doubB p st = true then (if st.length ≤ 3 then 0 else 3) else 1
theorem codeD_A {p : Int} {st : List Int} (h : doubB p st = false) : codeD p st = 1 := by unfold codeD; rw [h]; rfl
theorem codeD_B {p : Int} {st : List Int} (h : doubB p st = true) (h3 : ¬ st.length ≤ 3) : codeD p st = 3 := by unfold codeD; rw [h, if_pos rfl, if_neg h3]
theorem codeD_C {p : Int} {st : List Int} (h : doubB p st = true) (h3 : st.length ≤ 3) : codeD p st = 0 := by unfold codeD; rw [h, if_pos rfl, if_pos h3]
theorem codeD_zero {p : Int} {st : List Int} (h : codeD p st = 0) : doubB p st = true ∧ st.length ≤ 3 := by
  unfold codeD at h
  split at h
  · rename_i h1
    split at h
    · rename_i h2; exact ⟨h1, h2⟩
    · cases h
  · cases h
/-! ### Lists of matrices -/
def nthM (ms : List (List (List Int))) (i : Nat) : List (List Int) := ms.getD i []
def RdM (w : World) (a : Option Addr) (n : Nat) (ms : List (List (List Int))) : Prop :=
  ms.length = n ∧ ∀ i, i < n → ∃ b off ai ci, a = some ⟨b, off, none⟩ ∧ w.cell? ⟨b, off + i, none⟩ = some (.slice ai (nthM ms i).length ci) ∧ RdR w ai (nthM ms i).length (nthM ms i)
theorem RdM.ext {w w' : World} {a : Option Addr} {n : Nat} {ms : List (List (List Int))} (h : RdM w a n ms) (he : Ext w w') : RdM w' a n ms :=
  ⟨h.1, fun i hi => let ⟨b, off, ai, ci, ha, hc, hr⟩ := h.2 i hi; ⟨b, off, ai, ci, ha, he.cell hc, hr.ext he⟩⟩
theorem RdM.nil (w : World) (a : Option Addr) : RdM w a 0 [] := ⟨rfl, fun _ hi => absurd hi (Nat.not_lt_zero _)⟩
theorem nthM_eq {ms : List (List (List Int))} {i : Nat} (h : i < ms.length) : nthM ms i = ms[i] := by simp [nthM, h]
theorem all_nthM {f : List (List Int) → Bool} {ms : List (List (List Int))} : ms.all f = true ↔ ∀ i, i < ms.length → f (nthM ms i) = true := by
  rw [List.all_eq_true]
  constructor
  · intro h i hi; rw [nthM_eq hi]; exact h _ (List.getElem_mem hi)
  · intro h x hx; obtain ⟨i, hi, rfl⟩ := List.getElem_of_mem hx; have := h i hi; rwa [nthM_eq hi] at this
def code14 (p : Int) (st : List Int) (ms : List (List (List Int))) : Int := if codeD p st = 0 then (if ms.all (matE p st.length) = true then 0 else 2) else codeD p st
theorem code14_A {p : Int} {st : List Int} {ms : List (List (List Int))} (h : codeD p st ≠ 0) : code14 p st ms = codeD p st := by unfold code14; rw [if_neg h]
theorem code14_B {p : Int} {st : List Int} {ms : List (List (List Int))} (h : codeD p st = 0) : code14 p st ms = if ms.all (matE p st.length) = true then 0 else 2 := by unfold code14; rw [if_pos h]
theorem code14_zero {p : Int} {st : List Int} {ms : List (List (List Int))} (h : code14 p st ms = 0) : codeD p st = 0 ∧ ms.all (matE p st.length) = true := by
  by_cases h0 : codeD p st = 0
  · rw [code14_B h0] at h
    split at h
    · rename_i h1; exact ⟨h0, h1⟩
    · cases h
  · rw [code14_A h0] at h; exact absurd h h0

end Go.Proofs.Ytcocbainookkcaa
