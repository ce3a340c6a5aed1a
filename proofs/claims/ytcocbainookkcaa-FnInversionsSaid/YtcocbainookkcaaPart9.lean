/-
  Contracts and plain laws, part 9: SphP, ReflW.
  No condition.
-/
import Derived.Test.YtcocbainookkcaaPart8
import Derived.Test.YtcocbainookkcaaPart6
import Derived.Test.YtcocbainookkcaaPart3
import Derived.Test.YtcocbainookkcaaPart2
/-
  Spheres, distances and places, in plain numbers.
  No condition. No program in sight.
-/
namespace Go.Proofs.Ytcocbainookkcaa
set_option maxRecDepth 100000
open Go.RowKit

/-- Equal but for a multiple of p. -/
def cg (p a b : Int) : Prop := ∃ s, a = b + p * s
theorem cg.refl (p a : Int) : cg p a a := ⟨0, by omega⟩
theorem cg.symm {p a b : Int} (h : cg p a b) : cg p b a := by obtain ⟨s, hs⟩ := h; exact ⟨-s, by grind⟩
theorem cg.trans {p a b c : Int} (h : cg p a b) (k : cg p b c) : cg p a c := by obtain ⟨s, hs⟩ := h; obtain ⟨t, ht⟩ := k; exact ⟨s + t, by grind⟩
theorem cg.add {p a b c d : Int} (h : cg p a b) (k : cg p c d) : cg p (a + c) (b + d) := by obtain ⟨s, hs⟩ := h; obtain ⟨t, ht⟩ := k; exact ⟨s + t, by grind⟩
theorem cg.sub {p a b c d : Int} (h : cg p a b) (k : cg p c d) : cg p (a - c) (b - d) := by obtain ⟨s, hs⟩ := h; obtain ⟨t, ht⟩ := k; exact ⟨s - t, by grind⟩
theorem cg.mul {p a b c d : Int} (h : cg p a b) (k : cg p c d) : cg p (a * c) (b * d) := by obtain ⟨s, hs⟩ := h; obtain ⟨t, ht⟩ := k; exact ⟨s * d + b * t + p * (s * t), by grind⟩
theorem cg.emod {p a b : Int} (h : cg p a b) : a % p = b % p := emod_add h
theorem cg_emod (p a : Int) : cg p (a % p) a := emod_ex p a
theorem cg_of {p a b : Int} (h : a % p = b % p) : cg p a b := ((cg_emod p a).symm.trans (by rw [h]; exact cg.refl _ _)).trans (cg_emod p b)
theorem cg_small {p a b : Int} (h : cg p a b) (ha : 0 ≤ a) (ha2 : a < p) (hb : 0 ≤ b) (hb2 : b < p) : a = b := by
  have := h.emod
  rwa [Int.emod_eq_of_lt ha ha2, Int.emod_eq_of_lt hb hb2] at this
theorem cg_zero {p a : Int} (h : cg p a 0) (ha : 0 ≤ a) (ha2 : a < p) : a = 0 := cg_small h ha ha2 (Int.le_refl _) (by omega)
theorem cg_half {p : Int} (hp : primeB p = true) : cg p (2 * invN p 2) 1 := half_spec hp
theorem cg_inv {p a : Int} (hp : primeB p = true) (h0 : 0 < a) (h1 : a < p) : cg p (a * invN p a) 1 := by
  have hb := prime_bd hp
  have := (inv_spec hp h0 h1).2.1
  exact cg_of (by rw [this, Int.emod_eq_of_lt (by omega) (by omega)])
/-- A factor with an inverse is taken off. -/
theorem cg_cancel {p a b c : Int} (hp : primeB p = true) (h0 : 0 < c) (h1 : c < p) (h : cg p (c * a) (c * b)) : cg p a b := by
  have hi := cg_inv hp h0 h1
  obtain ⟨s, hs⟩ := hi
  obtain ⟨t, ht⟩ := h
  exact ⟨invN p c * t - s * (a - b), by grind⟩
theorem cg_two {p a b : Int} (hp : primeB p = true) (h : cg p (2 * a) (2 * b)) : cg p a b := by
  have hb := prime_bd hp
  exact cg_cancel hp (by omega) (by omega) h

theorem pz_comm (Q x y : List Int) : pairZ Q x y = pairZ Q y x := by rw [quad_pairZ, quad_pairZ, quad_comm]
theorem pl_pz {p : Int} {Q x y : List Int} {n : Nat} (h : Q.length = n) : pairL p Q x y n = pairZ Q x y % p := by subst h; rw [pair_quad, quad_pairZ]
theorem pl_cg {p : Int} {Q x y : List Int} {n : Nat} (h : Q.length = n) : cg p (pairL p Q x y n) (pairZ Q x y) := by rw [pl_pz h]; exact cg_emod _ _
theorem sum_cg {p : Int} {f g : Nat → Int} : ∀ n, (∀ i, i < n → cg p (f i) (g i)) → cg p (sumN n f) (sumN n g)
  | 0, _ => cg.refl _ _
  | n + 1, h => (sum_cg n fun i hi => h i (by omega)).add (h n (by omega))
theorem pz_congr {p : Int} {Q x x' y y' : List Int} (hx : ∀ i, i < Q.length → cg p (nth x i) (nth x' i)) (hy : ∀ i, i < Q.length → cg p (nth y i) (nth y' i)) : cg p (pairZ Q x y) (pairZ Q x' y') :=
  sum_cg _ fun i hi => ((hx i hi).mul (hy i hi)).mul (cg.refl _ _)
theorem pz_plus {p k : Int} {Q x y z : List Int} {n : Nat} (h : Q.length = n) : cg p (pairZ Q (plusL p x y k n) z) (pairZ Q x z + k * pairZ Q y z) := by
  subst h
  have e : pairZ Q x z + k * pairZ Q y z = sumN Q.length fun i => (nth x i + k * nth y i) * nth z i * nth Q i := by
    unfold pairZ
    rw [← sumN_mul, ← sumN_add]
    exact sumN_congr fun i _ => by grind
  rw [e]
  refine sum_cg _ fun i hi => ((cg.mul ?_ (cg.refl _ _)).mul (cg.refl _ _))
  rw [plusL_nth hi]
  exact cg_emod _ _
theorem pz_scale {p k : Int} {Q x z : List Int} {n : Nat} (h : Q.length = n) : cg p (pairZ Q (scaleL p x k n) z) (k * pairZ Q x z) := by
  subst h
  have e : k * pairZ Q x z = sumN Q.length fun i => (nth x i * k) * nth z i * nth Q i := by
    unfold pairZ
    rw [← sumN_mul]
    exact sumN_congr fun i _ => by grind
  rw [e]
  refine sum_cg _ fun i hi => ((cg.mul ?_ (cg.refl _ _)).mul (cg.refl _ _))
  rw [scaleL_nth hi]
  exact cg_emod _ _
theorem plus_cg {p k : Int} {x y : List Int} {n i : Nat} (h : i < n) : cg p (nth (plusL p x y k n) i) (nth x i + k * nth y i) := by rw [plusL_nth h]; exact cg_emod _ _
theorem scale_cg {p k : Int} {x : List Int} {n i : Nat} (h : i < n) : cg p (nth (scaleL p x k n) i) (nth x i * k) := by rw [scaleL_nth h]; exact cg_emod _ _
theorem good_eq {p : Int} {n : Nat} {x y : List Int} (hx : Good p n x) (hy : Good p n y) (h : ∀ i, i < n → cg p (nth x i) (nth y i)) : x = y :=
  ext_nth (by rw [hx.1, hy.1]) fun i hi => by
    rw [hx.1] at hi
    exact cg_small (h i hi) (hx.2 i hi).1 (hx.2 i hi).2 (hy.2 i hi).1 (hy.2 i hi).2

section
variable {p : Int} {qs : List Int}
theorem inf_infc : cg p (pairZ (extL p qs) (infL qs.length) (infL qs.length)) 0 := ⟨1, by rw [inf_inf]; omega⟩
theorem two_ptQ {v : List Int} (hp : primeB p = true) : cg p (2 * ptQ p qs v) (pairZ qs v v) := by
  have h1 : cg p (ptQ p qs v) (pairZ qs v v * invN p 2) := (cg_emod _ _).trans ((pl_cg rfl).mul (cg.refl _ _))
  obtain ⟨s, hs⟩ := h1
  obtain ⟨t, ht⟩ := cg_half hp
  exact ⟨2 * s + pairZ qs v v * t, by grind⟩
/-- What point vectors have as product. -/
theorem pt_pt {v w : List Int} (hp : primeB p = true) (hv : v.length = qs.length) (hw : w.length = qs.length) : cg p (pairZ (extL p qs) (pointL p qs v) (pointL p qs w)) (pairZ qs v w - ptQ p qs v - ptQ p qs w) := by
  rw [pairZ_ext]
  obtain ⟨a, ha⟩ := point_nth (p := p) (qs := qs) (v := v) (i := qs.length) hv (by omega)
  obtain ⟨b, hb⟩ := point_nth (p := p) (qs := qs) (v := v) (i := qs.length + 1) hv (by omega)
  obtain ⟨a', ha'⟩ := point_nth (p := p) (qs := qs) (v := w) (i := qs.length) hw (by omega)
  obtain ⟨b', hb'⟩ := point_nth (p := p) (qs := qs) (v := w) (i := qs.length + 1) hw (by omega)
  rw [if_neg (by omega), if_pos rfl] at ha ha'
  rw [if_neg (by omega), if_neg (by omega)] at hb hb'
  have h1 : cg p (sumN qs.length fun i => nth (pointL p qs v) i * nth (pointL p qs w) i * nth qs i) (pairZ qs v w) :=
    sum_cg _ fun i hi => by
      obtain ⟨s, hs⟩ := point_nth (p := p) (qs := qs) (v := v) (i := i) hv (by omega)
      obtain ⟨t, ht⟩ := point_nth (p := p) (qs := qs) (v := w) (i := i) hw (by omega)
      rw [if_pos hi] at hs ht
      exact (cg.mul ⟨s, hs⟩ ⟨t, ht⟩).mul (cg.refl _ _)
  have h2 : cg p (nth (pointL p qs v) qs.length * nth (pointL p qs w) qs.length) ((ptQ p qs v - invN p 2) * (ptQ p qs w - invN p 2)) := cg.mul ⟨a, ha⟩ ⟨a', ha'⟩
  have h3 : cg p (nth (pointL p qs v) (qs.length + 1) * nth (pointL p qs w) (qs.length + 1) * (p - 1)) ((ptQ p qs v + invN p 2) * (ptQ p qs w + invN p 2) * (-1)) := (cg.mul ⟨b, hb⟩ ⟨b', hb'⟩).mul ⟨1, by omega⟩
  refine ((h1.add h2).add h3).trans ?_
  obtain ⟨t, ht⟩ := cg_half hp
  exact ⟨-(t * (ptQ p qs v + ptQ p qs w)), by grind⟩
theorem inf_pt {v : List Int} (hp : primeB p = true) (hv : v.length = qs.length) : cg p (pairZ (extL p qs) (infL qs.length) (pointL p qs v)) (-1) := inf_point hp hv
theorem pt_inf {v : List Int} (hp : primeB p = true) (hv : v.length = qs.length) : cg p (pairZ (extL p qs) (pointL p qs v) (infL qs.length)) (-1) := by rw [pz_comm]; exact inf_pt hp hv
theorem pt_null {v : List Int} (hp : primeB p = true) (hv : v.length = qs.length) : cg p (pairZ (extL p qs) (pointL p qs v) (pointL p qs v)) 0 := by
  refine (pt_pt hp hv hv).trans ?_
  obtain ⟨s, hs⟩ := two_ptQ (qs := qs) (v := v) hp
  exact ⟨-s, by grind⟩
/-- A null vector with this product with infinity is a point vector. -/
theorem null_point {z : List Int} (hp : primeB p = true) (hz : Good p (qs.length + 2) z) (h0 : cg p (pairZ (extL p qs) z z) 0) (h1 : cg p (pairZ (extL p qs) z (infL qs.length)) (-1)) : z = pointL p qs (z.take qs.length) := by
  have hb := prime_bd hp
  have hvl : (z.take qs.length).length = qs.length := by rw [List.length_take, hz.1]; omega
  refine good_eq hz (pointL_good (by omega) rfl) fun i hi => ?_
  obtain ⟨s, hs⟩ := point_nth (p := p) (qs := qs) (v := z.take qs.length) (i := i) hvl hi
  have hA : cg p (nth z (qs.length + 1)) (nth z qs.length + 1) := by
    rw [pairZ_ext, sumN_zero fun i hi => by rw [inf_nth, if_pos hi]; simp, inf_nth, inf_nth, if_neg (by omega), if_pos rfl, if_neg (by omega), if_neg (by omega), if_pos rfl] at h1
    obtain ⟨t, ht⟩ := h1
    exact ⟨nth z (qs.length + 1) - t, by grind⟩
  have hN : cg p (2 * nth z qs.length + 1) (pairZ qs (z.take qs.length) (z.take qs.length)) := by
    rw [pairZ_ext] at h0
    have e : (sumN qs.length fun i => nth z i * nth z i * nth qs i) = pairZ qs (z.take qs.length) (z.take qs.length) := sumN_congr fun i hi => by rw [tk_nth hi]
    rw [e] at h0
    obtain ⟨t, ht⟩ := h0
    obtain ⟨u, hu⟩ := hA
    rw [hu] at ht
    exact ⟨2 * u * (nth z qs.length + 1) * (p - 1) + p * u * u * (p - 1) + (nth z qs.length + 1) * (nth z qs.length + 1) - t, by grind⟩
  have hQ := two_ptQ (qs := qs) (v := z.take qs.length) hp
  have hH := cg_half hp
  have hd : cg p (nth z qs.length) (ptQ p qs (z.take qs.length) - invN p 2) := by
    refine cg_two hp ?_
    obtain ⟨a, ha⟩ := hN
    obtain ⟨b, hb⟩ := hQ
    obtain ⟨c, hc⟩ := hH
    exact ⟨a - b + c, by grind⟩
  refine cg.trans ?_ (cg.symm ⟨s, hs⟩)
  by_cases h : i < qs.length
  · rw [if_pos h, tk_nth h]; exact cg.refl _ _
  · rw [if_neg h]
    by_cases h2 : i = qs.length
    · rw [if_pos h2, h2]; exact hd
    · rw [if_neg h2, show i = qs.length + 1 by omega]
      obtain ⟨a, ha⟩ := hA
      obtain ⟨b, hb⟩ := hd
      obtain ⟨c, hc⟩ := hH
      exact ⟨a + b - c, by grind⟩

/-! ### Weights and places -/
theorem wgt_cg {x : List Int} : cg p (wgtI p qs x) (pairZ (extL p qs) x (infL qs.length)) := pl_cg (extL_len p qs)
theorem pt_wgt {v : List Int} (hp : primeB p = true) (hv : v.length = qs.length) : wgtI p qs (pointL p qs v) = p - 1 := by
  have hb := prime_bd hp
  have h := wgt_cg (p := p) (qs := qs) (x := pointL p qs v)
  have := wgtI_bd (p := p) (qs := qs) (x := pointL p qs v) (by omega)
  exact cg_small (h.trans ((pt_inf hp hv).trans ⟨-1, by omega⟩)) this.1 this.2 (by omega) (by omega)
theorem wgtN_cg {x : List Int} : cg p (wgtN p qs x) (-(pairZ (extL p qs) x (infL qs.length))) := by
  refine (cg_emod _ _).trans ?_
  obtain ⟨s, hs⟩ := wgt_cg (p := p) (qs := qs) (x := x)
  exact ⟨-s, by rw [hs]; grind⟩
theorem wgtN_pos {x : List Int} (hp : 1 ≤ p) (h : wgtI p qs x ≠ 0) : 0 < wgtN p qs x := by
  have h1 := wgtN_bd (p := p) (qs := qs) (x := x) hp
  have h2 := wgtI_bd (p := p) (qs := qs) (x := x) hp
  rcases Int.lt_or_eq_of_le h1.1 with h3 | h3
  · exact h3
  · exfalso
    have : cg p (wgtI p qs x) 0 := by
      have a := wgtN_cg (p := p) (qs := qs) (x := x)
      have b := wgt_cg (p := p) (qs := qs) (x := x)
      rw [← h3] at a
      obtain ⟨s, hs⟩ := a
      obtain ⟨t, ht⟩ := b
      exact ⟨s + t, by grind⟩
    exact h (cg_zero this h2.1 h2.2)
/-- The weight of what has been divided by the weight. -/
theorem fin_cg {x : List Int} {z : List Int} : cg p (pairZ (extL p qs) (finL p qs x) z) (invN p (wgtN p qs x) * pairZ (extL p qs) x z) := pz_scale (extL_len p qs)
theorem fin_inf {x : List Int} (hp : primeB p = true) (h : wgtI p qs x ≠ 0) : cg p (pairZ (extL p qs) (finL p qs x) (infL qs.length)) (-1) := by
  have hb := prime_bd hp
  have hi := cg_inv hp (wgtN_pos (by omega) h) (wgtN_bd (by omega)).2
  obtain ⟨s, hs⟩ := fin_cg (p := p) (qs := qs) (x := x) (z := infL qs.length)
  obtain ⟨t, ht⟩ := wgtN_cg (p := p) (qs := qs) (x := x)
  obtain ⟨u, hu⟩ := hi
  exact ⟨s - u + invN p (wgtN p qs x) * t, by grind⟩
theorem fin_good {x : List Int} (hp : 1 ≤ p) : Good p (qs.length + 2) (finL p qs x) := scale_good hp
/-- A null vector, divided by its weight, is the point vector of its place. -/
theorem fin_point {x : List Int} (hp : primeB p = true) (h : wgtI p qs x ≠ 0) (h0 : cg p (pairZ (extL p qs) x x) 0) : finL p qs x = pointL p qs (plcL p qs x) := by
  have hb := prime_bd hp
  refine null_point hp (fin_good (by omega)) ?_ (fin_inf hp h)
  refine fin_cg.trans ?_
  rw [pz_comm]
  obtain ⟨s, hs⟩ := fin_cg (p := p) (qs := qs) (x := x) (z := x)
  obtain ⟨t, ht⟩ := h0
  exact ⟨invN p (wgtN p qs x) * (s + invN p (wgtN p qs x) * t), by grind⟩
theorem point_inj_take {v : List Int} (hp : 1 ≤ p) (hv : Good p qs.length v) : (pointL p qs v).take qs.length = v := by
  refine good_eq (p := p) (n := qs.length) ⟨by rw [List.length_take, point_len]; omega, fun i hi => by rw [tk_nth hi]; exact (pointL_good hp rfl).2 i (by omega)⟩ hv fun i hi => ?_
  rw [tk_nth hi]
  obtain ⟨s, hs⟩ := point_nth (p := p) (qs := qs) (v := v) (i := i) hv.1 (by omega)
  rw [if_pos hi] at hs
  exact ⟨s, hs⟩
/-- What has the weight of k divided by k. -/
theorem fin_scale {x y : List Int} {k : Int} (hp : primeB p = true) (hk : 0 < k) (hk2 : k < p) (hx : ∀ i, i < qs.length + 2 → cg p (nth x i) (k * nth y i)) (hy : cg p (pairZ (extL p qs) y (infL qs.length)) (-1)) (hg : Good p (qs.length + 2) y) : wgtI p qs x ≠ 0 ∧ finL p qs x = y := by
  have hb := prime_bd hp
  have hw : cg p (pairZ (extL p qs) x (infL qs.length)) (-k) := by
    have h1 : cg p (pairZ (extL p qs) x (infL qs.length)) (pairZ (extL p qs) (scaleL p y k (qs.length + 2)) (infL qs.length)) :=
      pz_congr (fun i hi => by rw [extL_len] at hi; exact (hx i hi).trans ((scale_cg hi).symm.trans (cg.refl _ _) |>.symm.trans (by rw [Int.mul_comm]; exact cg.refl _ _) |>.symm)) (fun i _ => cg.refl _ _)
    refine h1.trans ((pz_scale (extL_len p qs)).trans ?_)
    obtain ⟨s, hs⟩ := hy
    exact ⟨k * s, by grind⟩
  have hne : wgtI p qs x ≠ 0 := fun h0 => by
    have h1 := (wgt_cg (p := p) (qs := qs) (x := x)).trans hw
    rw [h0] at h1
    obtain ⟨s, hs⟩ := h1
    have : cg p k 0 := ⟨s, by grind⟩
    have := cg_zero this (by omega) hk2
    omega
  have hN : wgtN p qs x = k := by
    have h1 := wgtN_bd (p := p) (qs := qs) (x := x) (by omega)
    refine cg_small (wgtN_cg.trans ?_) h1.1 h1.2 (by omega) hk2
    obtain ⟨s, hs⟩ := hw
    exact ⟨-s, by grind⟩
  refine ⟨hne, good_eq (fin_good (by omega)) hg fun i hi => ?_⟩
  unfold finL
  rw [hN]
  refine (scale_cg hi).trans ?_
  obtain ⟨s, hs⟩ := hx i hi
  obtain ⟨t, ht⟩ := cg_inv hp hk hk2
  exact ⟨nth y i * t + s * invN p k, by grind⟩
theorem point_place {v : List Int} (hp : primeB p = true) (hv : Good p qs.length v) : wgtI p qs (pointL p qs v) ≠ 0 ∧ plcL p qs (pointL p qs v) = v := by
  have hb := prime_bd hp
  obtain ⟨h1, h2⟩ := fin_scale (p := p) (qs := qs) (x := pointL p qs v) (y := pointL p qs v) (k := 1) hp (by omega) (by omega) (fun i _ => ⟨0, by omega⟩) (pt_inf hp hv.1) (pointL_good (by omega) rfl)
  refine ⟨h1, ?_⟩
  unfold plcL
  rw [h2]
  exact point_inj_take (by omega) hv

/-! ### Distances -/
theorem pex_cg {x v : List Int} : cg p (pexZ p qs x v) (pairZ (extL p qs) x (pointL p qs v)) := pl_cg (extL_len p qs)
theorem dist_cg {v w : List Int} (hp : primeB p = true) (hv : v.length = qs.length) (hw : w.length = qs.length) : cg p (distN p qs v w) (pairZ qs v v + pairZ qs w w - 2 * pairZ qs v w) := by
  refine (cg_emod _ _).trans ?_
  obtain ⟨s, hs⟩ := pex_cg (p := p) (qs := qs) (x := pointL p qs v) (v := w)
  obtain ⟨t, ht⟩ := pt_pt hp hv hw
  obtain ⟨a, ha⟩ := two_ptQ (qs := qs) (v := v) hp
  obtain ⟨b, hb⟩ := two_ptQ (qs := qs) (v := w) hp
  exact ⟨-2 * s - 2 * t + a + b, by grind⟩
/-- Distances are norms of differences. -/
theorem dist_norm {v w : List Int} (hp : primeB p = true) (hv : v.length = qs.length) (hw : w.length = qs.length) : distN p qs v w = pairL p qs (plusL p v (scaleL p w (-1) qs.length) 1 qs.length) (plusL p v (scaleL p w (-1) qs.length) 1 qs.length) qs.length := by
  have hb := prime_bd hp
  have hbd : 0 ≤ distN p qs v w ∧ distN p qs v w < p := ⟨Int.emod_nonneg _ (by omega), Int.emod_lt_of_pos _ (by omega)⟩
  have hpb := pairL_bd (p := p) (qs := qs) (v := plusL p v (scaleL p w (-1) qs.length) 1 qs.length) (w := plusL p v (scaleL p w (-1) qs.length) 1 qs.length) (n := qs.length) (by omega)
  refine cg_small ((dist_cg hp hv hw).trans (cg.symm ((pl_cg rfl).trans ?_))) hbd.1 hbd.2 hpb.1 hpb.2
  obtain ⟨D, hD⟩ : ∃ D, D = plusL p v (scaleL p w (-1) qs.length) 1 qs.length := ⟨_, rfl⟩
  rw [← hD]
  have h1 : ∀ z, cg p (pairZ qs D z) (pairZ qs v z - pairZ qs w z) := fun z => by
    rw [hD]
    refine (pz_plus rfl).trans ?_
    obtain ⟨s, hs⟩ := pz_scale (p := p) (k := -1) (Q := qs) (x := w) (z := z) rfl
    exact ⟨s, by grind⟩
  obtain ⟨a, ha⟩ := h1 D
  obtain ⟨b, hb⟩ := h1 v
  obtain ⟨c, hc⟩ := h1 w
  rw [pz_comm] at hb hc
  have hvw := pz_comm qs v w
  exact ⟨a + b - c, by grind⟩

/-! ### Spheres -/
theorem hr_cg {r : Int} (hp : primeB p = true) : cg p (2 * (r * invN p 2 % p)) r := by
  obtain ⟨s, hs⟩ := cg_emod p (r * invN p 2)
  obtain ⟨t, ht⟩ := cg_half hp
  exact ⟨2 * s + r * t, by grind⟩
theorem ball_cg {c z : List Int} {r : Int} : cg p (pairZ (extL p qs) (ballL p qs c r) z) (pairZ (extL p qs) (pointL p qs c) z - r * invN p 2 % p * pairZ (extL p qs) (infL qs.length) z) := by
  refine (pz_plus (extL_len p qs)).trans ⟨0, by grind⟩
theorem ball_inf {c : List Int} {r : Int} (hp : primeB p = true) (hc : c.length = qs.length) : cg p (pairZ (extL p qs) (ballL p qs c r) (infL qs.length)) (-1) := by
  refine ball_cg.trans ?_
  obtain ⟨s, hs⟩ := pt_inf hp hc
  obtain ⟨t, ht⟩ := inf_infc (p := p) (qs := qs)
  exact ⟨s - r * invN p 2 % p * t, by grind⟩
/-- The sphere vector, some multiple of it: centre and number. -/
theorem ball_of {c : List Int} {r k : Int} (hp : primeB p = true) (hc : Good p qs.length c) (hr : 0 ≤ r) (hr2 : r < p) (hk : 0 < k) (hk2 : k < p) :
    wgtI p qs (scaleL p (ballL p qs c r) k (qs.length + 2)) ≠ 0 ∧ plcL p qs (scaleL p (ballL p qs c r) k (qs.length + 2)) = c ∧ sphN p qs (scaleL p (ballL p qs c r) k (qs.length + 2)) = r := by
  have hb := prime_bd hp
  have hgb : Good p (qs.length + 2) (ballL p qs c r) := ball_good (by omega) rfl
  obtain ⟨h1, h2⟩ := fin_scale (p := p) (qs := qs) (x := scaleL p (ballL p qs c r) k (qs.length + 2)) (y := ballL p qs c r) (k := k) hp hk hk2 (fun i hi => (scale_cg hi).trans ⟨0, by grind⟩) (ball_inf hp hc.1) hgb
  have hpl : plcL p qs (scaleL p (ballL p qs c r) k (qs.length + 2)) = c := by
    unfold plcL
    rw [h2]
    refine good_eq (p := p) (n := qs.length) ⟨by rw [List.length_take, hgb.1]; omega, fun i hi => by rw [tk_nth hi]; exact hgb.2 i (by omega)⟩ hc fun i hi => ?_
    rw [tk_nth hi]
    refine (plus_cg (by omega)).trans ?_
    obtain ⟨s, hs⟩ := point_nth (p := p) (qs := qs) (v := c) (i := i) hc.1 (by omega)
    rw [if_pos hi] at hs
    rw [inf_nth, if_pos hi]
    exact ⟨s, by grind⟩
  refine ⟨h1, hpl, ?_⟩
  unfold sphN
  rw [h2, hpl]
  have hsb : 0 ≤ -2 * (nth (ballL p qs c r) qs.length - nth (pointL p qs c) qs.length) % p ∧ -2 * (nth (ballL p qs c r) qs.length - nth (pointL p qs c) qs.length) % p < p := ⟨Int.emod_nonneg _ (by omega), Int.emod_lt_of_pos _ (by omega)⟩
  refine cg_small ((cg_emod _ _).trans ?_) hsb.1 hsb.2 hr hr2
  obtain ⟨s, hs⟩ := plus_cg (p := p) (k := -(r * invN p 2 % p)) (x := pointL p qs c) (y := infL qs.length) (n := qs.length + 2) (i := qs.length) (by omega)
  rw [inf_nth, if_neg (by omega), if_pos rfl] at hs
  obtain ⟨t, ht⟩ := hr_cg (r := r) hp
  have hs' : nth (ballL p qs c r) qs.length = nth (pointL p qs c) qs.length + -(r * invN p 2 % p) * 1 + p * s := hs
  exact ⟨t - 2 * s, by rw [hs']; grind⟩
/-- A vector is on a sphere exactly if its distance from the centre is the number of the sphere. -/
theorem ball_on {c u : List Int} {r : Int} (hp : primeB p = true) (_hc : c.length = qs.length) (hu : u.length = qs.length) (hr : 0 ≤ r) (hr2 : r < p) : (pexZ p qs (ballL p qs c r) u == 0) = (distN p qs c u == r) := by
  have hb := prime_bd hp
  have hd : 0 ≤ distN p qs c u ∧ distN p qs c u < p := ⟨Int.emod_nonneg _ (by omega), Int.emod_lt_of_pos _ (by omega)⟩
  have hx : 0 ≤ pexZ p qs (ballL p qs c r) u ∧ pexZ p qs (ballL p qs c r) u < p := pairL_bd (by omega)
  have key : cg p (2 * pexZ p qs (ballL p qs c r) u) (r - distN p qs c u) := by
    obtain ⟨s, hs⟩ := pex_cg (p := p) (qs := qs) (x := ballL p qs c r) (v := u)
    obtain ⟨t, ht⟩ := ball_cg (p := p) (qs := qs) (c := c) (r := r) (z := pointL p qs u)
    obtain ⟨a, ha⟩ := inf_pt (qs := qs) (v := u) hp hu
    obtain ⟨b, hb⟩ := hr_cg (r := r) hp
    obtain ⟨e, he⟩ := cg_emod p (-2 * pexZ p qs (pointL p qs c) u)
    have he' : distN p qs c u = -2 * pexZ p qs (pointL p qs c) u + p * e := he
    obtain ⟨f, hf⟩ := pex_cg (p := p) (qs := qs) (x := pointL p qs c) (v := u)
    exact ⟨2 * s + 2 * t - 2 * (r * invN p 2 % p) * a + b + e - 2 * f, by grind⟩
  rw [Bool.eq_iff_iff, beq_iff_eq, beq_iff_eq]
  constructor
  · intro h
    rw [h] at key
    exact cg_small (by obtain ⟨s, hs⟩ := key; exact ⟨s, by grind⟩) hd.1 hd.2 hr hr2
  · intro h
    rw [h, Int.sub_self] at key
    exact cg_zero (cg_two hp (key.trans ⟨0, by omega⟩)) hx.1 hx.2
end
end Go.Proofs.Ytcocbainookkcaa

/-
  Reflections of vectors, in the program and in the reference.
  No condition.
-/
namespace Go.Proofs.Ytcocbainookkcaa
set_option maxRecDepth 100000
open Go.RowKit

set_option maxHeartbeats 8000000 in
set_option maxRecDepth 100000 in
theorem c_reflected (p : Int) (a : Option Addr) (d cap : Nat) (qs : List Int) (au : Option Addr) (cu : Nat) (u : List Int) (av : Option Addr) (cv : Nat) (v : List Int) (w : World) (hp1 : 3 ≤ p) (hp2 : p ≤ 13) (hd : d ≤ 6) (hq : RdC w a d qs) (hqb : isB p qs = true) (hu : RdC w au d u) (hgu : Good p d u) (hv : RdC w av d v) (hgv : Good p d v) :
    Calls Try.prog 48 #[.agg #[.int .i64 p, .slice a d cap], .slice au d cu, .slice av d cv] w fun e w' => ∃ g rc, e = .returned (.slice (some ⟨g, 0, none⟩) d rc) ∧ OwnC w.heap.size w' (some ⟨g, 0, none⟩) d rc (reflL p qs u v d) ∧ Ext w w' := by
  have HQ := Lib.hid hq
  have HQB := Lib.hid hqb
  have HU := Lib.hid hu
  have HGU := Lib.hid hgu
  have HV := Lib.hid hv
  have HGV := Lib.hid hgv
  obtain ⟨pv, hpv⟩ : ∃ x, x = pairL p qs u v d := ⟨_, rfl⟩
  obtain ⟨nu, hnu⟩ : ∃ x, x = pairL p qs u u d := ⟨_, rfl⟩
  obtain ⟨iv, hiv⟩ : ∃ x, x = invN p nu := ⟨_, rfl⟩
  have hpb2 : 0 ≤ pv ∧ pv < p := by rw [hpv]; exact pairL_bd (by omega)
  have hnb : 0 ≤ nu ∧ nu < p := by rw [hnu]; exact pairL_bd (by omega)
  have hib : 0 ≤ iv ∧ iv < p := by rw [hiv]; exact invN_bd (by omega)
  have hpi : 0 ≤ pv * iv ∧ pv * iv ≤ 144 := ⟨Int.mul_nonneg hpb2.1 hib.1, Int.le_trans (Int.mul_le_mul (show pv ≤ 12 by omega) (show iv ≤ 12 by omega) hib.1 (by omega)) (by omega)⟩
  obtain ⟨m1, hm1⟩ : ∃ x, x = -2 * pv := ⟨_, rfl⟩
  obtain ⟨m2, hm2⟩ : ∃ x, x = m1 * iv := ⟨_, rfl⟩
  have hm2b : m2 = -2 * (pv * iv) := by rw [hm2, hm1, Int.mul_assoc]
  have HM1 := Lib.hid (show IntKind.i64.wrap (-2 * pv) = m1 by rw [hm1]; exact IntWalk.i64_in _ (by omega))
  have HM2 := Lib.hid (show IntKind.i64.wrap (m1 * iv) = m2 by rw [← hm2]; exact IntWalk.i64_in _ (by omega))
  have HK := Lib.hid (show m2 = reflK p qs u v d by rw [hm2, hm1, hpv, hiv, hnu]; rfl)
  have hm2c : -1000 ≤ m2 ∧ m2 ≤ 1000 := by omega
  have HPV := Lib.hid hpv
  have HNU := Lib.hid hnu
  have HIV := Lib.hid hiv
  clear hq hqb hu hgu hv hgv hpv hnu hiv hpi hm1 hm2 hm2b
  go_enter Try.func48, Try.ntmps48
  go_wp2_with (fail)
  have HS0 := Lib.hid ((ext_drew _).cell (show (w.alloc (.cells #[.int .i64 p, .slice a d cap] 26)).cell? ⟨w.heap.size, 0, none⟩ = some (.int .i64 p) by simp))
  have HS1 := Lib.hid ((ext_drew _).cell (show (w.alloc (.cells #[.int .i64 p, .slice a d cap] 26)).cell? ⟨w.heap.size, 1, none⟩ = some (.slice a d cap) by simp))
  have GW := Lib.hid ((ext_alloc w (.cells #[.int .i64 p, .slice a d cap] 26)).trans (ext_drew _))
  refine wp_region_lex [(1, .val (.int .i64 p)), (7, .val (.int .i64 pv)), (10, .val (.int .i64 p)), (13, .val (.int .i64 nu)), (14, .val (.int .i64 iv)), (16, .ownS w.heap.size d (plusL p v u m2 d))] (by kernel_rfl) (by kernel_rfl) ?_
  (refine LexW.pure (v := ?_) rfl rfl (fun w1 he => ?_) ?_; rotate_left; ( have e1 := he.cell HS0.out; have e2 := he.cell HS1.out; have m1e := HM1.out; have m2e := HM2.out; go_simp; rfl); simp only [Act.put, List.setIfInBounds_toArray, List.set_cons_zero, List.set_cons_succ])
  (refine LexW.call (f := ?_) (args := ?_) rfl rfl (fun w1 => ?_) (fun w1 he hdep => ?_) ?_; rotate_left 2; (go_simp; refine ⟨?_, ?_⟩ <;> rfl); ( exact c_field p _ w1); simp only [Act.put, List.setIfInBounds_toArray, List.set_cons_zero, List.set_cons_succ])
  (refine LexW.pure (v := ?_) rfl rfl (fun w1 he => ?_) ?_; rotate_left; ( have e1 := he.cell HS0.out; have e2 := he.cell HS1.out; have m1e := HM1.out; have m2e := HM2.out; go_simp; rfl); simp only [Act.put, List.setIfInBounds_toArray, List.set_cons_zero, List.set_cons_succ])
  (refine LexW.pure (v := ?_) rfl rfl (fun w1 he => ?_) ?_; rotate_left; ( have e1 := he.cell HS0.out; have e2 := he.cell HS1.out; have m1e := HM1.out; have m2e := HM2.out; go_simp; rfl); simp only [Act.put, List.setIfInBounds_toArray, List.set_cons_zero, List.set_cons_succ])
  (refine LexW.pure (v := ?_) rfl rfl (fun w1 he => ?_) ?_; rotate_left; ( have e1 := he.cell HS0.out; have e2 := he.cell HS1.out; have m1e := HM1.out; have m2e := HM2.out; go_simp; rfl); simp only [Act.put, List.setIfInBounds_toArray, List.set_cons_zero, List.set_cons_succ])
  (refine LexW.pure (v := ?_) rfl rfl (fun w1 he => ?_) ?_; rotate_left; ( have e1 := he.cell HS0.out; have e2 := he.cell HS1.out; have m1e := HM1.out; have m2e := HM2.out; go_simp; rfl); simp only [Act.put, List.setIfInBounds_toArray, List.set_cons_zero, List.set_cons_succ])
  (refine LexW.pure (v := ?_) rfl rfl (fun w1 he => ?_) ?_; rotate_left; ( have e1 := he.cell HS0.out; have e2 := he.cell HS1.out; have m1e := HM1.out; have m2e := HM2.out; go_simp; rfl); simp only [Act.put, List.setIfInBounds_toArray, List.set_cons_zero, List.set_cons_succ])
  (refine LexW.call (f := ?_) (args := ?_) rfl rfl (fun w1 => ?_) (fun w1 he hdep => ?_) ?_; rotate_left 2; (go_simp; refine ⟨?_, ?_⟩ <;> rfl); ( rw [HPV.out]; exact c_pair p a d cap qs au cu u av cv v w1 (by omega) (by omega) hd (HQ.out.ext (GW.out.trans he)) HQB.out (HU.out.ext (GW.out.trans he)) HGU.out (HV.out.ext (GW.out.trans he)) HGV.out); simp only [Act.put, List.setIfInBounds_toArray, List.set_cons_zero, List.set_cons_succ])
  (refine LexW.pure (v := ?_) rfl rfl (fun w1 he => ?_) ?_; rotate_left; ( have e1 := he.cell HS0.out; have e2 := he.cell HS1.out; have m1e := HM1.out; have m2e := HM2.out; go_simp; rfl); simp only [Act.put, List.setIfInBounds_toArray, List.set_cons_zero, List.set_cons_succ])
  (refine LexW.pure (v := ?_) rfl rfl (fun w1 he => ?_) ?_; rotate_left; ( have e1 := he.cell HS0.out; have e2 := he.cell HS1.out; have m1e := HM1.out; have m2e := HM2.out; go_simp; rfl); simp only [Act.put, List.setIfInBounds_toArray, List.set_cons_zero, List.set_cons_succ])
  (refine LexW.call (f := ?_) (args := ?_) rfl rfl (fun w1 => ?_) (fun w1 he hdep => ?_) ?_; rotate_left 2; (go_simp; refine ⟨?_, ?_⟩ <;> rfl); ( exact c_field p _ w1); simp only [Act.put, List.setIfInBounds_toArray, List.set_cons_zero, List.set_cons_succ])
  (refine LexW.pure (v := ?_) rfl rfl (fun w1 he => ?_) ?_; rotate_left; ( have e1 := he.cell HS0.out; have e2 := he.cell HS1.out; have m1e := HM1.out; have m2e := HM2.out; go_simp; rfl); simp only [Act.put, List.setIfInBounds_toArray, List.set_cons_zero, List.set_cons_succ])
  (refine LexW.pure (v := ?_) rfl rfl (fun w1 he => ?_) ?_; rotate_left; ( have e1 := he.cell HS0.out; have e2 := he.cell HS1.out; have m1e := HM1.out; have m2e := HM2.out; go_simp; rfl); simp only [Act.put, List.setIfInBounds_toArray, List.set_cons_zero, List.set_cons_succ])
  (refine LexW.call (f := ?_) (args := ?_) rfl rfl (fun w1 => ?_) (fun w1 he hdep => ?_) ?_; rotate_left 2; (go_simp; refine ⟨?_, ?_⟩ <;> rfl); ( rw [HNU.out]; exact c_norm p a d cap qs au cu u w1 (by omega) (by omega) hd (HQ.out.ext (GW.out.trans he)) HQB.out (HU.out.ext (GW.out.trans he)) HGU.out); simp only [Act.put, List.setIfInBounds_toArray, List.set_cons_zero, List.set_cons_succ])
  (refine LexW.call (f := ?_) (args := ?_) rfl rfl (fun w1 => ?_) (fun w1 he hdep => ?_) ?_; rotate_left 2; (go_simp; refine ⟨?_, ?_⟩ <;> rfl); ( rw [HIV.out]; exact c_inv p nu w1 (by omega) (by omega) (by omega) (by omega)); simp only [Act.put, List.setIfInBounds_toArray, List.set_cons_zero, List.set_cons_succ])
  (refine LexW.pure (v := ?_) rfl rfl (fun w1 he => ?_) ?_; rotate_left; ( have e1 := he.cell HS0.out; have e2 := he.cell HS1.out; have m1e := HM1.out; have m2e := HM2.out; go_simp; rfl); simp only [Act.put, List.setIfInBounds_toArray, List.set_cons_zero, List.set_cons_succ])
  (refine LexW.callR (f := ?_) (args := ?_) rfl rfl (fun w1 => ?_) (fun w1 he hdep => ?_) (fun v hv => ?_); rotate_left 2; (go_simp; refine ⟨?_, ?_⟩ <;> rfl); ( refine (c_plus p _ _ d _ _ v u m2 w1 (by omega) (by omega) (by omega) (by omega) (HV.out.ext (GW.out.trans he)) (HU.out.ext (GW.out.trans he)) HGV.out HGU.out).mono ?_; rintro e w2 ⟨g, rc, rfl, ho, g2⟩; exact ⟨_, rfl, g2, g, rc, rfl, ho.mono (Nat.le_trans GW.out.size he.size)⟩); simp only [Act.put, List.setIfInBounds_toArray, List.set_cons_zero, List.set_cons_succ])
  obtain ⟨_, g23, c23, rfl, _⟩ := hv
  (refine LexW.pure (v := ?_) rfl rfl (fun w1 he => ?_) ?_; rotate_left; ( have e1 := he.cell HS0.out; have e2 := he.cell HS1.out; have m1e := HM1.out; have m2e := HM2.out; go_simp; rfl); simp only [Act.put, List.setIfInBounds_toArray, List.set_cons_zero, List.set_cons_succ])
  refine LexW.nil (fun w3 he hkn => ?_)
  obtain ⟨_, _, q23, r23⟩ : (SPred.ownS w.heap.size d (plusL p v u m2 d)).holds (.slice (some ⟨g23, 0, none⟩) d c23) w3 := hkn (16, _) (by simp)
  cases q23
  have R23 := Lib.hid r23
  have HE := Lib.hid (GW.out.trans he)
  clear he hkn r23
  go_wp2_with (fail)
  go_ret
  exact ⟨_, _, rfl, by rw [reflL, ← HK.out]; exact R23.out, HE.out⟩
end Go.Proofs.Ytcocbainookkcaa
