/-
  Contracts and plain laws, part 9: SphP, DrawV, DrawP, Draw18, FloatE, Draw18B, Law9, Read, ReadB.
  No condition.
-/
import Derived.Test.YtcocbainookkcaaPart8
import Derived.Test.YtcocbainookkcaaPart5
import Derived.Test.YtcocbainookkcaaPart3
import Derived.Test.YtcocbainookkcaaPart4
import Derived.Test.YtcocbainookkcaaPart2
import Derived.Test.YtcocbainookkcaaPart0
import Derived.ProofKit
import Derived.OpenShut
import Derived.ShutString
import Derived.ChangeOld
import Derived.Below
import Derived.Lib.SmallJoins
/-
  Spheres, distances and places, in plain numbers.
  No condition. No program in sight.
-/
namespace Go.Proofs.Ytcocbainookkcaa
set_option maxRecDepth 100000
open Go.RowKit

/-- Equal but for a multiple of p. -/
def cg (p a b : Int) : Prop := ∃ s, a = b + p * s
theorem cg.refl (p a : Int) : cg p a a := ⟨0, by omega⟩
theorem cg.symm {p a b : Int} (h : cg p a b) : cg p b a := by obtain ⟨s, hs⟩ := h; exact ⟨-s, by grind⟩
theorem cg.trans {p a b c : Int} (h : cg p a b) (k : cg p b c) : cg p a c := by obtain ⟨s, hs⟩ := h; obtain ⟨t, ht⟩ := k; exact ⟨s + t, by grind⟩
theorem cg.add {p a b c d : Int} (h : cg p a b) (k : cg p c d) : cg p (a + c) (b + d) := by obtain ⟨s, hs⟩ := h; obtain ⟨t, ht⟩ := k; exact ⟨s + t, by grind⟩
theorem cg.sub {p a b c d : Int} (h : cg p a b) (k : cg p c d) : cg p (a - c) (b - d) := by obtain ⟨s, hs⟩ := h; obtain ⟨t, ht⟩ := k; exact ⟨s - t, by grind⟩
theorem cg.mul {p a b c d : Int} (h : cg p a b) (k : cg p c d) : cg p (a * c) (b * d) := by obtain ⟨s, hs⟩ := h; obtain ⟨t, ht⟩ := k; exact ⟨s * d + b * t + p * (s * t), by grind⟩
theorem cg.emod {p a b : Int} (h : cg p a b) : a % p = b % p := emod_add h
theorem cg_emod (p a : Int) : cg p (a % p) a := emod_ex p a
theorem cg_of {p a b : Int} (h : a % p = b % p) : cg p a b := ((cg_emod p a).symm.trans (by rw [h]; exact cg.refl _ _)).trans (cg_emod p b)
theorem cg_small {p a b : Int} (h : cg p a b) (ha : 0 ≤ a) (ha2 : a < p) (hb : 0 ≤ b) (hb2 : b < p) : a = b := by
  have := h.emod
  rwa [Int.emod_eq_of_lt ha ha2, Int.emod_eq_of_lt hb hb2] at this
theorem cg_zero {p a : Int} (h : cg p a 0) (ha : 0 ≤ a) (ha2 : a < p) : a = 0 := cg_small h ha ha2 (Int.le_refl _) (by omega)
theorem cg_half {p : Int} (hp : primeB p = true) : cg p (2 * invN p 2) 1 := half_spec hp
theorem cg_inv {p a : Int} (hp : primeB p = true) (h0 : 0 < a) (h1 : a < p) : cg p (a * invN p a) 1 := by
  have hb := prime_bd hp
  have := (inv_spec hp h0 h1).2.1
  exact cg_of (by rw [this, Int.emod_eq_of_lt (by omega) (by omega)])
/-- A factor with an inverse is taken off. -/
theorem cg_cancel {p a b c : Int} (hp : primeB p = true) (h0 : 0 < c) (h1 : c < p) (h : cg p (c * a) (c * b)) : cg p a b := by
  have hi := cg_inv hp h0 h1
  obtain ⟨s, hs⟩ := hi
  obtain ⟨t, ht⟩ := h
  exact ⟨invN p c * t - s * (a - b), by grind⟩
theorem cg_two {p a b : Int} (hp : primeB p = true) (h : cg p (2 * a) (2 * b)) : cg p a b := by
  have hb := prime_bd hp
  exact cg_cancel hp (by omega) (by omega) h

theorem pz_comm (Q x y : List Int) : pairZ Q x y = pairZ Q y x := by rw [quad_pairZ, quad_pairZ, quad_comm]
theorem pl_pz {p : Int} {Q x y : List Int} {n : Nat} (h : Q.length = n) : pairL p Q x y n = pairZ Q x y % p := by subst h; rw [pair_quad, quad_pairZ]
theorem pl_cg {p : Int} {Q x y : List Int} {n : Nat} (h : Q.length = n) : cg p (pairL p Q x y n) (pairZ Q x y) := by rw [pl_pz h]; exact cg_emod _ _
theorem sum_cg {p : Int} {f g : Nat → Int} : ∀ n, (∀ i, i < n → cg p (f i) (g i)) → cg p (sumN n f) (sumN n g)
  | 0, _ => cg.refl _ _
  | n + 1, h => (sum_cg n fun i hi => h i (by omega)).add (h n (by omega))
theorem pz_congr {p : Int} {Q x x' y y' : List Int} (hx : ∀ i, i < Q.length → cg p (nth x i) (nth x' i)) (hy : ∀ i, i < Q.length → cg p (nth y i) (nth y' i)) : cg p (pairZ Q x y) (pairZ Q x' y') :=
  sum_cg _ fun i hi => ((hx i hi).mul (hy i hi)).mul (cg.refl _ _)
theorem pz_plus {p k : Int} {Q x y z : List Int} {n : Nat} (h : Q.length = n) : cg p (pairZ Q (plusL p x y k n) z) (pairZ Q x z + k * pairZ Q y z) := by
  subst h
  have e : pairZ Q x z + k * pairZ Q y z = sumN Q.length fun i => (nth x i + k * nth y i) * nth z i * nth Q i := by
    unfold pairZ
    rw [← sumN_mul, ← sumN_add]
    exact sumN_congr fun i _ => by grind
  rw [e]
  refine sum_cg _ fun i hi => ((cg.mul ?_ (cg.refl _ _)).mul (cg.refl _ _))
  rw [plusL_nth hi]
  exact cg_emod _ _
theorem pz_scale {p k : Int} {Q x z : List Int} {n : Nat} (h : Q.length = n) : cg p (pairZ Q (scaleL p x k n) z) (k * pairZ Q x z) := by
  subst h
  have e : k * pairZ Q x z = sumN Q.length fun i => (nth x i * k) * nth z i * nth Q i := by
    unfold pairZ
    rw [← sumN_mul]
    exact sumN_congr fun i _ => by grind
  rw [e]
  refine sum_cg _ fun i hi => ((cg.mul ?_ (cg.refl _ _)).mul (cg.refl _ _))
  rw [scaleL_nth hi]
  exact cg_emod _ _
theorem plus_cg {p k : Int} {x y : List Int} {n i : Nat} (h : i < n) : cg p (nth (plusL p x y k n) i) (nth x i + k * nth y i) := by rw [plusL_nth h]; exact cg_emod _ _
theorem scale_cg {p k : Int} {x : List Int} {n i : Nat} (h : i < n) : cg p (nth (scaleL p x k n) i) (nth x i * k) := by rw [scaleL_nth h]; exact cg_emod _ _
theorem good_eq {p : Int} {n : Nat} {x y : List Int} (hx : Good p n x) (hy : Good p n y) (h : ∀ i, i < n → cg p (nth x i) (nth y i)) : x = y :=
  ext_nth (by rw [hx.1, hy.1]) fun i hi => by
    rw [hx.1] at hi
    exact cg_small (h i hi) (hx.2 i hi).1 (hx.2 i hi).2 (hy.2 i hi).1 (hy.2 i hi).2

section
variable {p : Int} {qs : List Int}
theorem inf_infc : cg p (pairZ (extL p qs) (infL qs.length) (infL qs.length)) 0 := ⟨1, by rw [inf_inf]; omega⟩
theorem two_ptQ {v : List Int} (hp : primeB p = true) : cg p (2 * ptQ p qs v) (pairZ qs v v) := by
  have h1 : cg p (ptQ p qs v) (pairZ qs v v * invN p 2) := (cg_emod _ _).trans ((pl_cg rfl).mul (cg.refl _ _))
  obtain ⟨s, hs⟩ := h1
  obtain ⟨t, ht⟩ := cg_half hp
  exact ⟨2 * s + pairZ qs v v * t, by grind⟩
/-- What point vectors have as product. -/
theorem pt_pt {v w : List Int} (hp : primeB p = true) (hv : v.length = qs.length) (hw : w.length = qs.length) : cg p (pairZ (extL p qs) (pointL p qs v) (pointL p qs w)) (pairZ qs v w - ptQ p qs v - ptQ p qs w) := by
  rw [pairZ_ext]
  obtain ⟨a, ha⟩ := point_nth (p := p) (qs := qs) (v := v) (i := qs.length) hv (by omega)
  obtain ⟨b, hb⟩ := point_nth (p := p) (qs := qs) (v := v) (i := qs.length + 1) hv (by omega)
  obtain ⟨a', ha'⟩ := point_nth (p := p) (qs := qs) (v := w) (i := qs.length) hw (by omega)
  obtain ⟨b', hb'⟩ := point_nth (p := p) (qs := qs) (v := w) (i := qs.length + 1) hw (by omega)
  rw [if_neg (by omega), if_pos rfl] at ha ha'
  rw [if_neg (by omega), if_neg (by omega)] at hb hb'
  have h1 : cg p (sumN qs.length fun i => nth (pointL p qs v) i * nth (pointL p qs w) i * nth qs i) (pairZ qs v w) :=
    sum_cg _ fun i hi => by
      obtain ⟨s, hs⟩ := point_nth (p := p) (qs := qs) (v := v) (i := i) hv (by omega)
      obtain ⟨t, ht⟩ := point_nth (p := p) (qs := qs) (v := w) (i := i) hw (by omega)
      rw [if_pos hi] at hs ht
      exact (cg.mul ⟨s, hs⟩ ⟨t, ht⟩).mul (cg.refl _ _)
  have h2 : cg p (nth (pointL p qs v) qs.length * nth (pointL p qs w) qs.length) ((ptQ p qs v - invN p 2) * (ptQ p qs w - invN p 2)) := cg.mul ⟨a, ha⟩ ⟨a', ha'⟩
  have h3 : cg p (nth (pointL p qs v) (qs.length + 1) * nth (pointL p qs w) (qs.length + 1) * (p - 1)) ((ptQ p qs v + invN p 2) * (ptQ p qs w + invN p 2) * (-1)) := (cg.mul ⟨b, hb⟩ ⟨b', hb'⟩).mul ⟨1, by omega⟩
  refine ((h1.add h2).add h3).trans ?_
  obtain ⟨t, ht⟩ := cg_half hp
  exact ⟨-(t * (ptQ p qs v + ptQ p qs w)), by grind⟩
theorem inf_pt {v : List Int} (hp : primeB p = true) (hv : v.length = qs.length) : cg p (pairZ (extL p qs) (infL qs.length) (pointL p qs v)) (-1) := inf_point hp hv
theorem pt_inf {v : List Int} (hp : primeB p = true) (hv : v.length = qs.length) : cg p (pairZ (extL p qs) (pointL p qs v) (infL qs.length)) (-1) := by rw [pz_comm]; exact inf_pt hp hv
theorem pt_null {v : List Int} (hp : primeB p = true) (hv : v.length = qs.length) : cg p (pairZ (extL p qs) (pointL p qs v) (pointL p qs v)) 0 := by
  refine (pt_pt hp hv hv).trans ?_
  obtain ⟨s, hs⟩ := two_ptQ (qs := qs) (v := v) hp
  exact ⟨-s, by grind⟩
/-- A null vector with this product with infinity is a point vector. -/
theorem null_point {z : List Int} (hp : primeB p = true) (hz : Good p (qs.length + 2) z) (h0 : cg p (pairZ (extL p qs) z z) 0) (h1 : cg p (pairZ (extL p qs) z (infL qs.length)) (-1)) : z = pointL p qs (z.take qs.length) := by
  have hb := prime_bd hp
  have hvl : (z.take qs.length).length = qs.length := by rw [List.length_take, hz.1]; omega
  refine good_eq hz (pointL_good (by omega) rfl) fun i hi => ?_
  obtain ⟨s, hs⟩ := point_nth (p := p) (qs := qs) (v := z.take qs.length) (i := i) hvl hi
  have hA : cg p (nth z (qs.length + 1)) (nth z qs.length + 1) := by
    rw [pairZ_ext, sumN_zero fun i hi => by rw [inf_nth, if_pos hi]; simp, inf_nth, inf_nth, if_neg (by omega), if_pos rfl, if_neg (by omega), if_neg (by omega), if_pos rfl] at h1
    obtain ⟨t, ht⟩ := h1
    exact ⟨nth z (qs.length + 1) - t, by grind⟩
  have hN : cg p (2 * nth z qs.length + 1) (pairZ qs (z.take qs.length) (z.take qs.length)) := by
    rw [pairZ_ext] at h0
    have e : (sumN qs.length fun i => nth z i * nth z i * nth qs i) = pairZ qs (z.take qs.length) (z.take qs.length) := sumN_congr fun i hi => by rw [tk_nth hi]
    rw [e] at h0
    obtain ⟨t, ht⟩ := h0
    obtain ⟨u, hu⟩ := hA
    rw [hu] at ht
    exact ⟨2 * u * (nth z qs.length + 1) * (p - 1) + p * u * u * (p - 1) + (nth z qs.length + 1) * (nth z qs.length + 1) - t, by grind⟩
  have hQ := two_ptQ (qs := qs) (v := z.take qs.length) hp
  have hH := cg_half hp
  have hd : cg p (nth z qs.length) (ptQ p qs (z.take qs.length) - invN p 2) := by
    refine cg_two hp ?_
    obtain ⟨a, ha⟩ := hN
    obtain ⟨b, hb⟩ := hQ
    obtain ⟨c, hc⟩ := hH
    exact ⟨a - b + c, by grind⟩
  refine cg.trans ?_ (cg.symm ⟨s, hs⟩)
  by_cases h : i < qs.length
  · rw [if_pos h, tk_nth h]; exact cg.refl _ _
  · rw [if_neg h]
    by_cases h2 : i = qs.length
    · rw [if_pos h2, h2]; exact hd
    · rw [if_neg h2, show i = qs.length + 1 by omega]
      obtain ⟨a, ha⟩ := hA
      obtain ⟨b, hb⟩ := hd
      obtain ⟨c, hc⟩ := hH
      exact ⟨a + b - c, by grind⟩

/-! ### Weights and places -/
theorem wgt_cg {x : List Int} : cg p (wgtI p qs x) (pairZ (extL p qs) x (infL qs.length)) := pl_cg (extL_len p qs)
theorem pt_wgt {v : List Int} (hp : primeB p = true) (hv : v.length = qs.length) : wgtI p qs (pointL p qs v) = p - 1 := by
  have hb := prime_bd hp
  have h := wgt_cg (p := p) (qs := qs) (x := pointL p qs v)
  have := wgtI_bd (p := p) (qs := qs) (x := pointL p qs v) (by omega)
  exact cg_small (h.trans ((pt_inf hp hv).trans ⟨-1, by omega⟩)) this.1 this.2 (by omega) (by omega)
theorem wgtN_cg {x : List Int} : cg p (wgtN p qs x) (-(pairZ (extL p qs) x (infL qs.length))) := by
  refine (cg_emod _ _).trans ?_
  obtain ⟨s, hs⟩ := wgt_cg (p := p) (qs := qs) (x := x)
  exact ⟨-s, by rw [hs]; grind⟩
theorem wgtN_pos {x : List Int} (hp : 1 ≤ p) (h : wgtI p qs x ≠ 0) : 0 < wgtN p qs x := by
  have h1 := wgtN_bd (p := p) (qs := qs) (x := x) hp
  have h2 := wgtI_bd (p := p) (qs := qs) (x := x) hp
  rcases Int.lt_or_eq_of_le h1.1 with h3 | h3
  · exact h3
  · exfalso
    have : cg p (wgtI p qs x) 0 := by
      have a := wgtN_cg (p := p) (qs := qs) (x := x)
      have b := wgt_cg (p := p) (qs := qs) (x := x)
      rw [← h3] at a
      obtain ⟨s, hs⟩ := a
      obtain ⟨t, ht⟩ := b
      exact ⟨s + t, by grind⟩
    exact h (cg_zero this h2.1 h2.2)
/-- The weight of what has been divided by the weight. -/
theorem fin_cg {x : List Int} {z : List Int} : cg p (pairZ (extL p qs) (finL p qs x) z) (invN p (wgtN p qs x) * pairZ (extL p qs) x z) := pz_scale (extL_len p qs)
theorem fin_inf {x : List Int} (hp : primeB p = true) (h : wgtI p qs x ≠ 0) : cg p (pairZ (extL p qs) (finL p qs x) (infL qs.length)) (-1) := by
  have hb := prime_bd hp
  have hi := cg_inv hp (wgtN_pos (by omega) h) (wgtN_bd (by omega)).2
  obtain ⟨s, hs⟩ := fin_cg (p := p) (qs := qs) (x := x) (z := infL qs.length)
  obtain ⟨t, ht⟩ := wgtN_cg (p := p) (qs := qs) (x := x)
  obtain ⟨u, hu⟩ := hi
  exact ⟨s - u + invN p (wgtN p qs x) * t, by grind⟩
theorem fin_good {x : List Int} (hp : 1 ≤ p) : Good p (qs.length + 2) (finL p qs x) := scale_good hp
/-- A null vector, divided by its weight, is the point vector of its place. -/
theorem fin_point {x : List Int} (hp : primeB p = true) (h : wgtI p qs x ≠ 0) (h0 : cg p (pairZ (extL p qs) x x) 0) : finL p qs x = pointL p qs (plcL p qs x) := by
  have hb := prime_bd hp
  refine null_point hp (fin_good (by omega)) ?_ (fin_inf hp h)
  refine fin_cg.trans ?_
  rw [pz_comm]
  obtain ⟨s, hs⟩ := fin_cg (p := p) (qs := qs) (x := x) (z := x)
  obtain ⟨t, ht⟩ := h0
  exact ⟨invN p (wgtN p qs x) * (s + invN p (wgtN p qs x) * t), by grind⟩
theorem point_inj_take {v : List Int} (hp : 1 ≤ p) (hv : Good p qs.length v) : (pointL p qs v).take qs.length = v := by
  refine good_eq (p := p) (n := qs.length) ⟨by rw [List.length_take, point_len]; omega, fun i hi => by rw [tk_nth hi]; exact (pointL_good hp rfl).2 i (by omega)⟩ hv fun i hi => ?_
  rw [tk_nth hi]
  obtain ⟨s, hs⟩ := point_nth (p := p) (qs := qs) (v := v) (i := i) hv.1 (by omega)
  rw [if_pos hi] at hs
  exact ⟨s, hs⟩
/-- What has the weight of k divided by k. -/
theorem fin_scale {x y : List Int} {k : Int} (hp : primeB p = true) (hk : 0 < k) (hk2 : k < p) (hx : ∀ i, i < qs.length + 2 → cg p (nth x i) (k * nth y i)) (hy : cg p (pairZ (extL p qs) y (infL qs.length)) (-1)) (hg : Good p (qs.length + 2) y) : wgtI p qs x ≠ 0 ∧ finL p qs x = y := by
  have hb := prime_bd hp
  have hw : cg p (pairZ (extL p qs) x (infL qs.length)) (-k) := by
    have h1 : cg p (pairZ (extL p qs) x (infL qs.length)) (pairZ (extL p qs) (scaleL p y k (qs.length + 2)) (infL qs.length)) :=
      pz_congr (fun i hi => by rw [extL_len] at hi; exact (hx i hi).trans ((scale_cg hi).symm.trans (cg.refl _ _) |>.symm.trans (by rw [Int.mul_comm]; exact cg.refl _ _) |>.symm)) (fun i _ => cg.refl _ _)
    refine h1.trans ((pz_scale (extL_len p qs)).trans ?_)
    obtain ⟨s, hs⟩ := hy
    exact ⟨k * s, by grind⟩
  have hne : wgtI p qs x ≠ 0 := fun h0 => by
    have h1 := (wgt_cg (p := p) (qs := qs) (x := x)).trans hw
    rw [h0] at h1
    obtain ⟨s, hs⟩ := h1
    have : cg p k 0 := ⟨s, by grind⟩
    have := cg_zero this (by omega) hk2
    omega
  have hN : wgtN p qs x = k := by
    have h1 := wgtN_bd (p := p) (qs := qs) (x := x) (by omega)
    refine cg_small (wgtN_cg.trans ?_) h1.1 h1.2 (by omega) hk2
    obtain ⟨s, hs⟩ := hw
    exact ⟨-s, by grind⟩
  refine ⟨hne, good_eq (fin_good (by omega)) hg fun i hi => ?_⟩
  unfold finL
  rw [hN]
  refine (scale_cg hi).trans ?_
  obtain ⟨s, hs⟩ := hx i hi
  obtain ⟨t, ht⟩ := cg_inv hp hk hk2
  exact ⟨nth y i * t + s * invN p k, by grind⟩
theorem point_place {v : List Int} (hp : primeB p = true) (hv : Good p qs.length v) : wgtI p qs (pointL p qs v) ≠ 0 ∧ plcL p qs (pointL p qs v) = v := by
  have hb := prime_bd hp
  obtain ⟨h1, h2⟩ := fin_scale (p := p) (qs := qs) (x := pointL p qs v) (y := pointL p qs v) (k := 1) hp (by omega) (by omega) (fun i _ => ⟨0, by omega⟩) (pt_inf hp hv.1) (pointL_good (by omega) rfl)
  refine ⟨h1, ?_⟩
  unfold plcL
  rw [h2]
  exact point_inj_take (by omega) hv

/-! ### Distances -/
theorem pex_cg {x v : List Int} : cg p (pexZ p qs x v) (pairZ (extL p qs) x (pointL p qs v)) := pl_cg (extL_len p qs)
theorem dist_cg {v w : List Int} (hp : primeB p = true) (hv : v.length = qs.length) (hw : w.length = qs.length) : cg p (distN p qs v w) (pairZ qs v v + pairZ qs w w - 2 * pairZ qs v w) := by
  refine (cg_emod _ _).trans ?_
  obtain ⟨s, hs⟩ := pex_cg (p := p) (qs := qs) (x := pointL p qs v) (v := w)
  obtain ⟨t, ht⟩ := pt_pt hp hv hw
  obtain ⟨a, ha⟩ := two_ptQ (qs := qs) (v := v) hp
  obtain ⟨b, hb⟩ := two_ptQ (qs := qs) (v := w) hp
  exact ⟨-2 * s - 2 * t + a + b, by grind⟩
/-- Distances are norms of differences. -/
theorem dist_norm {v w : List Int} (hp : primeB p = true) (hv : v.length = qs.length) (hw : w.length = qs.length) : distN p qs v w = pairL p qs (plusL p v (scaleL p w (-1) qs.length) 1 qs.length) (plusL p v (scaleL p w (-1) qs.length) 1 qs.length) qs.length := by
  have hb := prime_bd hp
  have hbd : 0 ≤ distN p qs v w ∧ distN p qs v w < p := ⟨Int.emod_nonneg _ (by omega), Int.emod_lt_of_pos _ (by omega)⟩
  have hpb := pairL_bd (p := p) (qs := qs) (v := plusL p v (scaleL p w (-1) qs.length) 1 qs.length) (w := plusL p v (scaleL p w (-1) qs.length) 1 qs.length) (n := qs.length) (by omega)
  refine cg_small ((dist_cg hp hv hw).trans (cg.symm ((pl_cg rfl).trans ?_))) hbd.1 hbd.2 hpb.1 hpb.2
  obtain ⟨D, hD⟩ : ∃ D, D = plusL p v (scaleL p w (-1) qs.length) 1 qs.length := ⟨_, rfl⟩
  rw [← hD]
  have h1 : ∀ z, cg p (pairZ qs D z) (pairZ qs v z - pairZ qs w z) := fun z => by
    rw [hD]
    refine (pz_plus rfl).trans ?_
    obtain ⟨s, hs⟩ := pz_scale (p := p) (k := -1) (Q := qs) (x := w) (z := z) rfl
    exact ⟨s, by grind⟩
  obtain ⟨a, ha⟩ := h1 D
  obtain ⟨b, hb⟩ := h1 v
  obtain ⟨c, hc⟩ := h1 w
  rw [pz_comm] at hb hc
  have hvw := pz_comm qs v w
  exact ⟨a + b - c, by grind⟩

/-! ### Spheres -/
theorem hr_cg {r : Int} (hp : primeB p = true) : cg p (2 * (r * invN p 2 % p)) r := by
  obtain ⟨s, hs⟩ := cg_emod p (r * invN p 2)
  obtain ⟨t, ht⟩ := cg_half hp
  exact ⟨2 * s + r * t, by grind⟩
theorem ball_cg {c z : List Int} {r : Int} : cg p (pairZ (extL p qs) (ballL p qs c r) z) (pairZ (extL p qs) (pointL p qs c) z - r * invN p 2 % p * pairZ (extL p qs) (infL qs.length) z) := by
  refine (pz_plus (extL_len p qs)).trans ⟨0, by grind⟩
theorem ball_inf {c : List Int} {r : Int} (hp : primeB p = true) (hc : c.length = qs.length) : cg p (pairZ (extL p qs) (ballL p qs c r) (infL qs.length)) (-1) := by
  refine ball_cg.trans ?_
  obtain ⟨s, hs⟩ := pt_inf hp hc
  obtain ⟨t, ht⟩ := inf_infc (p := p) (qs := qs)
  exact ⟨s - r * invN p 2 % p * t, by grind⟩
/-- The sphere vector, some multiple of it: centre and number. -/
theorem ball_of {c : List Int} {r k : Int} (hp : primeB p = true) (hc : Good p qs.length c) (hr : 0 ≤ r) (hr2 : r < p) (hk : 0 < k) (hk2 : k < p) :
    wgtI p qs (scaleL p (ballL p qs c r) k (qs.length + 2)) ≠ 0 ∧ plcL p qs (scaleL p (ballL p qs c r) k (qs.length + 2)) = c ∧ sphN p qs (scaleL p (ballL p qs c r) k (qs.length + 2)) = r := by
  have hb := prime_bd hp
  have hgb : Good p (qs.length + 2) (ballL p qs c r) := ball_good (by omega) rfl
  obtain ⟨h1, h2⟩ := fin_scale (p := p) (qs := qs) (x := scaleL p (ballL p qs c r) k (qs.length + 2)) (y := ballL p qs c r) (k := k) hp hk hk2 (fun i hi => (scale_cg hi).trans ⟨0, by grind⟩) (ball_inf hp hc.1) hgb
  have hpl : plcL p qs (scaleL p (ballL p qs c r) k (qs.length + 2)) = c := by
    unfold plcL
    rw [h2]
    refine good_eq (p := p) (n := qs.length) ⟨by rw [List.length_take, hgb.1]; omega, fun i hi => by rw [tk_nth hi]; exact hgb.2 i (by omega)⟩ hc fun i hi => ?_
    rw [tk_nth hi]
    refine (plus_cg (by omega)).trans ?_
    obtain ⟨s, hs⟩ := point_nth (p := p) (qs := qs) (v := c) (i := i) hc.1 (by omega)
    rw [if_pos hi] at hs
    rw [inf_nth, if_pos hi]
    exact ⟨s, by grind⟩
  refine ⟨h1, hpl, ?_⟩
  unfold sphN
  rw [h2, hpl]
  have hsb : 0 ≤ -2 * (nth (ballL p qs c r) qs.length - nth (pointL p qs c) qs.length) % p ∧ -2 * (nth (ballL p qs c r) qs.length - nth (pointL p qs c) qs.length) % p < p := ⟨Int.emod_nonneg _ (by omega), Int.emod_lt_of_pos _ (by omega)⟩
  refine cg_small ((cg_emod _ _).trans ?_) hsb.1 hsb.2 hr hr2
  obtain ⟨s, hs⟩ := plus_cg (p := p) (k := -(r * invN p 2 % p)) (x := pointL p qs c) (y := infL qs.length) (n := qs.length + 2) (i := qs.length) (by omega)
  rw [inf_nth, if_neg (by omega), if_pos rfl] at hs
  obtain ⟨t, ht⟩ := hr_cg (r := r) hp
  have hs' : nth (ballL p qs c r) qs.length = nth (pointL p qs c) qs.length + -(r * invN p 2 % p) * 1 + p * s := hs
  exact ⟨t - 2 * s, by rw [hs']; grind⟩
/-- A vector is on a sphere exactly if its distance from the centre is the number of the sphere. -/
theorem ball_on {c u : List Int} {r : Int} (hp : primeB p = true) (_hc : c.length = qs.length) (hu : u.length = qs.length) (hr : 0 ≤ r) (hr2 : r < p) : (pexZ p qs (ballL p qs c r) u == 0) = (distN p qs c u == r) := by
  have hb := prime_bd hp
  have hd : 0 ≤ distN p qs c u ∧ distN p qs c u < p := ⟨Int.emod_nonneg _ (by omega), Int.emod_lt_of_pos _ (by omega)⟩
  have hx : 0 ≤ pexZ p qs (ballL p qs c r) u ∧ pexZ p qs (ballL p qs c r) u < p := pairL_bd (by omega)
  have key : cg p (2 * pexZ p qs (ballL p qs c r) u) (r - distN p qs c u) := by
    obtain ⟨s, hs⟩ := pex_cg (p := p) (qs := qs) (x := ballL p qs c r) (v := u)
    obtain ⟨t, ht⟩ := ball_cg (p := p) (qs := qs) (c := c) (r := r) (z := pointL p qs u)
    obtain ⟨a, ha⟩ := inf_pt (qs := qs) (v := u) hp hu
    obtain ⟨b, hb⟩ := hr_cg (r := r) hp
    obtain ⟨e, he⟩ := cg_emod p (-2 * pexZ p qs (pointL p qs c) u)
    have he' : distN p qs c u = -2 * pexZ p qs (pointL p qs c) u + p * e := he
    obtain ⟨f, hf⟩ := pex_cg (p := p) (qs := qs) (x := pointL p qs c) (v := u)
    exact ⟨2 * s + 2 * t - 2 * (r * invN p 2 % p) * a + b + e - 2 * f, by grind⟩
  rw [Bool.eq_iff_iff, beq_iff_eq, beq_iff_eq]
  constructor
  · intro h
    rw [h] at key
    exact cg_small (by obtain ⟨s, hs⟩ := key; exact ⟨s, by grind⟩) hd.1 hd.2 hr hr2
  · intro h
    rw [h, Int.sub_self] at key
    exact cg_zero (cg_two hp (key.trans ⟨0, by omega⟩)) hx.1 hx.2
end
end Go.Proofs.Ytcocbainookkcaa

/-
  Draws of vectors.
  No condition.
-/
namespace Go.Proofs.Ytcocbainookkcaa
set_option maxRecDepth 100000
open Go.RowKit

end Go.Proofs.Ytcocbainookkcaa

/-
  Draws of a space and two lists.
  No condition.
-/
namespace Go.Proofs.Ytcocbainookkcaa
set_option maxRecDepth 100000
open Go.RowKit

/-- A row of the call's own, behind the source. -/
def Chg.SPred.own (S : SrcP) (B M : Nat) (hB : S.g < B) : Chg.SPred (Drw.rel S) :=
  ⟨fun v w => ∃ a m cap xs, v = .slice a m cap ∧ m ≤ M ∧ OwnC B w a m cap xs, fun _ _ _ ⟨a, m, cap, xs, h1, h2, h3⟩ he => ⟨a, m, cap, xs, h1, h2, Drw.own he h3 hB⟩⟩

end Go.Proofs.Ytcocbainookkcaa

/-
  Draws of spaces that can be extended, and of vectors.
  No condition.
-/
namespace Go.Proofs.Ytcocbainookkcaa
set_option maxRecDepth 100000
open Go.RowKit

set_option maxHeartbeats 4000000 in
theorem s_draw18 (S : SrcP) (w : World) (hS : Src S w) :
    Calls Try.prog 67 #[.pointer (some ⟨S.g, 0, none⟩)] w fun e w' => ∃ p a d cap qs, e = .returned (.agg #[.int .i64 p, .slice a d cap]) ∧ 0 ≤ p ∧ p ≤ 17 ∧ d ≤ 7 ∧ OwnC w.heap.size w' a d cap qs ∧ Drw S w w' := by
  have HS := Lib.hid hS
  have hlt := hS.lt
  clear hS
  obtain ⟨W, hW⟩ : ∃ W, W = w.alloc (.cells #[.int .i64 0, .slice none 0 0] 26) := ⟨_, rfl⟩
  have gW : Ext w W := by rw [hW]; exact ext_alloc _ _
  have HZ := Lib.hid (show W.heap.size = w.heap.size + 1 by rw [hW]; simp)
  have HR := Lib.hid (show SpAt W w.heap.size 0 (.slice none 0 0) by rw [hW]; exact ⟨by simp, by simp, by simp, by simp⟩)
  have HW := Lib.hid hW
  have GW := Lib.hid (Drw.of_ext (S := S) gW)
  have hgR : w.heap.size ≠ S.g := by omega
  clear gW hW
  go_enter Try.func67, Try.ntmps67
  go_wp2_with (fail)
  rw [← HW.out]
  refine Calls.mono (s_pick S (w.heap.size + 1) 6 6 [1, 2, 2, 3, 3, 4] _ ((GW.out.alloc _).src HS.out) (by decide) (by decide) (by rw [← HZ.out]; exact rdC_lit W _ [1, 2, 2, 3, 3, 4]) (by omega)) ?_
  rintro e w2 ⟨r, rfl, hr, g2⟩
  obtain ⟨m, rfl, hm1, hm2⟩ : ∃ m : Nat, r = (m : Int) ∧ 1 ≤ m ∧ m ≤ 6 := by
    refine ⟨r.toNat, ?_⟩
    simp only [List.mem_cons, List.not_mem_nil, or_false] at hr
    omega
  have HR2 := Lib.hid ((HR.out.ext (ext_alloc _ _)).drw g2 hgR)
  have G2 := Lib.hid ((GW.out.alloc _).trans g2)
  clear g2 hr HR
  go_wp2_with (fail)
  refine Calls.mono (s_any S m w2 (G2.out.src HS.out) hm1 hm2) ?_
  rintro e w3 ⟨p, a, d, cap, qs, rfl, hpr, hp1, hp2, hd1, hd2, hqb, ho, g3⟩
  obtain ⟨W2, hW2⟩ : ∃ W2, W2 = w3.alloc (.cells #[.int .i64 p, .slice a d cap] 26) := ⟨_, rfl⟩
  obtain ⟨O, hO⟩ : ∃ O, O = w3.heap.size := ⟨_, rfl⟩
  have gW2 : Ext w3 W2 := by rw [hW2]; exact ext_alloc _ _
  have HC := Lib.hid (show SpAt W2 O p (.slice a d cap) by rw [hW2, hO]; exact ⟨by simp, by simp, by simp, by simp⟩)
  have HR3 := Lib.hid ((HR2.out.drw g3 hgR).ext gW2)
  have hwd : w.heap.size + 1 ≤ w2.heap.size := by have := HR2.out.lt; omega
  have HQ := Lib.hid ((ho.mono hwd).ext gW2)
  have G3 := Lib.hid ((G2.out.trans g3).ext gW2)
  have hgO : O ≠ S.g := by rw [hO]; have := g3.size; have := G2.out.size; omega
  have hRO : w.heap.size ≠ O := by rw [hO]; have := g3.size; omega
  have hwO : w.heap.size ≤ O := by rw [hO]; have := g3.size; omega
  go_wp2_with (fail)
  rw [← hW2, ← hO]
  clear hO gW2 ho g3 hW2 HR2 G2
  refine Calls.mono (s_next S 24 W2 (G3.out.src HS.out) (by decide)) ?_
  rintro e w4 ⟨r, rfl, _, g4⟩
  replace HR3 := Lib.hid (HR3.out.drw g4 hgR)
  replace HC := Lib.hid (HC.out.drw g4 hgO)
  replace HQ := Lib.hid (g4.own HQ.out (by omega))
  replace G3 := Lib.hid (G3.out.trans g4)
  clear g4
  by_cases h0 : r = 0
  · subst h0
    go_wp2_with (fail)
    refine Calls.mono (s_spoil3 S w4 (G3.out.src HS.out)) ?_
    rintro e w5 ⟨p2, a2, d2, c2, qs2, rfl, hp20, hp21, hd22, ho2, g5⟩
    have hR5 := HR3.out.drw g5 hgR
    have r0 := hR5.c0
    have r1 := hR5.c1
    have f0 := hR5.f0
    have f1 := hR5.f1
    have hw4 : w.heap.size + 1 ≤ w4.heap.size := by have := HR3.out.lt; omega
    have HO2 := Lib.hid (ho2.mono hw4)
    have G5 := Lib.hid (G3.out.trans g5)
    clear ho2 g5 hR5
    go_wp2_with (fail)
    refine bodyPost_ret (v := .agg #[.int .i64 p2, .slice a2 d2 c2]) (by simp [results, Try.results67, go_sem, r0, r1]) rfl ⟨p2, a2, d2, c2, qs2, rfl, hp20, hp21, hd22, ?_, ?_⟩
    · exact ((HO2.out.other (by simp) _).other (by simp) _).mono (by omega)
    · exact (G5.out.setCell (by simp) _).setCell (by simp) _
  · have hb0 : (r == 0) = false := by simp [h0]
    have r0 := HR3.out.c0
    have r1 := HR3.out.c1
    have f0 := HR3.out.f0
    have f1 := HR3.out.f1
    have o0 := HC.out.c0
    have o1 := HC.out.c1
    go_wp2_with (fail)
    refine bodyPost_ret (v := .agg #[.int .i64 p, .slice a d cap]) (by simp [results, Try.results67, go_sem, r0, r1]) rfl ⟨p, a, d, cap, qs, rfl, by omega, by omega, by omega, ?_, ?_⟩
    · exact ((HQ.out.other (by simp) _).other (by simp) _).mono (by omega)
    · exact (G3.out.setCell (by simp) _).setCell (by simp) _

set_option maxHeartbeats 4000000 in
theorem s_vec18 (S : SrcP) (p : Int) (a : Option Addr) (d cap : Nat) (w : World) (hS : Src S w) (hp0 : 0 ≤ p) (hp : p ≤ 1000000) (hd : d ≤ 100) :
    Calls Try.prog 68 #[.pointer (some ⟨S.g, 0, none⟩), .agg #[.int .i64 p, .slice a d cap]] w fun e w' => ∃ a cap m xs, e = .returned (.slice a m cap) ∧ m ≤ d + 1 ∧ OwnC w.heap.size w' a m cap xs ∧ Drw S w w' := by
  have hlt := hS.lt
  obtain ⟨O, hO⟩ : ∃ O, O = w.heap.size := ⟨_, rfl⟩
  have hgO : O ≠ S.g := by omega
  obtain ⟨W, hW⟩ : ∃ W, W = w.alloc (.cells #[.int .i64 p, .slice a d cap] 26) := ⟨_, rfl⟩
  have gW : Ext w W := by rw [hW]; exact ext_alloc _ _
  have HC := Lib.hid (show SpAt W O p (.slice a d cap) by rw [hW, hO]; exact ⟨by simp, by simp, by simp, by simp⟩)
  have HS := Lib.hid hS
  have GW := Lib.hid (Drw.of_ext (S := S) gW)
  have HZ := Lib.hid (show W.heap.size = w.heap.size + 1 by rw [hW]; simp)
  have hWO : O < W.heap.size := HC.out.lt
  clear gW hS
  have HHO := Lib.hid hO
  go_enter Try.func68, Try.ntmps68
  go_wp2_with (fail)
  rw [← hW]
  rw [← HHO.out]
  clear hW hO
  obtain ⟨W0, hW0⟩ : ∃ W0, W0 = W.alloc (.cells #[] 2) := ⟨_, rfl⟩
  have HE0 := Lib.hid (show Ext W W0 by rw [hW0]; exact ext_alloc _ _)
  have hz : W.heap.size = O + 1 := by have := HZ.out; have := HHO.out; omega
  have HOE := Lib.hid (show OwnC (O + 1) W0 (some ⟨O + 1, 0, none⟩) 0 0 [] by rw [hW0, ← hz]; exact own_empty W)
  rw [← hW0]
  have HL0 := Lib.hid (show O + 1 ≤ W0.heap.size by rw [hW0]; simp; omega)
  clear hW0
  have hSB : S.g < O + 1 := by have := HHO.out; omega
  have HSW := Lib.hid (GW.out.src HS.out)
  have G0 := Lib.hid (Drw.of_ext (S := S) HE0.out)
  have HWB : Hid (w.heap.size ≤ O + 1) := Lib.hid (by have := HHO.out; omega)
  have HBW : Hid (W.heap.size ≤ O + 1) := Lib.hid (by omega)
  clear HE0 HZ hz HS
  go_loopw [5, 6] (fun v i wr => ∃ (k : Nat) (b : Option Addr) (cb : Nat) (xs : List Int), k ≤ d ∧ i = .int .i64 k ∧ v = .slice b k cb ∧ Hid (OwnC (O + 1) wr b k cb xs) ∧ Hid (Drw S W wr) ∧ Hid (O + 1 ≤ wr.heap.size)) (fun _ i _ => d - (intOf i).toNat)
  case atStart => exact ⟨0, _, 0, [], Nat.zero_le _, rfl, rfl, HOE, G0, HL0⟩
  case round =>
    rename World => wr
    obtain ⟨k, b, cb, xs, hk, rfl, rfl, HO, HD, HL⟩ := hrel
    clear G0 HOE HL0
    have c0 := (HC.out.drw HD.out hgO).c0
    have c1 := (HC.out.drw HD.out hgO).c1
    by_cases hkn : k < d
    · have hkd : (k : Int) < (d : Int) := by omega
      go_wp2_with (fail)
      all_goals
        refine Calls.mono (s_next S _ wr (HD.out.src HSW.out) (by omega)) ?_
        rintro e w1 ⟨r, rfl, _, g1⟩
        have HO1 := Lib.hid (g1.own HO.out hSB)
        have HD1 := Lib.hid (HD.out.trans g1)
        have HL1 := Lib.hid (Nat.le_trans HL.out g1.size)
        clear g1 c0 c1
        go_wp2_with (at_builtin; refine wpList_push rfl (.tmp 15) (.tmp 21) rfl rfl rfl (v := r) (HO1.out.ext (ext_alloc _ _)) ?hc ?hn ?hB ?hk)
        case hc => simp
        case hn => omega
        case hB => have := HL1.out; simp; omega
        case hk =>
          intro g' cap' w3 ho3 hg3 he3
          have HO3 := Lib.hid ho3
          have HD3 := Lib.hid ((HD1.out.alloc _).grown hg3 (fun k hk => Nat.le_trans HBW.out (HO1.out.blk k hk)))
          have HL3 := Lib.hid (show O + 1 ≤ w3.heap.size by have h8 := HO3.out.base_of g' rfl; omega)
          clear ho3 hg3 he3
          go_wp2_with (fail)
          go_roundw
          case rel => exact ⟨k + 1, _, cap', _, by omega, by go_num, rfl, HO3, HD3, HL3⟩
          case measure => simp [intOf]; omega
    · obtain rfl : k = d := by omega
      go_wp2_with (fail)
      clear c0 c1
      refine Calls.mono (s_next S 40 wr (HD.out.src HSW.out) (by decide)) ?_
      rintro e w1 ⟨r, rfl, _, g1⟩
      have HO1 := Lib.hid (g1.own HO.out hSB)
      have HD1 := Lib.hid (HD.out.trans g1)
      have HL1 := Lib.hid (Nat.le_trans HL.out g1.size)
      clear g1
      by_cases h0 : r = 0
      · subst h0
        go_wp2_with (at_builtin; refine wpList_push rfl (.tmp 26) (.tmp 27) rfl rfl rfl (v := 0) (HO1.out.ext (ext_alloc _ _)) ?hc ?hn ?hB ?hk)
        case hc => simp
        case hn => omega
        case hB => have := HL1.out; simp; omega
        case hk =>
          intro g' cap' w3 ho3 hg3 he3
          have HO3 := Lib.hid (ho3.mono HWB.out)
          have HD3 := Lib.hid ((HD1.out.alloc _).grown hg3 (fun k hk => Nat.le_trans HBW.out (HO1.out.blk k hk)))
          clear ho3 hg3 he3
          go_wp2_with (fail)
          go_ret
          exact ⟨_, _, k + 1, _, rfl, by omega, HO3.out, GW.out.trans HD3.out⟩
      · have hb0 : (r == 0) = false := by simp [h0]
        go_wp2_with (fail)
        go_ret
        exact ⟨_, _, k, _, rfl, by omega, HO1.out.mono HWB.out, GW.out.trans HD1.out⟩
end Go.Proofs.Ytcocbainookkcaa

/-
  Regions that draw their order, walked by a plan: some operations float (they yield their values at any time while an invariant of the worlds holds), the others come when no other is ready.
  No condition. General over every program.
-/
namespace Go.Proofs.Ytcocbainookkcaa
set_option maxRecDepth 100000
open Go.RowKit

def Region.planB (md : Region.Mode) (ops : Array Oper) : List (Bool × Nat) → Array Bool → Bool
  | [], listed => decide (Region.ready md ops listed = [])
  | (true, i) :: l, listed => (Region.ready md ops listed).contains i && Region.free md ops listed i && Region.planB md ops l (listed.setIfInBounds i true)
  | (false, i) :: l, listed => decide (Region.ready md ops listed = [i]) && Region.planB md ops l (listed.setIfInBounds i true)

section
variable {P : Program} {ops : Array Oper} {md : Region.Mode} {Q : Exit → Act → World → Prop} {I : World → Prop}
variable (P ops Q I) in
/-- The operations by the plan. -/
def PlanW : List (Bool × Nat) → Act → World → Prop
  | [], a, w => I w ∧ Q .normal a w
  | (true, i) :: l, a, w => ∃ o v, ops[i]? = some o ∧ YieldsI P ops I o v a ∧ PlanW l (a.put o.dst v) w
  | (false, i) :: l, a, w => I w ∧ ∃ o, ops[i]? = some o ∧ Region.wanted o (yielded ops a.tmps) = true ∧ o.wp P a w (PlanW l) Q
theorem PlanW.float {i : Nat} {v : Value} {l : List (Bool × Nat)} {a : Act} {w : World} {o : Oper} (t : Option Tmp) (ho : ops[i]? = some o) (ht : o.dst = t) (hw : Region.wanted o (yielded ops a.tmps) = true) (hy : ∀ w, I w → (execOp a.eval o).run P w = .ok (.value v) w) (h : PlanW P ops Q I l (a.put t v) w) : PlanW P ops Q I ((true, i) :: l) a w := ⟨o, v, ho, ⟨hw, hy⟩, by rw [ht]; exact h⟩
theorem PlanW.value {i : Nat} {o : Oper} {l : List (Bool × Nat)} {a : Act} {w w' : World} {v : Value} (t : Option Tmp) (hI : I w) (ho : ops[i]? = some o) (ht : o.dst = t) (hw : Region.wanted o (yielded ops a.tmps) = true) (hr : (execOp a.eval o).run P w = .ok (.value v) w') (h : PlanW P ops Q I l (a.put t v) w') : PlanW P ops Q I ((false, i) :: l) a w :=
  ⟨hI, o, ho, hw, by unfold Oper.wp; rw [hr]; subst ht; exact h⟩
theorem PlanW.skip {i : Nat} {o : Oper} {l : List (Bool × Nat)} {a : Act} {w w' : World} (hI : I w) (ho : ops[i]? = some o) (hw : Region.wanted o (yielded ops a.tmps) = true) (hr : (execOp a.eval o).run P w = .ok .skip w') (h : PlanW P ops Q I l (a.put o.dst undef) w') : PlanW P ops Q I ((false, i) :: l) a w :=
  ⟨hI, o, ho, hw, by unfold Oper.wp; rw [hr]; exact h⟩
theorem PlanW.call {i f : Nat} {args : Array Value} {o : Oper} {l : List (Bool × Nat)} {a : Act} {w : World} {R : Value → World → Prop} (t : Option Tmp) (hI : I w) (ho : ops[i]? = some o) (ht : o.dst = t) (hw : Region.wanted o (yielded ops a.tmps) = true) (hr : (execOp a.eval o).run P w = .ok (.enter f args) w)
    (hc : Calls P f args w fun e w' => ∃ v, e = .returned v ∧ R v w') (h : ∀ v w', R v w' → PlanW P ops Q I l (a.put t v) w') : PlanW P ops Q I ((false, i) :: l) a w :=
  ⟨hI, o, ho, hw, wp_of_wpS (R := R) (by unfold wpS; rw [hr]; exact hc) (by subst ht; exact h)⟩

theorem wpAnyI_of_plan (hsel : Region.noSelect ops = true) (hQ : ∀ c a w, ¬ Q (.panic c) a w) : ∀ (l : List (Bool × Nat)) (listed : Array Bool) (a : Act) (w : World), Region.planB md ops l listed = true → PlanW P ops Q I l a w → wpAnyI P ops md Q I l.length listed a w
  | [], _, _, _, hB, h => ⟨h.1, by simpa [Region.planB] using hB, h.2⟩
  | (true, i) :: l, listed, a, w, hB, h => by
    obtain ⟨o, v, ho, hy, h⟩ := h
    simp only [Region.planB, Bool.and_eq_true] at hB
    have T := wpAnyI_of_plan hsel hQ l (listed.setIfInBounds i true) _ w hB.2 h
    exact wpAnyI_first (md := md) (Q := Q) (I := I) ho (Region.noSelect_spec hsel) (fun c a w hq => absurd hq (hQ _ _ _)) _ listed a w (Region.free_spec ho hB.1.2) (by simpa using hB.1.1) hy T
  | (false, i) :: l, listed, a, w, hB, h => by
    obtain ⟨hI, o, ho, hw, h⟩ := h
    simp only [Region.planB, Bool.and_eq_true, decide_eq_true_eq] at hB
    refine ⟨hI, fun h1 => (by rw [hB.1] at h1; cases h1), fun j hj => ?_⟩
    rw [hB.1] at hj
    have hik : j = i := by simpa using hj
    subst hik
    have hw' : wpOp P ops Q j (PlanW P ops Q I l) a w := by unfold wpOp; simp only [ho, hw, if_true]; exact .inl h
    exact wpOp_mono (fun a' w' h' => wpAnyI_of_plan hsel hQ l _ a' w' hB.2 h') hw'
end

theorem wp_region_plan {P : Program} {id : Nat} {Q : Exit → Act → World → Prop} {a : Act} {w : World} {ops : Array Oper} (pl : List (Bool × Nat)) (I : World → Prop) (hm : P.follows .mixedOrders = true)
    (hB : (Region.noSelect ops && Region.planB .any ops pl (Array.replicate ops.size false) && decide (pl.length = ops.size)) = true) (h : PlanW P ops (strictQ Q) I pl a w.drew) : (Code.region id ops true).wp P Q a w := by
  simp only [Bool.and_eq_true, decide_eq_true_eq] at hB
  obtain ⟨⟨hsel, hp⟩, hl⟩ := hB
  refine wp_region_any hm ?_
  have T := wpAnyI_of_plan (md := .any) (Q := strictQ Q) hsel (fun c a w hq => absurd hq.1 (by simp)) pl _ a w.drew hp h
  rw [hl] at T
  exact wpAny_strict _ _ _ _ (wpAnyI.plain _ _ _ _ T)
end Go.Proofs.Ytcocbainookkcaa

/-
  Draws of a space that can be extended and of vectors of it.
  No condition.
-/
namespace Go.Proofs.Ytcocbainookkcaa
set_option maxRecDepth 100000
open Go.RowKit

set_option maxHeartbeats 4000000 in
set_option maxRecDepth 100000 in
theorem s_drawPointVector (ca : Option Addr) (n cap : Nat) (w : World) (hn : n ≤ 4096) (hb : RdY w ca n) :
    Calls Try.prog 94 #[.slice ca n cap] w fun e w' => ∃ p a d c qs a1 m1 c1 x1, e = .returned (.tuple #[.agg #[.int .i64 p, .slice a d c], .slice a1 m1 c1]) ∧ 0 ≤ p ∧ p ≤ 17 ∧ d ≤ 7 ∧ m1 ≤ 8 ∧ OwnC w.heap.size w' a d c qs ∧ OwnC w.heap.size w' a1 m1 c1 x1 ∧ Ext w w' := by
  obtain ⟨W, hW⟩ : ∃ W, W = w.alloc (.cells #[.int .i64 0, .slice none 0 0] 26) := ⟨_, rfl⟩
  have gW : Ext w W := by rw [hW]; exact ext_alloc _ _
  have HZ := Lib.hid (show W.heap.size = w.heap.size + 1 by rw [hW]; simp)
  have HR := Lib.hid (show SpAt W w.heap.size 0 (.slice none 0 0) by rw [hW]; exact ⟨by simp, by simp, by simp, by simp⟩)
  have HW := Lib.hid hW
  have GW := Lib.hid gW
  have HB := Lib.hid (hb.ext gW)
  clear gW hW hb
  go_enter Try.func94, Try.ntmps94
  go_wp2_with (fail)
  rw [← HW.out]
  refine Calls.mono (s_from ca n cap W hn HB.out) ?_
  rintro e w1 ⟨g, rfl, hg, hS, g1⟩
  obtain ⟨S, hSe⟩ : ∃ S : SrcP, S = ⟨g, ca, n, cap⟩ := ⟨_, rfl⟩
  obtain rfl : g = S.g := by rw [hSe]
  rw [← hSe] at hS
  have HS := Lib.hid hS
  have HR1 := Lib.hid (HR.out.ext g1)
  have G1 := Lib.hid (GW.out.trans g1)
  have hgR : w.heap.size ≠ S.g := by have := HZ.out; omega
  have hgw : w.heap.size + 1 ≤ S.g := by have := HZ.out; omega
  have hlt := hS.lt
  clear hg hS g1 hSe HR
  go_wp2_with (fail)
  refine Calls.mono (s_draw18 S w1 HS.out) ?_
  rintro e w2 ⟨p, a, d, c, qs, rfl, hp0, hp1, hd, ho, g2⟩
  obtain ⟨W2, hW2⟩ : ∃ W2, W2 = w2.alloc (.cells #[.int .i64 p, .slice a d c] 26) := ⟨_, rfl⟩
  obtain ⟨O, hO⟩ : ∃ O, O = w2.heap.size := ⟨_, rfl⟩
  have gW2 : Ext w2 W2.drew := by rw [hW2]; exact (ext_alloc _ _).trans (ext_drew _)
  have hOA : SpAt W2.drew O p (.slice a d c) := by
    have : SpAt W2 O p (.slice a d c) := by rw [hW2, hO]; exact ⟨by simp, by simp, by simp, by simp⟩
    exact this.ext (ext_drew _)
  have HOA := Lib.hid hOA
  have HR2 := Lib.hid ((HR1.out.drw g2 hgR).ext gW2)
  have HQ2 := Lib.hid ((ho.mono (show S.g + 1 ≤ _ from hlt)).ext gW2)
  have G2 := Lib.hid (g2.ext gW2)
  have hgO : O ≠ S.g := by rw [hO]; have := g2.size; omega
  go_wp2_with (fail)
  rw [← hW2, ← hO]
  have HS2 := Lib.hid (G2.out.src HS.out)
  clear hO gW2 ho g2 hW2 hOA HR1
  refine Chg.wp_region_lex_tail (E := Drw.rel S) 4 [(3, .own S (S.g + 1) 8 (Nat.lt_succ_self _))] (by kernel_rfl) (by kernel_rfl) ?_
  simp only [List.take, List.drop]
  (refine Chg.LexW.pure (v := ?_) rfl rfl (fun w1 he => ?_) ?_; rotate_left; ( have he' : Drw S W2.drew _ := he; have x0 := he'.cell (p := ⟨O, 0, none⟩) hgO HOA.out.c0; have x1 := he'.cell (p := ⟨O, 1, none⟩) hgO HOA.out.c1; go_simp; rfl); simp only [Act.put, List.setIfInBounds_toArray, List.set_cons_zero, List.set_cons_succ])
  (refine Chg.LexW.pure (v := ?_) rfl rfl (fun w1 he => ?_) ?_; rotate_left; ( have he' : Drw S W2.drew _ := he; have x0 := he'.cell (p := ⟨O, 0, none⟩) hgO HOA.out.c0; have x1 := he'.cell (p := ⟨O, 1, none⟩) hgO HOA.out.c1; go_simp; rfl); simp only [Act.put, List.setIfInBounds_toArray, List.set_cons_zero, List.set_cons_succ])
  (refine Chg.LexW.pure (v := ?_) rfl rfl (fun w1 he => ?_) ?_; rotate_left; ( have he' : Drw S W2.drew _ := he; have x0 := he'.cell (p := ⟨O, 0, none⟩) hgO HOA.out.c0; have x1 := he'.cell (p := ⟨O, 1, none⟩) hgO HOA.out.c1; go_simp; rfl); simp only [Act.put, List.setIfInBounds_toArray, List.set_cons_zero, List.set_cons_succ])
  (refine Chg.LexW.callR (f := ?_) (args := ?_) rfl rfl (fun w1 => ?_) (fun w1 he hdep => ?_) (fun v hv => ?_); rotate_left 2; (go_simp; refine ⟨?_, ?_⟩ <;> rfl); ( have he' : Drw S W2.drew _ := he; refine Calls.mono (s_vec18 S p a d c w1 (he'.src HS2.out) (by omega) (by omega) (by omega)) ?_; rintro e w9 ⟨a9, c9, m9, x9, rfl, hm9, ho9, g9⟩; exact ⟨_, rfl, g9, a9, m9, c9, x9, rfl, by omega, ho9.mono (Nat.le_trans HS2.out.lt he'.size)⟩); simp only [Act.put, List.setIfInBounds_toArray, List.set_cons_zero, List.set_cons_succ])
  obtain ⟨_, a1, m1, c1, x1, rfl, _⟩ := hv
  refine Chg.LexW.nil (fun w3 he hkn => ?_)
  have he' : Drw S W2.drew w3 := he
  obtain ⟨a1', m1', c1', x1', q1, hm1, ho1⟩ : (Chg.SPred.own S (S.g + 1) 8 (Nat.lt_succ_self _)).holds (.slice a1 m1 c1) w3 := hkn (3, _) (by simp)
  cases q1
  have HR3 := Lib.hid (HR2.out.drw he' hgR)
  have HQ3 := Lib.hid (he'.own HQ2.out (Nat.lt_succ_self _))
  have HO1 := Lib.hid ho1
  have G3 := Lib.hid (G2.out.trans he')
  have r0 := HR3.out.c0
  have r1 := HR3.out.c1
  have f0 := HR3.out.f0
  have f1 := HR3.out.f1
  clear he he' hkn ho1
  go_wp2_with (fail)
  refine bodyPost_ret (v := .tuple #[.agg #[.int .i64 p, .slice a d c], .slice a1 m1 c1]) (by simp [results, Try.results94, go_sem, r0, r1]) rfl ⟨p, a, d, c, qs, a1, m1, c1, x1', rfl, hp0, hp1, hd, hm1, ?_, ?_, ?_⟩
  · exact ((HQ3.out.other (by simp; omega) _).other (by simp; omega) _).mono (by omega)
  · exact ((HO1.out.other (by simp; omega) _).other (by simp; omega) _).mono (by omega)
  · exact ((G3.out.toExt G1.out (by omega)).setCell (by simp) _).setCell (by simp) _
set_option maxHeartbeats 4000000 in
theorem s_drawShiftVersor (ca : Option Addr) (n cap : Nat) (w : World) (hn : n ≤ 4096) (hb : RdY w ca n) :
    Calls Try.prog 38 #[.slice ca n cap] w fun e w' => ∃ p a d c qs a1 m1 c1 x1, e = .returned (.tuple #[.agg #[.int .i64 p, .slice a d c], .slice a1 m1 c1]) ∧ 0 ≤ p ∧ p ≤ 17 ∧ d ≤ 7 ∧ m1 ≤ 8 ∧ OwnC w.heap.size w' a d c qs ∧ OwnC w.heap.size w' a1 m1 c1 x1 ∧ Ext w w' := by
  obtain ⟨W, hW⟩ : ∃ W, W = w.alloc (.cells #[.int .i64 0, .slice none 0 0] 26) := ⟨_, rfl⟩
  have gW : Ext w W := by rw [hW]; exact ext_alloc _ _
  have HZ := Lib.hid (show W.heap.size = w.heap.size + 1 by rw [hW]; simp)
  have HR := Lib.hid (show SpAt W w.heap.size 0 (.slice none 0 0) by rw [hW]; exact ⟨by simp, by simp, by simp, by simp⟩)
  have HW := Lib.hid hW
  have GW := Lib.hid gW
  have HB := Lib.hid (hb.ext gW)
  clear gW hW hb
  go_enter Try.func38, Try.ntmps38
  go_wp2_with (fail)
  rw [← HW.out]
  refine Calls.mono (s_drawPointVector ca n cap W hn HB.out) ?_
  rintro e w1 ⟨p, a, d, c, qs, a1, m1, c1, x1, rfl, hp0, hp1, hd, hm1, ho, ho1, g1⟩
  have hR1 := HR.out.ext g1
  have r0 := hR1.c0
  have r1 := hR1.c1
  have f0 := hR1.f0
  have f1 := hR1.f1
  have lR := hR1.lt
  have hz := HZ.out
  have HQ := Lib.hid ho
  have HO1 := Lib.hid ho1
  have G1 := Lib.hid (GW.out.trans g1)
  clear ho ho1 g1 hR1
  go_wp2_with (fail)
  refine bodyPost_ret (v := .tuple #[.agg #[.int .i64 p, .slice a d c], .slice a1 m1 c1]) (by simp [results, Try.results38, go_sem, r0, r1]) rfl ⟨p, a, d, c, qs, a1, m1, c1, x1, rfl, hp0, hp1, hd, hm1, ?_, ?_, ?_⟩
  · exact ((HQ.out.other (by simp; omega) _).other (by simp; omega) _).mono (by omega)
  · exact ((HO1.out.other (by simp; omega) _).other (by simp; omega) _).mono (by omega)
  · exact (G1.out.setCell (by simp) _).setCell (by simp) _
set_option maxHeartbeats 4000000 in
set_option maxRecDepth 100000 in
theorem s_drawDistanceOf (ca : Option Addr) (n cap : Nat) (w : World) (hn : n ≤ 4096) (hb : RdY w ca n) :
    Calls Try.prog 20 #[.slice ca n cap] w fun e w' => ∃ p a d c qs a1 m1 c1 x1 a2 m2 c2 x2, e = .returned (.tuple #[.agg #[.int .i64 p, .slice a d c], .slice a1 m1 c1, .slice a2 m2 c2]) ∧ 0 ≤ p ∧ p ≤ 17 ∧ d ≤ 7 ∧ m1 ≤ 8 ∧ m2 ≤ 8 ∧ OwnC w.heap.size w' a d c qs ∧ OwnC w.heap.size w' a1 m1 c1 x1 ∧ OwnC w.heap.size w' a2 m2 c2 x2 ∧ Ext w w' := by
  obtain ⟨W, hW⟩ : ∃ W, W = w.alloc (.cells #[.int .i64 0, .slice none 0 0] 26) := ⟨_, rfl⟩
  have gW : Ext w W := by rw [hW]; exact ext_alloc _ _
  have HZ := Lib.hid (show W.heap.size = w.heap.size + 1 by rw [hW]; simp)
  have HR := Lib.hid (show SpAt W w.heap.size 0 (.slice none 0 0) by rw [hW]; exact ⟨by simp, by simp, by simp, by simp⟩)
  have HW := Lib.hid hW
  have GW := Lib.hid gW
  have HB := Lib.hid (hb.ext gW)
  clear gW hW hb
  go_enter Try.func20, Try.ntmps20
  go_wp2_with (fail)
  rw [← HW.out]
  refine Calls.mono (s_from ca n cap W hn HB.out) ?_
  rintro e w1 ⟨g, rfl, hg, hS, g1⟩
  obtain ⟨S, hSe⟩ : ∃ S : SrcP, S = ⟨g, ca, n, cap⟩ := ⟨_, rfl⟩
  obtain rfl : g = S.g := by rw [hSe]
  rw [← hSe] at hS
  have HS := Lib.hid hS
  have HR1 := Lib.hid (HR.out.ext g1)
  have G1 := Lib.hid (GW.out.trans g1)
  have hgR : w.heap.size ≠ S.g := by have := HZ.out; omega
  have hgw : w.heap.size + 1 ≤ S.g := by have := HZ.out; omega
  have hlt := hS.lt
  clear hg hS g1 hSe HR
  go_wp2_with (fail)
  refine Calls.mono (s_draw18 S w1 HS.out) ?_
  rintro e w2 ⟨p, a, d, c, qs, rfl, hp0, hp1, hd, ho, g2⟩
  obtain ⟨W2, hW2⟩ : ∃ W2, W2 = w2.alloc (.cells #[.int .i64 p, .slice a d c] 26) := ⟨_, rfl⟩
  obtain ⟨O, hO⟩ : ∃ O, O = w2.heap.size := ⟨_, rfl⟩
  have gW2 : Ext w2 W2.drew := by rw [hW2]; exact (ext_alloc _ _).trans (ext_drew _)
  have hOA : SpAt W2.drew O p (.slice a d c) := by
    have : SpAt W2 O p (.slice a d c) := by rw [hW2, hO]; exact ⟨by simp, by simp, by simp, by simp⟩
    exact this.ext (ext_drew _)
  have HOA := Lib.hid hOA
  have HR2 := Lib.hid ((HR1.out.drw g2 hgR).ext gW2)
  have HQ2 := Lib.hid ((ho.mono (show S.g + 1 ≤ _ from hlt)).ext gW2)
  have G2 := Lib.hid (g2.ext gW2)
  have hgO : O ≠ S.g := by rw [hO]; have := g2.size; omega
  go_wp2_with (fail)
  rw [← hW2, ← hO]
  have HS2 := Lib.hid (G2.out.src HS.out)
  clear hO gW2 ho g2 hW2 hOA HR1
  refine Chg.wp_region_lex_tail (E := Drw.rel S) 7 [(3, .own S (S.g + 1) 8 (Nat.lt_succ_self _)), (6, .own S (S.g + 1) 8 (Nat.lt_succ_self _))] (by kernel_rfl) (by kernel_rfl) ?_
  simp only [List.take, List.drop]
  (refine Chg.LexW.pure (v := ?_) rfl rfl (fun w1 he => ?_) ?_; rotate_left; ( have he' : Drw S W2.drew _ := he; have x0 := he'.cell (p := ⟨O, 0, none⟩) hgO HOA.out.c0; have x1 := he'.cell (p := ⟨O, 1, none⟩) hgO HOA.out.c1; go_simp; rfl); simp only [Act.put, List.setIfInBounds_toArray, List.set_cons_zero, List.set_cons_succ])
  (refine Chg.LexW.pure (v := ?_) rfl rfl (fun w1 he => ?_) ?_; rotate_left; ( have he' : Drw S W2.drew _ := he; have x0 := he'.cell (p := ⟨O, 0, none⟩) hgO HOA.out.c0; have x1 := he'.cell (p := ⟨O, 1, none⟩) hgO HOA.out.c1; go_simp; rfl); simp only [Act.put, List.setIfInBounds_toArray, List.set_cons_zero, List.set_cons_succ])
  (refine Chg.LexW.pure (v := ?_) rfl rfl (fun w1 he => ?_) ?_; rotate_left; ( have he' : Drw S W2.drew _ := he; have x0 := he'.cell (p := ⟨O, 0, none⟩) hgO HOA.out.c0; have x1 := he'.cell (p := ⟨O, 1, none⟩) hgO HOA.out.c1; go_simp; rfl); simp only [Act.put, List.setIfInBounds_toArray, List.set_cons_zero, List.set_cons_succ])
  (refine Chg.LexW.callR (f := ?_) (args := ?_) rfl rfl (fun w1 => ?_) (fun w1 he hdep => ?_) (fun v hv => ?_); rotate_left 2; (go_simp; refine ⟨?_, ?_⟩ <;> rfl); ( have he' : Drw S W2.drew _ := he; refine Calls.mono (s_vec18 S p a d c w1 (he'.src HS2.out) (by omega) (by omega) (by omega)) ?_; rintro e w9 ⟨a9, c9, m9, x9, rfl, hm9, ho9, g9⟩; exact ⟨_, rfl, g9, a9, m9, c9, x9, rfl, by omega, ho9.mono (Nat.le_trans HS2.out.lt he'.size)⟩); simp only [Act.put, List.setIfInBounds_toArray, List.set_cons_zero, List.set_cons_succ])
  obtain ⟨_, a1, m1, c1, x1, rfl, _⟩ := hv
  (refine Chg.LexW.pure (v := ?_) rfl rfl (fun w1 he => ?_) ?_; rotate_left; ( have he' : Drw S W2.drew _ := he; have x0 := he'.cell (p := ⟨O, 0, none⟩) hgO HOA.out.c0; have x1 := he'.cell (p := ⟨O, 1, none⟩) hgO HOA.out.c1; go_simp; rfl); simp only [Act.put, List.setIfInBounds_toArray, List.set_cons_zero, List.set_cons_succ])
  (refine Chg.LexW.pure (v := ?_) rfl rfl (fun w1 he => ?_) ?_; rotate_left; ( have he' : Drw S W2.drew _ := he; have x0 := he'.cell (p := ⟨O, 0, none⟩) hgO HOA.out.c0; have x1 := he'.cell (p := ⟨O, 1, none⟩) hgO HOA.out.c1; go_simp; rfl); simp only [Act.put, List.setIfInBounds_toArray, List.set_cons_zero, List.set_cons_succ])
  (refine Chg.LexW.callR (f := ?_) (args := ?_) rfl rfl (fun w1 => ?_) (fun w1 he hdep => ?_) (fun v hv => ?_); rotate_left 2; (go_simp; refine ⟨?_, ?_⟩ <;> rfl); ( have he' : Drw S W2.drew _ := he; refine Calls.mono (s_vec18 S p a d c w1 (he'.src HS2.out) (by omega) (by omega) (by omega)) ?_; rintro e w9 ⟨a9, c9, m9, x9, rfl, hm9, ho9, g9⟩; exact ⟨_, rfl, g9, a9, m9, c9, x9, rfl, by omega, ho9.mono (Nat.le_trans HS2.out.lt he'.size)⟩); simp only [Act.put, List.setIfInBounds_toArray, List.set_cons_zero, List.set_cons_succ])
  obtain ⟨_, a2, m2, c2, x2, rfl, _⟩ := hv
  refine Chg.LexW.nil (fun w3 he hkn => ?_)
  have he' : Drw S W2.drew w3 := he
  obtain ⟨a1', m1', c1', x1', q1, hm1, ho1⟩ : (Chg.SPred.own S (S.g + 1) 8 (Nat.lt_succ_self _)).holds (.slice a1 m1 c1) w3 := hkn (3, _) (by simp)
  obtain ⟨a2', m2', c2', x2', q2, hm2, ho2⟩ : (Chg.SPred.own S (S.g + 1) 8 (Nat.lt_succ_self _)).holds (.slice a2 m2 c2) w3 := hkn (6, _) (by simp)
  cases q1
  cases q2
  have HR3 := Lib.hid (HR2.out.drw he' hgR)
  have HQ3 := Lib.hid (he'.own HQ2.out (Nat.lt_succ_self _))
  have HO1 := Lib.hid ho1
  have HO2 := Lib.hid ho2
  have G3 := Lib.hid (G2.out.trans he')
  have r0 := HR3.out.c0
  have r1 := HR3.out.c1
  have f0 := HR3.out.f0
  have f1 := HR3.out.f1
  clear he he' hkn ho1 ho2
  go_wp2_with (fail)
  refine bodyPost_ret (v := .tuple #[.agg #[.int .i64 p, .slice a d c], .slice a1 m1 c1, .slice a2 m2 c2]) (by simp [results, Try.results20, go_sem, r0, r1]) rfl ⟨p, a, d, c, qs, a1, m1, c1, x1', a2, m2, c2, x2', rfl, hp0, hp1, hd, hm1, hm2, ?_, ?_, ?_, ?_⟩
  · exact ((HQ3.out.other (by simp; omega) _).other (by simp; omega) _).mono (by omega)
  · exact ((HO1.out.other (by simp; omega) _).other (by simp; omega) _).mono (by omega)
  · exact ((HO2.out.other (by simp; omega) _).other (by simp; omega) _).mono (by omega)
  · exact ((G3.out.toExt G1.out (by omega)).setCell (by simp) _).setCell (by simp) _
set_option maxHeartbeats 4000000 in
set_option maxRecDepth 100000 in
theorem s_drawSphereVector (ca : Option Addr) (n cap : Nat) (w : World) (hn : n ≤ 4096) (hb : RdY w ca n) :
    Calls Try.prog 17 #[.slice ca n cap] w fun e w' => ∃ p a d c qs a1 m1 c1 x1 r, e = .returned (.tuple #[.agg #[.int .i64 p, .slice a d c], .slice a1 m1 c1, .int .i64 r]) ∧ 0 ≤ p ∧ p ≤ 17 ∧ d ≤ 7 ∧ m1 ≤ 8 ∧ OwnC w.heap.size w' a d c qs ∧ OwnC w.heap.size w' a1 m1 c1 x1 ∧ Ext w w' := by
  obtain ⟨W, hW⟩ : ∃ W, W = w.alloc (.cells #[.int .i64 0, .slice none 0 0] 26) := ⟨_, rfl⟩
  have gW : Ext w W := by rw [hW]; exact ext_alloc _ _
  have HZ := Lib.hid (show W.heap.size = w.heap.size + 1 by rw [hW]; simp)
  have HR := Lib.hid (show SpAt W w.heap.size 0 (.slice none 0 0) by rw [hW]; exact ⟨by simp, by simp, by simp, by simp⟩)
  have HW := Lib.hid hW
  have GW := Lib.hid gW
  have HB := Lib.hid (hb.ext gW)
  clear gW hW hb
  go_enter Try.func17, Try.ntmps17
  go_wp2_with (fail)
  rw [← HW.out]
  refine Calls.mono (s_from ca n cap W hn HB.out) ?_
  rintro e w1 ⟨g, rfl, hg, hS, g1⟩
  obtain ⟨S, hSe⟩ : ∃ S : SrcP, S = ⟨g, ca, n, cap⟩ := ⟨_, rfl⟩
  obtain rfl : g = S.g := by rw [hSe]
  rw [← hSe] at hS
  have HS := Lib.hid hS
  have HR1 := Lib.hid (HR.out.ext g1)
  have G1 := Lib.hid (GW.out.trans g1)
  have hgR : w.heap.size ≠ S.g := by have := HZ.out; omega
  have hgw : w.heap.size + 1 ≤ S.g := by have := HZ.out; omega
  have hlt := hS.lt
  clear hg hS g1 hSe HR
  go_wp2_with (fail)
  refine Calls.mono (s_draw18 S w1 HS.out) ?_
  rintro e w2 ⟨p, a, d, c, qs, rfl, hp0, hp1, hd, ho, g2⟩
  obtain ⟨W2, hW2⟩ : ∃ W2, W2 = w2.alloc (.cells #[.int .i64 p, .slice a d c] 26) := ⟨_, rfl⟩
  obtain ⟨O, hO⟩ : ∃ O, O = w2.heap.size := ⟨_, rfl⟩
  have gW2 : Ext w2 W2.drew := by rw [hW2]; exact (ext_alloc _ _).trans (ext_drew _)
  have hOA : SpAt W2.drew O p (.slice a d c) := by
    have : SpAt W2 O p (.slice a d c) := by rw [hW2, hO]; exact ⟨by simp, by simp, by simp, by simp⟩
    exact this.ext (ext_drew _)
  have HOA := Lib.hid hOA
  have HR2 := Lib.hid ((HR1.out.drw g2 hgR).ext gW2)
  have HQ2 := Lib.hid ((ho.mono (show S.g + 1 ≤ _ from hlt)).ext gW2)
  have G2 := Lib.hid (g2.ext gW2)
  have hgO : O ≠ S.g := by rw [hO]; have := g2.size; omega
  have hRO : ¬ O = w.heap.size := by rw [hO]; have := g2.size; omega
  go_wp2_with (fail)
  rw [← hW2, ← hO]
  have HS2 := Lib.hid (G2.out.src HS.out)
  clear hO gW2 ho g2 hW2 hOA HR1
  have hmx : (p = 0 ∨ p = 1) ∨ (1 < p ∧ ¬ p ≤ 1 ∧ ¬ p < 1 ∧ 1 ≤ p) := by omega
  have hw1 : IntKind.i64.wrap (p + 1) = p + 1 := IntWalk.i64_in _ (by omega)
  have hw2 : IntKind.i64.wrap 2 = 2 := by decide
  rcases hmx with (rfl | rfl) | ⟨hmx1, hmx2, hmx3, hmx4⟩
  · skip
    obtain ⟨J, hJ⟩ : ∃ J : World → Prop, J = (fun w' => w'.cell? ⟨O, 0, none⟩ = some (.int .i64 0) ∧ w'.cell? ⟨O, 1, none⟩ = some (.slice a d c)) := ⟨_, rfl⟩
    have HJ : Hid (∀ w', Drw S W2.drew w' → J w') := Lib.hid (fun w' hd => by rw [hJ]; exact ⟨hd.cell (p := ⟨O, 0, none⟩) hgO HOA.out.c0, hd.cell (p := ⟨O, 1, none⟩) hgO HOA.out.c1⟩)
    have HJ2 : Hid (∀ w', J w' → w'.cell? ⟨O, 0, none⟩ = some (.int .i64 0) ∧ w'.cell? ⟨O, 1, none⟩ = some (.slice a d c)) := Lib.hid (fun w' h => by rw [hJ] at h; exact h)
    have HJR : Hid (∀ w', J w' → J ((w'.setCell ⟨w.heap.size, 0, none⟩ (.int .i64 0)).setCell ⟨w.heap.size, 1, none⟩ (.slice a d c))) := Lib.hid (fun w' h => by rw [hJ] at h ⊢; obtain ⟨h0, h1⟩ := h; have hne : ¬ O = w.heap.size := hRO; exact ⟨by go_simp, by go_simp⟩)
    clear hJ
    refine wp_region_plan [(true, 0), (true, 1), (true, 2), (true, 4), (true, 5), (true, 6), (true, 7), (true, 8), (true, 10), (false, 3), (false, 9), (false, 11), (true, 12), (true, 13), (false, 14), (false, 15), (false, 16)] J (by kernel_rfl) (by kernel_rfl) ?_
    refine PlanW.float (v := ?_) (some 11) rfl rfl rfl (fun w' hI => ?_) ?_
    rotate_left
    · obtain ⟨e0, e1⟩ := HJ2.out w' hI; go_simp; rfl
    simp only [Act.put, List.setIfInBounds_toArray, List.set_cons_zero, List.set_cons_succ]
    refine PlanW.float (v := ?_) (some 12) rfl rfl rfl (fun w' hI => ?_) ?_
    rotate_left
    · obtain ⟨e0, e1⟩ := HJ2.out w' hI; go_simp; rfl
    simp only [Act.put, List.setIfInBounds_toArray, List.set_cons_zero, List.set_cons_succ]
    refine PlanW.float (v := ?_) (some 13) rfl rfl rfl (fun w' hI => ?_) ?_
    rotate_left
    · obtain ⟨e0, e1⟩ := HJ2.out w' hI; go_simp; rfl
    simp only [Act.put, List.setIfInBounds_toArray, List.set_cons_zero, List.set_cons_succ]
    refine PlanW.float (v := ?_) (some 15) rfl rfl rfl (fun w' hI => ?_) ?_
    rotate_left
    · obtain ⟨e0, e1⟩ := HJ2.out w' hI; go_simp; rfl
    simp only [Act.put, List.setIfInBounds_toArray, List.set_cons_zero, List.set_cons_succ]
    refine PlanW.float (v := ?_) (some 16) rfl rfl rfl (fun w' hI => ?_) ?_
    rotate_left
    · obtain ⟨e0, e1⟩ := HJ2.out w' hI; go_simp; rfl
    simp only [Act.put, List.setIfInBounds_toArray, List.set_cons_zero, List.set_cons_succ]
    refine PlanW.float (v := ?_) (some 17) rfl rfl rfl (fun w' hI => ?_) ?_
    rotate_left
    · obtain ⟨e0, e1⟩ := HJ2.out w' hI; go_simp; rfl
    simp only [Act.put, List.setIfInBounds_toArray, List.set_cons_zero, List.set_cons_succ]
    refine PlanW.float (v := ?_) (some 18) rfl rfl rfl (fun w' hI => ?_) ?_
    rotate_left
    · obtain ⟨e0, e1⟩ := HJ2.out w' hI; go_simp; rfl
    simp only [Act.put, List.setIfInBounds_toArray, List.set_cons_zero, List.set_cons_succ]
    refine PlanW.float (v := ?_) (some 19) rfl rfl rfl (fun w' hI => ?_) ?_
    rotate_left
    · obtain ⟨e0, e1⟩ := HJ2.out w' hI; go_simp; rfl
    simp only [Act.put, List.setIfInBounds_toArray, List.set_cons_zero, List.set_cons_succ]
    refine PlanW.float (v := ?_) (some 21) rfl rfl rfl (fun w' hI => ?_) ?_
    rotate_left
    · obtain ⟨e0, e1⟩ := HJ2.out w' hI; go_simp; rfl
    simp only [Act.put, List.setIfInBounds_toArray, List.set_cons_zero, List.set_cons_succ]
    refine PlanW.call (f := ?_) (args := ?_) (R := fun v w' => ∃ a1 c1 m1 x1, v = .slice a1 m1 c1 ∧ m1 ≤ 8 ∧ OwnC (S.g + 1) w' a1 m1 c1 x1 ∧ Drw S W2.drew w') (some 14) (HJ.out _ (Drw.of_ext (S := S) (Ext.refl W2.drew))) rfl rfl rfl ?_ ?_ ?_
    rotate_left 2
    · go_simp; refine ⟨?_, ?_⟩ <;> rfl
    · refine Calls.mono (s_vec18 S 0 a d c _ HS2.out (by omega) (by omega) (by omega)) ?_
      rintro e w9 ⟨a9, c9, m9, x9, rfl, hm9, ho9, g9⟩
      exact ⟨_, rfl, a9, c9, m9, x9, rfl, by omega, ho9.mono HS2.out.lt, g9⟩
    rintro v w4 ⟨a1, c1, m1, x1, rfl, hm1, ho1, g4⟩
    simp only [Act.put, List.setIfInBounds_toArray, List.set_cons_zero, List.set_cons_succ]
    refine PlanW.call (f := ?_) (args := ?_) (R := fun v w' => ∃ r, v = .int .i64 r ∧ Drw S w4 w') (some 20) (HJ.out _ g4) rfl rfl rfl ?_ ?_ ?_
    rotate_left 2
    · go_simp; refine ⟨?_, ?_⟩ <;> rfl
    · refine Calls.mono (s_next S _ _ (g4.src HS2.out) (by omega)) ?_
      rintro e w9 ⟨r, rfl, _, x9⟩
      exact ⟨_, rfl, r, rfl, x9⟩
    rintro v w5 ⟨ua, rfl, g5⟩
    simp only [Act.put, List.setIfInBounds_toArray, List.set_cons_zero, List.set_cons_succ]
    refine PlanW.call (f := ?_) (args := ?_) (R := fun v w' => ∃ r, v = .int .i64 r ∧ Drw S w5 w') (some 22) (HJ.out _ (g4.trans g5)) rfl rfl rfl ?_ ?_ ?_
    rotate_left 2
    · go_simp; refine ⟨?_, ?_⟩ <;> rfl
    · refine Calls.mono (s_next S _ _ ((g4.trans g5).src HS2.out) (by omega)) ?_
      rintro e w9 ⟨r, rfl, _, x9⟩
      exact ⟨_, rfl, r, rfl, x9⟩
    rintro v w3 ⟨ub, rfl, g6⟩
    simp only [Act.put, List.setIfInBounds_toArray, List.set_cons_zero, List.set_cons_succ]
    refine PlanW.float (v := ?_) (some 23) rfl rfl rfl (fun w' hI => ?_) ?_
    rotate_left
    · obtain ⟨e0, e1⟩ := HJ2.out w' hI; go_simp; rfl
    simp only [Act.put, List.setIfInBounds_toArray, List.set_cons_zero, List.set_cons_succ]
    refine PlanW.float (v := ?_) (some 24) rfl rfl rfl (fun w' hI => ?_) ?_
    rotate_left
    · obtain ⟨e0, e1⟩ := HJ2.out w' hI; go_simp; rfl
    simp only [Act.put, List.setIfInBounds_toArray, List.set_cons_zero, List.set_cons_succ]
    have he' : Drw S W2.drew w3 := (g4.trans g5).trans g6
    have HR3 := Lib.hid (HR2.out.drw he' hgR)
    have HQ3 := Lib.hid (he'.own HQ2.out (Nat.lt_succ_self _))
    have HO1 := Lib.hid ((g5.trans g6).own ho1 (Nat.lt_succ_self _))
    have G3 := Lib.hid (G2.out.trans he')
    have HI3 := Lib.hid (HJ.out _ he')
    have HJW : Hid (J ((w3.setCell ⟨w.heap.size, 0, none⟩ (.int .i64 0)).setCell ⟨w.heap.size, 1, none⟩ (.slice a d c))) := Lib.hid (HJR.out _ HI3.out)
    have r0 := HR3.out.c0
    have r1 := HR3.out.c1
    have f0 := HR3.out.f0
    have f1 := HR3.out.f1
    clear he' ho1 g4 g5 g6
    refine PlanW.skip (w' := ((w3.setCell ⟨w.heap.size, 0, none⟩ (.int .i64 0)).setCell ⟨w.heap.size, 1, none⟩ (.slice a d c))) HI3.out rfl rfl (by go_simp) ?_
    simp only [Act.put, List.setIfInBounds_toArray]
    refine PlanW.value (v := ?_) (w' := ((w3.setCell ⟨w.heap.size, 0, none⟩ (.int .i64 0)).setCell ⟨w.heap.size, 1, none⟩ (.slice a d c))) (some 3) HJW.out rfl rfl rfl (?_) ?_
    rotate_left
    · go_simp; rfl
    simp only [Act.put]
    refine PlanW.value (v := ?_) (w' := ((w3.setCell ⟨w.heap.size, 0, none⟩ (.int .i64 0)).setCell ⟨w.heap.size, 1, none⟩ (.slice a d c))) (some 4) HJW.out rfl rfl rfl (?_) ?_
    rotate_left
    · go_simp; rfl
    refine ⟨HJW.out, strictQ_normal ?_⟩
    simp only [Act.put]
    go_wp2_with (fail)
    refine bodyPost_ret (v := .tuple #[.agg #[.int .i64 0, .slice a d c], .slice a1 m1 c1, .int .i64 (IntKind.i64.wrap (ua - IntKind.i64.wrap (ub.tdiv 23)))]) (by simp [results, Try.results17, go_sem, r0, r1]) rfl ⟨0, a, d, c, qs, a1, m1, c1, ⟨_, rfl⟩, by omega, by omega, hd, hm1, ?_, ⟨x1, ?_⟩, ?_⟩
    · exact ((HQ3.out.other (by simp; omega) _).other (by simp; omega) _).mono (by omega)
    · exact ((HO1.out.other (by simp; omega) _).other (by simp; omega) _).mono (by omega)
    · exact ((G3.out.toExt G1.out (by omega)).setCell (by simp) _).setCell (by simp) _
  · skip
    obtain ⟨J, hJ⟩ : ∃ J : World → Prop, J = (fun w' => w'.cell? ⟨O, 0, none⟩ = some (.int .i64 1) ∧ w'.cell? ⟨O, 1, none⟩ = some (.slice a d c)) := ⟨_, rfl⟩
    have HJ : Hid (∀ w', Drw S W2.drew w' → J w') := Lib.hid (fun w' hd => by rw [hJ]; exact ⟨hd.cell (p := ⟨O, 0, none⟩) hgO HOA.out.c0, hd.cell (p := ⟨O, 1, none⟩) hgO HOA.out.c1⟩)
    have HJ2 : Hid (∀ w', J w' → w'.cell? ⟨O, 0, none⟩ = some (.int .i64 1) ∧ w'.cell? ⟨O, 1, none⟩ = some (.slice a d c)) := Lib.hid (fun w' h => by rw [hJ] at h; exact h)
    have HJR : Hid (∀ w', J w' → J ((w'.setCell ⟨w.heap.size, 0, none⟩ (.int .i64 1)).setCell ⟨w.heap.size, 1, none⟩ (.slice a d c))) := Lib.hid (fun w' h => by rw [hJ] at h ⊢; obtain ⟨h0, h1⟩ := h; have hne : ¬ O = w.heap.size := hRO; exact ⟨by go_simp, by go_simp⟩)
    clear hJ
    refine wp_region_plan [(true, 0), (true, 1), (true, 2), (true, 4), (true, 5), (true, 6), (true, 7), (true, 8), (true, 10), (false, 3), (false, 9), (false, 11), (true, 12), (true, 13), (false, 14), (false, 15), (false, 16)] J (by kernel_rfl) (by kernel_rfl) ?_
    refine PlanW.float (v := ?_) (some 11) rfl rfl rfl (fun w' hI => ?_) ?_
    rotate_left
    · obtain ⟨e0, e1⟩ := HJ2.out w' hI; go_simp; rfl
    simp only [Act.put, List.setIfInBounds_toArray, List.set_cons_zero, List.set_cons_succ]
    refine PlanW.float (v := ?_) (some 12) rfl rfl rfl (fun w' hI => ?_) ?_
    rotate_left
    · obtain ⟨e0, e1⟩ := HJ2.out w' hI; go_simp; rfl
    simp only [Act.put, List.setIfInBounds_toArray, List.set_cons_zero, List.set_cons_succ]
    refine PlanW.float (v := ?_) (some 13) rfl rfl rfl (fun w' hI => ?_) ?_
    rotate_left
    · obtain ⟨e0, e1⟩ := HJ2.out w' hI; go_simp; rfl
    simp only [Act.put, List.setIfInBounds_toArray, List.set_cons_zero, List.set_cons_succ]
    refine PlanW.float (v := ?_) (some 15) rfl rfl rfl (fun w' hI => ?_) ?_
    rotate_left
    · obtain ⟨e0, e1⟩ := HJ2.out w' hI; go_simp; rfl
    simp only [Act.put, List.setIfInBounds_toArray, List.set_cons_zero, List.set_cons_succ]
    refine PlanW.float (v := ?_) (some 16) rfl rfl rfl (fun w' hI => ?_) ?_
    rotate_left
    · obtain ⟨e0, e1⟩ := HJ2.out w' hI; go_simp; rfl
    simp only [Act.put, List.setIfInBounds_toArray, List.set_cons_zero, List.set_cons_succ]
    refine PlanW.float (v := ?_) (some 17) rfl rfl rfl (fun w' hI => ?_) ?_
    rotate_left
    · obtain ⟨e0, e1⟩ := HJ2.out w' hI; go_simp; rfl
    simp only [Act.put, List.setIfInBounds_toArray, List.set_cons_zero, List.set_cons_succ]
    refine PlanW.float (v := ?_) (some 18) rfl rfl rfl (fun w' hI => ?_) ?_
    rotate_left
    · obtain ⟨e0, e1⟩ := HJ2.out w' hI; go_simp; rfl
    simp only [Act.put, List.setIfInBounds_toArray, List.set_cons_zero, List.set_cons_succ]
    refine PlanW.float (v := ?_) (some 19) rfl rfl rfl (fun w' hI => ?_) ?_
    rotate_left
    · obtain ⟨e0, e1⟩ := HJ2.out w' hI; go_simp; rfl
    simp only [Act.put, List.setIfInBounds_toArray, List.set_cons_zero, List.set_cons_succ]
    refine PlanW.float (v := ?_) (some 21) rfl rfl rfl (fun w' hI => ?_) ?_
    rotate_left
    · obtain ⟨e0, e1⟩ := HJ2.out w' hI; go_simp; rfl
    simp only [Act.put, List.setIfInBounds_toArray, List.set_cons_zero, List.set_cons_succ]
    refine PlanW.call (f := ?_) (args := ?_) (R := fun v w' => ∃ a1 c1 m1 x1, v = .slice a1 m1 c1 ∧ m1 ≤ 8 ∧ OwnC (S.g + 1) w' a1 m1 c1 x1 ∧ Drw S W2.drew w') (some 14) (HJ.out _ (Drw.of_ext (S := S) (Ext.refl W2.drew))) rfl rfl rfl ?_ ?_ ?_
    rotate_left 2
    · go_simp; refine ⟨?_, ?_⟩ <;> rfl
    · refine Calls.mono (s_vec18 S 1 a d c _ HS2.out (by omega) (by omega) (by omega)) ?_
      rintro e w9 ⟨a9, c9, m9, x9, rfl, hm9, ho9, g9⟩
      exact ⟨_, rfl, a9, c9, m9, x9, rfl, by omega, ho9.mono HS2.out.lt, g9⟩
    rintro v w4 ⟨a1, c1, m1, x1, rfl, hm1, ho1, g4⟩
    simp only [Act.put, List.setIfInBounds_toArray, List.set_cons_zero, List.set_cons_succ]
    refine PlanW.call (f := ?_) (args := ?_) (R := fun v w' => ∃ r, v = .int .i64 r ∧ Drw S w4 w') (some 20) (HJ.out _ g4) rfl rfl rfl ?_ ?_ ?_
    rotate_left 2
    · go_simp; refine ⟨?_, ?_⟩ <;> rfl
    · refine Calls.mono (s_next S _ _ (g4.src HS2.out) (by omega)) ?_
      rintro e w9 ⟨r, rfl, _, x9⟩
      exact ⟨_, rfl, r, rfl, x9⟩
    rintro v w5 ⟨ua, rfl, g5⟩
    simp only [Act.put, List.setIfInBounds_toArray, List.set_cons_zero, List.set_cons_succ]
    refine PlanW.call (f := ?_) (args := ?_) (R := fun v w' => ∃ r, v = .int .i64 r ∧ Drw S w5 w') (some 22) (HJ.out _ (g4.trans g5)) rfl rfl rfl ?_ ?_ ?_
    rotate_left 2
    · go_simp; refine ⟨?_, ?_⟩ <;> rfl
    · refine Calls.mono (s_next S _ _ ((g4.trans g5).src HS2.out) (by omega)) ?_
      rintro e w9 ⟨r, rfl, _, x9⟩
      exact ⟨_, rfl, r, rfl, x9⟩
    rintro v w3 ⟨ub, rfl, g6⟩
    simp only [Act.put, List.setIfInBounds_toArray, List.set_cons_zero, List.set_cons_succ]
    refine PlanW.float (v := ?_) (some 23) rfl rfl rfl (fun w' hI => ?_) ?_
    rotate_left
    · obtain ⟨e0, e1⟩ := HJ2.out w' hI; go_simp; rfl
    simp only [Act.put, List.setIfInBounds_toArray, List.set_cons_zero, List.set_cons_succ]
    refine PlanW.float (v := ?_) (some 24) rfl rfl rfl (fun w' hI => ?_) ?_
    rotate_left
    · obtain ⟨e0, e1⟩ := HJ2.out w' hI; go_simp; rfl
    simp only [Act.put, List.setIfInBounds_toArray, List.set_cons_zero, List.set_cons_succ]
    have he' : Drw S W2.drew w3 := (g4.trans g5).trans g6
    have HR3 := Lib.hid (HR2.out.drw he' hgR)
    have HQ3 := Lib.hid (he'.own HQ2.out (Nat.lt_succ_self _))
    have HO1 := Lib.hid ((g5.trans g6).own ho1 (Nat.lt_succ_self _))
    have G3 := Lib.hid (G2.out.trans he')
    have HI3 := Lib.hid (HJ.out _ he')
    have HJW : Hid (J ((w3.setCell ⟨w.heap.size, 0, none⟩ (.int .i64 1)).setCell ⟨w.heap.size, 1, none⟩ (.slice a d c))) := Lib.hid (HJR.out _ HI3.out)
    have r0 := HR3.out.c0
    have r1 := HR3.out.c1
    have f0 := HR3.out.f0
    have f1 := HR3.out.f1
    clear he' ho1 g4 g5 g6
    refine PlanW.skip (w' := ((w3.setCell ⟨w.heap.size, 0, none⟩ (.int .i64 1)).setCell ⟨w.heap.size, 1, none⟩ (.slice a d c))) HI3.out rfl rfl (by go_simp) ?_
    simp only [Act.put, List.setIfInBounds_toArray]
    refine PlanW.value (v := ?_) (w' := ((w3.setCell ⟨w.heap.size, 0, none⟩ (.int .i64 1)).setCell ⟨w.heap.size, 1, none⟩ (.slice a d c))) (some 3) HJW.out rfl rfl rfl (?_) ?_
    rotate_left
    · go_simp; rfl
    simp only [Act.put]
    refine PlanW.value (v := ?_) (w' := ((w3.setCell ⟨w.heap.size, 0, none⟩ (.int .i64 1)).setCell ⟨w.heap.size, 1, none⟩ (.slice a d c))) (some 4) HJW.out rfl rfl rfl (?_) ?_
    rotate_left
    · go_simp; rfl
    refine ⟨HJW.out, strictQ_normal ?_⟩
    simp only [Act.put]
    go_wp2_with (fail)
    refine bodyPost_ret (v := .tuple #[.agg #[.int .i64 1, .slice a d c], .slice a1 m1 c1, .int .i64 (IntKind.i64.wrap (ua - IntKind.i64.wrap (ub.tdiv 23)))]) (by simp [results, Try.results17, go_sem, r0, r1]) rfl ⟨1, a, d, c, qs, a1, m1, c1, ⟨_, rfl⟩, by omega, by omega, hd, hm1, ?_, ⟨x1, ?_⟩, ?_⟩
    · exact ((HQ3.out.other (by simp; omega) _).other (by simp; omega) _).mono (by omega)
    · exact ((HO1.out.other (by simp; omega) _).other (by simp; omega) _).mono (by omega)
    · exact ((G3.out.toExt G1.out (by omega)).setCell (by simp) _).setCell (by simp) _
  · skip
    obtain ⟨J, hJ⟩ : ∃ J : World → Prop, J = (fun w' => w'.cell? ⟨O, 0, none⟩ = some (.int .i64 p) ∧ w'.cell? ⟨O, 1, none⟩ = some (.slice a d c)) := ⟨_, rfl⟩
    have HJ : Hid (∀ w', Drw S W2.drew w' → J w') := Lib.hid (fun w' hd => by rw [hJ]; exact ⟨hd.cell (p := ⟨O, 0, none⟩) hgO HOA.out.c0, hd.cell (p := ⟨O, 1, none⟩) hgO HOA.out.c1⟩)
    have HJ2 : Hid (∀ w', J w' → w'.cell? ⟨O, 0, none⟩ = some (.int .i64 p) ∧ w'.cell? ⟨O, 1, none⟩ = some (.slice a d c)) := Lib.hid (fun w' h => by rw [hJ] at h; exact h)
    have HJR : Hid (∀ w', J w' → J ((w'.setCell ⟨w.heap.size, 0, none⟩ (.int .i64 p)).setCell ⟨w.heap.size, 1, none⟩ (.slice a d c))) := Lib.hid (fun w' h => by rw [hJ] at h ⊢; obtain ⟨h0, h1⟩ := h; have hne : ¬ O = w.heap.size := hRO; exact ⟨by go_simp, by go_simp⟩)
    clear hJ
    refine wp_region_plan [(true, 0), (true, 1), (true, 2), (true, 4), (true, 5), (true, 6), (true, 7), (true, 8), (true, 10), (false, 3), (false, 9), (false, 11), (true, 12), (true, 13), (false, 14), (false, 15), (false, 16)] J (by kernel_rfl) (by kernel_rfl) ?_
    refine PlanW.float (v := ?_) (some 11) rfl rfl rfl (fun w' hI => ?_) ?_
    rotate_left
    · obtain ⟨e0, e1⟩ := HJ2.out w' hI; go_simp; rfl
    simp only [Act.put, List.setIfInBounds_toArray, List.set_cons_zero, List.set_cons_succ]
    refine PlanW.float (v := ?_) (some 12) rfl rfl rfl (fun w' hI => ?_) ?_
    rotate_left
    · obtain ⟨e0, e1⟩ := HJ2.out w' hI; go_simp; rfl
    simp only [Act.put, List.setIfInBounds_toArray, List.set_cons_zero, List.set_cons_succ]
    refine PlanW.float (v := ?_) (some 13) rfl rfl rfl (fun w' hI => ?_) ?_
    rotate_left
    · obtain ⟨e0, e1⟩ := HJ2.out w' hI; go_simp; rfl
    simp only [Act.put, List.setIfInBounds_toArray, List.set_cons_zero, List.set_cons_succ]
    refine PlanW.float (v := ?_) (some 15) rfl rfl rfl (fun w' hI => ?_) ?_
    rotate_left
    · obtain ⟨e0, e1⟩ := HJ2.out w' hI; go_simp; rfl
    simp only [Act.put, List.setIfInBounds_toArray, List.set_cons_zero, List.set_cons_succ]
    refine PlanW.float (v := ?_) (some 16) rfl rfl rfl (fun w' hI => ?_) ?_
    rotate_left
    · obtain ⟨e0, e1⟩ := HJ2.out w' hI; go_simp; rfl
    simp only [Act.put, List.setIfInBounds_toArray, List.set_cons_zero, List.set_cons_succ]
    refine PlanW.float (v := ?_) (some 17) rfl rfl rfl (fun w' hI => ?_) ?_
    rotate_left
    · obtain ⟨e0, e1⟩ := HJ2.out w' hI; go_simp; rfl
    simp only [Act.put, List.setIfInBounds_toArray, List.set_cons_zero, List.set_cons_succ]
    refine PlanW.float (v := ?_) (some 18) rfl rfl rfl (fun w' hI => ?_) ?_
    rotate_left
    · obtain ⟨e0, e1⟩ := HJ2.out w' hI; go_simp; rfl
    simp only [Act.put, List.setIfInBounds_toArray, List.set_cons_zero, List.set_cons_succ]
    refine PlanW.float (v := ?_) (some 19) rfl rfl rfl (fun w' hI => ?_) ?_
    rotate_left
    · obtain ⟨e0, e1⟩ := HJ2.out w' hI; go_simp; rfl
    simp only [Act.put, List.setIfInBounds_toArray, List.set_cons_zero, List.set_cons_succ]
    refine PlanW.float (v := ?_) (some 21) rfl rfl rfl (fun w' hI => ?_) ?_
    rotate_left
    · obtain ⟨e0, e1⟩ := HJ2.out w' hI; go_simp; rfl
    simp only [Act.put, List.setIfInBounds_toArray, List.set_cons_zero, List.set_cons_succ]
    refine PlanW.call (f := ?_) (args := ?_) (R := fun v w' => ∃ a1 c1 m1 x1, v = .slice a1 m1 c1 ∧ m1 ≤ 8 ∧ OwnC (S.g + 1) w' a1 m1 c1 x1 ∧ Drw S W2.drew w') (some 14) (HJ.out _ (Drw.of_ext (S := S) (Ext.refl W2.drew))) rfl rfl rfl ?_ ?_ ?_
    rotate_left 2
    · go_simp; refine ⟨?_, ?_⟩ <;> rfl
    · refine Calls.mono (s_vec18 S p a d c _ HS2.out (by omega) (by omega) (by omega)) ?_
      rintro e w9 ⟨a9, c9, m9, x9, rfl, hm9, ho9, g9⟩
      exact ⟨_, rfl, a9, c9, m9, x9, rfl, by omega, ho9.mono HS2.out.lt, g9⟩
    rintro v w4 ⟨a1, c1, m1, x1, rfl, hm1, ho1, g4⟩
    simp only [Act.put, List.setIfInBounds_toArray, List.set_cons_zero, List.set_cons_succ]
    refine PlanW.call (f := ?_) (args := ?_) (R := fun v w' => ∃ r, v = .int .i64 r ∧ Drw S w4 w') (some 20) (HJ.out _ g4) rfl rfl rfl ?_ ?_ ?_
    rotate_left 2
    · go_simp; refine ⟨?_, ?_⟩ <;> rfl
    · refine Calls.mono (s_next S _ _ (g4.src HS2.out) (by omega)) ?_
      rintro e w9 ⟨r, rfl, _, x9⟩
      exact ⟨_, rfl, r, rfl, x9⟩
    rintro v w5 ⟨ua, rfl, g5⟩
    simp only [Act.put, List.setIfInBounds_toArray, List.set_cons_zero, List.set_cons_succ]
    refine PlanW.call (f := ?_) (args := ?_) (R := fun v w' => ∃ r, v = .int .i64 r ∧ Drw S w5 w') (some 22) (HJ.out _ (g4.trans g5)) rfl rfl rfl ?_ ?_ ?_
    rotate_left 2
    · go_simp; refine ⟨?_, ?_⟩ <;> rfl
    · refine Calls.mono (s_next S _ _ ((g4.trans g5).src HS2.out) (by omega)) ?_
      rintro e w9 ⟨r, rfl, _, x9⟩
      exact ⟨_, rfl, r, rfl, x9⟩
    rintro v w3 ⟨ub, rfl, g6⟩
    simp only [Act.put, List.setIfInBounds_toArray, List.set_cons_zero, List.set_cons_succ]
    refine PlanW.float (v := ?_) (some 23) rfl rfl rfl (fun w' hI => ?_) ?_
    rotate_left
    · obtain ⟨e0, e1⟩ := HJ2.out w' hI; go_simp; rfl
    simp only [Act.put, List.setIfInBounds_toArray, List.set_cons_zero, List.set_cons_succ]
    refine PlanW.float (v := ?_) (some 24) rfl rfl rfl (fun w' hI => ?_) ?_
    rotate_left
    · obtain ⟨e0, e1⟩ := HJ2.out w' hI; go_simp; rfl
    simp only [Act.put, List.setIfInBounds_toArray, List.set_cons_zero, List.set_cons_succ]
    have he' : Drw S W2.drew w3 := (g4.trans g5).trans g6
    have HR3 := Lib.hid (HR2.out.drw he' hgR)
    have HQ3 := Lib.hid (he'.own HQ2.out (Nat.lt_succ_self _))
    have HO1 := Lib.hid ((g5.trans g6).own ho1 (Nat.lt_succ_self _))
    have G3 := Lib.hid (G2.out.trans he')
    have HI3 := Lib.hid (HJ.out _ he')
    have HJW : Hid (J ((w3.setCell ⟨w.heap.size, 0, none⟩ (.int .i64 p)).setCell ⟨w.heap.size, 1, none⟩ (.slice a d c))) := Lib.hid (HJR.out _ HI3.out)
    have r0 := HR3.out.c0
    have r1 := HR3.out.c1
    have f0 := HR3.out.f0
    have f1 := HR3.out.f1
    clear he' ho1 g4 g5 g6
    refine PlanW.skip (w' := ((w3.setCell ⟨w.heap.size, 0, none⟩ (.int .i64 p)).setCell ⟨w.heap.size, 1, none⟩ (.slice a d c))) HI3.out rfl rfl (by go_simp) ?_
    simp only [Act.put, List.setIfInBounds_toArray]
    refine PlanW.value (v := ?_) (w' := ((w3.setCell ⟨w.heap.size, 0, none⟩ (.int .i64 p)).setCell ⟨w.heap.size, 1, none⟩ (.slice a d c))) (some 3) HJW.out rfl rfl rfl (?_) ?_
    rotate_left
    · go_simp; rfl
    simp only [Act.put]
    refine PlanW.value (v := ?_) (w' := ((w3.setCell ⟨w.heap.size, 0, none⟩ (.int .i64 p)).setCell ⟨w.heap.size, 1, none⟩ (.slice a d c))) (some 4) HJW.out rfl rfl rfl (?_) ?_
    rotate_left
    · go_simp; rfl
    refine ⟨HJW.out, strictQ_normal ?_⟩
    simp only [Act.put]
    go_wp2_with (fail)
    refine bodyPost_ret (v := .tuple #[.agg #[.int .i64 p, .slice a d c], .slice a1 m1 c1, .int .i64 (IntKind.i64.wrap (ua - IntKind.i64.wrap (ub.tdiv 23)))]) (by simp [results, Try.results17, go_sem, r0, r1]) rfl ⟨p, a, d, c, qs, a1, m1, c1, ⟨_, rfl⟩, by omega, by omega, hd, hm1, ?_, ⟨x1, ?_⟩, ?_⟩
    · exact ((HQ3.out.other (by simp; omega) _).other (by simp; omega) _).mono (by omega)
    · exact ((HO1.out.other (by simp; omega) _).other (by simp; omega) _).mono (by omega)
    · exact ((G3.out.toExt G1.out (by omega)).setCell (by simp) _).setCell (by simp) _
end Go.Proofs.Ytcocbainookkcaa

/-
  The laws' helpers of the later layers: sums, multiples, zero; append that names the block.
  No condition.
-/
namespace Go.Proofs.Ytcocbainookkcaa
set_option maxRecDepth 100000
open Go.RowKit

theorem run_push_at {B : Nat} {w : World} {ra : Option Addr} {n cap : Nat} {xs : List Int} {v : Int} {g : Nat} (hown : OwnC B w ra n cap xs) (hc : w.cell? ⟨g, 0, none⟩ = some (.int .i64 v)) (hn : n ≤ 4194304) (hB : B ≤ w.heap.size) (ty : TypeId) :
    ∃ g' cap' w', (Builtin.append_ #[24, 24] ty #[.slice ra n cap, .slice (some ⟨g, 0, none⟩) 1 1]).run Try.prog w = .ok (.slice (some ⟨g', 0, none⟩) (n + 1) cap') w' ∧
      OwnC B w' (some ⟨g', 0, none⟩) (n + 1) cap' (xs ++ [v]) ∧ w.grownBy w' (Value.slice ra n cap).ownBlock ∧ (g' = w.heap.size ∨ (Value.slice ra n cap).ownBlock = some g') ∧ (∀ W : World, W.heap.size ≤ B → Ext W w → Ext W w') := by
  obtain ⟨i0, hi, hz0, hz1, hz2⟩ := info_parts Try.infoI
  obtain ⟨v', w', hr, h2, h3, _, hbk⟩ := run_append_own_at (P := Try.prog) w B 24 ty 2 i0 (.int .i64 0) 1 8 Try.underlying24 hi hz0 hz1 hz2 rfl (by decide) (.slice ra n cap) n (xs.map (.int .i64)) hown.2
    ⟨g, 0, none⟩ 1 1 [.int .i64 v] rfl (fun j u hj => by
      cases j with
      | zero => simp only [List.getElem?_cons_zero, Option.some.injEq] at hj; subst hj; simpa [Addr.add] using hc
      | succ j => simp at hj) (fun u hu => by simp only [List.mem_singleton] at hu; subst hu; rfl) (by unfold maxLen; omega) (by omega) hB
  have h2' : w'.ownsRow B 2 1 v' (n + 1) ((xs ++ [v]).map (.int .i64)) := by rw [List.map_append]; exact h2
  obtain ⟨g', cap', rfl⟩ := OwnC.form h2' (by omega)
  exact ⟨g', cap', w', hr, ⟨by simp [hown.1], h2'⟩, h3, hbk.elim (fun h => .inr h.symm) (fun h => .inl (Option.some.inj h)), fun W hW hE => hE.grown h3 fun k hk => Nat.le_trans hW (hown.blk k hk)⟩

theorem wpList_push_at {ops : Array Oper} {rest : List Oper} {o : Oper} {a : Act} {Q : Exit → Act → World → Prop} {w : World} (hgd : o.guard = none) (s x : Operand)
    (ho : o.op = .call { callee := .builtin .append, args := #[s, x], argTypes := #[24, 24] })
    {B : Nat} {ra : Option Addr} {n cap : Nat} {xs : List Int} {v : Int} {g : Nat} (hs : a.eval s = .slice ra n cap) (hx : a.eval x = .slice (some ⟨g, 0, none⟩) 1 1)
    (hown : OwnC B w ra n cap xs) (hc : w.cell? ⟨g, 0, none⟩ = some (.int .i64 v)) (hn : n ≤ 4194304) (hB : B ≤ w.heap.size)
    (h : ∀ g' cap' w', OwnC B w' (some ⟨g', 0, none⟩) (n + 1) cap' (xs ++ [v]) → w.grownBy w' (Value.slice ra n cap).ownBlock → (g' = w.heap.size ∨ (Value.slice ra n cap).ownBlock = some g') → (∀ W : World, W.heap.size ≤ B → Ext W w → Ext W w') →
      wpList Try.prog ops Q rest (a.put o.dst (.slice (some ⟨g', 0, none⟩) (n + 1) cap')) w') : wpList Try.prog ops Q (o :: rest) a w := by
  refine wpList_plain hgd fun K hK => ?_
  obtain ⟨g', cap', w', hr, h1, h2, h2b, h3⟩ := run_push_at hown hc hn hB o.type
  unfold Oper.wp execOp
  simp only [ho, resolve, invoke, builtin, Sem.run_bind, Sem.run_pure, Result.andThen_ok, List.map_toArray, List.map_cons, List.map_nil, hs, hx, hr]
  exact hK _ _ (h g' cap' w' h1 h2 h2b h3)
/-- An owned row stays, where another one is grown. -/
theorem OwnC.grownO {B : Nat} {w w' : World} {g n cap h m c : Nat} {xs : List Int} (ho : OwnC B w (some ⟨g, 0, none⟩) n cap xs) (hg : w.grownBy w' (Value.slice (some ⟨h, 0, none⟩) m c).ownBlock) (hne : g ≠ h) : OwnC B w' (some ⟨g, 0, none⟩) n cap xs :=
  ho.keep fun g' hg' => by
    simp only [Option.some.injEq, Addr.mk.injEq, and_true] at hg'
    subst hg'
    exact hg.block _ (ho.base_of _ rfl).2 (fun e => hne (Option.some.inj e))
theorem add_small {p x y : Int} (hx : 0 ≤ x) (hy : 0 ≤ y) : (x + y).tmod p = (x + 1 * y) % p := by
  rw [Int.one_mul, Int.tmod_eq_emod_of_nonneg (by omega)]

set_option maxHeartbeats 2000000 in
theorem l_add9 (p : Int) (ax ay : Option Addr) (n cx cy : Nat) (x y : List Int) (w : World) (hp1 : 3 ≤ p) (hp2 : p ≤ 1000) (hn : n ≤ 4194303) (hx : RdC w ax n x) (hy : RdC w ay n y) (hgx : Good p n x) (hgy : Good p n y) :
    Calls Try.prog 15 #[.int .i64 p, .slice ax n cx, .slice ay n cy] w fun e w' => ∃ g rc, e = .returned (.slice (some ⟨g, 0, none⟩) n rc) ∧ OwnC w.heap.size w' (some ⟨g, 0, none⟩) n rc (plusL p x y 1 n) ∧ Ext w w' := by
  have HX := Lib.hid hx
  have HY := Lib.hid hy
  have HGX := Lib.hid hgx
  have HGY := Lib.hid hgy
  have hpz : ¬ p = 0 := by omega
  clear hx hy hgx hgy
  go_enter Try.func15, Try.ntmps15
  go_wp2_with (fail)
  go_loopw [7, 8] (fun o i wr => ∃ (j g rc : Nat), j ≤ n ∧ i = .int .i64 j ∧ o = .slice (some ⟨g, 0, none⟩) j rc ∧ OwnC w.heap.size wr (some ⟨g, 0, none⟩) j rc (plusL p x y 1 j) ∧ Ext w wr) (fun _ i _ => n - (intOf i).toNat)
  case atStart => exact ⟨0, _, 0, Nat.zero_le _, rfl, rfl, own_empty w, ext_alloc _ _⟩
  case round =>
    obtain ⟨j, g, rc, hj, rfl, rfl, hown, hext⟩ := hrel
    have HOwn := Lib.hid hown
    have HExt := Lib.hid hext
    clear hown hext
    by_cases hlt : j < n
    · obtain ⟨bx, ox, rfl, hcx⟩ := HX.out.2 j hlt
      obtain ⟨by', oy, rfl, hcy⟩ := HY.out.2 j hlt
      have Hcx := Lib.hid ((HExt.out.trans (ext_drew _)).cell hcx)
      have Hcy := Lib.hid ((HExt.out.trans (ext_drew _)).cell hcy)
      have hbx := HGX.out.2 j hlt
      have hby := HGY.out.2 j hlt
      have hw2 : IntKind.i64.wrap (nth x j + nth y j) = nth x j + nth y j := IntWalk.i64_in _ (by omega)
      have HM := Lib.hid (add_small (p := p) hbx.1 hby.1)
      have HPN : Hid (plusN p x y 1 j = (nth x j + 1 * nth y j) % p) := Lib.hid rfl
      obtain ⟨z, hz⟩ : ∃ z, z = (nth x j + nth y j).tmod p := ⟨_, rfl⟩
      have HZ := Lib.hid hz
      have HZP : Hid (z = plusN p x y 1 j) := Lib.hid (by rw [hz, HM.out, HPN.out])
      have hzb : 0 ≤ z ∧ z < p := by rw [hz, HM.out]; exact ⟨Int.emod_nonneg _ (by omega), Int.emod_lt_of_pos _ (by omega)⟩
      have hwz : (nth x j + nth y j).tmod p = z := hz.symm
      clear hcx hcy hz
      have hlt' : (j : Int) < (n : Int) := by omega
      go_wp2_with (fail)
      refine wp_region_lex_tail 13 [(12, .one z)] (by kernel_rfl) (by kernel_rfl) ?_
      simp only [List.take, List.drop]
      repeat' first | (refine LexW.pure (v := ?_) rfl rfl (fun w1 he => ?_) ?_; rotate_left; ( have e3 := he.cell Hcx.out; have e4 := he.cell Hcy.out; go_simp; rfl); simp only [Act.put, List.setIfInBounds_toArray, List.set_cons_zero, List.set_cons_succ]) | ((refine LexW.rel rfl rfl (fun w1 he hdep => ?_) (fun v hv => ?_); ( exact ⟨.slice (some ⟨w1.heap.size, 0, none⟩) 1 1, w1.alloc (.cells #[.int .i64 z] 2), (by go_simp), ext_alloc _ _, _, rfl, (by simp)⟩); simp only [Act.put, List.setIfInBounds_toArray, List.set_cons_zero, List.set_cons_succ]); obtain ⟨_, g9, rfl, _⟩ := hv)
      refine LexW.nil (fun w2 he hkn => ?_)
      obtain ⟨_, q9, r9⟩ : (SPred.one z).holds (.slice (some ⟨g9, 0, none⟩) 1 1) w2 := hkn (12, _) (by simp)
      cases q9
      have G2 := Lib.hid ((ext_drew _).trans he)
      have R9 := Lib.hid r9
      clear he hkn r9 hwz hw2
      go_wp2_with (at_builtin; refine wpList_push rfl (.tmp 22) (.tmp 34) rfl rfl rfl (v := z) (HOwn.out.ext G2.out) ?hc ?hn ?hB ?hk)
      case hc => exact R9.out
      case hn => omega
      case hB => exact (HExt.out.trans G2.out).size'
      case hk =>
        intro g' cap' w3 ho3 hg3 he3
        have HO3 := Lib.hid ho3
        have HE3 := Lib.hid (he3 w (Nat.le_refl _) (HExt.out.trans G2.out))
        clear ho3 hg3 he3
        go_wp2_with (fail)
        go_roundw
        case rel => exact ⟨j + 1, g', cap', by omega, by go_num, rfl, by rw [plusL_succ, ← HZP.out]; exact HO3.out, HE3.out⟩
        case measure => simp [intOf]; omega
    · obtain rfl : j = n := by omega
      have hlt' : ¬ (j : Int) < (j : Int) := by omega
      go_wp2_with (fail)
      go_ret
      exact ⟨g, rc, rfl, HOwn.out, HExt.out⟩
set_option maxHeartbeats 2000000 in
theorem l_scale9 (p k : Int) (ax : Option Addr) (n cx : Nat) (x : List Int) (w : World) (hp1 : 3 ≤ p) (hp2 : p ≤ 1000) (hk : -1000 ≤ k ∧ k ≤ 1000) (hn : n ≤ 4194303) (hx : RdC w ax n x) (hgx : Good p n x) :
    Calls Try.prog 16 #[.int .i64 p, .int .i64 k, .slice ax n cx] w fun e w' => ∃ g rc, e = .returned (.slice (some ⟨g, 0, none⟩) n rc) ∧ OwnC w.heap.size w' (some ⟨g, 0, none⟩) n rc (scaleL p x k n) ∧ Ext w w' := by
  have HX := Lib.hid hx
  have HGX := Lib.hid hgx
  have hpz : ¬ p = 0 := by omega
  clear hx hgx
  go_enter Try.func16, Try.ntmps16
  go_wp2_with (fail)
  go_loopw [7, 8] (fun o i wr => ∃ (j g rc : Nat), j ≤ n ∧ i = .int .i64 j ∧ o = .slice (some ⟨g, 0, none⟩) j rc ∧ OwnC w.heap.size wr (some ⟨g, 0, none⟩) j rc (scaleL p x k j) ∧ Ext w wr) (fun _ i _ => n - (intOf i).toNat)
  case atStart => exact ⟨0, _, 0, Nat.zero_le _, rfl, rfl, own_empty w, ext_alloc _ _⟩
  case round =>
    obtain ⟨j, g, rc, hj, rfl, rfl, hown, hext⟩ := hrel
    have HOwn := Lib.hid hown
    have HExt := Lib.hid hext
    clear hown hext
    by_cases hlt : j < n
    · obtain ⟨bx, ox, rfl, hcx⟩ := HX.out.2 j hlt
      have hcx' := HExt.out.cell hcx
      have hbx := HGX.out.2 j hlt
      have hkb := kmul_bd hk hbx.1 (show nth x j ≤ 1000 by omega)
      have hw1 : IntKind.i64.wrap (k * nth x j) = k * nth x j := IntWalk.i64_in _ (by omega)
      have HE := Lib.hid (num_eq (n := k * nth x j) (p := p) (by omega) hp2)
      have HSN : Hid (scaleN p x k j = (k * nth x j) % p) := Lib.hid (by unfold scaleN; rw [Int.mul_comm])
      obtain ⟨m, hm⟩ : ∃ m, m = k * nth x j := ⟨_, rfl⟩
      rw [← hm] at HE HSN hkb
      have hm' : k * nth x j = m := hm.symm
      rw [hm'] at hw1
      obtain ⟨z, hz⟩ : ∃ z, z = m % p := ⟨_, rfl⟩
      rw [← hz] at HE HSN
      clear hcx hm hz
      have hlt' : (j : Int) < (n : Int) := by omega
      go_wp2_with (at_builtin; refine wpList_push rfl (.tmp 16) (.tmp 29) rfl rfl rfl (v := (wrap64 (m.tmod p + p)).tmod p) (HOwn.out.ext (ext_alloc _ _)) ?hc ?hn ?hB ?hk)
      case hc => simp
      case hn => omega
      case hB => have := HExt.out.size'; simp; omega
      case hk =>
        intro g' cap' w3 ho3 hg3 he3
        rw [HE.out] at ho3
        have HO3 := Lib.hid ho3
        have HE3 := Lib.hid (he3 w (Nat.le_refl _) (HExt.out.trans (ext_alloc _ _)))
        clear ho3 hg3 he3 hcx' hm' hw1
        go_wp2_with (fail)
        go_roundw
        case rel => exact ⟨j + 1, g', cap', by omega, by go_num, rfl, by rw [scaleL_succ, HSN.out]; exact HO3.out, HE3.out⟩
        case measure => simp [intOf]; omega
    · obtain rfl : j = n := by omega
      have hlt' : ¬ (j : Int) < (j : Int) := by omega
      go_wp2_with (fail)
      go_ret
      exact ⟨g, rc, rfl, HOwn.out, HExt.out⟩
end Go.Proofs.Ytcocbainookkcaa

/-
  What is known of the arguments of a law in memory, read off the form's own words.
  No condition.
-/
namespace Go.Proofs.Ytcocbainookkcaa
set_option maxRecDepth 100000
open Go.ChangeShapes Go.WideShapes Go.ChangeAt Go.RowKit Go.Joins

theorem own : ownKnob Try.prog.godebug = none := by kernel_rfl
theorem laidOut : laidOutB Try.prog = true := by kernel_rfl
theorem Try.cellsI : Try.prog.cellsOf 2 = 1 := by kernel_rfl
theorem Try.cellsR : Try.prog.cellsOf 24 = 1 := by kernel_rfl

theorem add_cell {w : World} {x : Addr} {i : Nat} {v v0 : Value} (h0 : w.cell? (x.add 0) = some v0) (h : w.cell? (x.add i) = some v) : ∃ b off, some x = some (⟨b, off, none⟩ : Addr) ∧ w.cell? ⟨b, off + i, none⟩ = some v := by
  obtain ⟨b, off, spot⟩ := x
  cases spot with
  | none =>
    refine ⟨b, off, rfl, ?_⟩
    unfold Addr.add at h
    split at h
    · rename_i hi; subst hi; exact h
    · exact h
  | some s =>
    simp only [World.cell?, Addr.add, if_true] at h0
    split at h0
    · simp at h0
    · cases h0

theorem read_cells {H : Type} {enc : TypeId × Value → H} {W : World} {fuel : Nat} {v : Value} {x : DataW H × List MemPlace}
    (hf : DataW.trod enc Try.prog W 0 (fun _ => true) true fuel 24 [v] = some x) : ∃ a n cap xs, v = .slice a n cap ∧ RdC W a n xs ∧ n ≤ maxLen := by
  rcases open_ints Try.underlying24 Try.underlying2 Try.cellsI hf with ⟨hcs, _⟩ | ⟨y, l, c, zs, hcs, _, hl, hm, hz, _, hcell, hwz⟩
  · simp only [List.cons.injEq, and_true] at hcs
    exact ⟨none, 0, 0, [], hcs, ⟨rfl, fun i hi => by omega⟩, by omega⟩
  · simp only [List.cons.injEq, and_true] at hcs
    have hz' : zs.length = c := by simpa using hz
    refine ⟨some y, l, c, zs.take l, hcs, ⟨by simp; omega, fun i hi => ?_⟩, by omega⟩
    obtain ⟨b, off, h1, h2⟩ := add_cell (hcell 0 (by omega)) (hcell i (by omega))
    refine ⟨b, off, h1, ?_⟩
    rw [h2]
    simp [nth, List.getElem?_take_of_lt hi]

theorem read_ints {H : Type} {enc : TypeId × Value → H} {W : World} {base : Nat} {v : Value} {d : DataW H} {p : List MemPlace}
    (hv : Value.okWide Try.prog W .any base 24 v) (h : DataW.Trod enc Try.prog W 0 (fun _ => true) true 24 v d p) : ∃ a n cap xs, v = .slice a n cap ∧ RdC W a n xs ∧ n ≤ maxLen := by
  obtain ⟨a0, len0, cap0, rfl⟩ := okWide_slice Try.underlying24 hv
  obtain ⟨fuel, hf⟩ := h
  exact read_cells (by simpa [Value.cells] using hf)


end Go.Proofs.Ytcocbainookkcaa

/-
  What is known of the bytes that a law is handed.
  No condition.
-/
namespace Go.Proofs.Ytcocbainookkcaa
set_option maxRecDepth 100000
open Go.ChangeShapes Go.WideShapes Go.ChangeAt Go.RowKit Go.Joins

theorem Try.cellsB : Try.prog.cellsOf 5 = 1 := by kernel_rfl

theorem read_bytes {H : Type} {enc : TypeId × Value → H} {W : World} {base : Nat} {v : Value} {d : DataW H} {p : List MemPlace}
    (hv : Value.okWide Try.prog W .any base 22 v) (h : DataW.Trod enc Try.prog W 0 (fun _ => true) true 22 v d p) : ∃ a n cap, v = .slice a n cap ∧ RdY W a n := by
  obtain ⟨a0, len0, cap0, rfl⟩ := okWide_slice Try.underlying22 hv
  obtain ⟨fuel, hf⟩ := h
  have hf' : DataW.trod enc Try.prog W 0 (fun _ => true) true fuel 22 [.slice a0 len0 cap0] = some (d, p) := by simpa [Value.cells] using hf
  rcases open_ints Try.underlying22 Try.underlying5 Try.cellsB hf' with ⟨hcs, _⟩ | ⟨y, l, c, zs, hcs, _, hl, hm, hz, _, hcell, hwz⟩
  · simp only [List.cons.injEq, and_true] at hcs
    exact ⟨none, 0, 0, hcs, fun i hi => by omega⟩
  · simp only [List.cons.injEq, and_true] at hcs
    have hz' : zs.length = c := by simpa using hz
    refine ⟨some y, l, c, hcs, fun i hi => ?_⟩
    obtain ⟨b, off, h1, h2⟩ := add_cell (hcell 0 (by omega)) (hcell i (by omega))
    have hi' : i < zs.length := by omega
    have hw := hwz (zs.getD i 0) (by rw [List.getD_eq_getElem?_getD, List.getElem?_eq_getElem hi']; exact List.getElem_mem hi')
    refine ⟨b, off, zs.getD i 0, h1, h2, ?_⟩
    replace hw : (decide (IntKind.u8.min ≤ zs.getD i 0) && decide (zs.getD i 0 ≤ IntKind.u8.max)) = true := hw
    have h8 : IntKind.u8.min = 0 ∧ IntKind.u8.max = 255 := by decide
    rw [h8.1, h8.2] at hw
    simp only [Bool.and_eq_true, decide_eq_true_eq] at hw
    omega
end Go.Proofs.Ytcocbainookkcaa
