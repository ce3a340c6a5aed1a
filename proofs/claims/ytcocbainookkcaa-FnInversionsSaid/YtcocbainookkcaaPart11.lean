/-
  Contracts and plain laws, part 11: InvP, DrawV, DrawP, Draw18, FloatE, Draw18B.
  No condition.
-/
import Derived.Test.YtcocbainookkcaaPart10
import Derived.Test.YtcocbainookkcaaPart5
import Derived.Test.YtcocbainookkcaaPart3
/-
  Inversions at spheres, in plain numbers.
  No condition. No program in sight.
-/
namespace Go.Proofs.Ytcocbainookkcaa
set_option maxRecDepth 100000
open Go.RowKit

section
variable {p : Int} {qs x v : List Int}
theorem nrm_cg : cg p (nrmZ p qs x) (pairZ (extL p qs) x x) := pl_cg (extL_len p qs)
theorem nrm_bd (hp : 1 ≤ p) : 0 ≤ nrmZ p qs x ∧ nrmZ p qs x < p := pairL_bd hp
/-- The factor of the reflection. -/
def invK (p : Int) (qs x v : List Int) : Int := reflK p (extL p qs) x (pointL p qs v) (qs.length + 2)
theorem invK_cg : cg p (invK p qs x v) (-2 * pairZ (extL p qs) x (pointL p qs v) * invN p (nrmZ p qs x)) :=
  ((cg.refl p (-2)).mul (pl_cg (extL_len p qs))).mul (cg.refl _ _)
theorem invR_cg {i : Nat} (hi : i < qs.length + 2) : cg p (nth (invR p qs x v) i) (nth (pointL p qs v) i + invK p qs x v * nth x i) := plus_cg hi
theorem invR_pz {z : List Int} : cg p (pairZ (extL p qs) (invR p qs x v) z) (pairZ (extL p qs) (pointL p qs v) z + invK p qs x v * pairZ (extL p qs) x z) := pz_plus (extL_len p qs)
theorem nrm_inv (hp : primeB p = true) (hn : nrmZ p qs x ≠ 0) : cg p (pairZ (extL p qs) x x * invN p (nrmZ p qs x)) 1 := by
  have hb := prime_bd hp
  have h := nrm_bd (p := p) (qs := qs) (x := x) (by omega)
  exact ((nrm_cg.symm).mul (cg.refl _ _)).trans (cg_inv hp (by omega) h.2)
theorem invR_x (hp : primeB p = true) (hn : nrmZ p qs x ≠ 0) : cg p (pairZ (extL p qs) x (invR p qs x v)) (-(pairZ (extL p qs) x (pointL p qs v))) := by
  rw [pz_comm]
  obtain ⟨a, ha⟩ := invR_pz (p := p) (qs := qs) (x := x) (v := v) (z := x)
  obtain ⟨b, hb⟩ := invK_cg (p := p) (qs := qs) (x := x) (v := v)
  obtain ⟨c, hc⟩ := nrm_inv hp hn
  have hcm := pz_comm (extL p qs) (pointL p qs v) x
  exact ⟨a + b * pairZ (extL p qs) x x - 2 * pairZ (extL p qs) x (pointL p qs v) * c, by grind⟩
theorem invR_null (hp : primeB p = true) (hn : nrmZ p qs x ≠ 0) (hv : v.length = qs.length) : cg p (pairZ (extL p qs) (invR p qs x v) (invR p qs x v)) 0 := by
  obtain ⟨a, ha⟩ := invR_pz (p := p) (qs := qs) (x := x) (v := v) (z := invR p qs x v)
  obtain ⟨a2, ha2⟩ := invR_pz (p := p) (qs := qs) (x := x) (v := v) (z := pointL p qs v)
  obtain ⟨b, hb⟩ := invR_x (v := v) hp hn
  obtain ⟨c, hc⟩ := pt_null (qs := qs) (v := v) hp hv
  have hcm := pz_comm (extL p qs) (pointL p qs v) (invR p qs x v)
  exact ⟨a + a2 + c + invK p qs x v * b, by grind⟩
theorem inv_fin (hp : primeB p = true) (hn : nrmZ p qs x ≠ 0) (hw : wgtI p qs (invR p qs x v) ≠ 0) (hv : v.length = qs.length) : finL p qs (invR p qs x v) = pointL p qs (plcL p qs (invR p qs x v)) := fin_point hp hw (invR_null hp hn hv)
theorem invN_pos {a : Int} (hp : primeB p = true) (h0 : 0 < a) (h1 : a < p) : 0 < invN p a := by
  have hb := prime_bd hp
  have h := (inv_spec hp h0 h1).1
  omega
theorem alg_twice {N K' K X P F R B J m a b c e f g p : Int} (ha : N = F + K' * X + p * a) (hb : K' = -2 * (m * -B + p * g) * J + p * b) (hc : F = R * m + p * c) (he : R = P + K * X + p * e) (hf : K = -2 * B * J + p * f) :
    N = m * P + p * (a + c + e * m + f * X * m + b * X - 2 * g * J * X) := by
  subst hf; subst he; subst hc; subst hb; subst ha
  grind
theorem alg_gap {W K o r D p a b e f g k : Int} (ha : W = -(-1 + p * e + K * (o * (-1 + p * g) + p * f) + p * b) + p * a) (hk : r * (K * o) = -(r - D) + p * k) :
    r * W = D + p * (r * a - r * b - r * e - r * K * f - r * K * o * g + k) := by
  subst ha
  have e1 : r * -(-1 + p * e + K * (o * (-1 + p * g) + p * f) + p * b) = r + r * (K * o) - p * (r * b + r * e + r * K * f + r * K * o * g) := by grind
  rw [Int.mul_add, e1, hk]
  grind
theorem alg_image {V P K X C o r D w p a s b k : Int} (hk : r * (K * o) = -(r - D) + p * k) (hs : P = w + p * s) (hb : X = o * C + p * b) (ha : V = P + K * X + p * a) :
    r * V = r * w - (r - D) * C + p * (r * a + r * s + r * K * b + k * C) := by
  subst hs; subst hb; subst ha
  have e1 : r * (w + p * s + K * (o * C + p * b) + p * a) = r * w + (r * (K * o)) * C + p * (r * a + r * s + r * K * b) := by grind
  rw [e1, hk]
  grind
/-- Inversions, done twice, lead back. -/
theorem inv_twice (hp : primeB p = true) (hn : nrmZ p qs x ≠ 0) (hw : wgtI p qs (invR p qs x v) ≠ 0) (hv : Good p qs.length v) :
    wgtI p qs (invR p qs x (plcL p qs (invR p qs x v))) ≠ 0 ∧ plcL p qs (invR p qs x (plcL p qs (invR p qs x v))) = v := by
  have hb := prime_bd hp
  have hF := inv_fin hp hn hw hv.1
  have hwp := wgtN_pos (p := p) (qs := qs) (x := invR p qs x v) (by omega) hw
  have hwb := wgtN_bd (p := p) (qs := qs) (x := invR p qs x v) (by omega)
  obtain ⟨m, hm⟩ : ∃ m, m = invN p (wgtN p qs (invR p qs x v)) := ⟨_, rfl⟩
  have hm0 : 0 < m := by rw [hm]; exact invN_pos hp hwp hwb.2
  have hm1 : m < p := by rw [hm]; exact (invN_bd (by omega)).2
  have hFc : ∀ i, i < qs.length + 2 → cg p (nth (pointL p qs (plcL p qs (invR p qs x v))) i) (nth (invR p qs x v) i * m) := fun i hi => by
    rw [← hF, hm]; exact scale_cg hi
  have hFx : cg p (pairZ (extL p qs) x (pointL p qs (plcL p qs (invR p qs x v)))) (m * -(pairZ (extL p qs) x (pointL p qs v))) := by
    rw [← hF, pz_comm]
    refine fin_cg.trans ?_
    rw [← hm, pz_comm]
    exact (cg.refl _ _).mul (invR_x hp hn)
  obtain ⟨h1, h2⟩ := fin_scale (p := p) (qs := qs) (x := invR p qs x (plcL p qs (invR p qs x v))) (y := pointL p qs v) (k := m) hp hm0 hm1 (fun i hi => by
    obtain ⟨a, ha⟩ := invR_cg (p := p) (qs := qs) (x := x) (v := plcL p qs (invR p qs x v)) hi
    obtain ⟨b, hb⟩ := invK_cg (p := p) (qs := qs) (x := x) (v := plcL p qs (invR p qs x v))
    obtain ⟨c, hc⟩ := hFc i hi
    obtain ⟨e, he⟩ := invR_cg (p := p) (qs := qs) (x := x) (v := v) hi
    obtain ⟨f, hf⟩ := invK_cg (p := p) (qs := qs) (x := x) (v := v)
    obtain ⟨g, hg⟩ := hFx
    rw [hg] at hb
    exact ⟨_, alg_twice ha hb hc he hf⟩) (pt_inf hp hv.1) (pointL_good (by omega) rfl)
  refine ⟨h1, ?_⟩
  rw [show plcL p qs (invR p qs x (plcL p qs (invR p qs x v))) = (finL p qs (invR p qs x (plcL p qs (invR p qs x v)))).take qs.length from rfl, h2]
  exact point_inj_take (by omega) hv
/-- Vectors on the sphere stay. -/
theorem inv_on (hp : primeB p = true) (hv : Good p qs.length v) (h : pexZ p qs x v = 0) : plcL p qs (invR p qs x v) = v := by
  have hb := prime_bd hp
  have hR : invR p qs x v = pointL p qs v := by
    refine good_eq (invR_good (by omega) rfl) (pointL_good (by omega) rfl) fun i hi => ?_
    obtain ⟨a, ha⟩ := invR_cg (p := p) (qs := qs) (x := x) (v := v) hi
    obtain ⟨b, hb⟩ := invK_cg (p := p) (qs := qs) (x := x) (v := v)
    obtain ⟨c, hc⟩ := pex_cg (p := p) (qs := qs) (x := x) (v := v)
    rw [h] at hc
    exact ⟨a + b * nth x i + 2 * c * invN p (nrmZ p qs x) * nth x i, by grind⟩
  rw [hR]
  exact (point_place hp hv).2

/-! ### Inversions at a sphere -/
theorem plc_nth {i : Nat} (hi : i < qs.length) : nth (plcL p qs x) i = nth (finL p qs x) i := by unfold plcL; rw [tk_nth hi]
/-- A finite vector, divided by its weight, is the sphere vector of its centre and its number. -/
theorem fin_ball (hp : primeB p = true) (hw : wgtI p qs x ≠ 0) : finL p qs x = ballL p qs (plcL p qs x) (sphN p qs x) := by
  have hb := prime_bd hp
  have hcl := (plc_good (p := p) (qs := qs) (x := x) (by omega) rfl).1
  have hfi := fin_inf hp hw
  have hpi := pt_inf (qs := qs) (v := plcL p qs x) hp hcl
  have hd : cg p (nth (finL p qs x) qs.length) (nth (pointL p qs (plcL p qs x)) qs.length - sphN p qs x * invN p 2 % p) := by
    refine cg_two hp ?_
    obtain ⟨a, ha⟩ := hr_cg (r := sphN p qs x) hp
    obtain ⟨b, hb⟩ := cg_emod p (-2 * (nth (finL p qs x) qs.length - nth (pointL p qs (plcL p qs x)) qs.length))
    have hb' : sphN p qs x = -2 * (nth (finL p qs x) qs.length - nth (pointL p qs (plcL p qs x)) qs.length) + p * b := hb
    exact ⟨a + b, by grind⟩
  have two : ∀ z : List Int, cg p (pairZ (extL p qs) z (infL qs.length)) (nth z qs.length - nth z (qs.length + 1)) := fun z => by
    rw [pairZ_ext, sumN_zero fun i hi => by rw [inf_nth, if_pos hi]; simp, inf_nth, inf_nth, if_neg (by omega), if_pos rfl, if_neg (by omega), if_neg (by omega), if_pos rfl]
    exact ⟨nth z (qs.length + 1), by grind⟩
  refine good_eq (fin_good (by omega)) (ball_good (by omega) rfl) fun i hi => ?_
  refine cg.trans ?_ (cg.symm (plus_cg hi))
  rw [inf_nth]
  by_cases h : i < qs.length
  · rw [if_pos h, ← plc_nth h]
    obtain ⟨s, hs⟩ := point_nth (p := p) (qs := qs) (v := plcL p qs x) (i := i) hcl hi
    rw [if_pos h] at hs
    exact ⟨-s, by grind⟩
  · rw [if_neg h]
    by_cases h2 : i = qs.length
    · rw [if_pos h2, h2]; refine hd.trans ⟨0, by grind⟩
    · rw [if_neg h2, if_pos (by omega), show i = qs.length + 1 by omega]
      obtain ⟨a, ha⟩ := hd
      obtain ⟨b, hb⟩ := (two (finL p qs x)).symm.trans hfi
      obtain ⟨c, hc⟩ := (two (pointL p qs (plcL p qs x))).symm.trans hpi
      exact ⟨a - b + c, by grind⟩
/-- What an inversion does with distances: gap and number. -/
theorem inv_gap (hp : primeB p = true) (hn : nrmZ p qs x ≠ 0) (hx : wgtI p qs x ≠ 0) (hv : v.length = qs.length) :
    cg p (sphN p qs x * wgtN p qs (invR p qs x v)) (distN p qs (plcL p qs x) v) ∧
    (∀ i, i < qs.length → cg p (sphN p qs x * nth (invR p qs x v) i) (sphN p qs x * nth v i - (sphN p qs x - distN p qs (plcL p qs x) v) * nth (plcL p qs x) i)) := by
  have hb := prime_bd hp
  have hcl := (plc_good (p := p) (qs := qs) (x := x) (by omega) rfl).1
  have hFB := fin_ball hp hx
  obtain ⟨c, hc⟩ : ∃ c, c = plcL p qs x := ⟨_, rfl⟩
  obtain ⟨r, hr⟩ : ∃ r, r = sphN p qs x := ⟨_, rfl⟩
  rw [← hc, ← hr] at hFB ⊢
  rw [← hc] at hcl
  have hwp := wgtN_pos (p := p) (qs := qs) (x := x) (by omega) hx
  have hwb := wgtN_bd (p := p) (qs := qs) (x := x) (by omega)
  obtain ⟨o, ho⟩ : ∃ o, o = wgtN p qs x := ⟨_, rfl⟩
  have hio := cg_inv hp hwp hwb.2
  rw [← ho] at hio
  -- x is o times the sphere vector
  have hxb : ∀ i, i < qs.length + 2 → cg p (nth x i) (o * nth (ballL p qs c r) i) := fun i hi => by
    have h1 : cg p (nth (ballL p qs c r) i) (nth x i * invN p o) := by rw [← hFB, ho]; exact scale_cg hi
    obtain ⟨a, ha⟩ := h1
    obtain ⟨t, ht⟩ := hio
    exact ⟨-(a * o) - t * nth x i, by grind⟩
  have hxz : ∀ z, cg p (pairZ (extL p qs) x z) (o * pairZ (extL p qs) (ballL p qs c r) z) := fun z => by
    have h1 : cg p (pairZ (extL p qs) x z) (pairZ (extL p qs) (scaleL p (ballL p qs c r) o (qs.length + 2)) z) :=
      pz_congr (fun i hi => by rw [extL_len] at hi; exact (hxb i hi).trans (cg.symm ((scale_cg hi).trans (by rw [Int.mul_comm]; exact cg.refl _ _)))) (fun i _ => cg.refl _ _)
    exact h1.trans (pz_scale (extL_len p qs))
  have hBI := ball_inf (qs := qs) (c := c) (r := r) hp hcl
  have hBB : cg p (pairZ (extL p qs) (ballL p qs c r) (ballL p qs c r)) r := by
    obtain ⟨a, ha⟩ := ball_cg (p := p) (qs := qs) (c := c) (r := r) (z := ballL p qs c r)
    obtain ⟨b, hb⟩ := ball_cg (p := p) (qs := qs) (c := c) (r := r) (z := pointL p qs c)
    obtain ⟨e, he⟩ := pt_null (qs := qs) (v := c) hp hcl
    obtain ⟨f, hf⟩ := inf_pt (qs := qs) (v := c) hp hcl
    obtain ⟨g, hg⟩ := hBI
    obtain ⟨k, hk⟩ := hr_cg (r := r) hp
    have h1 := pz_comm (extL p qs) (pointL p qs c) (ballL p qs c r)
    have h2 := pz_comm (extL p qs) (infL qs.length) (ballL p qs c r)
    exact ⟨a + b + e - r * invN p 2 % p * f - r * invN p 2 % p * g + k, by grind⟩
  have hN : cg p (pairZ (extL p qs) x x) (o * o * r) := by
    refine (hxz x).trans ?_
    rw [pz_comm]
    obtain ⟨a, ha⟩ := hxz (ballL p qs c r)
    obtain ⟨b, hb⟩ := hBB
    exact ⟨o * a + o * o * b, by grind⟩
  have hnorm := nrm_inv hp hn
  have hone : cg p (o * o * r * invN p (nrmZ p qs x)) 1 := (hN.symm.mul (cg.refl _ _)).trans hnorm
  -- the sphere vector and the point vector
  have h2b : cg p (2 * pairZ (extL p qs) (ballL p qs c r) (pointL p qs v)) (r - distN p qs c v) := by
    obtain ⟨t, ht⟩ := ball_cg (p := p) (qs := qs) (c := c) (r := r) (z := pointL p qs v)
    obtain ⟨a, ha⟩ := inf_pt (qs := qs) (v := v) hp hv
    obtain ⟨b, hb⟩ := hr_cg (r := r) hp
    obtain ⟨e, he⟩ := cg_emod p (-2 * pexZ p qs (pointL p qs c) v)
    have he' : distN p qs c v = -2 * pexZ p qs (pointL p qs c) v + p * e := he
    obtain ⟨f, hf⟩ := pex_cg (p := p) (qs := qs) (x := pointL p qs c) (v := v)
    exact ⟨2 * t - 2 * (r * invN p 2 % p) * a + b + e - 2 * f, by grind⟩
  -- r times the factor times o
  have hK : cg p (r * (invK p qs x v * o)) (-(r - distN p qs c v)) := by
    obtain ⟨a, ha⟩ := invK_cg (p := p) (qs := qs) (x := x) (v := v)
    obtain ⟨b, hb⟩ := hxz (pointL p qs v)
    obtain ⟨e, he⟩ := h2b
    obtain ⟨f, hf⟩ := hone
    rw [hb] at ha
    obtain ⟨Y, hY⟩ : ∃ Y, Y = pairZ (extL p qs) (ballL p qs c r) (pointL p qs v) := ⟨_, rfl⟩
    obtain ⟨J, hJ⟩ : ∃ J, J = invN p (nrmZ p qs x) := ⟨_, rfl⟩
    rw [← hY] at ha he
    rw [← hJ] at ha hf
    rw [ha]
    exact ⟨r * o * a - 2 * r * o * b * J - e - 2 * Y * f, by grind⟩
  constructor
  · obtain ⟨a, ha⟩ := wgtN_cg (p := p) (qs := qs) (x := invR p qs x v)
    obtain ⟨b, hb⟩ := invR_pz (p := p) (qs := qs) (x := x) (v := v) (z := infL qs.length)
    obtain ⟨e, he⟩ := pt_inf (qs := qs) (v := v) hp hv
    obtain ⟨f, hf⟩ := hxz (infL qs.length)
    obtain ⟨g, hg⟩ := hBI
    obtain ⟨k, hk⟩ := hK
    rw [hb, he, hf, hg] at ha
    exact ⟨_, alg_gap ha hk⟩
  · intro i hi
    obtain ⟨a, ha⟩ := invR_cg (p := p) (qs := qs) (x := x) (v := v) (i := i) (by omega)
    obtain ⟨s, hs⟩ := point_nth (p := p) (qs := qs) (v := v) (i := i) hv (by omega)
    rw [if_pos hi] at hs
    obtain ⟨b, hb⟩ := hxb i (by omega)
    have hci : nth (ballL p qs c r) i = nth c i := by rw [← hFB, hc, plc_nth hi]
    rw [hci] at hb
    obtain ⟨k, hk⟩ := hK
    exact ⟨_, alg_image hk hs hb ha⟩
theorem inv_gap_ne (hp : primeB p = true) (hn : nrmZ p qs x ≠ 0) (hx : wgtI p qs x ≠ 0) (hw : wgtI p qs (invR p qs x v) ≠ 0) (hv : v.length = qs.length) : distN p qs (plcL p qs x) v ≠ 0 := by
  have hb := prime_bd hp
  intro h0
  obtain ⟨h1, _⟩ := inv_gap (v := v) hp hn hx hv
  rw [h0] at h1
  have hwp := wgtN_pos (p := p) (qs := qs) (x := invR p qs x v) (by omega) hw
  have hwb := wgtN_bd (p := p) (qs := qs) (x := invR p qs x v) (by omega)
  have hr0 : cg p (sphN p qs x) 0 := cg_cancel hp hwp hwb.2 (by rw [Int.mul_comm, Int.mul_zero]; exact h1)
  have hsb : 0 ≤ sphN p qs x ∧ sphN p qs x < p := ⟨Int.emod_nonneg _ (by omega), Int.emod_lt_of_pos _ (by omega)⟩
  have hr := cg_zero hr0 hsb.1 hsb.2
  -- then the norm would be 0
  have hFB := fin_ball hp hx
  rw [hr] at hFB
  have hwp' := wgtN_pos (p := p) (qs := qs) (x := x) (by omega) hx
  have hwb' := wgtN_bd (p := p) (qs := qs) (x := x) (by omega)
  have hcl := (plc_good (p := p) (qs := qs) (x := x) (by omega) rfl).1
  have hBB : cg p (pairZ (extL p qs) (finL p qs x) (finL p qs x)) 0 := by
    have e : finL p qs x = pointL p qs (plcL p qs x) := by
      rw [hFB]
      refine good_eq (ball_good (by omega) rfl) (pointL_good (by omega) rfl) fun i hi => ?_
      refine (plus_cg hi).trans ⟨0, by rw [Int.zero_mul, Int.zero_emod]; omega⟩
    rw [e]
    exact pt_null hp hcl
  have h2 : cg p (invN p (wgtN p qs x) * (invN p (wgtN p qs x) * pairZ (extL p qs) x x)) 0 := by
    refine cg.trans (cg.symm ?_) hBB
    refine fin_cg.trans ((cg.refl _ _).mul ?_)
    rw [pz_comm]
    exact fin_cg
  have hi0 := invN_pos hp hwp' hwb'.2
  have hi1 := (invN_bd (p := p) (a := wgtN p qs x) (by omega)).2
  have h3 := cg_cancel (a := invN p (wgtN p qs x) * pairZ (extL p qs) x x) (b := 0) hp hi0 hi1 (by rw [Int.mul_zero]; exact h2)
  have h4 := cg_cancel (a := pairZ (extL p qs) x x) (b := 0) hp hi0 hi1 (by rw [Int.mul_zero]; exact h3)
  have hnb := nrm_bd (p := p) (qs := qs) (x := x) (by omega)
  exact hn (cg_zero (nrm_cg.trans h4) hnb.1 hnb.2)
/-- The inverted vector: the centre plus a multiple of the difference. -/
theorem inv_image {f : Int} (hp : primeB p = true) (hn : nrmZ p qs x ≠ 0) (hx : wgtI p qs x ≠ 0) (hw : wgtI p qs (invR p qs x v) ≠ 0) (hv : Good p qs.length v) (hf : f * distN p qs (plcL p qs x) v % p = sphN p qs x) :
    plusL p (plcL p qs x) (scaleL p (plusL p v (scaleL p (plcL p qs x) (-1) qs.length) 1 qs.length) f qs.length) 1 qs.length = plcL p qs (invR p qs x v) := by
  have hb := prime_bd hp
  have hne := inv_gap_ne hp hn hx hw hv.1
  have hgb : 0 ≤ distN p qs (plcL p qs x) v ∧ distN p qs (plcL p qs x) v < p := ⟨Int.emod_nonneg _ (by omega), Int.emod_lt_of_pos _ (by omega)⟩
  obtain ⟨h1, h2⟩ := inv_gap (v := v) hp hn hx hv.1
  have hwp := wgtN_pos (p := p) (qs := qs) (x := invR p qs x v) (by omega) hw
  have hwb := wgtN_bd (p := p) (qs := qs) (x := invR p qs x v) (by omega)
  have hiw := cg_inv hp hwp hwb.2
  refine good_eq (plus_good (by omega)) (plc_good (by omega) rfl) fun i hi => ?_
  refine cg_cancel hp (show 0 < distN p qs (plcL p qs x) v by omega) hgb.2 ?_
  obtain ⟨a, ha⟩ := plus_cg (p := p) (k := 1) (x := plcL p qs x) (y := scaleL p (plusL p v (scaleL p (plcL p qs x) (-1) qs.length) 1 qs.length) f qs.length) hi
  obtain ⟨b, hb⟩ := scale_cg (p := p) (k := f) (x := plusL p v (scaleL p (plcL p qs x) (-1) qs.length) 1 qs.length) hi
  obtain ⟨e, he⟩ := plus_cg (p := p) (k := 1) (x := v) (y := scaleL p (plcL p qs x) (-1) qs.length) hi
  obtain ⟨g, hg⟩ := scale_cg (p := p) (k := -1) (x := plcL p qs x) hi
  obtain ⟨k, hk⟩ := h1
  obtain ⟨l, hl⟩ := h2 i hi
  obtain ⟨m, hm⟩ := hiw
  obtain ⟨t, ht⟩ : cg p (nth (plcL p qs (invR p qs x v)) i) (nth (invR p qs x v) i * invN p (wgtN p qs (invR p qs x v))) := by rw [plc_nth hi]; exact scale_cg (by omega)
  obtain ⟨u, hu⟩ : cg p (f * distN p qs (plcL p qs x) v) (sphN p qs x) := by rw [← hf]; exact (cg_emod _ _).symm
  rw [hb, he, hg] at ha
  rw [ha, ht]
  obtain ⟨D, hD⟩ : ∃ D, D = distN p qs (plcL p qs x) v := ⟨_, rfl⟩
  obtain ⟨r, hr⟩ : ∃ r, r = sphN p qs x := ⟨_, rfl⟩
  obtain ⟨o, ho⟩ : ∃ o, o = wgtN p qs (invR p qs x v) := ⟨_, rfl⟩
  obtain ⟨j, hj⟩ : ∃ j, j = invN p o := ⟨_, rfl⟩
  obtain ⟨c, hc⟩ : ∃ c, c = nth (plcL p qs x) i := ⟨_, rfl⟩
  obtain ⟨y, hy⟩ : ∃ y, y = nth (invR p qs x v) i := ⟨_, rfl⟩
  obtain ⟨w, hw'⟩ : ∃ w, w = nth v i := ⟨_, rfl⟩
  rw [← ho, ← hj] at hm
  rw [← hD, ← hr, ← ho] at hk
  rw [← hr, ← hD, ← hc, ← hy, ← hw'] at hl
  rw [← hD, ← hr] at hu
  rw [← hD, ← hc, ← hy, ← ho, ← hj, ← hw']
  clear ha hb he hg ht hD hr ho hj hc hy hw' hf hgb hne hwp hwb h2 hw hn hx
  have e1 : D * (y * j) = (r * y) * (o * j) - p * (k * y * j) := by rw [show D = r * o - p * k by omega]; grind
  have e2 : D * (c + 1 * ((w + 1 * (c * -1 + p * g) + p * e) * f + p * b) + p * a) = D * c + (f * D) * (w - c) + p * (D * (g * f + e * f + b + a)) := by grind
  rw [Int.mul_add D (y * j), e1, e2, hl, hm, hu]
  exact ⟨u * (w - c) + D * (g * f + e * f + b + a) - (r * w - (r - D) * c) * m - l - p * l * m + k * y * j - D * t, by grind⟩
end
end Go.Proofs.Ytcocbainookkcaa

/-
  Draws of vectors.
  No condition.
-/
namespace Go.Proofs.Ytcocbainookkcaa
set_option maxRecDepth 100000
open Go.RowKit

end Go.Proofs.Ytcocbainookkcaa

/-
  Draws of a space and two lists.
  No condition.
-/
namespace Go.Proofs.Ytcocbainookkcaa
set_option maxRecDepth 100000
open Go.RowKit

/-- A row of the call's own, behind the source. -/
def Chg.SPred.own (S : SrcP) (B M : Nat) (hB : S.g < B) : Chg.SPred (Drw.rel S) :=
  ⟨fun v w => ∃ a m cap xs, v = .slice a m cap ∧ m ≤ M ∧ OwnC B w a m cap xs, fun _ _ _ ⟨a, m, cap, xs, h1, h2, h3⟩ he => ⟨a, m, cap, xs, h1, h2, Drw.own he h3 hB⟩⟩

end Go.Proofs.Ytcocbainookkcaa

/-
  Draws of spaces that can be extended, and of vectors.
  No condition.
-/
namespace Go.Proofs.Ytcocbainookkcaa
set_option maxRecDepth 100000
open Go.RowKit

set_option maxHeartbeats 4000000 in
theorem s_draw18 (S : SrcP) (w : World) (hS : Src S w) :
    Calls Try.prog 67 #[.pointer (some ⟨S.g, 0, none⟩)] w fun e w' => ∃ p a d cap qs, e = .returned (.agg #[.int .i64 p, .slice a d cap]) ∧ 0 ≤ p ∧ p ≤ 17 ∧ d ≤ 7 ∧ OwnC w.heap.size w' a d cap qs ∧ Drw S w w' := by
  have HS := Lib.hid hS
  have hlt := hS.lt
  clear hS
  obtain ⟨W, hW⟩ : ∃ W, W = w.alloc (.cells #[.int .i64 0, .slice none 0 0] 26) := ⟨_, rfl⟩
  have gW : Ext w W := by rw [hW]; exact ext_alloc _ _
  have HZ := Lib.hid (show W.heap.size = w.heap.size + 1 by rw [hW]; simp)
  have HR := Lib.hid (show SpAt W w.heap.size 0 (.slice none 0 0) by rw [hW]; exact ⟨by simp, by simp, by simp, by simp⟩)
  have HW := Lib.hid hW
  have GW := Lib.hid (Drw.of_ext (S := S) gW)
  have hgR : w.heap.size ≠ S.g := by omega
  clear gW hW
  go_enter Try.func67, Try.ntmps67
  go_wp2_with (fail)
  rw [← HW.out]
  refine Calls.mono (s_pick S (w.heap.size + 1) 6 6 [1, 2, 2, 3, 3, 4] _ ((GW.out.alloc _).src HS.out) (by decide) (by decide) (by rw [← HZ.out]; exact rdC_lit W _ [1, 2, 2, 3, 3, 4]) (by omega)) ?_
  rintro e w2 ⟨r, rfl, hr, g2⟩
  obtain ⟨m, rfl, hm1, hm2⟩ : ∃ m : Nat, r = (m : Int) ∧ 1 ≤ m ∧ m ≤ 6 := by
    refine ⟨r.toNat, ?_⟩
    simp only [List.mem_cons, List.not_mem_nil, or_false] at hr
    omega
  have HR2 := Lib.hid ((HR.out.ext (ext_alloc _ _)).drw g2 hgR)
  have G2 := Lib.hid ((GW.out.alloc _).trans g2)
  clear g2 hr HR
  go_wp2_with (fail)
  refine Calls.mono (s_any S m w2 (G2.out.src HS.out) hm1 hm2) ?_
  rintro e w3 ⟨p, a, d, cap, qs, rfl, hpr, hp1, hp2, hd1, hd2, hqb, ho, g3⟩
  obtain ⟨W2, hW2⟩ : ∃ W2, W2 = w3.alloc (.cells #[.int .i64 p, .slice a d cap] 26) := ⟨_, rfl⟩
  obtain ⟨O, hO⟩ : ∃ O, O = w3.heap.size := ⟨_, rfl⟩
  have gW2 : Ext w3 W2 := by rw [hW2]; exact ext_alloc _ _
  have HC := Lib.hid (show SpAt W2 O p (.slice a d cap) by rw [hW2, hO]; exact ⟨by simp, by simp, by simp, by simp⟩)
  have HR3 := Lib.hid ((HR2.out.drw g3 hgR).ext gW2)
  have hwd : w.heap.size + 1 ≤ w2.heap.size := by have := HR2.out.lt; omega
  have HQ := Lib.hid ((ho.mono hwd).ext gW2)
  have G3 := Lib.hid ((G2.out.trans g3).ext gW2)
  have hgO : O ≠ S.g := by rw [hO]; have := g3.size; have := G2.out.size; omega
  have hRO : w.heap.size ≠ O := by rw [hO]; have := g3.size; omega
  have hwO : w.heap.size ≤ O := by rw [hO]; have := g3.size; omega
  go_wp2_with (fail)
  rw [← hW2, ← hO]
  clear hO gW2 ho g3 hW2 HR2 G2
  refine Calls.mono (s_next S 24 W2 (G3.out.src HS.out) (by decide)) ?_
  rintro e w4 ⟨r, rfl, _, g4⟩
  replace HR3 := Lib.hid (HR3.out.drw g4 hgR)
  replace HC := Lib.hid (HC.out.drw g4 hgO)
  replace HQ := Lib.hid (g4.own HQ.out (by omega))
  replace G3 := Lib.hid (G3.out.trans g4)
  clear g4
  by_cases h0 : r = 0
  · subst h0
    go_wp2_with (fail)
    refine Calls.mono (s_spoil3 S w4 (G3.out.src HS.out)) ?_
    rintro e w5 ⟨p2, a2, d2, c2, qs2, rfl, hp20, hp21, hd22, ho2, g5⟩
    have hR5 := HR3.out.drw g5 hgR
    have r0 := hR5.c0
    have r1 := hR5.c1
    have f0 := hR5.f0
    have f1 := hR5.f1
    have hw4 : w.heap.size + 1 ≤ w4.heap.size := by have := HR3.out.lt; omega
    have HO2 := Lib.hid (ho2.mono hw4)
    have G5 := Lib.hid (G3.out.trans g5)
    clear ho2 g5 hR5
    go_wp2_with (fail)
    refine bodyPost_ret (v := .agg #[.int .i64 p2, .slice a2 d2 c2]) (by simp [results, Try.results67, go_sem, r0, r1]) rfl ⟨p2, a2, d2, c2, qs2, rfl, hp20, hp21, hd22, ?_, ?_⟩
    · exact ((HO2.out.other (by simp) _).other (by simp) _).mono (by omega)
    · exact (G5.out.setCell (by simp) _).setCell (by simp) _
  · have hb0 : (r == 0) = false := by simp [h0]
    have r0 := HR3.out.c0
    have r1 := HR3.out.c1
    have f0 := HR3.out.f0
    have f1 := HR3.out.f1
    have o0 := HC.out.c0
    have o1 := HC.out.c1
    go_wp2_with (fail)
    refine bodyPost_ret (v := .agg #[.int .i64 p, .slice a d cap]) (by simp [results, Try.results67, go_sem, r0, r1]) rfl ⟨p, a, d, cap, qs, rfl, by omega, by omega, by omega, ?_, ?_⟩
    · exact ((HQ.out.other (by simp) _).other (by simp) _).mono (by omega)
    · exact (G3.out.setCell (by simp) _).setCell (by simp) _

set_option maxHeartbeats 4000000 in
theorem s_vec18 (S : SrcP) (p : Int) (a : Option Addr) (d cap : Nat) (w : World) (hS : Src S w) (hp0 : 0 ≤ p) (hp : p ≤ 1000000) (hd : d ≤ 100) :
    Calls Try.prog 68 #[.pointer (some ⟨S.g, 0, none⟩), .agg #[.int .i64 p, .slice a d cap]] w fun e w' => ∃ a cap m xs, e = .returned (.slice a m cap) ∧ m ≤ d + 1 ∧ OwnC w.heap.size w' a m cap xs ∧ Drw S w w' := by
  have hlt := hS.lt
  obtain ⟨O, hO⟩ : ∃ O, O = w.heap.size := ⟨_, rfl⟩
  have hgO : O ≠ S.g := by omega
  obtain ⟨W, hW⟩ : ∃ W, W = w.alloc (.cells #[.int .i64 p, .slice a d cap] 26) := ⟨_, rfl⟩
  have gW : Ext w W := by rw [hW]; exact ext_alloc _ _
  have HC := Lib.hid (show SpAt W O p (.slice a d cap) by rw [hW, hO]; exact ⟨by simp, by simp, by simp, by simp⟩)
  have HS := Lib.hid hS
  have GW := Lib.hid (Drw.of_ext (S := S) gW)
  have HZ := Lib.hid (show W.heap.size = w.heap.size + 1 by rw [hW]; simp)
  have hWO : O < W.heap.size := HC.out.lt
  clear gW hS
  have HHO := Lib.hid hO
  go_enter Try.func68, Try.ntmps68
  go_wp2_with (fail)
  rw [← hW]
  rw [← HHO.out]
  clear hW hO
  obtain ⟨W0, hW0⟩ : ∃ W0, W0 = W.alloc (.cells #[] 2) := ⟨_, rfl⟩
  have HE0 := Lib.hid (show Ext W W0 by rw [hW0]; exact ext_alloc _ _)
  have hz : W.heap.size = O + 1 := by have := HZ.out; have := HHO.out; omega
  have HOE := Lib.hid (show OwnC (O + 1) W0 (some ⟨O + 1, 0, none⟩) 0 0 [] by rw [hW0, ← hz]; exact own_empty W)
  rw [← hW0]
  have HL0 := Lib.hid (show O + 1 ≤ W0.heap.size by rw [hW0]; simp; omega)
  clear hW0
  have hSB : S.g < O + 1 := by have := HHO.out; omega
  have HSW := Lib.hid (GW.out.src HS.out)
  have G0 := Lib.hid (Drw.of_ext (S := S) HE0.out)
  have HWB : Hid (w.heap.size ≤ O + 1) := Lib.hid (by have := HHO.out; omega)
  have HBW : Hid (W.heap.size ≤ O + 1) := Lib.hid (by omega)
  clear HE0 HZ hz HS
  go_loopw [5, 6] (fun v i wr => ∃ (k : Nat) (b : Option Addr) (cb : Nat) (xs : List Int), k ≤ d ∧ i = .int .i64 k ∧ v = .slice b k cb ∧ Hid (OwnC (O + 1) wr b k cb xs) ∧ Hid (Drw S W wr) ∧ Hid (O + 1 ≤ wr.heap.size)) (fun _ i _ => d - (intOf i).toNat)
  case atStart => exact ⟨0, _, 0, [], Nat.zero_le _, rfl, rfl, HOE, G0, HL0⟩
  case round =>
    rename World => wr
    obtain ⟨k, b, cb, xs, hk, rfl, rfl, HO, HD, HL⟩ := hrel
    clear G0 HOE HL0
    have c0 := (HC.out.drw HD.out hgO).c0
    have c1 := (HC.out.drw HD.out hgO).c1
    by_cases hkn : k < d
    · have hkd : (k : Int) < (d : Int) := by omega
      go_wp2_with (fail)
      all_goals
        refine Calls.mono (s_next S _ wr (HD.out.src HSW.out) (by omega)) ?_
        rintro e w1 ⟨r, rfl, _, g1⟩
        have HO1 := Lib.hid (g1.own HO.out hSB)
        have HD1 := Lib.hid (HD.out.trans g1)
        have HL1 := Lib.hid (Nat.le_trans HL.out g1.size)
        clear g1 c0 c1
        go_wp2_with (at_builtin; refine wpList_push rfl (.tmp 15) (.tmp 21) rfl rfl rfl (v := r) (HO1.out.ext (ext_alloc _ _)) ?hc ?hn ?hB ?hk)
        case hc => simp
        case hn => omega
        case hB => have := HL1.out; simp; omega
        case hk =>
          intro g' cap' w3 ho3 hg3 he3
          have HO3 := Lib.hid ho3
          have HD3 := Lib.hid ((HD1.out.alloc _).grown hg3 (fun k hk => Nat.le_trans HBW.out (HO1.out.blk k hk)))
          have HL3 := Lib.hid (show O + 1 ≤ w3.heap.size by have h8 := HO3.out.base_of g' rfl; omega)
          clear ho3 hg3 he3
          go_wp2_with (fail)
          go_roundw
          case rel => exact ⟨k + 1, _, cap', _, by omega, by go_num, rfl, HO3, HD3, HL3⟩
          case measure => simp [intOf]; omega
    · obtain rfl : k = d := by omega
      go_wp2_with (fail)
      clear c0 c1
      refine Calls.mono (s_next S 40 wr (HD.out.src HSW.out) (by decide)) ?_
      rintro e w1 ⟨r, rfl, _, g1⟩
      have HO1 := Lib.hid (g1.own HO.out hSB)
      have HD1 := Lib.hid (HD.out.trans g1)
      have HL1 := Lib.hid (Nat.le_trans HL.out g1.size)
      clear g1
      by_cases h0 : r = 0
      · subst h0
        go_wp2_with (at_builtin; refine wpList_push rfl (.tmp 26) (.tmp 27) rfl rfl rfl (v := 0) (HO1.out.ext (ext_alloc _ _)) ?hc ?hn ?hB ?hk)
        case hc => simp
        case hn => omega
        case hB => have := HL1.out; simp; omega
        case hk =>
          intro g' cap' w3 ho3 hg3 he3
          have HO3 := Lib.hid (ho3.mono HWB.out)
          have HD3 := Lib.hid ((HD1.out.alloc _).grown hg3 (fun k hk => Nat.le_trans HBW.out (HO1.out.blk k hk)))
          clear ho3 hg3 he3
          go_wp2_with (fail)
          go_ret
          exact ⟨_, _, k + 1, _, rfl, by omega, HO3.out, GW.out.trans HD3.out⟩
      · have hb0 : (r == 0) = false := by simp [h0]
        go_wp2_with (fail)
        go_ret
        exact ⟨_, _, k, _, rfl, by omega, HO1.out.mono HWB.out, GW.out.trans HD1.out⟩
end Go.Proofs.Ytcocbainookkcaa

/-
  Regions that draw their order, walked by a plan: some operations float (they yield their values at any time while an invariant of the worlds holds), the others come when no other is ready.
  No condition. General over every program.
-/
namespace Go.Proofs.Ytcocbainookkcaa
set_option maxRecDepth 100000
open Go.RowKit

def Region.planB (md : Region.Mode) (ops : Array Oper) : List (Bool × Nat) → Array Bool → Bool
  | [], listed => decide (Region.ready md ops listed = [])
  | (true, i) :: l, listed => (Region.ready md ops listed).contains i && Region.free md ops listed i && Region.planB md ops l (listed.setIfInBounds i true)
  | (false, i) :: l, listed => decide (Region.ready md ops listed = [i]) && Region.planB md ops l (listed.setIfInBounds i true)

section
variable {P : Program} {ops : Array Oper} {md : Region.Mode} {Q : Exit → Act → World → Prop} {I : World → Prop}
variable (P ops Q I) in
/-- The operations by the plan. -/
def PlanW : List (Bool × Nat) → Act → World → Prop
  | [], a, w => I w ∧ Q .normal a w
  | (true, i) :: l, a, w => ∃ o v, ops[i]? = some o ∧ YieldsI P ops I o v a ∧ PlanW l (a.put o.dst v) w
  | (false, i) :: l, a, w => I w ∧ ∃ o, ops[i]? = some o ∧ Region.wanted o (yielded ops a.tmps) = true ∧ o.wp P a w (PlanW l) Q
theorem PlanW.float {i : Nat} {v : Value} {l : List (Bool × Nat)} {a : Act} {w : World} {o : Oper} (t : Option Tmp) (ho : ops[i]? = some o) (ht : o.dst = t) (hw : Region.wanted o (yielded ops a.tmps) = true) (hy : ∀ w, I w → (execOp a.eval o).run P w = .ok (.value v) w) (h : PlanW P ops Q I l (a.put t v) w) : PlanW P ops Q I ((true, i) :: l) a w := ⟨o, v, ho, ⟨hw, hy⟩, by rw [ht]; exact h⟩
theorem PlanW.value {i : Nat} {o : Oper} {l : List (Bool × Nat)} {a : Act} {w w' : World} {v : Value} (t : Option Tmp) (hI : I w) (ho : ops[i]? = some o) (ht : o.dst = t) (hw : Region.wanted o (yielded ops a.tmps) = true) (hr : (execOp a.eval o).run P w = .ok (.value v) w') (h : PlanW P ops Q I l (a.put t v) w') : PlanW P ops Q I ((false, i) :: l) a w :=
  ⟨hI, o, ho, hw, by unfold Oper.wp; rw [hr]; subst ht; exact h⟩
theorem PlanW.skip {i : Nat} {o : Oper} {l : List (Bool × Nat)} {a : Act} {w w' : World} (hI : I w) (ho : ops[i]? = some o) (hw : Region.wanted o (yielded ops a.tmps) = true) (hr : (execOp a.eval o).run P w = .ok .skip w') (h : PlanW P ops Q I l (a.put o.dst undef) w') : PlanW P ops Q I ((false, i) :: l) a w :=
  ⟨hI, o, ho, hw, by unfold Oper.wp; rw [hr]; exact h⟩
theorem PlanW.call {i f : Nat} {args : Array Value} {o : Oper} {l : List (Bool × Nat)} {a : Act} {w : World} {R : Value → World → Prop} (t : Option Tmp) (hI : I w) (ho : ops[i]? = some o) (ht : o.dst = t) (hw : Region.wanted o (yielded ops a.tmps) = true) (hr : (execOp a.eval o).run P w = .ok (.enter f args) w)
    (hc : Calls P f args w fun e w' => ∃ v, e = .returned v ∧ R v w') (h : ∀ v w', R v w' → PlanW P ops Q I l (a.put t v) w') : PlanW P ops Q I ((false, i) :: l) a w :=
  ⟨hI, o, ho, hw, wp_of_wpS (R := R) (by unfold wpS; rw [hr]; exact hc) (by subst ht; exact h)⟩

theorem wpAnyI_of_plan (hsel : Region.noSelect ops = true) (hQ : ∀ c a w, ¬ Q (.panic c) a w) : ∀ (l : List (Bool × Nat)) (listed : Array Bool) (a : Act) (w : World), Region.planB md ops l listed = true → PlanW P ops Q I l a w → wpAnyI P ops md Q I l.length listed a w
  | [], _, _, _, hB, h => ⟨h.1, by simpa [Region.planB] using hB, h.2⟩
  | (true, i) :: l, listed, a, w, hB, h => by
    obtain ⟨o, v, ho, hy, h⟩ := h
    simp only [Region.planB, Bool.and_eq_true] at hB
    have T := wpAnyI_of_plan hsel hQ l (listed.setIfInBounds i true) _ w hB.2 h
    exact wpAnyI_first (md := md) (Q := Q) (I := I) ho (Region.noSelect_spec hsel) (fun c a w hq => absurd hq (hQ _ _ _)) _ listed a w (Region.free_spec ho hB.1.2) (by simpa using hB.1.1) hy T
  | (false, i) :: l, listed, a, w, hB, h => by
    obtain ⟨hI, o, ho, hw, h⟩ := h
    simp only [Region.planB, Bool.and_eq_true, decide_eq_true_eq] at hB
    refine ⟨hI, fun h1 => (by rw [hB.1] at h1; cases h1), fun j hj => ?_⟩
    rw [hB.1] at hj
    have hik : j = i := by simpa using hj
    subst hik
    have hw' : wpOp P ops Q j (PlanW P ops Q I l) a w := by unfold wpOp; simp only [ho, hw, if_true]; exact .inl h
    exact wpOp_mono (fun a' w' h' => wpAnyI_of_plan hsel hQ l _ a' w' hB.2 h') hw'
end

theorem wp_region_plan {P : Program} {id : Nat} {Q : Exit → Act → World → Prop} {a : Act} {w : World} {ops : Array Oper} (pl : List (Bool × Nat)) (I : World → Prop) (hm : P.follows .mixedOrders = true)
    (hB : (Region.noSelect ops && Region.planB .any ops pl (Array.replicate ops.size false) && decide (pl.length = ops.size)) = true) (h : PlanW P ops (strictQ Q) I pl a w.drew) : (Code.region id ops true).wp P Q a w := by
  simp only [Bool.and_eq_true, decide_eq_true_eq] at hB
  obtain ⟨⟨hsel, hp⟩, hl⟩ := hB
  refine wp_region_any hm ?_
  have T := wpAnyI_of_plan (md := .any) (Q := strictQ Q) hsel (fun c a w hq => absurd hq.1 (by simp)) pl _ a w.drew hp h
  rw [hl] at T
  exact wpAny_strict _ _ _ _ (wpAnyI.plain _ _ _ _ T)
end Go.Proofs.Ytcocbainookkcaa

/-
  Draws of a space that can be extended and of vectors of it.
  No condition.
-/
namespace Go.Proofs.Ytcocbainookkcaa
set_option maxRecDepth 100000
open Go.RowKit

set_option maxHeartbeats 4000000 in
set_option maxRecDepth 100000 in
theorem s_drawPointVector (ca : Option Addr) (n cap : Nat) (w : World) (hn : n ≤ 4096) (hb : RdY w ca n) :
    Calls Try.prog 94 #[.slice ca n cap] w fun e w' => ∃ p a d c qs a1 m1 c1 x1, e = .returned (.tuple #[.agg #[.int .i64 p, .slice a d c], .slice a1 m1 c1]) ∧ 0 ≤ p ∧ p ≤ 17 ∧ d ≤ 7 ∧ m1 ≤ 8 ∧ OwnC w.heap.size w' a d c qs ∧ OwnC w.heap.size w' a1 m1 c1 x1 ∧ Ext w w' := by
  obtain ⟨W, hW⟩ : ∃ W, W = w.alloc (.cells #[.int .i64 0, .slice none 0 0] 26) := ⟨_, rfl⟩
  have gW : Ext w W := by rw [hW]; exact ext_alloc _ _
  have HZ := Lib.hid (show W.heap.size = w.heap.size + 1 by rw [hW]; simp)
  have HR := Lib.hid (show SpAt W w.heap.size 0 (.slice none 0 0) by rw [hW]; exact ⟨by simp, by simp, by simp, by simp⟩)
  have HW := Lib.hid hW
  have GW := Lib.hid gW
  have HB := Lib.hid (hb.ext gW)
  clear gW hW hb
  go_enter Try.func94, Try.ntmps94
  go_wp2_with (fail)
  rw [← HW.out]
  refine Calls.mono (s_from ca n cap W hn HB.out) ?_
  rintro e w1 ⟨g, rfl, hg, hS, g1⟩
  obtain ⟨S, hSe⟩ : ∃ S : SrcP, S = ⟨g, ca, n, cap⟩ := ⟨_, rfl⟩
  obtain rfl : g = S.g := by rw [hSe]
  rw [← hSe] at hS
  have HS := Lib.hid hS
  have HR1 := Lib.hid (HR.out.ext g1)
  have G1 := Lib.hid (GW.out.trans g1)
  have hgR : w.heap.size ≠ S.g := by have := HZ.out; omega
  have hgw : w.heap.size + 1 ≤ S.g := by have := HZ.out; omega
  have hlt := hS.lt
  clear hg hS g1 hSe HR
  go_wp2_with (fail)
  refine Calls.mono (s_draw18 S w1 HS.out) ?_
  rintro e w2 ⟨p, a, d, c, qs, rfl, hp0, hp1, hd, ho, g2⟩
  obtain ⟨W2, hW2⟩ : ∃ W2, W2 = w2.alloc (.cells #[.int .i64 p, .slice a d c] 26) := ⟨_, rfl⟩
  obtain ⟨O, hO⟩ : ∃ O, O = w2.heap.size := ⟨_, rfl⟩
  have gW2 : Ext w2 W2.drew := by rw [hW2]; exact (ext_alloc _ _).trans (ext_drew _)
  have hOA : SpAt W2.drew O p (.slice a d c) := by
    have : SpAt W2 O p (.slice a d c) := by rw [hW2, hO]; exact ⟨by simp, by simp, by simp, by simp⟩
    exact this.ext (ext_drew _)
  have HOA := Lib.hid hOA
  have HR2 := Lib.hid ((HR1.out.drw g2 hgR).ext gW2)
  have HQ2 := Lib.hid ((ho.mono (show S.g + 1 ≤ _ from hlt)).ext gW2)
  have G2 := Lib.hid (g2.ext gW2)
  have hgO : O ≠ S.g := by rw [hO]; have := g2.size; omega
  go_wp2_with (fail)
  rw [← hW2, ← hO]
  have HS2 := Lib.hid (G2.out.src HS.out)
  clear hO gW2 ho g2 hW2 hOA HR1
  refine Chg.wp_region_lex_tail (E := Drw.rel S) 4 [(3, .own S (S.g + 1) 8 (Nat.lt_succ_self _))] (by kernel_rfl) (by kernel_rfl) ?_
  simp only [List.take, List.drop]
  (refine Chg.LexW.pure (v := ?_) rfl rfl (fun w1 he => ?_) ?_; rotate_left; ( have he' : Drw S W2.drew _ := he; have x0 := he'.cell (p := ⟨O, 0, none⟩) hgO HOA.out.c0; have x1 := he'.cell (p := ⟨O, 1, none⟩) hgO HOA.out.c1; go_simp; rfl); simp only [Act.put, List.setIfInBounds_toArray, List.set_cons_zero, List.set_cons_succ])
  (refine Chg.LexW.pure (v := ?_) rfl rfl (fun w1 he => ?_) ?_; rotate_left; ( have he' : Drw S W2.drew _ := he; have x0 := he'.cell (p := ⟨O, 0, none⟩) hgO HOA.out.c0; have x1 := he'.cell (p := ⟨O, 1, none⟩) hgO HOA.out.c1; go_simp; rfl); simp only [Act.put, List.setIfInBounds_toArray, List.set_cons_zero, List.set_cons_succ])
  (refine Chg.LexW.pure (v := ?_) rfl rfl (fun w1 he => ?_) ?_; rotate_left; ( have he' : Drw S W2.drew _ := he; have x0 := he'.cell (p := ⟨O, 0, none⟩) hgO HOA.out.c0; have x1 := he'.cell (p := ⟨O, 1, none⟩) hgO HOA.out.c1; go_simp; rfl); simp only [Act.put, List.setIfInBounds_toArray, List.set_cons_zero, List.set_cons_succ])
  (refine Chg.LexW.callR (f := ?_) (args := ?_) rfl rfl (fun w1 => ?_) (fun w1 he hdep => ?_) (fun v hv => ?_); rotate_left 2; (go_simp; refine ⟨?_, ?_⟩ <;> rfl); ( have he' : Drw S W2.drew _ := he; refine Calls.mono (s_vec18 S p a d c w1 (he'.src HS2.out) (by omega) (by omega) (by omega)) ?_; rintro e w9 ⟨a9, c9, m9, x9, rfl, hm9, ho9, g9⟩; exact ⟨_, rfl, g9, a9, m9, c9, x9, rfl, by omega, ho9.mono (Nat.le_trans HS2.out.lt he'.size)⟩); simp only [Act.put, List.setIfInBounds_toArray, List.set_cons_zero, List.set_cons_succ])
  obtain ⟨_, a1, m1, c1, x1, rfl, _⟩ := hv
  refine Chg.LexW.nil (fun w3 he hkn => ?_)
  have he' : Drw S W2.drew w3 := he
  obtain ⟨a1', m1', c1', x1', q1, hm1, ho1⟩ : (Chg.SPred.own S (S.g + 1) 8 (Nat.lt_succ_self _)).holds (.slice a1 m1 c1) w3 := hkn (3, _) (by simp)
  cases q1
  have HR3 := Lib.hid (HR2.out.drw he' hgR)
  have HQ3 := Lib.hid (he'.own HQ2.out (Nat.lt_succ_self _))
  have HO1 := Lib.hid ho1
  have G3 := Lib.hid (G2.out.trans he')
  have r0 := HR3.out.c0
  have r1 := HR3.out.c1
  have f0 := HR3.out.f0
  have f1 := HR3.out.f1
  clear he he' hkn ho1
  go_wp2_with (fail)
  refine bodyPost_ret (v := .tuple #[.agg #[.int .i64 p, .slice a d c], .slice a1 m1 c1]) (by simp [results, Try.results94, go_sem, r0, r1]) rfl ⟨p, a, d, c, qs, a1, m1, c1, x1', rfl, hp0, hp1, hd, hm1, ?_, ?_, ?_⟩
  · exact ((HQ3.out.other (by simp; omega) _).other (by simp; omega) _).mono (by omega)
  · exact ((HO1.out.other (by simp; omega) _).other (by simp; omega) _).mono (by omega)
  · exact ((G3.out.toExt G1.out (by omega)).setCell (by simp) _).setCell (by simp) _
set_option maxHeartbeats 4000000 in
theorem s_drawShiftVersor (ca : Option Addr) (n cap : Nat) (w : World) (hn : n ≤ 4096) (hb : RdY w ca n) :
    Calls Try.prog 38 #[.slice ca n cap] w fun e w' => ∃ p a d c qs a1 m1 c1 x1, e = .returned (.tuple #[.agg #[.int .i64 p, .slice a d c], .slice a1 m1 c1]) ∧ 0 ≤ p ∧ p ≤ 17 ∧ d ≤ 7 ∧ m1 ≤ 8 ∧ OwnC w.heap.size w' a d c qs ∧ OwnC w.heap.size w' a1 m1 c1 x1 ∧ Ext w w' := by
  obtain ⟨W, hW⟩ : ∃ W, W = w.alloc (.cells #[.int .i64 0, .slice none 0 0] 26) := ⟨_, rfl⟩
  have gW : Ext w W := by rw [hW]; exact ext_alloc _ _
  have HZ := Lib.hid (show W.heap.size = w.heap.size + 1 by rw [hW]; simp)
  have HR := Lib.hid (show SpAt W w.heap.size 0 (.slice none 0 0) by rw [hW]; exact ⟨by simp, by simp, by simp, by simp⟩)
  have HW := Lib.hid hW
  have GW := Lib.hid gW
  have HB := Lib.hid (hb.ext gW)
  clear gW hW hb
  go_enter Try.func38, Try.ntmps38
  go_wp2_with (fail)
  rw [← HW.out]
  refine Calls.mono (s_drawPointVector ca n cap W hn HB.out) ?_
  rintro e w1 ⟨p, a, d, c, qs, a1, m1, c1, x1, rfl, hp0, hp1, hd, hm1, ho, ho1, g1⟩
  have hR1 := HR.out.ext g1
  have r0 := hR1.c0
  have r1 := hR1.c1
  have f0 := hR1.f0
  have f1 := hR1.f1
  have lR := hR1.lt
  have hz := HZ.out
  have HQ := Lib.hid ho
  have HO1 := Lib.hid ho1
  have G1 := Lib.hid (GW.out.trans g1)
  clear ho ho1 g1 hR1
  go_wp2_with (fail)
  refine bodyPost_ret (v := .tuple #[.agg #[.int .i64 p, .slice a d c], .slice a1 m1 c1]) (by simp [results, Try.results38, go_sem, r0, r1]) rfl ⟨p, a, d, c, qs, a1, m1, c1, x1, rfl, hp0, hp1, hd, hm1, ?_, ?_, ?_⟩
  · exact ((HQ.out.other (by simp; omega) _).other (by simp; omega) _).mono (by omega)
  · exact ((HO1.out.other (by simp; omega) _).other (by simp; omega) _).mono (by omega)
  · exact (G1.out.setCell (by simp) _).setCell (by simp) _
set_option maxHeartbeats 4000000 in
set_option maxRecDepth 100000 in
theorem s_drawDistanceOf (ca : Option Addr) (n cap : Nat) (w : World) (hn : n ≤ 4096) (hb : RdY w ca n) :
    Calls Try.prog 20 #[.slice ca n cap] w fun e w' => ∃ p a d c qs a1 m1 c1 x1 a2 m2 c2 x2, e = .returned (.tuple #[.agg #[.int .i64 p, .slice a d c], .slice a1 m1 c1, .slice a2 m2 c2]) ∧ 0 ≤ p ∧ p ≤ 17 ∧ d ≤ 7 ∧ m1 ≤ 8 ∧ m2 ≤ 8 ∧ OwnC w.heap.size w' a d c qs ∧ OwnC w.heap.size w' a1 m1 c1 x1 ∧ OwnC w.heap.size w' a2 m2 c2 x2 ∧ Ext w w' := by
  obtain ⟨W, hW⟩ : ∃ W, W = w.alloc (.cells #[.int .i64 0, .slice none 0 0] 26) := ⟨_, rfl⟩
  have gW : Ext w W := by rw [hW]; exact ext_alloc _ _
  have HZ := Lib.hid (show W.heap.size = w.heap.size + 1 by rw [hW]; simp)
  have HR := Lib.hid (show SpAt W w.heap.size 0 (.slice none 0 0) by rw [hW]; exact ⟨by simp, by simp, by simp, by simp⟩)
  have HW := Lib.hid hW
  have GW := Lib.hid gW
  have HB := Lib.hid (hb.ext gW)
  clear gW hW hb
  go_enter Try.func20, Try.ntmps20
  go_wp2_with (fail)
  rw [← HW.out]
  refine Calls.mono (s_from ca n cap W hn HB.out) ?_
  rintro e w1 ⟨g, rfl, hg, hS, g1⟩
  obtain ⟨S, hSe⟩ : ∃ S : SrcP, S = ⟨g, ca, n, cap⟩ := ⟨_, rfl⟩
  obtain rfl : g = S.g := by rw [hSe]
  rw [← hSe] at hS
  have HS := Lib.hid hS
  have HR1 := Lib.hid (HR.out.ext g1)
  have G1 := Lib.hid (GW.out.trans g1)
  have hgR : w.heap.size ≠ S.g := by have := HZ.out; omega
  have hgw : w.heap.size + 1 ≤ S.g := by have := HZ.out; omega
  have hlt := hS.lt
  clear hg hS g1 hSe HR
  go_wp2_with (fail)
  refine Calls.mono (s_draw18 S w1 HS.out) ?_
  rintro e w2 ⟨p, a, d, c, qs, rfl, hp0, hp1, hd, ho, g2⟩
  obtain ⟨W2, hW2⟩ : ∃ W2, W2 = w2.alloc (.cells #[.int .i64 p, .slice a d c] 26) := ⟨_, rfl⟩
  obtain ⟨O, hO⟩ : ∃ O, O = w2.heap.size := ⟨_, rfl⟩
  have gW2 : Ext w2 W2.drew := by rw [hW2]; exact (ext_alloc _ _).trans (ext_drew _)
  have hOA : SpAt W2.drew O p (.slice a d c) := by
    have : SpAt W2 O p (.slice a d c) := by rw [hW2, hO]; exact ⟨by simp, by simp, by simp, by simp⟩
    exact this.ext (ext_drew _)
  have HOA := Lib.hid hOA
  have HR2 := Lib.hid ((HR1.out.drw g2 hgR).ext gW2)
  have HQ2 := Lib.hid ((ho.mono (show S.g + 1 ≤ _ from hlt)).ext gW2)
  have G2 := Lib.hid (g2.ext gW2)
  have hgO : O ≠ S.g := by rw [hO]; have := g2.size; omega
  go_wp2_with (fail)
  rw [← hW2, ← hO]
  have HS2 := Lib.hid (G2.out.src HS.out)
  clear hO gW2 ho g2 hW2 hOA HR1
  refine Chg.wp_region_lex_tail (E := Drw.rel S) 7 [(3, .own S (S.g + 1) 8 (Nat.lt_succ_self _)), (6, .own S (S.g + 1) 8 (Nat.lt_succ_self _))] (by kernel_rfl) (by kernel_rfl) ?_
  simp only [List.take, List.drop]
  (refine Chg.LexW.pure (v := ?_) rfl rfl (fun w1 he => ?_) ?_; rotate_left; ( have he' : Drw S W2.drew _ := he; have x0 := he'.cell (p := ⟨O, 0, none⟩) hgO HOA.out.c0; have x1 := he'.cell (p := ⟨O, 1, none⟩) hgO HOA.out.c1; go_simp; rfl); simp only [Act.put, List.setIfInBounds_toArray, List.set_cons_zero, List.set_cons_succ])
  (refine Chg.LexW.pure (v := ?_) rfl rfl (fun w1 he => ?_) ?_; rotate_left; ( have he' : Drw S W2.drew _ := he; have x0 := he'.cell (p := ⟨O, 0, none⟩) hgO HOA.out.c0; have x1 := he'.cell (p := ⟨O, 1, none⟩) hgO HOA.out.c1; go_simp; rfl); simp only [Act.put, List.setIfInBounds_toArray, List.set_cons_zero, List.set_cons_succ])
  (refine Chg.LexW.pure (v := ?_) rfl rfl (fun w1 he => ?_) ?_; rotate_left; ( have he' : Drw S W2.drew _ := he; have x0 := he'.cell (p := ⟨O, 0, none⟩) hgO HOA.out.c0; have x1 := he'.cell (p := ⟨O, 1, none⟩) hgO HOA.out.c1; go_simp; rfl); simp only [Act.put, List.setIfInBounds_toArray, List.set_cons_zero, List.set_cons_succ])
  (refine Chg.LexW.callR (f := ?_) (args := ?_) rfl rfl (fun w1 => ?_) (fun w1 he hdep => ?_) (fun v hv => ?_); rotate_left 2; (go_simp; refine ⟨?_, ?_⟩ <;> rfl); ( have he' : Drw S W2.drew _ := he; refine Calls.mono (s_vec18 S p a d c w1 (he'.src HS2.out) (by omega) (by omega) (by omega)) ?_; rintro e w9 ⟨a9, c9, m9, x9, rfl, hm9, ho9, g9⟩; exact ⟨_, rfl, g9, a9, m9, c9, x9, rfl, by omega, ho9.mono (Nat.le_trans HS2.out.lt he'.size)⟩); simp only [Act.put, List.setIfInBounds_toArray, List.set_cons_zero, List.set_cons_succ])
  obtain ⟨_, a1, m1, c1, x1, rfl, _⟩ := hv
  (refine Chg.LexW.pure (v := ?_) rfl rfl (fun w1 he => ?_) ?_; rotate_left; ( have he' : Drw S W2.drew _ := he; have x0 := he'.cell (p := ⟨O, 0, none⟩) hgO HOA.out.c0; have x1 := he'.cell (p := ⟨O, 1, none⟩) hgO HOA.out.c1; go_simp; rfl); simp only [Act.put, List.setIfInBounds_toArray, List.set_cons_zero, List.set_cons_succ])
  (refine Chg.LexW.pure (v := ?_) rfl rfl (fun w1 he => ?_) ?_; rotate_left; ( have he' : Drw S W2.drew _ := he; have x0 := he'.cell (p := ⟨O, 0, none⟩) hgO HOA.out.c0; have x1 := he'.cell (p := ⟨O, 1, none⟩) hgO HOA.out.c1; go_simp; rfl); simp only [Act.put, List.setIfInBounds_toArray, List.set_cons_zero, List.set_cons_succ])
  (refine Chg.LexW.callR (f := ?_) (args := ?_) rfl rfl (fun w1 => ?_) (fun w1 he hdep => ?_) (fun v hv => ?_); rotate_left 2; (go_simp; refine ⟨?_, ?_⟩ <;> rfl); ( have he' : Drw S W2.drew _ := he; refine Calls.mono (s_vec18 S p a d c w1 (he'.src HS2.out) (by omega) (by omega) (by omega)) ?_; rintro e w9 ⟨a9, c9, m9, x9, rfl, hm9, ho9, g9⟩; exact ⟨_, rfl, g9, a9, m9, c9, x9, rfl, by omega, ho9.mono (Nat.le_trans HS2.out.lt he'.size)⟩); simp only [Act.put, List.setIfInBounds_toArray, List.set_cons_zero, List.set_cons_succ])
  obtain ⟨_, a2, m2, c2, x2, rfl, _⟩ := hv
  refine Chg.LexW.nil (fun w3 he hkn => ?_)
  have he' : Drw S W2.drew w3 := he
  obtain ⟨a1', m1', c1', x1', q1, hm1, ho1⟩ : (Chg.SPred.own S (S.g + 1) 8 (Nat.lt_succ_self _)).holds (.slice a1 m1 c1) w3 := hkn (3, _) (by simp)
  obtain ⟨a2', m2', c2', x2', q2, hm2, ho2⟩ : (Chg.SPred.own S (S.g + 1) 8 (Nat.lt_succ_self _)).holds (.slice a2 m2 c2) w3 := hkn (6, _) (by simp)
  cases q1
  cases q2
  have HR3 := Lib.hid (HR2.out.drw he' hgR)
  have HQ3 := Lib.hid (he'.own HQ2.out (Nat.lt_succ_self _))
  have HO1 := Lib.hid ho1
  have HO2 := Lib.hid ho2
  have G3 := Lib.hid (G2.out.trans he')
  have r0 := HR3.out.c0
  have r1 := HR3.out.c1
  have f0 := HR3.out.f0
  have f1 := HR3.out.f1
  clear he he' hkn ho1 ho2
  go_wp2_with (fail)
  refine bodyPost_ret (v := .tuple #[.agg #[.int .i64 p, .slice a d c], .slice a1 m1 c1, .slice a2 m2 c2]) (by simp [results, Try.results20, go_sem, r0, r1]) rfl ⟨p, a, d, c, qs, a1, m1, c1, x1', a2, m2, c2, x2', rfl, hp0, hp1, hd, hm1, hm2, ?_, ?_, ?_, ?_⟩
  · exact ((HQ3.out.other (by simp; omega) _).other (by simp; omega) _).mono (by omega)
  · exact ((HO1.out.other (by simp; omega) _).other (by simp; omega) _).mono (by omega)
  · exact ((HO2.out.other (by simp; omega) _).other (by simp; omega) _).mono (by omega)
  · exact ((G3.out.toExt G1.out (by omega)).setCell (by simp) _).setCell (by simp) _
set_option maxHeartbeats 4000000 in
set_option maxRecDepth 100000 in
theorem s_drawSphereVector (ca : Option Addr) (n cap : Nat) (w : World) (hn : n ≤ 4096) (hb : RdY w ca n) :
    Calls Try.prog 17 #[.slice ca n cap] w fun e w' => ∃ p a d c qs a1 m1 c1 x1 r, e = .returned (.tuple #[.agg #[.int .i64 p, .slice a d c], .slice a1 m1 c1, .int .i64 r]) ∧ 0 ≤ p ∧ p ≤ 17 ∧ d ≤ 7 ∧ m1 ≤ 8 ∧ OwnC w.heap.size w' a d c qs ∧ OwnC w.heap.size w' a1 m1 c1 x1 ∧ Ext w w' := by
  obtain ⟨W, hW⟩ : ∃ W, W = w.alloc (.cells #[.int .i64 0, .slice none 0 0] 26) := ⟨_, rfl⟩
  have gW : Ext w W := by rw [hW]; exact ext_alloc _ _
  have HZ := Lib.hid (show W.heap.size = w.heap.size + 1 by rw [hW]; simp)
  have HR := Lib.hid (show SpAt W w.heap.size 0 (.slice none 0 0) by rw [hW]; exact ⟨by simp, by simp, by simp, by simp⟩)
  have HW := Lib.hid hW
  have GW := Lib.hid gW
  have HB := Lib.hid (hb.ext gW)
  clear gW hW hb
  go_enter Try.func17, Try.ntmps17
  go_wp2_with (fail)
  rw [← HW.out]
  refine Calls.mono (s_from ca n cap W hn HB.out) ?_
  rintro e w1 ⟨g, rfl, hg, hS, g1⟩
  obtain ⟨S, hSe⟩ : ∃ S : SrcP, S = ⟨g, ca, n, cap⟩ := ⟨_, rfl⟩
  obtain rfl : g = S.g := by rw [hSe]
  rw [← hSe] at hS
  have HS := Lib.hid hS
  have HR1 := Lib.hid (HR.out.ext g1)
  have G1 := Lib.hid (GW.out.trans g1)
  have hgR : w.heap.size ≠ S.g := by have := HZ.out; omega
  have hgw : w.heap.size + 1 ≤ S.g := by have := HZ.out; omega
  have hlt := hS.lt
  clear hg hS g1 hSe HR
  go_wp2_with (fail)
  refine Calls.mono (s_draw18 S w1 HS.out) ?_
  rintro e w2 ⟨p, a, d, c, qs, rfl, hp0, hp1, hd, ho, g2⟩
  obtain ⟨W2, hW2⟩ : ∃ W2, W2 = w2.alloc (.cells #[.int .i64 p, .slice a d c] 26) := ⟨_, rfl⟩
  obtain ⟨O, hO⟩ : ∃ O, O = w2.heap.size := ⟨_, rfl⟩
  have gW2 : Ext w2 W2.drew := by rw [hW2]; exact (ext_alloc _ _).trans (ext_drew _)
  have hOA : SpAt W2.drew O p (.slice a d c) := by
    have : SpAt W2 O p (.slice a d c) := by rw [hW2, hO]; exact ⟨by simp, by simp, by simp, by simp⟩
    exact this.ext (ext_drew _)
  have HOA := Lib.hid hOA
  have HR2 := Lib.hid ((HR1.out.drw g2 hgR).ext gW2)
  have HQ2 := Lib.hid ((ho.mono (show S.g + 1 ≤ _ from hlt)).ext gW2)
  have G2 := Lib.hid (g2.ext gW2)
  have hgO : O ≠ S.g := by rw [hO]; have := g2.size; omega
  have hRO : ¬ O = w.heap.size := by rw [hO]; have := g2.size; omega
  go_wp2_with (fail)
  rw [← hW2, ← hO]
  have HS2 := Lib.hid (G2.out.src HS.out)
  clear hO gW2 ho g2 hW2 hOA HR1
  have hmx : (p = 0 ∨ p = 1) ∨ (1 < p ∧ ¬ p ≤ 1 ∧ ¬ p < 1 ∧ 1 ≤ p) := by omega
  have hw1 : IntKind.i64.wrap (p + 1) = p + 1 := IntWalk.i64_in _ (by omega)
  have hw2 : IntKind.i64.wrap 2 = 2 := by decide
  rcases hmx with (rfl | rfl) | ⟨hmx1, hmx2, hmx3, hmx4⟩
  · skip
    obtain ⟨J, hJ⟩ : ∃ J : World → Prop, J = (fun w' => w'.cell? ⟨O, 0, none⟩ = some (.int .i64 0) ∧ w'.cell? ⟨O, 1, none⟩ = some (.slice a d c)) := ⟨_, rfl⟩
    have HJ : Hid (∀ w', Drw S W2.drew w' → J w') := Lib.hid (fun w' hd => by rw [hJ]; exact ⟨hd.cell (p := ⟨O, 0, none⟩) hgO HOA.out.c0, hd.cell (p := ⟨O, 1, none⟩) hgO HOA.out.c1⟩)
    have HJ2 : Hid (∀ w', J w' → w'.cell? ⟨O, 0, none⟩ = some (.int .i64 0) ∧ w'.cell? ⟨O, 1, none⟩ = some (.slice a d c)) := Lib.hid (fun w' h => by rw [hJ] at h; exact h)
    have HJR : Hid (∀ w', J w' → J ((w'.setCell ⟨w.heap.size, 0, none⟩ (.int .i64 0)).setCell ⟨w.heap.size, 1, none⟩ (.slice a d c))) := Lib.hid (fun w' h => by rw [hJ] at h ⊢; obtain ⟨h0, h1⟩ := h; have hne : ¬ O = w.heap.size := hRO; exact ⟨by go_simp, by go_simp⟩)
    clear hJ
    refine wp_region_plan [(true, 0), (true, 1), (true, 2), (true, 4), (true, 5), (true, 6), (true, 7), (true, 8), (true, 10), (false, 3), (false, 9), (false, 11), (true, 12), (true, 13), (false, 14), (false, 15), (false, 16)] J (by kernel_rfl) (by kernel_rfl) ?_
    refine PlanW.float (v := ?_) (some 11) rfl rfl rfl (fun w' hI => ?_) ?_
    rotate_left
    · obtain ⟨e0, e1⟩ := HJ2.out w' hI; go_simp; rfl
    simp only [Act.put, List.setIfInBounds_toArray, List.set_cons_zero, List.set_cons_succ]
    refine PlanW.float (v := ?_) (some 12) rfl rfl rfl (fun w' hI => ?_) ?_
    rotate_left
    · obtain ⟨e0, e1⟩ := HJ2.out w' hI; go_simp; rfl
    simp only [Act.put, List.setIfInBounds_toArray, List.set_cons_zero, List.set_cons_succ]
    refine PlanW.float (v := ?_) (some 13) rfl rfl rfl (fun w' hI => ?_) ?_
    rotate_left
    · obtain ⟨e0, e1⟩ := HJ2.out w' hI; go_simp; rfl
    simp only [Act.put, List.setIfInBounds_toArray, List.set_cons_zero, List.set_cons_succ]
    refine PlanW.float (v := ?_) (some 15) rfl rfl rfl (fun w' hI => ?_) ?_
    rotate_left
    · obtain ⟨e0, e1⟩ := HJ2.out w' hI; go_simp; rfl
    simp only [Act.put, List.setIfInBounds_toArray, List.set_cons_zero, List.set_cons_succ]
    refine PlanW.float (v := ?_) (some 16) rfl rfl rfl (fun w' hI => ?_) ?_
    rotate_left
    · obtain ⟨e0, e1⟩ := HJ2.out w' hI; go_simp; rfl
    simp only [Act.put, List.setIfInBounds_toArray, List.set_cons_zero, List.set_cons_succ]
    refine PlanW.float (v := ?_) (some 17) rfl rfl rfl (fun w' hI => ?_) ?_
    rotate_left
    · obtain ⟨e0, e1⟩ := HJ2.out w' hI; go_simp; rfl
    simp only [Act.put, List.setIfInBounds_toArray, List.set_cons_zero, List.set_cons_succ]
    refine PlanW.float (v := ?_) (some 18) rfl rfl rfl (fun w' hI => ?_) ?_
    rotate_left
    · obtain ⟨e0, e1⟩ := HJ2.out w' hI; go_simp; rfl
    simp only [Act.put, List.setIfInBounds_toArray, List.set_cons_zero, List.set_cons_succ]
    refine PlanW.float (v := ?_) (some 19) rfl rfl rfl (fun w' hI => ?_) ?_
    rotate_left
    · obtain ⟨e0, e1⟩ := HJ2.out w' hI; go_simp; rfl
    simp only [Act.put, List.setIfInBounds_toArray, List.set_cons_zero, List.set_cons_succ]
    refine PlanW.float (v := ?_) (some 21) rfl rfl rfl (fun w' hI => ?_) ?_
    rotate_left
    · obtain ⟨e0, e1⟩ := HJ2.out w' hI; go_simp; rfl
    simp only [Act.put, List.setIfInBounds_toArray, List.set_cons_zero, List.set_cons_succ]
    refine PlanW.call (f := ?_) (args := ?_) (R := fun v w' => ∃ a1 c1 m1 x1, v = .slice a1 m1 c1 ∧ m1 ≤ 8 ∧ OwnC (S.g + 1) w' a1 m1 c1 x1 ∧ Drw S W2.drew w') (some 14) (HJ.out _ (Drw.of_ext (S := S) (Ext.refl W2.drew))) rfl rfl rfl ?_ ?_ ?_
    rotate_left 2
    · go_simp; refine ⟨?_, ?_⟩ <;> rfl
    · refine Calls.mono (s_vec18 S 0 a d c _ HS2.out (by omega) (by omega) (by omega)) ?_
      rintro e w9 ⟨a9, c9, m9, x9, rfl, hm9, ho9, g9⟩
      exact ⟨_, rfl, a9, c9, m9, x9, rfl, by omega, ho9.mono HS2.out.lt, g9⟩
    rintro v w4 ⟨a1, c1, m1, x1, rfl, hm1, ho1, g4⟩
    simp only [Act.put, List.setIfInBounds_toArray, List.set_cons_zero, List.set_cons_succ]
    refine PlanW.call (f := ?_) (args := ?_) (R := fun v w' => ∃ r, v = .int .i64 r ∧ Drw S w4 w') (some 20) (HJ.out _ g4) rfl rfl rfl ?_ ?_ ?_
    rotate_left 2
    · go_simp; refine ⟨?_, ?_⟩ <;> rfl
    · refine Calls.mono (s_next S _ _ (g4.src HS2.out) (by omega)) ?_
      rintro e w9 ⟨r, rfl, _, x9⟩
      exact ⟨_, rfl, r, rfl, x9⟩
    rintro v w5 ⟨ua, rfl, g5⟩
    simp only [Act.put, List.setIfInBounds_toArray, List.set_cons_zero, List.set_cons_succ]
    refine PlanW.call (f := ?_) (args := ?_) (R := fun v w' => ∃ r, v = .int .i64 r ∧ Drw S w5 w') (some 22) (HJ.out _ (g4.trans g5)) rfl rfl rfl ?_ ?_ ?_
    rotate_left 2
    · go_simp; refine ⟨?_, ?_⟩ <;> rfl
    · refine Calls.mono (s_next S _ _ ((g4.trans g5).src HS2.out) (by omega)) ?_
      rintro e w9 ⟨r, rfl, _, x9⟩
      exact ⟨_, rfl, r, rfl, x9⟩
    rintro v w3 ⟨ub, rfl, g6⟩
    simp only [Act.put, List.setIfInBounds_toArray, List.set_cons_zero, List.set_cons_succ]
    refine PlanW.float (v := ?_) (some 23) rfl rfl rfl (fun w' hI => ?_) ?_
    rotate_left
    · obtain ⟨e0, e1⟩ := HJ2.out w' hI; go_simp; rfl
    simp only [Act.put, List.setIfInBounds_toArray, List.set_cons_zero, List.set_cons_succ]
    refine PlanW.float (v := ?_) (some 24) rfl rfl rfl (fun w' hI => ?_) ?_
    rotate_left
    · obtain ⟨e0, e1⟩ := HJ2.out w' hI; go_simp; rfl
    simp only [Act.put, List.setIfInBounds_toArray, List.set_cons_zero, List.set_cons_succ]
    have he' : Drw S W2.drew w3 := (g4.trans g5).trans g6
    have HR3 := Lib.hid (HR2.out.drw he' hgR)
    have HQ3 := Lib.hid (he'.own HQ2.out (Nat.lt_succ_self _))
    have HO1 := Lib.hid ((g5.trans g6).own ho1 (Nat.lt_succ_self _))
    have G3 := Lib.hid (G2.out.trans he')
    have HI3 := Lib.hid (HJ.out _ he')
    have HJW : Hid (J ((w3.setCell ⟨w.heap.size, 0, none⟩ (.int .i64 0)).setCell ⟨w.heap.size, 1, none⟩ (.slice a d c))) := Lib.hid (HJR.out _ HI3.out)
    have r0 := HR3.out.c0
    have r1 := HR3.out.c1
    have f0 := HR3.out.f0
    have f1 := HR3.out.f1
    clear he' ho1 g4 g5 g6
    refine PlanW.skip (w' := ((w3.setCell ⟨w.heap.size, 0, none⟩ (.int .i64 0)).setCell ⟨w.heap.size, 1, none⟩ (.slice a d c))) HI3.out rfl rfl (by go_simp) ?_
    simp only [Act.put, List.setIfInBounds_toArray]
    refine PlanW.value (v := ?_) (w' := ((w3.setCell ⟨w.heap.size, 0, none⟩ (.int .i64 0)).setCell ⟨w.heap.size, 1, none⟩ (.slice a d c))) (some 3) HJW.out rfl rfl rfl (?_) ?_
    rotate_left
    · go_simp; rfl
    simp only [Act.put]
    refine PlanW.value (v := ?_) (w' := ((w3.setCell ⟨w.heap.size, 0, none⟩ (.int .i64 0)).setCell ⟨w.heap.size, 1, none⟩ (.slice a d c))) (some 4) HJW.out rfl rfl rfl (?_) ?_
    rotate_left
    · go_simp; rfl
    refine ⟨HJW.out, strictQ_normal ?_⟩
    simp only [Act.put]
    go_wp2_with (fail)
    refine bodyPost_ret (v := .tuple #[.agg #[.int .i64 0, .slice a d c], .slice a1 m1 c1, .int .i64 (IntKind.i64.wrap (ua - IntKind.i64.wrap (ub.tdiv 23)))]) (by simp [results, Try.results17, go_sem, r0, r1]) rfl ⟨0, a, d, c, qs, a1, m1, c1, ⟨_, rfl⟩, by omega, by omega, hd, hm1, ?_, ⟨x1, ?_⟩, ?_⟩
    · exact ((HQ3.out.other (by simp; omega) _).other (by simp; omega) _).mono (by omega)
    · exact ((HO1.out.other (by simp; omega) _).other (by simp; omega) _).mono (by omega)
    · exact ((G3.out.toExt G1.out (by omega)).setCell (by simp) _).setCell (by simp) _
  · skip
    obtain ⟨J, hJ⟩ : ∃ J : World → Prop, J = (fun w' => w'.cell? ⟨O, 0, none⟩ = some (.int .i64 1) ∧ w'.cell? ⟨O, 1, none⟩ = some (.slice a d c)) := ⟨_, rfl⟩
    have HJ : Hid (∀ w', Drw S W2.drew w' → J w') := Lib.hid (fun w' hd => by rw [hJ]; exact ⟨hd.cell (p := ⟨O, 0, none⟩) hgO HOA.out.c0, hd.cell (p := ⟨O, 1, none⟩) hgO HOA.out.c1⟩)
    have HJ2 : Hid (∀ w', J w' → w'.cell? ⟨O, 0, none⟩ = some (.int .i64 1) ∧ w'.cell? ⟨O, 1, none⟩ = some (.slice a d c)) := Lib.hid (fun w' h => by rw [hJ] at h; exact h)
    have HJR : Hid (∀ w', J w' → J ((w'.setCell ⟨w.heap.size, 0, none⟩ (.int .i64 1)).setCell ⟨w.heap.size, 1, none⟩ (.slice a d c))) := Lib.hid (fun w' h => by rw [hJ] at h ⊢; obtain ⟨h0, h1⟩ := h; have hne : ¬ O = w.heap.size := hRO; exact ⟨by go_simp, by go_simp⟩)
    clear hJ
    refine wp_region_plan [(true, 0), (true, 1), (true, 2), (true, 4), (true, 5), (true, 6), (true, 7), (true, 8), (true, 10), (false, 3), (false, 9), (false, 11), (true, 12), (true, 13), (false, 14), (false, 15), (false, 16)] J (by kernel_rfl) (by kernel_rfl) ?_
    refine PlanW.float (v := ?_) (some 11) rfl rfl rfl (fun w' hI => ?_) ?_
    rotate_left
    · obtain ⟨e0, e1⟩ := HJ2.out w' hI; go_simp; rfl
    simp only [Act.put, List.setIfInBounds_toArray, List.set_cons_zero, List.set_cons_succ]
    refine PlanW.float (v := ?_) (some 12) rfl rfl rfl (fun w' hI => ?_) ?_
    rotate_left
    · obtain ⟨e0, e1⟩ := HJ2.out w' hI; go_simp; rfl
    simp only [Act.put, List.setIfInBounds_toArray, List.set_cons_zero, List.set_cons_succ]
    refine PlanW.float (v := ?_) (some 13) rfl rfl rfl (fun w' hI => ?_) ?_
    rotate_left
    · obtain ⟨e0, e1⟩ := HJ2.out w' hI; go_simp; rfl
    simp only [Act.put, List.setIfInBounds_toArray, List.set_cons_zero, List.set_cons_succ]
    refine PlanW.float (v := ?_) (some 15) rfl rfl rfl (fun w' hI => ?_) ?_
    rotate_left
    · obtain ⟨e0, e1⟩ := HJ2.out w' hI; go_simp; rfl
    simp only [Act.put, List.setIfInBounds_toArray, List.set_cons_zero, List.set_cons_succ]
    refine PlanW.float (v := ?_) (some 16) rfl rfl rfl (fun w' hI => ?_) ?_
    rotate_left
    · obtain ⟨e0, e1⟩ := HJ2.out w' hI; go_simp; rfl
    simp only [Act.put, List.setIfInBounds_toArray, List.set_cons_zero, List.set_cons_succ]
    refine PlanW.float (v := ?_) (some 17) rfl rfl rfl (fun w' hI => ?_) ?_
    rotate_left
    · obtain ⟨e0, e1⟩ := HJ2.out w' hI; go_simp; rfl
    simp only [Act.put, List.setIfInBounds_toArray, List.set_cons_zero, List.set_cons_succ]
    refine PlanW.float (v := ?_) (some 18) rfl rfl rfl (fun w' hI => ?_) ?_
    rotate_left
    · obtain ⟨e0, e1⟩ := HJ2.out w' hI; go_simp; rfl
    simp only [Act.put, List.setIfInBounds_toArray, List.set_cons_zero, List.set_cons_succ]
    refine PlanW.float (v := ?_) (some 19) rfl rfl rfl (fun w' hI => ?_) ?_
    rotate_left
    · obtain ⟨e0, e1⟩ := HJ2.out w' hI; go_simp; rfl
    simp only [Act.put, List.setIfInBounds_toArray, List.set_cons_zero, List.set_cons_succ]
    refine PlanW.float (v := ?_) (some 21) rfl rfl rfl (fun w' hI => ?_) ?_
    rotate_left
    · obtain ⟨e0, e1⟩ := HJ2.out w' hI; go_simp; rfl
    simp only [Act.put, List.setIfInBounds_toArray, List.set_cons_zero, List.set_cons_succ]
    refine PlanW.call (f := ?_) (args := ?_) (R := fun v w' => ∃ a1 c1 m1 x1, v = .slice a1 m1 c1 ∧ m1 ≤ 8 ∧ OwnC (S.g + 1) w' a1 m1 c1 x1 ∧ Drw S W2.drew w') (some 14) (HJ.out _ (Drw.of_ext (S := S) (Ext.refl W2.drew))) rfl rfl rfl ?_ ?_ ?_
    rotate_left 2
    · go_simp; refine ⟨?_, ?_⟩ <;> rfl
    · refine Calls.mono (s_vec18 S 1 a d c _ HS2.out (by omega) (by omega) (by omega)) ?_
      rintro e w9 ⟨a9, c9, m9, x9, rfl, hm9, ho9, g9⟩
      exact ⟨_, rfl, a9, c9, m9, x9, rfl, by omega, ho9.mono HS2.out.lt, g9⟩
    rintro v w4 ⟨a1, c1, m1, x1, rfl, hm1, ho1, g4⟩
    simp only [Act.put, List.setIfInBounds_toArray, List.set_cons_zero, List.set_cons_succ]
    refine PlanW.call (f := ?_) (args := ?_) (R := fun v w' => ∃ r, v = .int .i64 r ∧ Drw S w4 w') (some 20) (HJ.out _ g4) rfl rfl rfl ?_ ?_ ?_
    rotate_left 2
    · go_simp; refine ⟨?_, ?_⟩ <;> rfl
    · refine Calls.mono (s_next S _ _ (g4.src HS2.out) (by omega)) ?_
      rintro e w9 ⟨r, rfl, _, x9⟩
      exact ⟨_, rfl, r, rfl, x9⟩
    rintro v w5 ⟨ua, rfl, g5⟩
    simp only [Act.put, List.setIfInBounds_toArray, List.set_cons_zero, List.set_cons_succ]
    refine PlanW.call (f := ?_) (args := ?_) (R := fun v w' => ∃ r, v = .int .i64 r ∧ Drw S w5 w') (some 22) (HJ.out _ (g4.trans g5)) rfl rfl rfl ?_ ?_ ?_
    rotate_left 2
    · go_simp; refine ⟨?_, ?_⟩ <;> rfl
    · refine Calls.mono (s_next S _ _ ((g4.trans g5).src HS2.out) (by omega)) ?_
      rintro e w9 ⟨r, rfl, _, x9⟩
      exact ⟨_, rfl, r, rfl, x9⟩
    rintro v w3 ⟨ub, rfl, g6⟩
    simp only [Act.put, List.setIfInBounds_toArray, List.set_cons_zero, List.set_cons_succ]
    refine PlanW.float (v := ?_) (some 23) rfl rfl rfl (fun w' hI => ?_) ?_
    rotate_left
    · obtain ⟨e0, e1⟩ := HJ2.out w' hI; go_simp; rfl
    simp only [Act.put, List.setIfInBounds_toArray, List.set_cons_zero, List.set_cons_succ]
    refine PlanW.float (v := ?_) (some 24) rfl rfl rfl (fun w' hI => ?_) ?_
    rotate_left
    · obtain ⟨e0, e1⟩ := HJ2.out w' hI; go_simp; rfl
    simp only [Act.put, List.setIfInBounds_toArray, List.set_cons_zero, List.set_cons_succ]
    have he' : Drw S W2.drew w3 := (g4.trans g5).trans g6
    have HR3 := Lib.hid (HR2.out.drw he' hgR)
    have HQ3 := Lib.hid (he'.own HQ2.out (Nat.lt_succ_self _))
    have HO1 := Lib.hid ((g5.trans g6).own ho1 (Nat.lt_succ_self _))
    have G3 := Lib.hid (G2.out.trans he')
    have HI3 := Lib.hid (HJ.out _ he')
    have HJW : Hid (J ((w3.setCell ⟨w.heap.size, 0, none⟩ (.int .i64 1)).setCell ⟨w.heap.size, 1, none⟩ (.slice a d c))) := Lib.hid (HJR.out _ HI3.out)
    have r0 := HR3.out.c0
    have r1 := HR3.out.c1
    have f0 := HR3.out.f0
    have f1 := HR3.out.f1
    clear he' ho1 g4 g5 g6
    refine PlanW.skip (w' := ((w3.setCell ⟨w.heap.size, 0, none⟩ (.int .i64 1)).setCell ⟨w.heap.size, 1, none⟩ (.slice a d c))) HI3.out rfl rfl (by go_simp) ?_
    simp only [Act.put, List.setIfInBounds_toArray]
    refine PlanW.value (v := ?_) (w' := ((w3.setCell ⟨w.heap.size, 0, none⟩ (.int .i64 1)).setCell ⟨w.heap.size, 1, none⟩ (.slice a d c))) (some 3) HJW.out rfl rfl rfl (?_) ?_
    rotate_left
    · go_simp; rfl
    simp only [Act.put]
    refine PlanW.value (v := ?_) (w' := ((w3.setCell ⟨w.heap.size, 0, none⟩ (.int .i64 1)).setCell ⟨w.heap.size, 1, none⟩ (.slice a d c))) (some 4) HJW.out rfl rfl rfl (?_) ?_
    rotate_left
    · go_simp; rfl
    refine ⟨HJW.out, strictQ_normal ?_⟩
    simp only [Act.put]
    go_wp2_with (fail)
    refine bodyPost_ret (v := .tuple #[.agg #[.int .i64 1, .slice a d c], .slice a1 m1 c1, .int .i64 (IntKind.i64.wrap (ua - IntKind.i64.wrap (ub.tdiv 23)))]) (by simp [results, Try.results17, go_sem, r0, r1]) rfl ⟨1, a, d, c, qs, a1, m1, c1, ⟨_, rfl⟩, by omega, by omega, hd, hm1, ?_, ⟨x1, ?_⟩, ?_⟩
    · exact ((HQ3.out.other (by simp; omega) _).other (by simp; omega) _).mono (by omega)
    · exact ((HO1.out.other (by simp; omega) _).other (by simp; omega) _).mono (by omega)
    · exact ((G3.out.toExt G1.out (by omega)).setCell (by simp) _).setCell (by simp) _
  · skip
    obtain ⟨J, hJ⟩ : ∃ J : World → Prop, J = (fun w' => w'.cell? ⟨O, 0, none⟩ = some (.int .i64 p) ∧ w'.cell? ⟨O, 1, none⟩ = some (.slice a d c)) := ⟨_, rfl⟩
    have HJ : Hid (∀ w', Drw S W2.drew w' → J w') := Lib.hid (fun w' hd => by rw [hJ]; exact ⟨hd.cell (p := ⟨O, 0, none⟩) hgO HOA.out.c0, hd.cell (p := ⟨O, 1, none⟩) hgO HOA.out.c1⟩)
    have HJ2 : Hid (∀ w', J w' → w'.cell? ⟨O, 0, none⟩ = some (.int .i64 p) ∧ w'.cell? ⟨O, 1, none⟩ = some (.slice a d c)) := Lib.hid (fun w' h => by rw [hJ] at h; exact h)
    have HJR : Hid (∀ w', J w' → J ((w'.setCell ⟨w.heap.size, 0, none⟩ (.int .i64 p)).setCell ⟨w.heap.size, 1, none⟩ (.slice a d c))) := Lib.hid (fun w' h => by rw [hJ] at h ⊢; obtain ⟨h0, h1⟩ := h; have hne : ¬ O = w.heap.size := hRO; exact ⟨by go_simp, by go_simp⟩)
    clear hJ
    refine wp_region_plan [(true, 0), (true, 1), (true, 2), (true, 4), (true, 5), (true, 6), (true, 7), (true, 8), (true, 10), (false, 3), (false, 9), (false, 11), (true, 12), (true, 13), (false, 14), (false, 15), (false, 16)] J (by kernel_rfl) (by kernel_rfl) ?_
    refine PlanW.float (v := ?_) (some 11) rfl rfl rfl (fun w' hI => ?_) ?_
    rotate_left
    · obtain ⟨e0, e1⟩ := HJ2.out w' hI; go_simp; rfl
    simp only [Act.put, List.setIfInBounds_toArray, List.set_cons_zero, List.set_cons_succ]
    refine PlanW.float (v := ?_) (some 12) rfl rfl rfl (fun w' hI => ?_) ?_
    rotate_left
    · obtain ⟨e0, e1⟩ := HJ2.out w' hI; go_simp; rfl
    simp only [Act.put, List.setIfInBounds_toArray, List.set_cons_zero, List.set_cons_succ]
    refine PlanW.float (v := ?_) (some 13) rfl rfl rfl (fun w' hI => ?_) ?_
    rotate_left
    · obtain ⟨e0, e1⟩ := HJ2.out w' hI; go_simp; rfl
    simp only [Act.put, List.setIfInBounds_toArray, List.set_cons_zero, List.set_cons_succ]
    refine PlanW.float (v := ?_) (some 15) rfl rfl rfl (fun w' hI => ?_) ?_
    rotate_left
    · obtain ⟨e0, e1⟩ := HJ2.out w' hI; go_simp; rfl
    simp only [Act.put, List.setIfInBounds_toArray, List.set_cons_zero, List.set_cons_succ]
    refine PlanW.float (v := ?_) (some 16) rfl rfl rfl (fun w' hI => ?_) ?_
    rotate_left
    · obtain ⟨e0, e1⟩ := HJ2.out w' hI; go_simp; rfl
    simp only [Act.put, List.setIfInBounds_toArray, List.set_cons_zero, List.set_cons_succ]
    refine PlanW.float (v := ?_) (some 17) rfl rfl rfl (fun w' hI => ?_) ?_
    rotate_left
    · obtain ⟨e0, e1⟩ := HJ2.out w' hI; go_simp; rfl
    simp only [Act.put, List.setIfInBounds_toArray, List.set_cons_zero, List.set_cons_succ]
    refine PlanW.float (v := ?_) (some 18) rfl rfl rfl (fun w' hI => ?_) ?_
    rotate_left
    · obtain ⟨e0, e1⟩ := HJ2.out w' hI; go_simp; rfl
    simp only [Act.put, List.setIfInBounds_toArray, List.set_cons_zero, List.set_cons_succ]
    refine PlanW.float (v := ?_) (some 19) rfl rfl rfl (fun w' hI => ?_) ?_
    rotate_left
    · obtain ⟨e0, e1⟩ := HJ2.out w' hI; go_simp; rfl
    simp only [Act.put, List.setIfInBounds_toArray, List.set_cons_zero, List.set_cons_succ]
    refine PlanW.float (v := ?_) (some 21) rfl rfl rfl (fun w' hI => ?_) ?_
    rotate_left
    · obtain ⟨e0, e1⟩ := HJ2.out w' hI; go_simp; rfl
    simp only [Act.put, List.setIfInBounds_toArray, List.set_cons_zero, List.set_cons_succ]
    refine PlanW.call (f := ?_) (args := ?_) (R := fun v w' => ∃ a1 c1 m1 x1, v = .slice a1 m1 c1 ∧ m1 ≤ 8 ∧ OwnC (S.g + 1) w' a1 m1 c1 x1 ∧ Drw S W2.drew w') (some 14) (HJ.out _ (Drw.of_ext (S := S) (Ext.refl W2.drew))) rfl rfl rfl ?_ ?_ ?_
    rotate_left 2
    · go_simp; refine ⟨?_, ?_⟩ <;> rfl
    · refine Calls.mono (s_vec18 S p a d c _ HS2.out (by omega) (by omega) (by omega)) ?_
      rintro e w9 ⟨a9, c9, m9, x9, rfl, hm9, ho9, g9⟩
      exact ⟨_, rfl, a9, c9, m9, x9, rfl, by omega, ho9.mono HS2.out.lt, g9⟩
    rintro v w4 ⟨a1, c1, m1, x1, rfl, hm1, ho1, g4⟩
    simp only [Act.put, List.setIfInBounds_toArray, List.set_cons_zero, List.set_cons_succ]
    refine PlanW.call (f := ?_) (args := ?_) (R := fun v w' => ∃ r, v = .int .i64 r ∧ Drw S w4 w') (some 20) (HJ.out _ g4) rfl rfl rfl ?_ ?_ ?_
    rotate_left 2
    · go_simp; refine ⟨?_, ?_⟩ <;> rfl
    · refine Calls.mono (s_next S _ _ (g4.src HS2.out) (by omega)) ?_
      rintro e w9 ⟨r, rfl, _, x9⟩
      exact ⟨_, rfl, r, rfl, x9⟩
    rintro v w5 ⟨ua, rfl, g5⟩
    simp only [Act.put, List.setIfInBounds_toArray, List.set_cons_zero, List.set_cons_succ]
    refine PlanW.call (f := ?_) (args := ?_) (R := fun v w' => ∃ r, v = .int .i64 r ∧ Drw S w5 w') (some 22) (HJ.out _ (g4.trans g5)) rfl rfl rfl ?_ ?_ ?_
    rotate_left 2
    · go_simp; refine ⟨?_, ?_⟩ <;> rfl
    · refine Calls.mono (s_next S _ _ ((g4.trans g5).src HS2.out) (by omega)) ?_
      rintro e w9 ⟨r, rfl, _, x9⟩
      exact ⟨_, rfl, r, rfl, x9⟩
    rintro v w3 ⟨ub, rfl, g6⟩
    simp only [Act.put, List.setIfInBounds_toArray, List.set_cons_zero, List.set_cons_succ]
    refine PlanW.float (v := ?_) (some 23) rfl rfl rfl (fun w' hI => ?_) ?_
    rotate_left
    · obtain ⟨e0, e1⟩ := HJ2.out w' hI; go_simp; rfl
    simp only [Act.put, List.setIfInBounds_toArray, List.set_cons_zero, List.set_cons_succ]
    refine PlanW.float (v := ?_) (some 24) rfl rfl rfl (fun w' hI => ?_) ?_
    rotate_left
    · obtain ⟨e0, e1⟩ := HJ2.out w' hI; go_simp; rfl
    simp only [Act.put, List.setIfInBounds_toArray, List.set_cons_zero, List.set_cons_succ]
    have he' : Drw S W2.drew w3 := (g4.trans g5).trans g6
    have HR3 := Lib.hid (HR2.out.drw he' hgR)
    have HQ3 := Lib.hid (he'.own HQ2.out (Nat.lt_succ_self _))
    have HO1 := Lib.hid ((g5.trans g6).own ho1 (Nat.lt_succ_self _))
    have G3 := Lib.hid (G2.out.trans he')
    have HI3 := Lib.hid (HJ.out _ he')
    have HJW : Hid (J ((w3.setCell ⟨w.heap.size, 0, none⟩ (.int .i64 p)).setCell ⟨w.heap.size, 1, none⟩ (.slice a d c))) := Lib.hid (HJR.out _ HI3.out)
    have r0 := HR3.out.c0
    have r1 := HR3.out.c1
    have f0 := HR3.out.f0
    have f1 := HR3.out.f1
    clear he' ho1 g4 g5 g6
    refine PlanW.skip (w' := ((w3.setCell ⟨w.heap.size, 0, none⟩ (.int .i64 p)).setCell ⟨w.heap.size, 1, none⟩ (.slice a d c))) HI3.out rfl rfl (by go_simp) ?_
    simp only [Act.put, List.setIfInBounds_toArray]
    refine PlanW.value (v := ?_) (w' := ((w3.setCell ⟨w.heap.size, 0, none⟩ (.int .i64 p)).setCell ⟨w.heap.size, 1, none⟩ (.slice a d c))) (some 3) HJW.out rfl rfl rfl (?_) ?_
    rotate_left
    · go_simp; rfl
    simp only [Act.put]
    refine PlanW.value (v := ?_) (w' := ((w3.setCell ⟨w.heap.size, 0, none⟩ (.int .i64 p)).setCell ⟨w.heap.size, 1, none⟩ (.slice a d c))) (some 4) HJW.out rfl rfl rfl (?_) ?_
    rotate_left
    · go_simp; rfl
    refine ⟨HJW.out, strictQ_normal ?_⟩
    simp only [Act.put]
    go_wp2_with (fail)
    refine bodyPost_ret (v := .tuple #[.agg #[.int .i64 p, .slice a d c], .slice a1 m1 c1, .int .i64 (IntKind.i64.wrap (ua - IntKind.i64.wrap (ub.tdiv 23)))]) (by simp [results, Try.results17, go_sem, r0, r1]) rfl ⟨p, a, d, c, qs, a1, m1, c1, ⟨_, rfl⟩, by omega, by omega, hd, hm1, ?_, ⟨x1, ?_⟩, ?_⟩
    · exact ((HQ3.out.other (by simp; omega) _).other (by simp; omega) _).mono (by omega)
    · exact ((HO1.out.other (by simp; omega) _).other (by simp; omega) _).mono (by omega)
    · exact ((G3.out.toExt G1.out (by omega)).setCell (by simp) _).setCell (by simp) _
end Go.Proofs.Ytcocbainookkcaa
