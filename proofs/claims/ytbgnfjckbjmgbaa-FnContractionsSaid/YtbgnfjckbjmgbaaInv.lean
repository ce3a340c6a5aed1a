/-
  Powers and inverses of numbers, multiples of lists: walks; the square of the pseudoscalar of a regular space is not 0.
  No condition.
-/
import Derived.Test.YtbgnfjckbjmgbaaAlg
import Derived.Test.YtbgnfjckbjmgbaaKit
import Derived.Test.YtbgnfjckbjmgbaaRegular
namespace Go.Proofs.Ytbgnfjckbjmgbaa
set_option maxRecDepth 100000
open Go.RowKit

def powS (p a : Int) : Nat → Int
  | 0 => 1
  | k + 1 => powS p a k * a % p
theorem powS_bd {p a : Int} (hp : 3 ≤ p) : ∀ k, 0 ≤ powS p a k ∧ powS p a k < p
  | 0 => by simp [powS]; omega
  | k + 1 => ⟨Int.emod_nonneg _ (by omega), Int.emod_lt_of_pos _ (by omega)⟩
def invN (p a : Int) : Int := powS p a (p - 2).toNat
theorem invN_bd {p a : Int} (hp : 3 ≤ p) : 0 ≤ invN p a ∧ invN p a < p := powS_bd hp _

def powT (q a : Nat) : Nat → Nat
  | 0 => 1
  | k + 1 => powT q a k * a % q
theorem powT_eq (q a k : Nat) : powS (q : Int) (a : Int) k = (powT q a k : Int) := by
  induction k with
  | zero => rfl
  | succ k ih => simp only [powS, powT]; rw [ih]; simp
theorem inv_spec {p a : Int} (hp : primeB p = true) (h0 : 0 < a) (h1 : a < p) :
    1 ≤ invN p a ∧ a * invN p a % p = 1 ∧ ∀ j : Nat, 1 ≤ j → (j : Int) < invN p a → ¬ a * j % p = 1 := by
  have key : ∀ q : Nat, (q = 3 ∨ q = 5 ∨ q = 7 ∨ q = 11 ∨ q = 13) → ∀ a : Nat, a < q → 0 < a → 1 ≤ powT q a (q - 2) ∧ a * powT q a (q - 2) % q = 1 ∧ ∀ j : Nat, j < powT q a (q - 2) → 1 ≤ j → ¬ a * j % q = 1 := by
    rintro q (rfl | rfl | rfl | rfl | rfl) <;> decide +kernel
  have hb := prime_bd hp
  obtain ⟨q, rfl⟩ := Int.eq_ofNat_of_zero_le (show 0 ≤ p by omega)
  obtain ⟨a, rfl⟩ := Int.eq_ofNat_of_zero_le (show 0 ≤ a by omega)
  obtain ⟨k1, k2, k3⟩ := key q (by simp [primeB] at hp; omega) a (by omega) (by omega)
  have e : invN (q : Int) (a : Int) = (powT q a (q - 2) : Int) := by
    unfold invN
    rw [show ((q : Int) - 2).toNat = q - 2 by omega, powT_eq]
  rw [e]
  refine ⟨by omega, ?_, fun j hj1 hj2 hj => ?_⟩
  · rw [show ((a : Int) * (powT q a (q - 2) : Int)) % (q : Int) = ((a * powT q a (q - 2) % q : Nat) : Int) by simp, k2]; rfl
  · refine k3 j (by omega) hj1 ?_
    rw [show ((a : Int) * (j : Int)) % (q : Int) = ((a * j % q : Nat) : Int) by simp] at hj
    omega

set_option maxHeartbeats 400000 in
theorem c_pow (p a : Int) (k : Nat) (w : World) (hp1 : 3 ≤ p) (hp2 : p ≤ 1000) (ha : 0 ≤ a) (ha2 : a < p) (hk : k ≤ 1000) :
    Calls Try.prog 200 #[.int .i64 p, .int .i64 a, .int .i64 k] w fun e w' => e = .returned (.int .i64 (powS p a k)) ∧ Ext w w' := by
  go_enter Try.func200, Try.ntmps200
  go_wp2_with (fail)
  go_loopw [7, 9] (fun v i wr => ∃ j : Nat, j ≤ k ∧ i = .int .i64 j ∧ v = .int .i64 (powS p a j) ∧ Ext w wr) (fun _ i _ => k - (intOf i).toNat)
  case atStart => exact ⟨0, Nat.zero_le _, rfl, rfl, Ext.refl _⟩
  case round =>
    obtain ⟨j, hj, rfl, rfl, hext⟩ := hrel
    by_cases hlt : j < k
    · have hb := powS_bd (a := a) hp1 j
      obtain ⟨D, hD⟩ : ∃ D, D = powS p a j := ⟨_, rfl⟩
      have HDk := Lib.hid (show D * a % p = powS p a (j + 1) by rw [hD]; rfl)
      rw [← hD] at hb ⊢
      clear hD
      obtain ⟨hm1, hm2⟩ := mul_bd hp2 hb.1 hb.2 ha ha2
      have hw1 : IntKind.i64.wrap (D * a) = D * a := IntWalk.i64_in _ (by omega)
      go_wp2_with (go_at_call 154; refine (c_num _ _ _ (by omega) hp2).mono ?_; rintro e w2 ⟨rfl, g2⟩; rw [HDk.out])
      go_roundw
      case rel => exact ⟨j + 1, by omega, by go_num, rfl, hext.trans g2⟩
      case measure => simp [intOf]; omega
    · go_wp2_with (fail)
      go_ret
      obtain rfl : j = k := by omega
      exact ⟨rfl, hext⟩
set_option maxHeartbeats 400000 in
theorem c_inv (p a : Int) (w : World) (hp1 : 3 ≤ p) (hp2 : p ≤ 1000) (ha : 0 ≤ a) (ha2 : a < p) :
    Calls Try.prog 172 #[.int .i64 p, .int .i64 a] w fun e w' => e = .returned (.int .i64 (invN p a)) ∧ Ext w w' := by
  obtain ⟨k, hk⟩ := Int.eq_ofNat_of_zero_le (show 0 ≤ p - 2 by omega)
  have HI := Lib.hid (show powS p a k = invN p a by unfold invN; rw [hk]; rfl)
  have hw1 : IntKind.i64.wrap (p - 2) = (k : Int) := by rw [IntWalk.i64_in _ (by omega)]; exact hk
  have hkl : k ≤ 1000 := by omega
  have hk2 : p - 2 = (k : Int) := hk
  clear hk
  go_enter Try.func172, Try.ntmps172
  go_wp2_with (go_at_call 200; refine (c_pow _ _ _ _ hp1 hp2 ha ha2 hkl).mono ?_; rintro e w2 ⟨rfl, g2⟩; rw [HI.out])
  go_ret
  exact ⟨rfl, g2⟩

set_option maxHeartbeats 400000 in
theorem s_inv (p a : Int) (w : World) (hpr : primeB p = true) (ha : 0 < a) (ha2 : a < p) :
    Calls Try.prog 176 #[.int .i64 p, .int .i64 a] w fun e w' => e = .returned (.int .i64 (invN p a)) ∧ Ext w w' := by
  have hpb := prime_bd hpr
  have hpz : ¬ p = 0 := by omega
  obtain ⟨hi1, hi2, hi3⟩ := inv_spec hpr ha ha2
  have hib := invN_bd (a := a) (show 3 ≤ p by omega)
  obtain ⟨I, hI⟩ := Int.eq_ofNat_of_zero_le hib.1
  rw [hI] at hi1 hi2 hi3 hib ⊢
  have H2 := Lib.hid hi2
  have H3 := Lib.hid hi3
  clear hi2 hi3 hI hpr
  go_enter Try.func176, Try.ntmps176
  go_wp2_with (fail)
  go_loopw [5] (fun v wr => ∃ j : Nat, 1 ≤ j ∧ j ≤ I ∧ v = .int .i64 j ∧ Ext w wr) (fun v _ => I - (intOf v).toNat)
  case atStart => exact ⟨1, Nat.le_refl _, by omega, rfl, Ext.refl _⟩
  case round =>
    obtain ⟨j, hj1, hj, rfl, hext⟩ := hrel
    obtain ⟨hm1, hm2⟩ := mul_bd (show p ≤ 1000 by omega) (show 0 ≤ a by omega) ha2 (show 0 ≤ (j : Int) by omega) (show (j : Int) < p by omega)
    obtain ⟨R, hR⟩ : ∃ R, R = a * (j : Int) % p := ⟨_, rfl⟩
    have hw1 : IntKind.i64.wrap (a * (j : Int)) = a * (j : Int) := IntWalk.i64_in _ (by omega)
    have hw2 : (a * (j : Int)).tmod p = R := by rw [hR]; exact Int.tmod_eq_emod_of_nonneg hm1
    by_cases hlt : j < I
    · have hne := H3.out j hj1 (by omega)
      have hb : (R != 1) = true := by rw [hR]; simpa using hne
      clear hR hne
      go_wp2_with (fail)
      go_roundw
      case rel => exact ⟨j + 1, by omega, by omega, by go_num, hext⟩
      case measure => simp [intOf]; omega
    · obtain rfl : j = I := by omega
      have hb : (R != 1) = false := by rw [hR, H2.out]; rfl
      clear hR
      go_wp2_with (fail)
      go_ret
      exact ⟨rfl, hext⟩

/-! ### Multiples of lists -/
def scaleN (p : Int) (x : List Int) (k : Int) (i : Nat) : Int := (nth x i * k) % p
def scaleL (p : Int) (x : List Int) (k : Int) (n : Nat) : List Int := (List.range n).map (scaleN p x k)
theorem scaleL_len (p : Int) (x : List Int) (k : Int) (n : Nat) : (scaleL p x k n).length = n := by simp [scaleL]
theorem scaleL_succ (p : Int) (x : List Int) (k : Int) (n : Nat) : scaleL p x k (n + 1) = scaleL p x k n ++ [scaleN p x k n] := by simp [scaleL, List.range_succ]
theorem scaleL_nth {p : Int} {x : List Int} {k : Int} {n i : Nat} (h : i < n) : nth (scaleL p x k n) i = scaleN p x k i := by
  unfold scaleL; rw [nth_map (by simpa using h)]; simp
theorem scale_good {p : Int} {x : List Int} {k : Int} {n : Nat} (hp : 1 ≤ p) : Good p n (scaleL p x k n) := ⟨scaleL_len _ _ _ _, fun i hi => by
  rw [scaleL_nth hi]; exact ⟨Int.emod_nonneg _ (by omega), Int.emod_lt_of_pos _ (by omega)⟩⟩

set_option maxHeartbeats 1000000 in
theorem c_scaled (p : Int) (ax : Option Addr) (n cx : Nat) (x : List Int) (k : Int) (w : World) (hp1 : 3 ≤ p) (hp2 : p ≤ 1000) (hk : -1000 ≤ k ∧ k ≤ 1000) (hn : n ≤ 4194303) (hx : RdC w ax n x) (hgx : Good p n x) :
    Calls Try.prog 122 #[.int .i64 p, .slice ax n cx, .int .i64 k] w fun e w' => ∃ g rc, e = .returned (.slice (some ⟨g, 0, none⟩) n rc) ∧ OwnC w.heap.size w' (some ⟨g, 0, none⟩) n rc (scaleL p x k n) ∧ Ext w w' := by
  have HX := Lib.hid hx
  have HGX := Lib.hid hgx
  clear hx hgx
  go_enter Try.func122, Try.ntmps122
  go_wp2_with (fail)
  go_loopw [7, 13] (fun v i wr => ∃ (j g rc : Nat), j ≤ n ∧ i = .int .i64 j ∧ v = .slice (some ⟨g, 0, none⟩) j rc ∧ OwnC w.heap.size wr (some ⟨g, 0, none⟩) j rc (scaleL p x k j) ∧ Ext w wr) (fun _ i _ => n - (intOf i).toNat)
  case atStart => exact ⟨0, _, _, Nat.zero_le _, rfl, rfl, own_empty w, ext_alloc _ _⟩
  case round =>
    obtain ⟨j, g, rc, hj, rfl, rfl, hown, hext⟩ := hrel
    have HOwn := Lib.hid hown
    have HExt := Lib.hid hext
    clear hown hext
    by_cases hlt : j < n
    · obtain ⟨bx, ox, rfl, hcx⟩ := HX.out.2 j hlt
      have hcx' := HExt.out.cell hcx
      have hbx := HGX.out.2 j hlt
      have hkb := kmul_bd hk hbx.1 (show nth x j ≤ 1000 by omega)
      rw [Int.mul_comm] at hkb
      have hw1 : IntKind.i64.wrap (nth x j * k) = nth x j * k := IntWalk.i64_in _ (by omega)
      have HP := Lib.hid (show (nth x j * k) % p = scaleN p x k j from rfl)
      clear hcx
      go_wp2_with (first | (go_at_call 154; refine (c_num _ _ _ (by omega) hp2).mono ?_; rintro e w2 ⟨rfl, g2⟩; rw [HP.out]; have G2 := Lib.hid g2; clear g2) | (at_builtin; refine wpList_push rfl (.tmp 17) (.tmp 23) rfl rfl rfl (v := scaleN p x k j) (HOwn.out.ext (G2.out.trans (ext_alloc _ _))) ?hc ?hn ?hB ?hk))
      case hc => simp
      case hn => omega
      case hB => have hz := (HExt.out.trans G2.out).size'; simp; omega
      case hk =>
        intro g' cap' w3 ho3 hg3 he3
        have HO3 := Lib.hid ho3
        have HE3 := Lib.hid (he3 w (Nat.le_refl _) ((HExt.out.trans G2.out).alloc _))
        clear ho3 hg3 he3
        go_wp2_with (fail)
        go_roundw
        case rel => exact ⟨j + 1, g', cap', by omega, by go_num, rfl, by rw [scaleL_succ]; exact HO3.out, HE3.out⟩
        case measure => simp [intOf]; omega
    · go_wp2_with (fail)
      go_ret
      obtain rfl : j = n := by omega
      exact ⟨g, rc, rfl, HOwn.out, HExt.out⟩

theorem scale_full {p k : Int} {d : Nat} (h0 : 0 ≤ k) (h1 : k < p) : scaleL p (fullL d) k (2 ^ d) = topL d k := by
  have hN := pow_pos' d
  refine ext_nth (by rw [scaleL_len]; simp [topL]) fun i hi => ?_
  rw [scaleL_len] at hi
  rw [scaleL_nth hi]
  unfold scaleN fullL topL
  rw [bladeL_nth (by omega) hi, nth_set (by simp; omega), nth_replicate hi]
  split
  · rw [Int.one_mul, Int.emod_eq_of_lt h0 h1]
  · simp

/-! ### The square of the pseudoscalar -/
theorem facS_full {p : Int} {qs : List Int} {d : Nat} : ∀ k, k ≤ d → (facS p qs (2 ^ d - 1) (2 ^ d - 1) k).2 = discS p qs k
  | 0, _ => rfl
  | k + 1, hk => by
    have ht : (2 ^ d - 1).testBit k = true := by rw [Nat.testBit_two_pow_sub_one]; simp; omega
    rw [facS_two ht ht]
    simp only [discS]
    rw [facS_full k (by omega)]
theorem sqFull_eq {p : Int} {qs : List Int} (hp : 3 ≤ p) (hd : qs.length ≤ 6) : sqFull p qs = fac p qs (2 ^ qs.length - 1) (2 ^ qs.length - 1) := by
  have hN := pow_pos' qs.length
  have h64 := pow_le64 hd
  unfold sqFull
  rw [prod_nth1 (by omega) (by omega), sumN_single (k := 2 ^ qs.length - 1) (by omega) (fun i hi hne => by
    have hz : nth (fullL qs.length) i = 0 := by
      unfold fullL
      rw [bladeL_nth (by omega) hi, if_neg (fun h => hne h.symm)]
    rw [hz]; simp)]
  rw [Nat.xor_zero]
  unfold fullL
  rw [bladeL_nth (by omega) (by omega), if_pos rfl]
  simp only [tkA, if_true, Int.one_mul]
  have hb := fac_bd (p := p) (qs := qs) (a := 2 ^ qs.length - 1) (b := 2 ^ qs.length - 1) hp (by omega)
  exact Int.emod_eq_of_lt hb.1 hb.2
theorem sqFull_ne {p : Int} {qs : List Int} (hp : primeB p = true) (hq : isB p qs = true) (hd : qs.length ≤ 6) (hr : regB qs = true) : sqFull p qs ≠ 0 := by
  have hpb := prime_bd hp
  have hN := pow_pos' qs.length
  rw [sqFull_eq (by omega) hd]
  have hdz := disc_reg hp hq
  rw [hr] at hdz
  have hdne : discS p qs qs.length ≠ 0 := by simpa [discL] using hdz
  have hdb := discS_bd (p := p) (qs := qs) (by omega) qs.length
  unfold fac sgn
  rw [facS_full qs.length (Nat.le_refl _)]
  split
  · intro h
    obtain ⟨c, hc⟩ := Int.dvd_of_emod_eq_zero h
    have hc0 : c = 0 := by
      rcases Int.lt_trichotomy c 0 with h | h | h
      · have : p * c ≤ p * -1 := Int.mul_le_mul_of_nonneg_left (by omega) (by omega)
        omega
      · exact h
      · have : p * 1 ≤ p * c := Int.mul_le_mul_of_nonneg_left (by omega) (by omega)
        omega
    rw [hc0] at hc; omega
  · exact hdne
def dualL (p : Int) (qs x : List Int) : List Int := prodL p qs tkL x (topL qs.length (invN p (sqFull p qs)))
end Go.Proofs.Ytbgnfjckbjmgbaa
