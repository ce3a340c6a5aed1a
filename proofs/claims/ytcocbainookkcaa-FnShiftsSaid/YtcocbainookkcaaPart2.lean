/-
  Contracts and plain laws, part 2: Inv, Own, Reverse, Undual, Dual, AlgC, Vec, AlgD, LinP, Float, Float2, ExtS.
  No condition.
-/
import Derived.Test.YtcocbainookkcaaPart1
import Derived.Test.YtcocbainookkcaaPart0
/-
  Powers and inverses of numbers, multiples of lists: walks; the square of the pseudoscalar of a regular space is not 0.
  No condition.
-/
namespace Go.Proofs.Ytcocbainookkcaa
set_option maxRecDepth 100000
open Go.RowKit

def powS (p a : Int) : Nat → Int
  | 0 => 1
  | k + 1 => powS p a k * a % p
theorem powS_bd {p a : Int} (hp : 3 ≤ p) : ∀ k, 0 ≤ powS p a k ∧ powS p a k < p
  | 0 => by simp [powS]; omega
  | k + 1 => ⟨Int.emod_nonneg _ (by omega), Int.emod_lt_of_pos _ (by omega)⟩
def invN (p a : Int) : Int := powS p a (p - 2).toNat
theorem invN_bd {p a : Int} (hp : 3 ≤ p) : 0 ≤ invN p a ∧ invN p a < p := powS_bd hp _

def powT (q a : Nat) : Nat → Nat
  | 0 => 1
  | k + 1 => powT q a k * a % q
theorem powT_eq (q a k : Nat) : powS (q : Int) (a : Int) k = (powT q a k : Int) := by
  induction k with
  | zero => rfl
  | succ k ih => simp only [powS, powT]; rw [ih]; simp
theorem inv_spec {p a : Int} (hp : primeB p = true) (h0 : 0 < a) (h1 : a < p) :
    1 ≤ invN p a ∧ a * invN p a % p = 1 ∧ ∀ j : Nat, 1 ≤ j → (j : Int) < invN p a → ¬ a * j % p = 1 := by
  have key : ∀ q : Nat, (q = 3 ∨ q = 5 ∨ q = 7 ∨ q = 11 ∨ q = 13) → ∀ a : Nat, a < q → 0 < a → 1 ≤ powT q a (q - 2) ∧ a * powT q a (q - 2) % q = 1 ∧ ∀ j : Nat, j < powT q a (q - 2) → 1 ≤ j → ¬ a * j % q = 1 := by
    rintro q (rfl | rfl | rfl | rfl | rfl) <;> decide +kernel
  have hb := prime_bd hp
  obtain ⟨q, rfl⟩ := Int.eq_ofNat_of_zero_le (show 0 ≤ p by omega)
  obtain ⟨a, rfl⟩ := Int.eq_ofNat_of_zero_le (show 0 ≤ a by omega)
  obtain ⟨k1, k2, k3⟩ := key q (by simp [primeB] at hp; omega) a (by omega) (by omega)
  have e : invN (q : Int) (a : Int) = (powT q a (q - 2) : Int) := by
    unfold invN
    rw [show ((q : Int) - 2).toNat = q - 2 by omega, powT_eq]
  rw [e]
  refine ⟨by omega, ?_, fun j hj1 hj2 hj => ?_⟩
  · rw [show ((a : Int) * (powT q a (q - 2) : Int)) % (q : Int) = ((a * powT q a (q - 2) % q : Nat) : Int) by simp, k2]; rfl
  · refine k3 j (by omega) hj1 ?_
    rw [show ((a : Int) * (j : Int)) % (q : Int) = ((a * j % q : Nat) : Int) by simp] at hj
    omega

set_option maxHeartbeats 400000 in
theorem c_pow (p a : Int) (k : Nat) (w : World) (hp1 : 3 ≤ p) (hp2 : p ≤ 1000) (ha : 0 ≤ a) (ha2 : a < p) (hk : k ≤ 1000) :
    Calls Try.prog 136 #[.int .i64 p, .int .i64 a, .int .i64 k] w fun e w' => e = .returned (.int .i64 (powS p a k)) ∧ Ext w w' := by
  go_enter Try.func136, Try.ntmps136
  go_wp2_with (fail)
  go_loopw [7, 9] (fun v i wr => ∃ j : Nat, j ≤ k ∧ i = .int .i64 j ∧ v = .int .i64 (powS p a j) ∧ Ext w wr) (fun _ i _ => k - (intOf i).toNat)
  case atStart => exact ⟨0, Nat.zero_le _, rfl, rfl, Ext.refl _⟩
  case round =>
    obtain ⟨j, hj, rfl, rfl, hext⟩ := hrel
    by_cases hlt : j < k
    · have hb := powS_bd (a := a) hp1 j
      obtain ⟨D, hD⟩ : ∃ D, D = powS p a j := ⟨_, rfl⟩
      have HDk := Lib.hid (show D * a % p = powS p a (j + 1) by rw [hD]; rfl)
      rw [← hD] at hb ⊢
      clear hD
      obtain ⟨hm1, hm2⟩ := mul_bd hp2 hb.1 hb.2 ha ha2
      have hw1 : IntKind.i64.wrap (D * a) = D * a := IntWalk.i64_in _ (by omega)
      go_wp2_with (go_at_call 64; refine (c_num _ _ _ (by omega) hp2).mono ?_; rintro e w2 ⟨rfl, g2⟩; rw [HDk.out])
      go_roundw
      case rel => exact ⟨j + 1, by omega, by go_num, rfl, hext.trans g2⟩
      case measure => simp [intOf]; omega
    · go_wp2_with (fail)
      go_ret
      obtain rfl : j = k := by omega
      exact ⟨rfl, hext⟩
set_option maxHeartbeats 400000 in
theorem c_inv (p a : Int) (w : World) (hp1 : 3 ≤ p) (hp2 : p ≤ 1000) (ha : 0 ≤ a) (ha2 : a < p) :
    Calls Try.prog 97 #[.int .i64 p, .int .i64 a] w fun e w' => e = .returned (.int .i64 (invN p a)) ∧ Ext w w' := by
  obtain ⟨k, hk⟩ := Int.eq_ofNat_of_zero_le (show 0 ≤ p - 2 by omega)
  have HI := Lib.hid (show powS p a k = invN p a by unfold invN; rw [hk]; rfl)
  have hw1 : IntKind.i64.wrap (p - 2) = (k : Int) := by rw [IntWalk.i64_in _ (by omega)]; exact hk
  have hkl : k ≤ 1000 := by omega
  have hk2 : p - 2 = (k : Int) := hk
  clear hk
  go_enter Try.func97, Try.ntmps97
  go_wp2_with (go_at_call 136; refine (c_pow _ _ _ _ hp1 hp2 ha ha2 hkl).mono ?_; rintro e w2 ⟨rfl, g2⟩; rw [HI.out])
  go_ret
  exact ⟨rfl, g2⟩

set_option maxHeartbeats 400000 in
theorem s_inv (p a : Int) (w : World) (hpr : primeB p = true) (ha : 0 < a) (ha2 : a < p) :
    Calls Try.prog 56 #[.int .i64 p, .int .i64 a] w fun e w' => e = .returned (.int .i64 (invN p a)) ∧ Ext w w' := by
  have hpb := prime_bd hpr
  have hpz : ¬ p = 0 := by omega
  obtain ⟨hi1, hi2, hi3⟩ := inv_spec hpr ha ha2
  have hib := invN_bd (a := a) (show 3 ≤ p by omega)
  obtain ⟨I, hI⟩ := Int.eq_ofNat_of_zero_le hib.1
  rw [hI] at hi1 hi2 hi3 hib ⊢
  have H2 := Lib.hid hi2
  have H3 := Lib.hid hi3
  clear hi2 hi3 hI hpr
  go_enter Try.func56, Try.ntmps56
  go_wp2_with (fail)
  go_loopw [5] (fun v wr => ∃ j : Nat, 1 ≤ j ∧ j ≤ I ∧ v = .int .i64 j ∧ Ext w wr) (fun v _ => I - (intOf v).toNat)
  case atStart => exact ⟨1, Nat.le_refl _, by omega, rfl, Ext.refl _⟩
  case round =>
    obtain ⟨j, hj1, hj, rfl, hext⟩ := hrel
    obtain ⟨hm1, hm2⟩ := mul_bd (show p ≤ 1000 by omega) (show 0 ≤ a by omega) ha2 (show 0 ≤ (j : Int) by omega) (show (j : Int) < p by omega)
    obtain ⟨R, hR⟩ : ∃ R, R = a * (j : Int) % p := ⟨_, rfl⟩
    have hw1 : IntKind.i64.wrap (a * (j : Int)) = a * (j : Int) := IntWalk.i64_in _ (by omega)
    have hw2 : (a * (j : Int)).tmod p = R := by rw [hR]; exact Int.tmod_eq_emod_of_nonneg hm1
    by_cases hlt : j < I
    · have hne := H3.out j hj1 (by omega)
      have hb : (R != 1) = true := by rw [hR]; simpa using hne
      clear hR hne
      go_wp2_with (fail)
      go_roundw
      case rel => exact ⟨j + 1, by omega, by omega, by go_num, hext⟩
      case measure => simp [intOf]; omega
    · obtain rfl : j = I := by omega
      have hb : (R != 1) = false := by rw [hR, H2.out]; rfl
      clear hR
      go_wp2_with (fail)
      go_ret
      exact ⟨rfl, hext⟩

/-! ### Multiples of lists -/
def scaleN (p : Int) (x : List Int) (k : Int) (i : Nat) : Int := (nth x i * k) % p
def scaleL (p : Int) (x : List Int) (k : Int) (n : Nat) : List Int := (List.range n).map (scaleN p x k)
theorem scaleL_len (p : Int) (x : List Int) (k : Int) (n : Nat) : (scaleL p x k n).length = n := by simp [scaleL]
theorem scaleL_succ (p : Int) (x : List Int) (k : Int) (n : Nat) : scaleL p x k (n + 1) = scaleL p x k n ++ [scaleN p x k n] := by simp [scaleL, List.range_succ]
theorem scaleL_nth {p : Int} {x : List Int} {k : Int} {n i : Nat} (h : i < n) : nth (scaleL p x k n) i = scaleN p x k i := by
  unfold scaleL; rw [nth_map (by simpa using h)]; simp
theorem scale_good {p : Int} {x : List Int} {k : Int} {n : Nat} (hp : 1 ≤ p) : Good p n (scaleL p x k n) := ⟨scaleL_len _ _ _ _, fun i hi => by
  rw [scaleL_nth hi]; exact ⟨Int.emod_nonneg _ (by omega), Int.emod_lt_of_pos _ (by omega)⟩⟩

set_option maxHeartbeats 1000000 in
theorem c_scaled (p : Int) (ax : Option Addr) (n cx : Nat) (x : List Int) (k : Int) (w : World) (hp1 : 3 ≤ p) (hp2 : p ≤ 1000) (hk : -1000 ≤ k ∧ k ≤ 1000) (hn : n ≤ 4194303) (hx : RdC w ax n x) (hgx : Good p n x) :
    Calls Try.prog 104 #[.int .i64 p, .slice ax n cx, .int .i64 k] w fun e w' => ∃ g rc, e = .returned (.slice (some ⟨g, 0, none⟩) n rc) ∧ OwnC w.heap.size w' (some ⟨g, 0, none⟩) n rc (scaleL p x k n) ∧ Ext w w' := by
  have HX := Lib.hid hx
  have HGX := Lib.hid hgx
  clear hx hgx
  go_enter Try.func104, Try.ntmps104
  go_wp2_with (fail)
  go_loopw [7, 13] (fun v i wr => ∃ (j g rc : Nat), j ≤ n ∧ i = .int .i64 j ∧ v = .slice (some ⟨g, 0, none⟩) j rc ∧ OwnC w.heap.size wr (some ⟨g, 0, none⟩) j rc (scaleL p x k j) ∧ Ext w wr) (fun _ i _ => n - (intOf i).toNat)
  case atStart => exact ⟨0, _, _, Nat.zero_le _, rfl, rfl, own_empty w, ext_alloc _ _⟩
  case round =>
    obtain ⟨j, g, rc, hj, rfl, rfl, hown, hext⟩ := hrel
    have HOwn := Lib.hid hown
    have HExt := Lib.hid hext
    clear hown hext
    by_cases hlt : j < n
    · obtain ⟨bx, ox, rfl, hcx⟩ := HX.out.2 j hlt
      have hcx' := HExt.out.cell hcx
      have hbx := HGX.out.2 j hlt
      have hkb := kmul_bd hk hbx.1 (show nth x j ≤ 1000 by omega)
      rw [Int.mul_comm] at hkb
      have hw1 : IntKind.i64.wrap (nth x j * k) = nth x j * k := IntWalk.i64_in _ (by omega)
      have HP := Lib.hid (show (nth x j * k) % p = scaleN p x k j from rfl)
      clear hcx
      go_wp2_with (first | (go_at_call 64; refine (c_num _ _ _ (by omega) hp2).mono ?_; rintro e w2 ⟨rfl, g2⟩; rw [HP.out]; have G2 := Lib.hid g2; clear g2) | (at_builtin; refine wpList_push rfl (.tmp 17) (.tmp 23) rfl rfl rfl (v := scaleN p x k j) (HOwn.out.ext (G2.out.trans (ext_alloc _ _))) ?hc ?hn ?hB ?hk))
      case hc => simp
      case hn => omega
      case hB => have hz := (HExt.out.trans G2.out).size'; simp; omega
      case hk =>
        intro g' cap' w3 ho3 hg3 he3
        have HO3 := Lib.hid ho3
        have HE3 := Lib.hid (he3 w (Nat.le_refl _) ((HExt.out.trans G2.out).alloc _))
        clear ho3 hg3 he3
        go_wp2_with (fail)
        go_roundw
        case rel => exact ⟨j + 1, g', cap', by omega, by go_num, rfl, by rw [scaleL_succ]; exact HO3.out, HE3.out⟩
        case measure => simp [intOf]; omega
    · go_wp2_with (fail)
      go_ret
      obtain rfl : j = n := by omega
      exact ⟨g, rc, rfl, HOwn.out, HExt.out⟩

theorem scale_full {p k : Int} {d : Nat} (h0 : 0 ≤ k) (h1 : k < p) : scaleL p (fullL d) k (2 ^ d) = topL d k := by
  have hN := pow_pos' d
  refine ext_nth (by rw [scaleL_len]; simp [topL]) fun i hi => ?_
  rw [scaleL_len] at hi
  rw [scaleL_nth hi]
  unfold scaleN fullL topL
  rw [bladeL_nth (by omega) hi, nth_set (by simp; omega), nth_replicate hi]
  split
  · rw [Int.one_mul, Int.emod_eq_of_lt h0 h1]
  · simp

/-! ### The square of the pseudoscalar -/
theorem facS_full {p : Int} {qs : List Int} {d : Nat} : ∀ k, k ≤ d → (facS p qs (2 ^ d - 1) (2 ^ d - 1) k).2 = discS p qs k
  | 0, _ => rfl
  | k + 1, hk => by
    have ht : (2 ^ d - 1).testBit k = true := by rw [Nat.testBit_two_pow_sub_one]; simp; omega
    rw [facS_two ht ht]
    simp only [discS]
    rw [facS_full k (by omega)]
theorem sqFull_eq {p : Int} {qs : List Int} (hp : 3 ≤ p) (hd : qs.length ≤ 6) : sqFull p qs = fac p qs (2 ^ qs.length - 1) (2 ^ qs.length - 1) := by
  have hN := pow_pos' qs.length
  have h64 := pow_le64 hd
  unfold sqFull
  rw [prod_nth1 (by omega) (by omega), sumN_single (k := 2 ^ qs.length - 1) (by omega) (fun i hi hne => by
    have hz : nth (fullL qs.length) i = 0 := by
      unfold fullL
      rw [bladeL_nth (by omega) hi, if_neg (fun h => hne h.symm)]
    rw [hz]; simp)]
  rw [Nat.xor_zero]
  unfold fullL
  rw [bladeL_nth (by omega) (by omega), if_pos rfl]
  simp only [tkA, if_true, Int.one_mul]
  have hb := fac_bd (p := p) (qs := qs) (a := 2 ^ qs.length - 1) (b := 2 ^ qs.length - 1) hp (by omega)
  exact Int.emod_eq_of_lt hb.1 hb.2
theorem sqFull_ne {p : Int} {qs : List Int} (hp : primeB p = true) (hq : isB p qs = true) (hd : qs.length ≤ 6) (hr : regB qs = true) : sqFull p qs ≠ 0 := by
  have hpb := prime_bd hp
  have hN := pow_pos' qs.length
  rw [sqFull_eq (by omega) hd]
  have hdz := disc_reg hp hq
  rw [hr] at hdz
  have hdne : discS p qs qs.length ≠ 0 := by simpa [discL] using hdz
  have hdb := discS_bd (p := p) (qs := qs) (by omega) qs.length
  unfold fac sgn
  rw [facS_full qs.length (Nat.le_refl _)]
  split
  · intro h
    obtain ⟨c, hc⟩ := Int.dvd_of_emod_eq_zero h
    have hc0 : c = 0 := by
      rcases Int.lt_trichotomy c 0 with h | h | h
      · have : p * c ≤ p * -1 := Int.mul_le_mul_of_nonneg_left (by omega) (by omega)
        omega
      · exact h
      · have : p * 1 ≤ p * c := Int.mul_le_mul_of_nonneg_left (by omega) (by omega)
        omega
    rw [hc0] at hc; omega
  · exact hdne
def dualL (p : Int) (qs x : List Int) : List Int := prodL p qs tkL x (topL qs.length (invN p (sqFull p qs)))
end Go.Proofs.Ytcocbainookkcaa

/-
  Copies of slices, in the program and in the reference.
  No condition.
-/
namespace Go.Proofs.Ytcocbainookkcaa
set_option maxRecDepth 100000
open Go.RowKit

set_option maxHeartbeats 400000 in
theorem s_own (b off n cap : Nat) (xs : List Int) (w : World) (hn : 0 < n) (hl : n ≤ 4194303) (hx : RdC w (some ⟨b, off, none⟩) n xs) :
    Calls Try.prog 100 #[.slice (some ⟨b, off, none⟩) n cap] w fun e w' => ∃ g rc, e = .returned (.slice (some ⟨g, 0, none⟩) n rc) ∧ OwnC w.heap.size w' (some ⟨g, 0, none⟩) n rc xs ∧ Ext w w' := by
  go_enter Try.func100, Try.ntmps100
  go_wp2_with (at_builtin; refine wpList_appendAll rfl (.tmp 3) (.tmp 4) rfl rfl rfl (own_empty w) (hx.ext (ext_alloc _ _)) hn (by omega) (by omega) ?hB ?hk)
  case hB => simp
  case hk =>
    intro g' cap' w3 ho3 hg3 he3
    have HO3 := Lib.hid ho3
    have HE3 := Lib.hid (he3 w (Nat.le_refl _) (ext_alloc _ _))
    clear ho3 hg3 he3
    go_wp2_with (fail)
    go_ret
    exact ⟨g', cap', rfl, HO3.out, HE3.out⟩
set_option maxHeartbeats 400000 in
theorem c_clone (b off n cap : Nat) (xs : List Int) (w : World) (hn : 0 < n) (hl : n ≤ 4194303) (hx : RdC w (some ⟨b, off, none⟩) n xs) :
    Calls Try.prog 62 #[.slice (some ⟨b, off, none⟩) n cap] w fun e w' => ∃ g rc, e = .returned (.slice (some ⟨g, 0, none⟩) n rc) ∧ OwnC w.heap.size w' (some ⟨g, 0, none⟩) n rc xs ∧ Ext w w' := by
  have qT : ∀ (w : World) (a : Option Addr) (n c : Nat), (binOp .eql 24 (.slice a n c) (.slice none 0 0)).run Try.prog w = .ok (.bool a.isNone) w := fun w a n c => Lib.run_eql_slice_nil w _ _ a n c 0 0 Try.underlying24
  go_enter Try.func62, Try.ntmps62
  go_wp2_with (at_builtin; refine wpList_appendAll rfl (.tmp 5) (.tmp 6) rfl rfl rfl (own_empty w) (hx.ext (ext_alloc _ _)) hn (by omega) (by omega) ?hB ?hk)
  case hB => simp
  case hk =>
    intro g' cap' w3 ho3 hg3 he3
    have HO3 := Lib.hid ho3
    have HE3 := Lib.hid (he3 w (Nat.le_refl _) (ext_alloc _ _))
    clear ho3 hg3 he3
    go_wp2_with (fail)
    go_ret
    exact ⟨g', cap', rfl, HO3.out, HE3.out⟩

end Go.Proofs.Ytcocbainookkcaa

/-
  Reverses of multivectors, in the program and in the reference.
  No condition.
-/
namespace Go.Proofs.Ytcocbainookkcaa
set_option maxRecDepth 100000
open Go.RowKit


def revB (g : Nat) : Bool := g * (g - 1) / 2 % 2 == 1
theorem rev_i (g : Nat) (hg : g ≤ 6) : ((wrap64 ((wrap64 ((g : Int) * ((g : Int) - 1))).tdiv 2)).tmod 2 == 1) = revB g := by
  have : ∀ g : Nat, g < 7 → ((wrap64 ((wrap64 ((g : Int) * ((g : Int) - 1))).tdiv 2)).tmod 2 == 1) = revB g := by decide +kernel
  exact this g (by omega)
set_option maxHeartbeats 400000 in
theorem c_reverse1 (g : Nat) (w : World) (hg : g ≤ 6) :
    Calls Try.prog 128 #[.int .i64 g] w fun e w' => e = .returned (.bool (revB g)) ∧ Ext w w' := by
  go_enter Try.func128, Try.ntmps128
  go_wp2
  go_ret
  exact ⟨ret_bool (rev_i g hg), Ext.refl _⟩

def signN (p : Int) (odd : Nat → Bool) (x : List Int) (i : Nat) : Int := if odd (popc i) = true then (-nth x i) % p else nth x i
def signL (p : Int) (odd : Nat → Bool) (x : List Int) (n : Nat) : List Int := (List.range n).map (signN p odd x)
theorem signL_len (p : Int) (odd : Nat → Bool) (x : List Int) (n : Nat) : (signL p odd x n).length = n := by simp [signL]
theorem signL_nth {p : Int} {odd : Nat → Bool} {x : List Int} {n i : Nat} (h : i < n) : nth (signL p odd x n) i = signN p odd x i := by
  unfold signL; rw [nth_map (by simpa using h)]; simp
theorem signL_succ (p : Int) (odd : Nat → Bool) (x : List Int) (n : Nat) : signL p odd x (n + 1) = signL p odd x n ++ [signN p odd x n] := by simp [signL, List.range_succ]
theorem signN_bd {p : Int} {odd : Nat → Bool} {x : List Int} {n i : Nat} (hp : 1 ≤ p) (hx : Good p n x) (h : i < n) : 0 ≤ signN p odd x i ∧ signN p odd x i < p := by
  unfold signN; split
  · exact ⟨Int.emod_nonneg _ (by omega), Int.emod_lt_of_pos _ (by omega)⟩
  · exact hx.2 i h
theorem sign_good {p : Int} {odd : Nat → Bool} {x : List Int} {n : Nat} (hp : 1 ≤ p) (hx : Good p n x) : Good p n (signL p odd x n) := ⟨signL_len _ _ _ _, fun i hi => by rw [signL_nth hi]; exact signN_bd hp hx hi⟩

set_option maxHeartbeats 1000000 in
set_option maxRecDepth 100000 in
theorem c_signed (p : Int) (a : Option Addr) (d cap : Nat) (b off n cx : Nat) (x : List Int) (F : Nat) (odd : Nat → Bool) (w : World) (hp1 : 3 ≤ p) (hp2 : p ≤ 1000) (hn : 0 < n) (hn6 : n ≤ 64) (hx : RdC w (some ⟨b, off, none⟩) n x) (hgx : Good p n x)
    (hcf : ∀ args w, (callFunc F args).run Try.prog w = .ok (.enter F args) w)
    (hF : ∀ (g : Nat) (w : World), g ≤ 6 → Calls Try.prog F #[.int .i64 g] w fun e w' => e = .returned (.bool (odd g)) ∧ Ext w w') :
    Calls Try.prog 127 #[.agg #[.int .i64 p, .slice a d cap], .slice (some ⟨b, off, none⟩) n cx, .func (.func F) #[] #[]] w fun e w' => ∃ g rc, e = .returned (.slice (some ⟨g, 0, none⟩) n rc) ∧ OwnC w.heap.size w' (some ⟨g, 0, none⟩) n rc (signL p odd x n) ∧ Ext w w' := by
  have HX := Lib.hid hx
  have HGX := Lib.hid hgx
  have HF := Lib.hid hF
  clear hx hgx hF
  obtain ⟨W, hW⟩ : ∃ W, W = w.alloc (.cells #[.int .i64 p, .slice a d cap] 26) := ⟨_, rfl⟩
  have gW : Ext w W := by rw [hW]; exact ext_alloc _ _
  have hs0 : W.cell? ⟨w.heap.size, 0, none⟩ = some (.int .i64 p) := by rw [hW]; simp
  have hs1 : W.cell? ⟨w.heap.size, 1, none⟩ = some (.slice a d cap) := by rw [hW]; simp
  have HS0 := Lib.hid (hs0)
  have HS1 := Lib.hid (hs1)
  have GW := Lib.hid (gW)
  have HW := Lib.hid hW
  clear hs0 hs1 gW hW
  go_enter Try.func127, Try.ntmps127
  go_wp2_with (fail)
  rw [← HW.out]
  refine (c_clone b off n cx x W hn (by omega) (HX.out.ext GW.out)).mono ?_
  rintro e w1 ⟨g, rc, rfl, ho, g1⟩
  have HO := Lib.hid ho
  have G1 := Lib.hid g1
  have hb := ho.base_le
  clear ho g1
  go_wp2_with (fail)
  go_loopw [14] (fun i wr => ∃ (k : Nat) (ys : List Int), k ≤ n ∧ i = .int .i64 k ∧ OwnC W.heap.size wr (some ⟨g, 0, none⟩) n rc ys ∧ Hid (∀ i, i < n → nth ys i = if i < k then signN p odd x i else nth x i) ∧ Ext W wr) (fun i _ => n - (intOf i).toNat)
  case atStart => exact ⟨0, x, Nat.zero_le _, rfl, HO.out, Lib.hid (fun i _ => by simp), G1.out⟩
  case round =>
    obtain ⟨k, ys, hk, rfl, hown, HT, hext⟩ := hrel
    have HOwn := Lib.hid hown
    have HExt := Lib.hid hext
    clear hown hext
    by_cases hlt : k < n
    · obtain ⟨bx, ox, hbx, hcx⟩ := HX.out.2 k hlt
      obtain ⟨rfl, rfl⟩ : b = bx ∧ off = ox := by cases hbx; exact ⟨rfl, rfl⟩
      clear hbx
      have hcx' := (GW.out.trans HExt.out).cell hcx
      have hxk := HGX.out.2 k hlt
      have hpk := popc_le (show k < 64 by omega)
      have HFk := Lib.hid (fun w => HF.out (popc k) w hpk)
      have hw1 : IntKind.i64.wrap (-nth x k) = -nth x k := IntWalk.i64_in _ (by omega)
      have hq0 := HExt.out.cell HS0.out
      have hq1 := HExt.out.cell HS1.out
      have HYL := Lib.hid (show k < ys.length by rw [HOwn.out.1]; exact hlt)
      clear hcx
      cases ho : odd (popc k)
      · have HD := Lib.hid ho
        have HSg := Lib.hid (show signN p odd x k = nth x k by simp [signN, ho])
        clear ho
        go_wp2_with (first | (go_at_call 147; refine (c_grade _ _ (by omega)).mono ?_; rintro e w2 ⟨rfl, g2⟩) | ((with_reducible refine (HFk.out _).mono ?_); rintro e w3 ⟨rfl, g3⟩; rw [HD.out]))
        go_roundw
        case rel => exact ⟨k + 1, ys, by omega, by go_num, HOwn.out.ext (g2.trans g3), Lib.hid (fun i hi => by
          rw [HT.out i hi]
          by_cases h1 : i < k
          · rw [if_pos h1, if_pos (by omega)]
          · by_cases h2 : i = k
            · subst h2; rw [if_neg h1, if_pos (by omega), HSg.out]
            · rw [if_neg h1, if_neg (by omega)]), HExt.out.trans (g2.trans g3)⟩
        case measure => simp [intOf]; omega
      · have HD := Lib.hid ho
        have HSg := Lib.hid (show (-nth x k) % p = signN p odd x k by simp [signN, ho])
        clear ho
        go_wp2_with (first | (go_at_call 147; refine (c_grade _ _ (by omega)).mono ?_; rintro e w2 ⟨rfl, g2⟩) | ((with_reducible refine (HFk.out _).mono ?_); rintro e w3 ⟨rfl, g3⟩; rw [HD.out]; have G3 := Lib.hid (g2.trans g3); have HO3 := Lib.hid (HOwn.out.ext G3.out); have hr0 := G3.out.cell hq0; have hr1 := G3.out.cell hq1; clear g2 g3 hcx' hq0 hq1) | (go_at_call 63; refine (c_field _ _ _).mono ?_; rintro e w4 ⟨rfl, g4⟩; have G4 := Lib.hid g4; clear g4 hr0 hr1) | (go_at_call 64; refine (c_num _ _ _ (by omega) hp2).mono ?_; rintro e w5 ⟨rfl, g5⟩; rw [HSg.out]; have G5 := Lib.hid (G4.out.trans g5); have HO5 := Lib.hid (HO3.out.ext G5.out); have ec := HO5.out.cell hlt; have ef := HO5.out.frozen k; have hz := G5.out.size'; clear g5))
        go_roundw
        case rel => exact ⟨k + 1, ys.set k (signN p odd x k), by omega, by go_num, HO5.out.store hlt _, Lib.hid (fun i hi => by
          rw [nth_set HYL.out, HT.out i hi]
          by_cases h1 : i < k
          · rw [if_neg (by omega), if_pos h1, if_pos (by omega)]
          · by_cases h2 : k = i
            · subst h2; rw [if_pos rfl, if_pos (by omega)]
            · rw [if_neg h2, if_neg h1, if_neg (by omega)]), (HExt.out.trans (G3.out.trans G5.out)).setCell (by simp; omega) _⟩
        case measure => simp [intOf]; omega
    · go_wp2_with (fail)
      go_ret
      obtain rfl : k = n := by omega
      refine ⟨g, rc, rfl, ?_, GW.out.trans HExt.out⟩
      have e : ys = signL p odd x k := ext_nth (by rw [HOwn.out.1, signL_len]) (fun i hi => by
        rw [HOwn.out.1] at hi
        rw [HT.out i hi, if_pos hi, signL_nth hi])
      rw [← e]
      exact HOwn.out.mono GW.out.size

set_option maxHeartbeats 400000 in
theorem c_reverse (p : Int) (a : Option Addr) (d cap : Nat) (b off n cx : Nat) (x : List Int) (w : World) (hp1 : 3 ≤ p) (hp2 : p ≤ 1000) (hn : 0 < n) (hn6 : n ≤ 64) (hx : RdC w (some ⟨b, off, none⟩) n x) (hgx : Good p n x) :
    Calls Try.prog 86 #[.agg #[.int .i64 p, .slice a d cap], .slice (some ⟨b, off, none⟩) n cx] w fun e w' => ∃ g rc, e = .returned (.slice (some ⟨g, 0, none⟩) n rc) ∧ OwnC w.heap.size w' (some ⟨g, 0, none⟩) n rc (signL p revB x n) ∧ Ext w w' := by
  go_enter Try.func86, Try.ntmps86
  go_wp2_with (fail)
  refine (c_signed p a d cap b off n cx x 128 revB _ hp1 hp2 hn hn6 (hx.ext (ext_alloc _ _)) hgx ?_ (fun g w hg => c_reverse1 g w hg)).mono ?_
  · intro args w; go_simp
  rintro e w1 ⟨g, rc, rfl, ho, g1⟩
  have HO := Lib.hid ho
  have G1 := Lib.hid g1
  clear ho g1
  go_wp2_with (fail)
  go_ret
  exact ⟨g, rc, rfl, HO.out.mono (by simp), (ext_alloc _ _).trans G1.out⟩

theorem neg_ref {p x : Int} : (p - x) % p = (-x) % p := by
  rw [show p - x = -x + p * 1 by omega, Int.add_mul_emod_self_left]


end Go.Proofs.Ytcocbainookkcaa

/-
  Unduals, scalar products, brackets: walks.
  No condition.
-/
namespace Go.Proofs.Ytcocbainookkcaa
set_option maxRecDepth 100000
open Go.RowKit



def scalL (p : Int) (qs x y : List Int) : Int := nth (prodL p qs tkA (signL p revB x (2 ^ qs.length)) y) 0


theorem prod_two {p : Int} {qs x y : List Int} {N : Nat} (hN : N = 2 ^ qs.length) (hp : 3 ≤ p) (hx : Good p N x) : timesL p qs [x, y] = prodL p qs tkA x y := timesL_two hp (by rw [← hN]; exact hx)



end Go.Proofs.Ytcocbainookkcaa

/-
  Duals; the listed function DualOf.
  No condition.
-/
namespace Go.Proofs.Ytcocbainookkcaa
set_option maxRecDepth 100000
open Go.RowKit





end Go.Proofs.Ytcocbainookkcaa

/-
  Reverses of products, and products with the pseudoscalar, in plain numbers.
  No condition. No program in sight.
-/
namespace Go.Proofs.Ytcocbainookkcaa
set_option maxRecDepth 100000
open Go.RowKit

/-! ### Signs and squares apart -/
def sgS (a b : Nat) : Nat → Int
  | 0 => 1
  | k + 1 => sgS a b k * (if b.testBit k then sgZ a k else 1)
def sqS (qs : List Int) (a b : Nat) : Nat → Int
  | 0 => 1
  | k + 1 => sqS qs a b k * (if (a.testBit k && b.testBit k) = true then nth qs k else 1)
theorem facZ_parts (qs : List Int) (a b : Nat) : ∀ k, facZ qs a b k = sgS a b k * sqS qs a b k
  | 0 => rfl
  | k + 1 => by
    rw [facZ, facZ_parts qs a b k, sgS, sqS, stZ]
    cases a.testBit k <;> cases b.testBit k <;> simp <;> ac_rfl
theorem sqS_comm (qs : List Int) (a b : Nat) : ∀ k, sqS qs a b k = sqS qs b a k
  | 0 => rfl
  | k + 1 => by rw [sqS, sqS, sqS_comm qs a b k, Bool.and_comm]
theorem sgS_rest {a b d : Nat} (hb : b < 2 ^ d) : ∀ k, sgS a b (d + k) = sgS a b d
  | 0 => rfl
  | k + 1 => by
    rw [← Nat.add_assoc, sgS, sgS_rest hb k]
    have : b.testBit (d + k) = false := Nat.testBit_lt_two_pow (Nat.lt_of_lt_of_le hb (Nat.pow_le_pow_right (by omega) (by omega)))
    simp [this]
def rvS (a : Nat) : Int := if revB (popc a) = true then -1 else 1
theorem rvS_sq (a : Nat) : rvS a * rvS a = 1 := by unfold rvS; split <;> rfl
theorem rev_sign (a b : Nat) (ha : a < 64) (hb : b < 64) : sgS b a 6 * (rvS a * rvS b) = rvS (a ^^^ b) * sgS a b 6 := by
  have : ∀ a : Nat, a < 64 → ∀ b : Nat, b < 64 → sgS b a 6 * (rvS a * rvS b) = rvS (a ^^^ b) * sgS a b 6 := by decide +kernel
  exact this a ha b hb
theorem facZ_rev {qs : List Int} {a b : Nat} (hd : qs.length ≤ 6) (ha : a < 2 ^ qs.length) (hb : b < 2 ^ qs.length) : facZ qs b a qs.length * (rvS a * rvS b) = rvS (a ^^^ b) * facZ qs a b qs.length := by
  have hN := pow_le64 hd
  have h1 := sgS_rest (a := b) ha (6 - qs.length)
  have h2 := sgS_rest (a := a) hb (6 - qs.length)
  rw [Nat.add_sub_cancel' hd] at h1 h2
  rw [facZ_parts, facZ_parts, ← h1, ← h2, sqS_comm qs b a, show sgS b a 6 * sqS qs a b qs.length * (rvS a * rvS b) = sgS b a 6 * (rvS a * rvS b) * sqS qs a b qs.length by ac_rfl, rev_sign a b (by omega) (by omega), Int.mul_assoc]
theorem sign_emod {p : Int} {x : List Int} {n i : Nat} (h : i < n) : nth (signL p revB x n) i % p = (rvS i * nth x i) % p := by
  rw [signL_nth h]
  unfold signN rvS
  split
  · rw [Int.emod_emod]; congr 1; omega
  · rw [Int.one_mul]
/-- The reverse of a product is the product of the reverses in the other order. -/
theorem rev_prod {p : Int} {qs x y : List Int} {tk tk' : Nat → Nat → Bool} (hp : 1 ≤ p) (hd : qs.length ≤ 6) (ht : ∀ a b, tk' b a = tk a b) :
    signL p revB (prodL p qs tk x y) (2 ^ qs.length) = prodL p qs tk' (signL p revB y (2 ^ qs.length)) (signL p revB x (2 ^ qs.length)) := by
  have g1 : Good p (2 ^ qs.length) (signL p revB (prodL p qs tk x y) (2 ^ qs.length)) := sign_good hp (prod_good hp)
  have g2 : Good p (2 ^ qs.length) (prodL p qs tk' (signL p revB y (2 ^ qs.length)) (signL p revB x (2 ^ qs.length))) := prod_good hp
  refine ext_nth (by rw [g1.1, g2.1]) fun k hk => ?_
  rw [g1.1] at hk
  have b1 := g1.2 k hk
  have b2 := g2.2 k hk
  rw [← Int.emod_eq_of_lt b1.1 b1.2, ← Int.emod_eq_of_lt b2.1 b2.2, sign_emod hk, prodT_nth hp hk, prodT_nth hp hk, Int.emod_emod, Int.mul_emod, Int.emod_emod, ← Int.mul_emod, ← sumN_mul, ← sumN_xor hd hk]
  refine sumN_emod fun i hi => ?_
  have hki := Nat.xor_lt_two_pow hk hi
  have x1 : k ^^^ i ^^^ k = i := by rw [Nat.xor_comm k i, Nat.xor_assoc, Nat.xor_self, Nat.xor_zero]
  rw [x1]
  have x2 : i ^^^ k = k ^^^ i := Nat.xor_comm _ _
  have hf := facZ_rev (qs := qs) hd hki hi
  rw [show k ^^^ i ^^^ i = k by rw [Nat.xor_assoc, Nat.xor_self, Nat.xor_zero]] at hf
  rw [x2, show tkI tk' i (k ^^^ i) = tkI tk (k ^^^ i) i by unfold tkI; rw [ht]]
  have e : (tkI tk (k ^^^ i) i * (nth (signL p revB y (2 ^ qs.length)) i * nth (signL p revB x (2 ^ qs.length)) (k ^^^ i) * facZ qs i (k ^^^ i) qs.length)) % p =
      (tkI tk (k ^^^ i) i * ((rvS i * nth y i) * (rvS (k ^^^ i) * nth x (k ^^^ i)) * facZ qs i (k ^^^ i) qs.length)) % p :=
    mul_emod_congr rfl (mul_emod_congr (mul_emod_congr (sign_emod hi) (sign_emod hki)) rfl)
  rw [e]
  congr 1
  rw [show tkI tk (k ^^^ i) i * ((rvS i * nth y i) * (rvS (k ^^^ i) * nth x (k ^^^ i)) * facZ qs i (k ^^^ i) qs.length) = tkI tk (k ^^^ i) i * nth x (k ^^^ i) * nth y i * (facZ qs i (k ^^^ i) qs.length * (rvS (k ^^^ i) * rvS i)) by ac_rfl, hf]
  ac_rfl

/-! ### The pseudoscalar -/
theorem topL_len (d : Nat) (k : Int) : (topL d k).length = 2 ^ d := by simp [topL]
theorem topL_nth {d i : Nat} {k : Int} (hi : i < 2 ^ d) : nth (topL d k) i = if i = 2 ^ d - 1 then k else 0 := by
  have := pow_pos' d
  unfold topL
  rw [nth_set (by simp; omega), nth_replicate hi]
  by_cases h : 2 ^ d - 1 = i
  · rw [if_pos h, if_pos h.symm]
  · rw [if_neg h, if_neg (Ne.symm h)]
theorem and_full {d i : Nat} (hi : i < 2 ^ d) : i &&& (2 ^ d - 1) = i := by
  rw [Nat.and_two_pow_sub_one_eq_mod, Nat.mod_eq_of_lt hi]
/-- The left contraction into a multiple of the pseudoscalar is the geometric product. -/
theorem left_top {p k : Int} {qs x : List Int} (hp : 1 ≤ p) : prodL p qs tkL x (topL qs.length k) = prodL p qs tkA x (topL qs.length k) := by
  refine ext_nth (by rw [(prod_good hp).1, (prod_good hp).1]) fun i hi => ?_
  rw [(prod_good hp).1] at hi
  rw [prodT_nth hp hi, prodT_nth hp hi]
  congr 1
  refine sumN_congr fun j hj => ?_
  have hji := Nat.xor_lt_two_pow hj hi
  rw [topL_nth hji]
  by_cases h : j ^^^ i = 2 ^ qs.length - 1
  · rw [h]
    have : tkI tkL j (2 ^ qs.length - 1) = tkI tkA j (2 ^ qs.length - 1) := by
      unfold tkI tkL tkA
      rw [and_full hj]; simp
    rw [this]
  · rw [if_neg h]; simp
theorem top_top {p j k : Int} {qs : List Int} (hp : 3 ≤ p) (hd : qs.length ≤ 6) (h : (j * k * sqFull p qs) % p = 1) : prodL p qs tkA (topL qs.length j) (topL qs.length k) = bladeL (2 ^ qs.length) 0 := by
  have hN := pow_pos' qs.length
  refine ext_nth (by rw [(prod_good (by omega)).1, bladeL_len]) fun i hi => ?_
  rw [(prod_good (by omega)).1] at hi
  rw [bladeL_nth (by omega) hi, prodA_nth (by omega) hi, sumN_single (k := 2 ^ qs.length - 1) (by omega) (fun m hm hne => by rw [topL_nth hm, if_neg hne]; simp)]
  rw [topL_nth (by omega), if_pos rfl, topL_nth (Nat.xor_lt_two_pow (by omega) hi)]
  by_cases h0 : 0 = i
  · subst h0
    rw [Nat.xor_zero, if_pos rfl, if_pos rfl, ← h, sqFull_eq hp hd]
    exact mul_emod_congr rfl (fac_emod.symm)
  · rw [if_neg h0, if_neg (fun e => h0 (by
      have := xor_eq_iff.1 e
      rw [Nat.xor_self] at this; exact this.symm))]
    simp
/-- The undual of the dual. -/
theorem undual_dual {p : Int} {qs x : List Int} (hp : primeB p = true) (hq : isB p qs = true) (hd : qs.length ≤ 6) (hr : regB qs = true) (hx : Good p (2 ^ qs.length) x) :
    prodL p qs tkL (dualL p qs x) (fullL qs.length) = x := by
  have hpb := prime_bd hp
  have hb := sqFull_bd (p := p) (qs := qs) (by omega)
  have hne := sqFull_ne hp hq hd hr
  have hi := (inv_spec hp (show 0 < sqFull p qs by omega) hb.2).2.1
  unfold dualL
  rw [← topL_one, left_top (by omega), left_top (by omega), prod_assoc (by omega) hd, top_top (by omega) hd (by rw [Int.mul_one, Int.mul_comm]; exact hi), times_one (by omega) hx]
theorem dual_undual {p : Int} {qs x : List Int} (hp : primeB p = true) (hq : isB p qs = true) (hd : qs.length ≤ 6) (hr : regB qs = true) (hx : Good p (2 ^ qs.length) x) :
    dualL p qs (prodL p qs tkL x (fullL qs.length)) = x := by
  have hpb := prime_bd hp
  have hb := sqFull_bd (p := p) (qs := qs) (by omega)
  have hne := sqFull_ne hp hq hd hr
  have hi := (inv_spec hp (show 0 < sqFull p qs by omega) hb.2).2.1
  unfold dualL
  rw [← topL_one, left_top (by omega), left_top (by omega), prod_assoc (by omega) hd, top_top (by omega) hd (by rw [Int.one_mul, Int.mul_comm]; exact hi), times_one (by omega) hx]

end Go.Proofs.Ytcocbainookkcaa

/-
  Vectors as multivectors; the codes of spaces and vectors.
  No condition.
-/
namespace Go.Proofs.Ytcocbainookkcaa
set_option maxRecDepth 100000
open Go.RowKit

def vecS (N : Nat) (v : List Int) : Nat → List Int
  | 0 => List.replicate N 0
  | k + 1 => (vecS N v k).set (2 ^ k) (nth v k)
def vecL (N : Nat) (v : List Int) : List Int := vecS N v v.length
theorem vecS_good {p : Int} {N n : Nat} {v : List Int} (hp : 1 ≤ p) (hv : Good p n v) : ∀ k, k ≤ n → Good p N (vecS N v k)
  | 0, _ => good_zero hp
  | k + 1, hk => good_set (vecS_good hp hv k (by omega)) (hv.2 k (by omega)).1 (hv.2 k (by omega)).2
theorem vec_good {p : Int} {N n : Nat} {v : List Int} (hp : 1 ≤ p) (hv : Good p n v) : Good p N (vecL N v) := vecS_good hp hv _ (by rw [hv.1]; exact Nat.le_refl _)

set_option maxHeartbeats 1000000 in
theorem c_vector {N d : Nat} (hN : N = 2 ^ d) (p : Int) (a : Option Addr) (cap : Nat) (av : Option Addr) (cv : Nat) (v : List Int) (w : World) (hd : d ≤ 6) (hv : RdC w av d v) :
    Calls Try.prog 95 #[.agg #[.int .i64 p, .slice a d cap], .slice av d cv] w fun e w' => ∃ g, e = .returned (.slice (some ⟨g, 0, none⟩) N N) ∧ OwnC w.heap.size w' (some ⟨g, 0, none⟩) N N (vecL N v) ∧ Ext w w' := by
  have HN := Lib.hid hN
  have HV := Lib.hid hv
  have HL := Lib.hid (show vecL N v = vecS N v d by unfold vecL; rw [hv.1])
  clear hN hv
  obtain ⟨W, hW⟩ : ∃ W, W = w.alloc (.cells #[.int .i64 p, .slice a d cap] 26) := ⟨_, rfl⟩
  have gW : Ext w W := by rw [hW]; exact ext_alloc _ _
  have hs0 : W.cell? ⟨w.heap.size, 0, none⟩ = some (.int .i64 p) := by rw [hW]; simp
  have hs1 : W.cell? ⟨w.heap.size, 1, none⟩ = some (.slice a d cap) := by rw [hW]; simp
  have HS0 := Lib.hid (hs0)
  have HS1 := Lib.hid (hs1)
  have GW := Lib.hid (gW)
  have HW := Lib.hid hW
  clear hs0 hs1 gW hW
  go_enter Try.func95, Try.ntmps95
  go_wp2_with (fail)
  rw [← HW.out]
  refine (c_nothingN HN.out p a cap W hd).mono ?_
  rintro e w1 ⟨g, rfl, ho, g1⟩
  have HO := Lib.hid ho
  have G1 := Lib.hid g1
  have hg := ho.base_le
  clear ho g1
  go_wp2_with (fail)
  go_loopw [12] (fun i wr => ∃ k : Nat, k ≤ d ∧ i = .int .i64 k ∧ OwnC W.heap.size wr (some ⟨g, 0, none⟩) N N (vecS N v k) ∧ Ext W wr) (fun i _ => d - (intOf i).toNat)
  case atStart => exact ⟨0, Nat.zero_le _, rfl, HO.out, G1.out⟩
  case round =>
    obtain ⟨k, hk, rfl, hown, hext⟩ := hrel
    have HOwn := Lib.hid hown
    have HExt := Lib.hid hext
    clear hown hext
    by_cases hlt : k < d
    · obtain ⟨b, off, rfl, hc⟩ := HV.out.2 k hlt
      have hc' := (GW.out.trans HExt.out).cell hc
      have hpi : IntKind.i64.wrap (2 ^ k) = ((2 ^ k : Nat) : Int) := pow_wrapI (by omega)
      have hpw : wrap64 (2 ^ k) = ((2 ^ k : Nat) : Int) := pow_wrap (by omega)
      have hMN : 2 ^ k < N := by rw [HN.out]; exact Nat.pow_lt_pow_right (by omega) hlt
      obtain ⟨M, hM⟩ : ∃ M, M = 2 ^ k := ⟨_, rfl⟩
      rw [← hM] at hpi hpw hMN
      have HM := Lib.hid hM
      have ec := HOwn.out.cell hMN
      have ef := HOwn.out.frozen M
      clear hc hM
      go_wp2_with (fail)
      go_roundw
      case rel => exact ⟨k + 1, by omega, by go_num, by unfold vecS; rw [← HM.out]; exact HOwn.out.store hMN _, HExt.out.setCell hg.1 _⟩
      case measure => simp [intOf]; omega
    · go_wp2_with (fail)
      go_ret
      obtain rfl : k = d := by omega
      exact ⟨g, rfl, by rw [HL.out]; exact HOwn.out.mono GW.out.size, GW.out.trans HExt.out⟩
set_option maxHeartbeats 1000000 in
theorem s_vector {N d : Nat} (hN : N = 2 ^ d) (p : Int) (a : Option Addr) (cap : Nat) (av : Option Addr) (cv : Nat) (v : List Int) (w : World) (hd : d ≤ 6) (hv : RdC w av d v) :
    Calls Try.prog 99 #[.agg #[.int .i64 p, .slice a d cap], .slice av d cv] w fun e w' => ∃ g, e = .returned (.slice (some ⟨g, 0, none⟩) N N) ∧ OwnC w.heap.size w' (some ⟨g, 0, none⟩) N N (vecL N v) ∧ Ext w w' := by
  have HN := Lib.hid hN
  have HV := Lib.hid hv
  have HL := Lib.hid (show vecL N v = vecS N v d by unfold vecL; rw [hv.1])
  clear hN hv
  obtain ⟨W, hW⟩ : ∃ W, W = w.alloc (.cells #[.int .i64 p, .slice a d cap] 26) := ⟨_, rfl⟩
  have gW : Ext w W := by rw [hW]; exact ext_alloc _ _
  have hs0 : W.cell? ⟨w.heap.size, 0, none⟩ = some (.int .i64 p) := by rw [hW]; simp
  have hs1 : W.cell? ⟨w.heap.size, 1, none⟩ = some (.slice a d cap) := by rw [hW]; simp
  have HS0 := Lib.hid (hs0)
  have HS1 := Lib.hid (hs1)
  have GW := Lib.hid (gW)
  have HW := Lib.hid hW
  clear hs0 hs1 gW hW
  go_enter Try.func99, Try.ntmps99
  go_wp2_with (fail)
  rw [← HW.out]
  refine (s_zeroN HN.out p a cap W hd).mono ?_
  rintro e w1 ⟨g, rfl, ho, g1⟩
  have HO := Lib.hid ho
  have G1 := Lib.hid g1
  have hg := ho.base_le
  clear ho g1
  go_wp2_with (fail)
  go_loopw [6] (fun i wr => ∃ k : Nat, k ≤ d ∧ i = .int .i64 k ∧ OwnC W.heap.size wr (some ⟨g, 0, none⟩) N N (vecS N v k) ∧ Ext W wr) (fun i _ => d - (intOf i).toNat)
  case atStart => exact ⟨0, Nat.zero_le _, rfl, HO.out, G1.out⟩
  case round =>
    obtain ⟨k, hk, rfl, hown, hext⟩ := hrel
    have HOwn := Lib.hid hown
    have HExt := Lib.hid hext
    clear hown hext
    by_cases hlt : k < d
    · obtain ⟨b, off, rfl, hc⟩ := HV.out.2 k hlt
      have hc' := (GW.out.trans HExt.out).cell hc
      have hpi : IntKind.i64.wrap (2 ^ k) = ((2 ^ k : Nat) : Int) := pow_wrapI (by omega)
      have hpw : wrap64 (2 ^ k) = ((2 ^ k : Nat) : Int) := pow_wrap (by omega)
      have hcv := conv_u k (by omega)
      have hMN : 2 ^ k < N := by rw [HN.out]; exact Nat.pow_lt_pow_right (by omega) hlt
      obtain ⟨M, hM⟩ : ∃ M, M = 2 ^ k := ⟨_, rfl⟩
      rw [← hM] at hpi hpw hMN
      have HM := Lib.hid hM
      have ec := HOwn.out.cell hMN
      have ef := HOwn.out.frozen M
      clear hc hM
      go_wp2_with (fail)
      go_roundw
      case rel => exact ⟨k + 1, by omega, by go_num, by unfold vecS; rw [← HM.out]; exact HOwn.out.store hMN _, HExt.out.setCell hg.1 _⟩
      case measure => simp [intOf]; omega
    · go_wp2_with (fail)
      go_ret
      obtain rfl : k = d := by omega
      exact ⟨g, rfl, by rw [HL.out]; exact HOwn.out.mono GW.out.size, GW.out.trans HExt.out⟩

/-! ### Codes of spaces and vectors -/
def vecB (p : Int) (d : Nat) (v : List Int) : Bool := decide (v.length = d) && isB p v
def codeV (p : Int) (qs : List Int) (rows : List (List Int)) : Int := if spaceB p qs then (if rows.all (vecB p qs.length) then 0 else 2) else 1
theorem vec_of {p : Int} {d : Nat} {v : List Int} (h : vecB p d v = true) : v.length = d ∧ isB p v = true := by
  simpa [vecB] using h
set_option maxHeartbeats 400000 in
theorem c_isVector (p : Int) (a : Option Addr) (d cap : Nat) (ax : Option Addr) (n cx : Nat) (xs : List Int) (w : World) (hp1 : 1 ≤ p) (hp2 : p ≤ 1000) (hl : n ≤ 4194304) (hx : RdC w ax n xs) :
    Calls Try.prog 116 #[.agg #[.int .i64 p, .slice a d cap], .slice ax n cx] w fun e w' => e = .returned (.bool (vecB p d xs)) ∧ Ext w w' := by
  by_cases hc : n = d
  · have HF := Lib.hid (show vecB p d xs = isB p xs by simp [vecB, hx.1, hc])
    have hcb : ((n : Int) == (d : Int)) = true := by simp [hc]
    clear hc
    go_enter Try.func116, Try.ntmps116
    go_wp2_with (first | (go_at_call 50; refine (c_dim _ _ _ _ _).mono ?_; rintro e w1 ⟨rfl, h1⟩; have hcc := Ext.cells h1) | (go_at_call 63; refine (c_field _ _ _).mono ?_; rintro e w2 ⟨rfl, h2⟩; have hcc2 := Ext.cells (h1.trans h2)) | (go_at_call 70; refine (c_is _ _ _ _ _ _ hp1 hp2 hl (hx.ext ((ext_alloc _ _).trans (h1.trans h2)))).mono ?_; rintro e w3 ⟨rfl, h3⟩))
    go_ret
    exact ⟨ret_bool HF.out.symm, (ext_alloc _ _).trans (h1.trans (h2.trans h3))⟩
  · have HF := Lib.hid (show vecB p d xs = false by simp [vecB, hx.1, hc])
    have hcb : ((n : Int) == (d : Int)) = false := by simp; omega
    go_enter Try.func116, Try.ntmps116
    go_wp2_with (first | (go_at_call 50; refine (c_dim _ _ _ _ _).mono ?_; rintro e w1 ⟨rfl, h1⟩; have hcc := Ext.cells h1))
    go_ret
    exact ⟨ret_bool HF.out.symm, (ext_alloc _ _).trans h1⟩

set_option maxHeartbeats 400000 in
theorem c_checkVectors1 (p : Int) (a : Option Addr) (d cap : Nat) (ax : Option Addr) (n cx : Nat) (xs : List Int) (q : Nat) (w : World) (hp1 : 1 ≤ p) (hp2 : p ≤ 1000) (hl : n ≤ 4194304) (hx : RdC w ax n xs)
    (hq0 : w.cell? ⟨q, 0, none⟩ = some (.int .i64 p)) (hq1 : w.cell? ⟨q, 1, none⟩ = some (.slice a d cap)) :
    Calls Try.prog 115 #[.slice ax n cx, .pointer (some ⟨q, 0, none⟩)] w fun e w' => e = .returned (.bool (!vecB p d xs)) ∧ Ext w w' := by
  go_enter Try.func115, Try.ntmps115
  go_wp2_with (go_at_call 116; refine (c_isVector _ _ _ _ _ _ _ _ _ hp1 hp2 hl hx).mono ?_; rintro e w1 ⟨rfl, h1⟩)
  go_ret
  exact ⟨rfl, h1⟩

theorem any_rowsV (p : Int) (d n : Nat) (rows : List (List Int)) (hn : rows.length = n) : (List.range n).any (fun i => !vecB p d (nthR rows i)) = !rows.all (vecB p d) := by
  subst hn
  rw [← any_not_all]
  rw [Bool.eq_iff_iff]
  simp only [List.any_eq_true, List.mem_range]
  constructor
  · rintro ⟨i, hi, h⟩
    exact ⟨i, hi, by rw [List.getElem?_eq_getElem hi]; rw [nthR_eq hi] at h; exact h⟩
  · rintro ⟨i, hi, h⟩
    exact ⟨i, hi, by rw [List.getElem?_eq_getElem hi] at h; rw [nthR_eq hi]; exact h⟩

set_option maxHeartbeats 400000 in
theorem c_checkVectors (p : Int) (a : Option Addr) (d cap : Nat) (qs : List Int) (al : Option Addr) (n cl : Nat) (rows : List (List Int)) (w : World) (hd : d ≤ 4194304) (hl : n ≤ 4194304) (hr : ∀ i, i < n → (nthR rows i).length ≤ 4194304)
    (hq : RdC w a d qs) (hx : RdR w al n rows) :
    Calls Try.prog 77 #[.agg #[.int .i64 p, .slice a d cap], .slice al n cl] w fun e w' => e = .returned (.int .i64 (codeV p qs rows)) ∧ Ext w w' := by
  cases hs : spaceB p qs
  · have HS := Lib.hid hs
    have HC := Lib.hid (show codeV p qs rows = 1 by simp [codeV, hs])
    clear hs
    go_enter Try.func77, Try.ntmps77
    go_wp2_with (go_at_call 93; refine (c_isSpace _ _ _ _ _ _ hd (hq.ext (ext_alloc _ _))).mono ?_; rintro e w1 ⟨rfl, h1⟩; rw [HS.out])
    go_ret
    exact ⟨ret_int HC.out.symm, (ext_alloc _ _).trans h1⟩
  · obtain ⟨hp, hd1, hd6, _⟩ := space_of hs
    have hpb := prime_bd hp
    have hdq := hq.1
    have HS := Lib.hid hs
    have HC := Lib.hid (show codeV p qs rows = if rows.all (vecB p d) then 0 else 2 by simp [codeV, hs, hdq])
    have HA := Lib.hid (any_rowsV p d n rows hx.1)
    clear hs hp hdq hd1 hd6
    obtain ⟨ai, ci, hR, hrow⟩ := hx.choose
    have HR := Lib.hid hR
    have HRow := Lib.hid hrow
    clear hR hrow
    cases ha : rows.all (vecB p d)
    all_goals
      have HAl := Lib.hid ha
      clear ha
      go_enter Try.func77, Try.ntmps77
      go_wp2_with (first | (go_at_call 93; refine (c_isSpace _ _ _ _ _ _ hd (hq.ext (ext_alloc _ _))).mono ?_; rintro e w1 ⟨rfl, h1⟩; rw [HS.out]; have hcc := Ext.cells h1) | (go_at_call 114; refine (c_containsFunc al n cl 115 #[.pointer (some ⟨w.heap.size, 0, none⟩)] (rowV ai ci rows) (fun i => !vecB p d (nthR rows i)) _ hl ?_ (fun i hi => ?_) (fun i hi w2 he => ?_)).mono ?_; rotate_right; rintro e w2 ⟨rfl, h2⟩; rw [HA.out, HAl.out]))
      rotate_left
      · intro args w; go_simp
      · obtain ⟨b, off, hb1, hb2⟩ := HR.out i hi
        exact ⟨b, off, hb1, ((ext_alloc _ _).trans h1).cell hb2⟩
      · refine c_checkVectors1 p a d cap _ _ _ _ _ _ (by omega) (by omega) (hr i hi) ((HRow.out i hi).ext ((ext_alloc _ _).trans (h1.trans he))) ?_ ?_
        · refine he.cell (h1.cell ?_); simp
        · refine he.cell (h1.cell ?_); simp
      go_ret
      refine ⟨ret_int ?_, (ext_alloc _ _).trans (h1.trans h2)⟩
      rw [HC.out, HAl.out]; rfl
end Go.Proofs.Ytcocbainookkcaa

/-
  Vectors in products, and matrices of multiplications, in plain numbers.
  No condition. No program in sight.
-/
namespace Go.Proofs.Ytcocbainookkcaa
set_option maxRecDepth 100000
open Go.RowKit

theorem vecS_nth {N d : Nat} {v : List Int} (hN : N = 2 ^ d) : ∀ k, k ≤ d → ∀ m, m < N → (∀ i, i < k → m = 2 ^ i → nth (vecS N v k) m = nth v i) ∧ ((∀ i, i < k → m ≠ 2 ^ i) → nth (vecS N v k) m = 0)
  | 0, _, m, hm => ⟨fun i hi => absurd hi (Nat.not_lt_zero _), fun _ => nth_replicate hm⟩
  | k + 1, hk, m, hm => by
    obtain ⟨h1, h2⟩ := vecS_nth hN k (by omega) m hm (v := v)
    have hl : (vecS N v k).length = N := by
      have : ∀ j, (vecS N v j).length = N := fun j => by
        induction j with
        | zero => simp [vecS]
        | succ j ih => simp [vecS, ih]
      exact this k
    have hkN : 2 ^ k < N := by rw [hN]; exact Nat.pow_lt_pow_right (by omega) (by omega)
    unfold vecS
    rw [nth_set (by rw [hl]; exact hkN)]
    constructor
    · intro i hi he
      by_cases hik : i = k
      · subst hik; rw [if_pos he.symm]
      · have : ¬ 2 ^ k = m := fun h => by have : 2 ^ i < 2 ^ k := Nat.pow_lt_pow_right (by omega) (by omega); omega
        rw [if_neg this]; exact h1 i (by omega) he
    · intro h
      rw [if_neg (fun e => h k (by omega) e.symm)]
      exact h2 fun i hi => h i (by omega)
theorem vec_bit {d i : Nat} {v : List Int} (hv : v.length = d) (hi : i < d) : nth (vecL (2 ^ d) v) (2 ^ i) = nth v i := by
  unfold vecL
  exact (vecS_nth rfl v.length (by omega) (2 ^ i) (Nat.pow_lt_pow_right (by omega) (by omega))).1 i (by omega) rfl
theorem vec_no {d m : Nat} {v : List Int} (hv : v.length = d) (hm : m < 2 ^ d) (h : ∀ i, i < d → m ≠ 2 ^ i) : nth (vecL (2 ^ d) v) m = 0 := by
  unfold vecL
  exact (vecS_nth rfl v.length (by omega) m hm).2 fun i hi => h i (by omega)
/-- A sum over blades with a vector is a sum over its numbers. -/
theorem sum_bits (g : Nat → Int) : ∀ d, (∀ m, m < 2 ^ d → (∀ i, i < d → m ≠ 2 ^ i) → g m = 0) → sumN (2 ^ d) g = sumN d fun i => g (2 ^ i)
  | 0, h => by
    show sumN 0 g + g 0 = 0
    rw [h 0 (by decide) (fun i hi => absurd hi (Nat.not_lt_zero _))]; rfl
  | d + 1, h => by
    have split : ∀ n m, sumN (n + m) g = sumN n g + sumN m fun i => g (n + i) := fun n m => by
      induction m with
      | zero => simp [sumN]
      | succ m ih => rw [← Nat.add_assoc]; simp only [sumN]; rw [ih, Int.add_assoc]
    have hpos : 0 < 2 ^ d := Nat.pos_of_ne_zero (by simp)
    rw [Nat.pow_succ, Nat.mul_two, split]
    have h1 : sumN (2 ^ d) g = sumN d fun i => g (2 ^ i) := sum_bits g d fun m hm hno => h m (by rw [Nat.pow_succ]; omega) fun i hi => by
      by_cases hid : i = d
      · subst hid; omega
      · exact hno i (by omega)
    rw [h1, sumN_single (k := 0) hpos (fun m hm hne => h (2 ^ d + m) (by rw [Nat.pow_succ]; omega) fun i hi => by
      by_cases hid : i = d
      · subst hid; omega
      · have : 2 ^ i < 2 ^ d := Nat.pow_lt_pow_right (by omega) (by omega)
        omega)]
    rfl
theorem sum_vec {d : Nat} {v : List Int} (hv : v.length = d) (g : Nat → Int) : sumN (2 ^ d) (fun m => nth (vecL (2 ^ d) v) m * g m) = sumN d fun i => nth v i * g (2 ^ i) := by
  rw [sum_bits _ d fun m hm hno => by rw [vec_no hv hm hno, Int.zero_mul]]
  exact sumN_congr fun i hi => by rw [vec_bit hv hi]

/-- The product of two vectors of a space. -/
def pairZ (qs v w : List Int) : Int := sumN qs.length fun i => nth v i * nth w i * nth qs i
theorem sgS_bits (i j : Nat) (hi : i < 6) (hj : j < 6) : (i ≠ j → sgS (2 ^ i) (2 ^ j) 6 = - sgS (2 ^ j) (2 ^ i) 6) ∧ sgS (2 ^ i) (2 ^ i) 6 = 1 := by
  have : ∀ i : Nat, i < 6 → ∀ j : Nat, j < 6 → (i ≠ j → sgS (2 ^ i) (2 ^ j) 6 = - sgS (2 ^ j) (2 ^ i) 6) ∧ sgS (2 ^ i) (2 ^ i) 6 = 1 := by decide +kernel
  exact this i hi j hj
theorem sqS_one (qs : List Int) {a b : Nat} : ∀ k, (∀ i, i < k → (a.testBit i && b.testBit i) = false) → sqS qs a b k = 1
  | 0, _ => rfl
  | k + 1, h => by
    rw [sqS, sqS_one qs k fun i hi => h i (by omega), h k (by omega)]; rfl
theorem sqS_bit (qs : List Int) {i : Nat} : ∀ k, sqS qs (2 ^ i) (2 ^ i) k = if i < k then nth qs i else 1
  | 0 => rfl
  | k + 1 => by
    rw [sqS, sqS_bit qs k, Nat.testBit_two_pow]
    by_cases hik : i = k
    · subst hik; simp
    · have : ¬ (i = k) := hik
      simp only [this, decide_false, Bool.and_false, Bool.false_eq_true, if_false, Int.mul_one]
      by_cases h : i < k
      · rw [if_pos h, if_pos (by omega)]
      · rw [if_neg h, if_neg (by omega)]
theorem facZ_bits {qs : List Int} {i j : Nat} (hd : qs.length ≤ 6) (hi : i < qs.length) (hj : j < qs.length) : (i ≠ j → facZ qs (2 ^ i) (2 ^ j) qs.length = - facZ qs (2 ^ j) (2 ^ i) qs.length) ∧ facZ qs (2 ^ i) (2 ^ i) qs.length = nth qs i := by
  obtain ⟨h1, h2⟩ := sgS_bits i j (by omega) (by omega)
  have lt : ∀ i, i < qs.length → (2 : Nat) ^ i < 2 ^ qs.length := fun i hi => Nat.pow_lt_pow_right (by omega) hi
  have e1 := sgS_rest (a := 2 ^ i) (lt j hj) (6 - qs.length)
  have e2 := sgS_rest (a := 2 ^ j) (lt i hi) (6 - qs.length)
  have e3 := sgS_rest (a := 2 ^ i) (lt i hi) (6 - qs.length)
  rw [Nat.add_sub_cancel' hd] at e1 e2 e3
  rw [facZ_parts, facZ_parts, facZ_parts, ← e1, ← e2, ← e3, h2, sqS_bit, if_pos hi, Int.one_mul]
  refine ⟨fun hne => ?_, rfl⟩
  rw [h1 hne, sqS_comm qs (2 ^ j)]
  exact Int.neg_mul _ _
/-- v w + w v -/
theorem vec_anti {p : Int} {qs v w : List Int} (hp : 1 ≤ p) (hd : qs.length ≤ 6) (hv : v.length = qs.length) (hw : w.length = qs.length) :
    plusL p (prodL p qs tkA (vecL (2 ^ qs.length) v) (vecL (2 ^ qs.length) w)) (prodL p qs tkA (vecL (2 ^ qs.length) w) (vecL (2 ^ qs.length) v)) 1 (2 ^ qs.length) = (List.replicate (2 ^ qs.length) 0).set 0 ((2 * pairZ qs v w) % p) := by
  have hN := pow_pos' qs.length
  refine ext_nth (by rw [plusL_len]; simp) fun k hk => ?_
  rw [plusL_len] at hk
  rw [plusL_nth hk, plusN, prodA_nth hp hk, prodA_nth hp hk, Int.one_mul, Int.emod_add_emod, Int.add_emod_emod, nth_set (by simp; omega), nth_replicate hk]
  have e : ∀ x y : List Int, sumN (2 ^ qs.length) (fun i => nth (vecL (2 ^ qs.length) x) i * nth (vecL (2 ^ qs.length) y) (i ^^^ k) * facZ qs i (i ^^^ k) qs.length) = sumN (2 ^ qs.length) (fun i => nth (vecL (2 ^ qs.length) x) i * (nth (vecL (2 ^ qs.length) y) (i ^^^ k) * facZ qs i (i ^^^ k) qs.length)) := fun x y => sumN_congr fun i _ => Int.mul_assoc _ _ _
  have lt : ∀ i, i < qs.length → (2 : Nat) ^ i < 2 ^ qs.length := fun i hi => Nat.pow_lt_pow_right (by omega) hi
  by_cases h0 : 0 = k
  · subst h0
    rw [if_pos rfl, e, e, sum_vec hv, sum_vec hw]
    simp only [Nat.xor_zero]
    congr 1
    unfold pairZ
    rw [← sumN_add, ← sumN_mul]
    refine sumN_congr fun i hi => ?_
    rw [vec_bit hv hi, vec_bit hw hi, (facZ_bits hd hi hi).2, Int.two_mul]
    congr 1
    · exact (Int.mul_assoc _ _ _).symm
    · ac_rfl
  · rw [if_neg h0]
    -- the second sum, blade by blade, is the first one's opposite
    rw [← sumN_xor hd hk (fun i => nth (vecL (2 ^ qs.length) w) i * nth (vecL (2 ^ qs.length) v) (i ^^^ k) * facZ qs i (i ^^^ k) qs.length), ← sumN_add]
    have : ∀ i, i < 2 ^ qs.length → nth (vecL (2 ^ qs.length) v) i * nth (vecL (2 ^ qs.length) w) (i ^^^ k) * facZ qs i (i ^^^ k) qs.length + nth (vecL (2 ^ qs.length) w) (k ^^^ i) * nth (vecL (2 ^ qs.length) v) (k ^^^ i ^^^ k) * facZ qs (k ^^^ i) (k ^^^ i ^^^ k) qs.length = 0 := fun i hi => by
      have x1 : k ^^^ i ^^^ k = i := by rw [Nat.xor_comm k i, Nat.xor_assoc, Nat.xor_self, Nat.xor_zero]
      rw [x1, Nat.xor_comm k i]
      have hik := Nat.xor_lt_two_pow hi hk
      by_cases hb : ∃ s, s < qs.length ∧ i = 2 ^ s
      · obtain ⟨s, hs, rfl⟩ := hb
        by_cases hc : ∃ t, t < qs.length ∧ 2 ^ s ^^^ k = 2 ^ t
        · obtain ⟨t, ht, hst⟩ := hc
          rw [hst]
          have hne : s ≠ t := fun h => by
            subst h
            exact h0 (by have := xor_eq_iff.1 hst; rw [Nat.xor_self] at this; exact this.symm)
          rw [(facZ_bits hd hs ht).1 hne]
          rw [Int.mul_comm (nth (vecL (2 ^ qs.length) w) _), Int.mul_neg]
          omega
        · rw [vec_no hw hik (fun t ht h => hc ⟨t, ht, h⟩)]; simp
      · rw [vec_no hv hi (fun s hs h => hb ⟨s, hs, h⟩)]; simp
    rw [sumN_zero this]; rfl

/-- The geometric product of a vector is its left contraction and its wedge product together. -/
theorem vec_prod {p : Int} {qs v y : List Int} (hp : 1 ≤ p) (hv : v.length = qs.length) :
    prodL p qs tkA (vecL (2 ^ qs.length) v) y = plusL p (prodL p qs tkL (vecL (2 ^ qs.length) v) y) (prodL p qs tkW (vecL (2 ^ qs.length) v) y) 1 (2 ^ qs.length) := by
  refine ext_nth (by rw [(prod_good hp).1, plusL_len]) fun k hk => ?_
  rw [(prod_good hp).1] at hk
  rw [plusL_nth hk, plusN, prodT_nth hp hk, prodT_nth hp hk, prodT_nth hp hk, Int.one_mul, Int.emod_add_emod, Int.add_emod_emod, ← sumN_add]
  congr 1
  refine sumN_congr fun i hi => ?_
  by_cases hb : ∃ s, s < qs.length ∧ i = 2 ^ s
  · obtain ⟨s, hs, rfl⟩ := hb
    have : tkI tkA (2 ^ s) (2 ^ s ^^^ k) = tkI tkL (2 ^ s) (2 ^ s ^^^ k) + tkI tkW (2 ^ s) (2 ^ s ^^^ k) := by
      unfold tkI
      rw [if_pos (show tkA (2 ^ s) (2 ^ s ^^^ k) = true from rfl)]
      cases hbit : (2 ^ s ^^^ k).testBit s
      · have hw : tkW (2 ^ s) (2 ^ s ^^^ k) = true := tkW_iff.2 fun i => by
          rw [Nat.testBit_two_pow]
          by_cases h : s = i
          · subst h; rw [hbit]; simp
          · simp [h]
        have hl : tkL (2 ^ s) (2 ^ s ^^^ k) = false := by
          cases h : tkL (2 ^ s) (2 ^ s ^^^ k)
          · rfl
          · have := tkL_iff.1 h s (by simp)
            rw [hbit] at this; cases this
        simp [hw, hl]
      · have hl : tkL (2 ^ s) (2 ^ s ^^^ k) = true := tkL_iff.2 fun i hi => by
          rw [Nat.testBit_two_pow] at hi
          simp only [decide_eq_true_eq] at hi
          subst hi; exact hbit
        have hw : tkW (2 ^ s) (2 ^ s ^^^ k) = false := by
          cases h : tkW (2 ^ s) (2 ^ s ^^^ k)
          · rfl
          · have := tkW_iff.1 h s
            rw [hbit] at this; simp at this
        simp [hw, hl]
    rw [this, Int.add_mul]
  · rw [vec_no hv hi (fun s hs h => hb ⟨s, hs, h⟩)]; simp
end Go.Proofs.Ytcocbainookkcaa

/-
  Sums of multiples of lists, and products with them, in plain numbers.
  No condition. No program in sight.
-/
namespace Go.Proofs.Ytcocbainookkcaa
set_option maxRecDepth 100000
open Go.RowKit

/-- A sum of multiples at a place; the list of these. -/
def linS : List (Int × List Int) → Nat → Int
  | [], _ => 0
  | (k, x) :: L, i => k * nth x i + linS L i
def linL (p : Int) (N : Nat) (L : List (Int × List Int)) : List Int := (List.range N).map fun i => linS L i % p
theorem linL_len (p : Int) (N : Nat) (L : List (Int × List Int)) : (linL p N L).length = N := by simp [linL]
theorem linL_nth {p : Int} {N i : Nat} {L : List (Int × List Int)} (h : i < N) : nth (linL p N L) i = linS L i % p := by
  unfold linL; rw [nth_map (by simpa using h)]; simp
theorem lin_good {p : Int} {N : Nat} {L : List (Int × List Int)} (hp : 1 ≤ p) : Good p N (linL p N L) :=
  ⟨linL_len .., fun i hi => by rw [linL_nth hi]; exact ⟨Int.emod_nonneg _ (by omega), Int.emod_lt_of_pos _ (by omega)⟩⟩
theorem lin_congr {p : Int} {N : Nat} {L M : List (Int × List Int)} (h : ∀ i, i < N → linS L i % p = linS M i % p) : linL p N L = linL p N M := by
  unfold linL
  exact List.map_congr_left fun i hi => h i (List.mem_range.1 hi)
theorem lin_one {p : Int} {N : Nat} {x : List Int} (hx : Good p N x) : linL p N [(1, x)] = x := by
  refine ext_nth (by rw [linL_len, hx.1]) fun i hi => ?_
  rw [linL_len] at hi
  rw [linL_nth hi]
  simp only [linS, Int.one_mul, Int.add_zero]
  exact Int.emod_eq_of_lt (hx.2 i hi).1 (hx.2 i hi).2
theorem linS_append (L M : List (Int × List Int)) (i : Nat) : linS (L ++ M) i = linS L i + linS M i := by
  induction L with
  | nil => simp [linS]
  | cons a L ih => obtain ⟨k, x⟩ := a; simp only [List.cons_append, linS]; rw [ih, Int.add_assoc]
theorem linS_times (c : Int) (M : List (Int × List Int)) (i : Nat) : linS (M.map fun q => (c * q.1, q.2)) i = c * linS M i := by
  induction M with
  | nil => simp [linS]
  | cons a M ih => obtain ⟨k, x⟩ := a; simp only [List.map_cons, linS]; rw [ih, Int.mul_add, Int.mul_assoc]
theorem plus_lin {p k : Int} {N : Nat} {L M : List (Int × List Int)} : plusL p (linL p N L) (linL p N M) k N = linL p N (L ++ M.map fun q => (k * q.1, q.2)) := by
  refine ext_nth (by rw [plusL_len, linL_len]) fun i hi => ?_
  rw [plusL_len] at hi
  rw [plusL_nth hi, plusN, linL_nth hi, linL_nth hi, linL_nth hi, linS_append, linS_times, Int.emod_add_emod, Int.add_emod, Int.mul_emod, Int.emod_emod, ← Int.mul_emod, ← Int.add_emod]
/-- A sum's head comes out. -/
theorem lin_cons {p k : Int} {N : Nat} {x : List Int} {L : List (Int × List Int)} : linL p N ((k, x) :: L) = plusL p (linL p N L) x k N := by
  refine ext_nth (by rw [plusL_len, linL_len]) fun i hi => ?_
  rw [linL_len] at hi
  rw [plusL_nth hi, plusN, linL_nth hi, linL_nth hi, Int.emod_add_emod, linS, Int.add_comm]
theorem lin_nil_left {p : Int} {qs y : List Int} {tk : Nat → Nat → Bool} (hp : 1 ≤ p) : prodL p qs tk (linL p (2 ^ qs.length) []) y = linL p (2 ^ qs.length) [] := by
  refine ext_nth (by rw [(prod_good hp).1, linL_len]) fun i hi => ?_
  rw [(prod_good hp).1] at hi
  rw [prodT_nth hp hi, linL_nth hi, sumN_zero fun j hj => by rw [linL_nth hj]; simp [linS]]
  rfl
theorem lin_nil_right {p : Int} {qs y : List Int} {tk : Nat → Nat → Bool} (hp : 1 ≤ p) : prodL p qs tk y (linL p (2 ^ qs.length) []) = linL p (2 ^ qs.length) [] := by
  refine ext_nth (by rw [(prod_good hp).1, linL_len]) fun i hi => ?_
  rw [(prod_good hp).1] at hi
  have hlt : ∀ j, j < 2 ^ qs.length → j ^^^ i < 2 ^ qs.length := fun j hj => Nat.xor_lt_two_pow hj hi
  rw [prodT_nth hp hi, linL_nth hi, sumN_zero fun j hj => by rw [linL_nth (hlt j hj)]; simp [linS]]
  rfl
theorem prod_lin_left {p : Int} {qs y : List Int} {tk : Nat → Nat → Bool} (hp : 1 ≤ p) : ∀ L : List (Int × List Int), prodL p qs tk (linL p (2 ^ qs.length) L) y = linL p (2 ^ qs.length) (L.map fun q => (q.1, prodL p qs tk q.2 y))
  | [] => lin_nil_left hp
  | (k, x) :: L => by rw [lin_cons, prod_plus_left hp, prod_lin_left hp L, List.map_cons, lin_cons]
theorem prod_lin_right {p : Int} {qs y : List Int} {tk : Nat → Nat → Bool} (hp : 1 ≤ p) : ∀ L : List (Int × List Int), prodL p qs tk y (linL p (2 ^ qs.length) L) = linL p (2 ^ qs.length) (L.map fun q => (q.1, prodL p qs tk y q.2))
  | [] => lin_nil_right hp
  | (k, x) :: L => by rw [lin_cons, prod_plus_right hp, prod_lin_right hp L, List.map_cons, lin_cons]
/-- A sum in which one list is a sum itself. -/
theorem linS_lin {p k : Int} {N i : Nat} {M : List (Int × List Int)} (L : List (Int × List Int)) (h : i < N) : linS ((k, linL p N M) :: L) i % p = (k * linS M i + linS L i) % p := by
  simp only [linS]
  rw [linL_nth h, Int.add_emod, Int.mul_emod, Int.emod_emod, ← Int.mul_emod, ← Int.add_emod]
/-- Two vectors, in the other order. -/
theorem vec_swap {p : Int} {qs v w : List Int} (hp : 1 ≤ p) (hd : qs.length ≤ 6) (hv : v.length = qs.length) (hw : w.length = qs.length) :
    prodL p qs tkA (vecL (2 ^ qs.length) w) (vecL (2 ^ qs.length) v) = linL p (2 ^ qs.length) [(2 * pairZ qs v w, bladeL (2 ^ qs.length) 0), (-1, prodL p qs tkA (vecL (2 ^ qs.length) v) (vecL (2 ^ qs.length) w))] := by
  have h := vec_anti hp hd hv hw
  have hN := pow_pos' qs.length
  refine ext_nth (by rw [(prod_good hp).1, linL_len]) fun i hi => ?_
  rw [(prod_good hp).1] at hi
  have h2 := congrArg (fun l => nth l i) h
  rw [plusL_nth hi, plusN, nth_set (by simp; omega), nth_replicate hi, Int.one_mul] at h2
  have hg := (prod_good (qs := qs) (tk := tkA) (x := vecL (2 ^ qs.length) w) (y := vecL (2 ^ qs.length) v) hp).2 i hi
  rw [linL_nth hi]
  simp only [linS]
  rw [bladeL_nth hN hi]
  obtain ⟨X, hX⟩ : ∃ X, X = nth (prodL p qs tkA (vecL (2 ^ qs.length) v) (vecL (2 ^ qs.length) w)) i := ⟨_, rfl⟩
  obtain ⟨Y, hY⟩ : ∃ Y, Y = nth (prodL p qs tkA (vecL (2 ^ qs.length) w) (vecL (2 ^ qs.length) v)) i := ⟨_, rfl⟩
  rw [← hX, ← hY] at h2
  rw [← hY] at hg
  rw [← hX, ← hY]
  have e : Y = Y % p := (Int.emod_eq_of_lt hg.1 hg.2).symm
  by_cases h0 : 0 = i
  · rw [if_pos h0] at h2 ⊢
    have e2 : (X + Y) % p = (2 * pairZ qs v w) % p := h2
    rw [e, show Y = (X + Y) + -1 * X by omega, Int.add_emod, e2, ← Int.add_emod]
    congr 1; omega
  · rw [if_neg h0] at h2 ⊢
    rw [e, show Y = (X + Y) + -1 * X by omega, Int.add_emod, h2, Int.zero_add, Int.emod_emod]
    congr 1; omega
/-- The square of a vector. -/
theorem vec_sq {p : Int} {qs v : List Int} (hp : 3 ≤ p) (hpr : primeB p = true) (hd : qs.length ≤ 6) (hv : v.length = qs.length) :
    prodL p qs tkA (vecL (2 ^ qs.length) v) (vecL (2 ^ qs.length) v) = linL p (2 ^ qs.length) [(pairZ qs v v, bladeL (2 ^ qs.length) 0)] := by
  have h := vec_swap (p := p) (by omega) hd hv hv
  have hN := pow_pos' qs.length
  refine ext_nth (by rw [(prod_good (by omega)).1, linL_len]) fun i hi => ?_
  rw [(prod_good (by omega)).1] at hi
  have h2 := congrArg (fun l => nth l i) h
  have hg := (prod_good (qs := qs) (tk := tkA) (x := vecL (2 ^ qs.length) v) (y := vecL (2 ^ qs.length) v) (show 1 ≤ p by omega)).2 i hi
  rw [linL_nth hi] at h2 ⊢
  simp only [linS] at h2 ⊢
  obtain ⟨Y, hY⟩ : ∃ Y, Y = nth (prodL p qs tkA (vecL (2 ^ qs.length) v) (vecL (2 ^ qs.length) v)) i := ⟨_, rfl⟩
  rw [← hY] at h2 hg
  rw [← hY]
  obtain ⟨u, hu⟩ : ∃ u, u = nth (bladeL (2 ^ qs.length) 0) i := ⟨_, rfl⟩
  rw [← hu] at h2 ⊢
  have inv : 2 * invN p 2 % p = 1 := (inv_spec hpr (by omega) (by omega)).2.1
  obtain ⟨I, hI⟩ : ∃ I, I = invN p 2 := ⟨_, rfl⟩
  rw [← hI] at inv
  obtain ⟨t, ht⟩ : ∃ t, 2 * pairZ qs v v * u + (-1 * Y + 0) - Y = p * t := Int.dvd_of_emod_eq_zero (by rw [Int.sub_emod, ← h2, Int.emod_eq_of_lt hg.1 hg.2, Int.sub_self, Int.zero_emod])
  obtain ⟨s, hs⟩ : ∃ s, 2 * I - 1 = p * s := Int.dvd_of_emod_eq_zero (by rw [Int.sub_emod, inv, Int.emod_eq_of_lt (show (0 : Int) ≤ 1 by omega) (by omega), Int.sub_self, Int.zero_emod])
  have e : pairZ qs v v * u + 0 = Y + p * (t * I - (pairZ qs v v * u - Y) * s) := by grind
  rw [e, Int.add_mul_emod_self_left, Int.emod_eq_of_lt hg.1 hg.2]

end Go.Proofs.Ytcocbainookkcaa

/-
  A region whose first operation is a move that may be carried out at any time: it is carried out first.
  No condition. General over every program.
-/
namespace Go.Proofs.Ytcocbainookkcaa
set_option maxRecDepth 100000
open Go.RowKit

/-- The exit is normal. -/
def strictQ (Q : Exit → Act → World → Prop) : Exit → Act → World → Prop := fun e a w => e = .normal ∧ Q .normal a w
theorem strictQ_normal {Q : Exit → Act → World → Prop} {a : Act} {w : World} (h : Q .normal a w) : strictQ Q .normal a w := ⟨rfl, h⟩

section
variable {P : Program} {ops : Array Oper} {md : Region.Mode} {Q : Exit → Act → World → Prop}
theorem not_letsOut : ¬ LetsOut (strictQ Q) := fun ⟨_, _, h, _⟩ => by cases h
theorem wp_strict {o : Oper} {a : Act} {w : World} {K K' : Act → World → Prop} (h : ∀ a w, K a w → K' a w) (hh : o.wp P a w K (strictQ Q)) : o.wp P a w K' Q := by
  unfold Oper.wp at *
  generalize (execOp a.eval o).run P w = r at *
  cases r with
  | ok n w' =>
    cases n <;> simp only [Oper.upon] at hh ⊢ <;>
      first
        | exact h _ _ hh
        | exact Calls.mono hh (fun e w'' he => by
            cases e with
            | returned v => exact h _ _ he
            | panicked c => exact absurd he.1 (by simp)
            | outgrown => exact absurd he not_letsOut)
        | exact Rows.mono hh (fun _ _ he => h _ _ he)
  | halt x w' =>
    cases x <;> simp only [Oper.upon] at hh ⊢ <;> first | exact hh.elim | exact absurd hh.1 (by simp) | exact hh
theorem wpOp_strict {i : Nat} {a : Act} {w : World} {K K' : Act → World → Prop} (h : ∀ a w, K a w → K' a w) (hh : wpOp P ops (strictQ Q) i K a w) : wpOp P ops Q i K' a w := by
  unfold wpOp at *
  split
  · exact h _ _ (by simpa [*] using hh)
  · rename_i o ho
    simp only [ho] at hh
    split
    · rename_i hw
      simp only [hw, if_true] at hh
      rcases hh with hh | hh
      · exact .inl (wp_strict h hh)
      · exact absurd hh.2 not_letsOut
    · rename_i hw; simp only [hw] at hh; exact h _ _ hh
theorem wpAny_strict : ∀ (f : Nat) (listed : Array Bool) (a : Act) (w : World), wpAny P md ops (strictQ Q) f listed a w → wpAny P md ops Q f listed a w
  | 0, _, _, _, h => ⟨h.1, h.2.2⟩
  | f + 1, _, _, _, h => ⟨fun h0 => (h.1 h0).2, fun i hi => wpOp_strict (fun a w => wpAny_strict f _ a w) (h.2 i hi)⟩

def Region.sinkB1 (md : Region.Mode) (ops : Array Oper) (m n : Nat) : Bool :=
  (List.range n).all fun i => decide (i < m) || (List.range (n + 1)).any fun j => decide (i < j) && Region.waitsFor md ops j i
theorem tail_waits1 {m n : Nat} {listed : Array Bool} (hs : Region.sinkB1 md ops m n = true) (hc : Region.chainB md ops n = true) (hn : n < ops.size) (inv : HeadInv md ops n listed) :
    ∀ (d i : Nat), n - i = d → m ≤ i → i < n → listed.getD i true = false → ∀ t, n ≤ t → t ∉ Region.ready md ops listed := by
  intro d
  induction d using Nat.strongRecOn with
  | _ d ih =>
    intro i hd hm hi hun t ht hr
    obtain ⟨_, ot, hot, hall⟩ := mem_ready.1 hr
    have htlt : t < ops.size := (Array.getElem?_eq_some_iff.1 hot).1
    by_cases htn : t = n
    · subst htn
      have h1 := List.all_eq_true.1 hs i (List.mem_range.2 hi)
      simp only [Bool.or_eq_true, decide_eq_true_eq] at h1
      obtain ⟨j, hj, hj2⟩ := List.any_eq_true.1 (h1.resolve_left (by omega))
      simp only [Bool.and_eq_true, decide_eq_true_eq] at hj2
      obtain ⟨oj, hoj, e, he, hb, hon⟩ := Region.waitsFor_spec hj2.2
      have hjle : j ≤ t := by have := List.mem_range.1 hj; omega
      by_cases hjt : j = t
      · subst hjt
        have : oj = ot := Option.some.inj (hoj.symm.trans hot)
        subst this
        have h2 := hall e he hb
        rw [hon, getD_both hun] at h2
        cases h2
      · cases hl : listed.getD j false with
        | true =>
          have h2 := inv.closed j oj hoj hl e he hb
          rw [hon, getD_both hun] at h2
          cases h2
        | false =>
          have hjs : j < listed.size := by rw [inv.size]; omega
          exact ih (t - j) (by omega) j rfl (by omega) (by omega) (getD_in hjs hl) t (Nat.le_refl _) hr
    · have h1 := List.all_eq_true.1 hc t (List.mem_range.2 htlt)
      simp only [Bool.or_eq_true, decide_eq_true_eq] at h1
      rcases h1 with h1 | h1
      · omega
      · obtain ⟨o', ho', e, he, hb, hon⟩ := Region.waitsFor_spec h1
        have : o' = ot := Option.some.inj (ho'.symm.trans hot)
        subst this
        have h2 := hall e he hb
        rw [hon, getD_both (inv.tail (t - 1) (by omega) (by omega))] at h2
        cases h2

theorem LexR.any1 {w0 : World} {sp : Nat → Option SPred} {m n : Nat} {B : Array Bool → Bool} {Lq : Act → World → Prop} (hsel : Region.noSelect ops = true)
    (hlt : ∀ i, m ≤ i → i < n → ∀ listed, HeadInv md ops n listed → listed.getD i true = false → ∀ j ∈ Region.ready md ops listed, j < n)
    (hdone : ∀ listed, B listed = true → ∀ j ∈ Region.ready md ops listed, n ≤ j)
    (hd : Nat → Nat → Array Bool → Bool) (h0 : ∀ listed, hd 0 n listed = true → B listed = true)
    (h1 : ∀ f k listed, hd (f + 1) k listed = true → ((Region.ready md ops listed).contains k = true ∧ Region.free md ops listed k = true) ∧ hd f (k + 1) (listed.setIfInBounds k true) = true) :
    ∀ (l : List Oper) (k : Nat) (listed : Array Bool) (a : Act) (env : List (Nat × Value)), m ≤ k → (∀ j, j < l.length → l[j]? = ops[k + j]?) → k + l.length = n → HeadInv md ops n listed →
    (∃ w, Ext w0 w ∧ Known sp env w) → hd l.length k listed = true → LexR P ops w0 sp Lq l k a env →
    AnyR P ops md w0 sp n (fun listed' a' w' => B listed' = true ∧ Lq a' w') l.length listed a env
  | [], k, listed, a, env, _, _, hk0, _, _, hB, h => fun w he hk => ⟨h0 _ (by obtain rfl : k = n := (by simpa using hk0); exact hB), h w he hk⟩
  | o :: l, k, listed, a, env, hmk, hl, hk, inv, hsat, hB, h => by
    have ho : ops[k]? = some o := by simpa using (hl 0 (by simp)).symm
    obtain ⟨⟨hr, hf⟩, hB'⟩ := h1 _ _ _ (by simpa using hB)
    have hkn : k < n := by simp only [List.length_cons] at hk; omega
    have hr' : k ∈ Region.ready md ops listed := by simpa using hr
    exact AnyR.first ho (Region.noSelect_spec hsel) (hlt k hmk hkn) (fun listed' a' w' hL => hdone _ hL.1) l.length listed a env inv (Region.free_spec ho hf) hr' hsat h.1
      fun v hv => LexR.any1 hsel hlt hdone hd h0 h1 l (k + 1) _ _ _ (by omega) (fun j hj => by have := hl (j + 1) (by simp; omega); simpa [Nat.add_assoc, Nat.add_comm 1 j] using this) (by simp only [List.length_cons] at hk; omega) (inv.set hr' hkn)
        (hv.sat hsat) hB' (h.2 v hv)
end

def Region.tail1B (ops : Array Oper) (n N : Nat) : Bool :=
  Region.noSelect ops && decide (n < ops.size) && decide (1 ≤ n) && Region.sinkB1 .any ops 1 n && Region.chainB .any ops n && ((Region.ready .any ops (Array.replicate ops.size false)).contains 0 && Region.free .any ops (Array.replicate ops.size false) 0) &&
    Region.lexHead .any ops (ops.size - n) (n - 1) 1 ((Array.replicate ops.size false).setIfInBounds 0 true) && ssaB ops && dstB ops N

/-- The first operation is a move; the operations from number n on go one after another behind all others but it. -/
theorem wp_region_lex_tail1 {P : Program} {id : Nat} {Q : Exit → Act → World → Prop} {a : Act} {w : World} {o0 : Oper} {l : List Oper} (n : Nat) (sps : List (Nat × SPred)) (v0 : Value) (hm : P.follows .mixedOrders = true)
    (hB : Region.tail1B (o0 :: l).toArray n a.tmps.size = true) (hsp : spOf sps 0 = none) (hw : Region.wanted o0 (yielded (o0 :: l).toArray a.tmps) = true) (hy : ∀ w, (execOp a.eval o0).run P w = .ok (.value v0) w)
    (h : LexW P (o0 :: l).toArray w.drew (spOf sps) (fun a' w' => wpList P (o0 :: l).toArray (strictQ Q) ((o0 :: l).drop n) a' w') (((o0 :: l).take n).drop 1) 1 (a.put o0.dst v0) [(0, v0)]) : (Code.region id (o0 :: l).toArray true).wp P Q a w := by
  simp only [Region.tail1B, Bool.and_eq_true, decide_eq_true_eq] at hB
  obtain ⟨⟨⟨⟨⟨⟨⟨⟨hsel, hn⟩, hn1⟩, hs⟩, hc⟩, hr0, hf0⟩, hlex⟩, hssa⟩, hdst⟩ := hB
  obtain ⟨ops, hops⟩ : ∃ ops, ops = (o0 :: l).toArray := ⟨_, rfl⟩
  have h0 : ops[0]? = some o0 := by rw [hops]; simp
  rw [← hops] at hn hsel hs hc hr0 hf0 hlex hssa hdst hw h ⊢
  have hsize : ops.size = l.length + 1 := by rw [hops]; simp
  obtain ⟨L, hL⟩ : ∃ L, L = o0 :: l := ⟨_, rfl⟩
  have hLl : L.length = ops.size := by rw [hL, hsize, List.length_cons]
  rw [← hL] at h
  have hget : ∀ j, L[j]? = ops[j]? := fun j => by rw [hL, hops, List.getElem?_toArray]
  have htl : ((L.take n).drop 1).length = n - 1 := by simp; omega
  have hdl : (L.drop n).length = ops.size - n := by simp; omega
  have inv0 : HeadInv .any ops n (Array.replicate ops.size false) := by rw [hops]; exact headInv0 _ n
  have inv1 := inv0.set (by simpa using hr0) (show 0 < n by omega)
  have linv : LexInv ops a.tmps.size 1 (a.put o0.dst v0) [(0, v0)] := (lexInv0 (ops := ops) a.tmps.size a rfl).step h0 hdst v0
  have hk1 : Known (spOf sps) [(0, v0)] w.drew := fun p hp => by
    simp only [List.mem_singleton] at hp
    subst hp
    simp only [hsp, holdsO]
  have hR := LexW.lexR hssa hdst _ 1 _ _ (fun j hj => by
    rw [htl] at hj
    rw [List.getElem?_drop, List.getElem?_take_of_lt (by omega), hget]) linv h
  have H := LexR.any1 (md := .any) (m := 1) (n := n) (B := fun listed => Region.seqB .any ops (ops.size - n) n listed) hsel
    (fun i hi1 hin listed inv hun j hj => by
      rcases Nat.lt_or_ge j n with h | h
      · exact h
      · exact absurd hj (tail_waits1 hs hc hn inv _ i rfl hi1 hin hun j h))
    (fun listed hb => seqB_ready hb)
    (fun f k listed => Region.lexHead .any ops (ops.size - n) f k listed) (fun listed hh => by simpa [Region.lexHead] using hh)
    (fun f k listed hh => by simpa [Region.lexHead] using hh) ((L.take n).drop 1) 1 _ _ [(0, v0)] (Nat.le_refl _) (fun j hj => by
      rw [htl] at hj
      rw [List.getElem?_drop, List.getElem?_take_of_lt (by omega), hget]) (by rw [htl]; omega) inv1 ⟨w.drew, Ext.refl _, hk1⟩ (by rw [htl]; exact hlex) hR
  refine wp_region_any hm ?_
  have S := AnyR.sound (Q := strictQ Q) (g := ops.size - n) (fun listed a' w' hL' => by
    have := wpAny_of_seq (md := .any) (Q' := strictQ Q) (L.drop n) n listed a' w' (fun j => by rw [List.getElem?_drop, hget]) (by rw [hdl]; exact hL'.1) hL'.2
    rwa [hdl] at this) _ _ _ _ w.drew (Ext.refl _) hk1 H
  rw [htl, show n - 1 + (ops.size - n) = ops.size - 1 by omega] at S
  have T := wpAny_take (md := .any) (Q := strictQ Q) (fuel := ops.size - 1) (listed := Array.replicate ops.size false) h0 hsel hf0 hr0 (fun c a w hq => absurd hq.1 (by simp)) (.inl ⟨hw, hy⟩) S
  rw [show ops.size - 1 + 1 = ops.size by omega] at T
  exact wpAny_strict _ _ _ _ T

end Go.Proofs.Ytcocbainookkcaa

/-
  A region whose first two operations (an address, a load) may be carried out at any time while an invariant of the worlds holds: they are carried out first; its last operations go one after another and may write.
  No condition. General over every program.
-/
namespace Go.Proofs.Ytcocbainookkcaa
set_option maxRecDepth 100000
open Go.RowKit

section
variable {P : Program} {ops : Array Oper} {md : Region.Mode} {Q : Exit → Act → World → Prop} {I : World → Prop}

variable (P md ops Q I) in
/-- Whatever order is picked; the invariant holds of each world on the way. -/
def wpAnyI : Nat → Array Bool → Act → World → Prop
  | 0, listed, a, w => I w ∧ Region.ready md ops listed = [] ∧ Q .normal a w
  | f + 1, listed, a, w => I w ∧ (Region.ready md ops listed = [] → Q .normal a w) ∧ ∀ i ∈ Region.ready md ops listed, wpOp P ops Q i (wpAnyI f (listed.setIfInBounds i true)) a w
theorem wpAnyI.inv : ∀ {f : Nat} {listed : Array Bool} {a : Act} {w : World}, wpAnyI P ops md Q I f listed a w → I w
  | 0, _, _, _, h => h.1
  | _ + 1, _, _, _, h => h.1
theorem wpAnyI.plain : ∀ (f : Nat) (listed : Array Bool) (a : Act) (w : World), wpAnyI P ops md Q I f listed a w → wpAny P md ops Q f listed a w
  | 0, _, _, _, h => h.2
  | f + 1, _, _, _, h => ⟨h.2.1, fun i hi => wpOp_mono (fun a w => wpAnyI.plain f _ a w) (h.2.2 i hi)⟩

variable (P ops I) in
/-- The operation yields this value in every world of which the invariant holds. -/
def YieldsI (o : Oper) (v : Value) (a : Act) : Prop := Region.wanted o (yielded ops a.tmps) = true ∧ ∀ w, I w → (execOp a.eval o).run P w = .ok (.value v) w
theorem YieldsI.wpOp {i : Nat} {o : Oper} {v : Value} {a : Act} (hi : ops[i]? = some o) (hy : YieldsI P ops I o v a) {K : Act → World → Prop} {w : World} (hI : I w) (h : K (a.put o.dst v) w) : wpOp P ops Q i K a w := by
  unfold Go.wpOp
  simp only [hi]
  simp only [hy.1, if_true, Oper.wp, hy.2 w hI, Oper.upon]
  exact .inl h
theorem YieldsI.of_same {o : Oper} {v : Value} {a a' : Act} (hy : YieldsI P ops I o v a) (he : execOp a'.eval o = execOp a.eval o) (hw : Region.wanted o (yielded ops a'.tmps) = Region.wanted o (yielded ops a.tmps)) : YieldsI P ops I o v a' := by
  unfold YieldsI at *
  rw [he, hw]
  exact hy

theorem wpOp_putI {j : Nat} {oi oj : Oper} {v : Value} (hj : ops[j]? = some oj) (hap : oi.apart ops oj = true) (hsi : ∀ cs b, oi.op ≠ .select cs b) (hsj : ∀ cs b, oj.op ≠ .select cs b)
    (hQ : ∀ c a w, Q (.panic c) (a.put oi.dst v) w → Q (.panic c) a w) {K : Act → World → Prop} {a : Act} {w : World} (hy : YieldsI P ops I oi v a) (h : wpOp P ops Q j K (a.put oi.dst v) w) :
    wpOp P ops Q j (fun a' w' => YieldsI P ops I oi v a' ∧ K (a'.put oi.dst v) w') a w := by
  obtain ⟨h1, h2, h3⟩ := Oper.apart_spec hap
  have keep : ∀ (a : Act), YieldsI P ops I oi v a → ∀ u, YieldsI P ops I oi v (a.put oj.dst u) := fun a hy u => hy.of_same (execOp_put oi hsi a oj.dst u h3) (wanted_put oi a oj.dst u h3)
  have keepD : ∀ d, YieldsI P ops I oi v { a with defers := d :: a.defers } := fun d => hy.of_same rfl rfl
  unfold wpOp at *
  simp only [hj] at *
  rw [wanted_put oj a oi.dst v h1] at h
  split
  · rename_i hw
    simp only [hw, if_true] at h
    rcases h with h | ⟨hasks, hlets⟩
    · refine .inl ?_
      unfold Oper.wp at *
      rw [execOp_put oj hsj a oi.dst v h1] at h
      generalize (execOp a.eval oj).run P w = r at *
      cases r with
      | ok n w' =>
        cases n <;> simp only [Oper.upon] at h ⊢
        case value u => exact ⟨keep a hy u, by rw [← Act.put_comm a v u h2]; exact h⟩
        case skip => exact ⟨keep a hy _, by rw [← Act.put_comm a v undef h2]; exact h⟩
        case defer d => exact ⟨keep _ (keepD d) _, by rw [← Act.put_comm _ v undef h2, ← Act.put_defers]; exact h⟩
        case enter f args =>
          refine Calls.mono h fun e w'' he => ?_
          cases e with
          | returned u => exact ⟨keep a hy u, by rw [← Act.put_comm a v u h2]; exact he⟩
          | panicked c => exact hQ _ _ _ he
          | outgrown => exact he
        case row row args => exact Rows.mono h fun u w'' he => ⟨keep a hy u, by rw [← Act.put_comm a v u h2]; exact he⟩
      | halt x w' =>
        cases x <;> simp only [Oper.upon] at h ⊢
        case panic u => exact hQ _ _ _ h
    · exact .inr ⟨by unfold Oper.asks at *; rw [execOp_put oj hsj a oi.dst v h1] at hasks; exact hasks, hlets⟩
  · rename_i hw
    simp only [hw] at h
    exact ⟨keep a hy _, by rw [← Act.put_comm a v undef h2]; exact h⟩

theorem wpAnyI_first {i : Nat} {oi : Oper} {v : Value} (hi : ops[i]? = some oi) (hsel : ∀ (j : Nat) (o : Oper) cs b, ops[j]? = some o → o.op ≠ .select cs b)
    (hQ : ∀ c a w, Q (.panic c) (a.put oi.dst v) w → Q (.panic c) a w) :
    ∀ (f : Nat) (listed : Array Bool) (a : Act) (w : World),
      (∀ j oj, ops[j]? = some oj → j ≠ i → listed.getD j true = false → (∀ e ∈ oj.after, Region.binds md e = true → e.on ≠ i) → oi.apart ops oj = true) →
      i ∈ Region.ready md ops listed → YieldsI P ops I oi v a →
      wpAnyI P ops md Q I f (listed.setIfInBounds i true) (a.put oi.dst v) w → wpAnyI P ops md Q I (f + 1) listed a w := by
  intro f
  induction f with
  | zero =>
    intro listed a w _ hr hy H
    refine ⟨H.1, fun h => (by rw [h] at hr; cases hr), fun j hj => ?_⟩
    by_cases hji : j = i
    · subst hji; exact hy.wpOp hi H.1 H
    · have := ready_mono hj hji
      rw [H.2.1] at this
      cases this
  | succ f ih =>
    intro listed a w hfree hr hy H
    refine ⟨H.1, fun h => (by rw [h] at hr; cases hr), fun j hj => ?_⟩
    by_cases hji : j = i
    · subst hji; exact hy.wpOp hi H.1 H
    · have h1 := H.2.2 j (ready_mono hj hji)
      obtain ⟨hjun, oj, hoj, hall⟩ := mem_ready.1 hj
      have hnot : ∀ e ∈ oj.after, Region.binds md e = true → e.on ≠ i := fun e he hb heq => by
        have h1 := hall e he hb
        have h0 := (mem_ready.1 hr).1
        rw [heq, getD_both h0] at h1
        cases h1
      have h2 := wpOp_putI hoj (hfree j oj hoj hji hjun hnot) (fun cs b => hsel i oi cs b hi) (fun cs b => hsel j oj cs b hoj) hQ hy h1
      refine wpOp_mono (fun a' w' h3 => ih (listed.setIfInBounds j true) a' w' (fun k ok hk hki hun hno => ?_) (ready_mono hr (Ne.symm hji)) h3.1 ?_) h2
      · refine hfree k ok hk hki ?_ hno
        by_cases hjk : j = k
        · subst hjk; exact hjun
        · rw [getD_set_ne true hjk] at hun; exact hun
      · rw [Array.setIfInBounds_comm _ _ hji]
        exact h3.2

variable (P ops Q I) in
/-- Operations one after another; the invariant holds of each world on the way. -/
def wpListI : List Oper → Act → World → Prop
  | [], a, w => I w ∧ Q .normal a w
  | o :: l, a, w => I w ∧ Region.wanted o (yielded ops a.tmps) = true ∧ o.wp P a w (wpListI l) Q
theorem wpListI.value {o : Oper} {l : List Oper} {a : Act} {w w' : World} {v : Value} (hI : I w) (hw : Region.wanted o (yielded ops a.tmps) = true) (hr : (execOp a.eval o).run P w = .ok (.value v) w') (h : wpListI P ops Q I l (a.put o.dst v) w') : wpListI P ops Q I (o :: l) a w :=
  ⟨hI, hw, by unfold Oper.wp; rw [hr]; exact h⟩
theorem wpListI.skip {o : Oper} {l : List Oper} {a : Act} {w w' : World} (hI : I w) (hw : Region.wanted o (yielded ops a.tmps) = true) (hr : (execOp a.eval o).run P w = .ok .skip w') (h : wpListI P ops Q I l (a.put o.dst undef) w') : wpListI P ops Q I (o :: l) a w :=
  ⟨hI, hw, by unfold Oper.wp; rw [hr]; exact h⟩
theorem wpAnyI_of_seq : ∀ (l : List Oper) (k : Nat) (listed : Array Bool) (a : Act) (w : World), (∀ j, l[j]? = ops[k + j]?) →
    Region.seqB md ops l.length k listed = true → wpListI P ops Q I l a w → wpAnyI P ops md Q I l.length listed a w
  | [], _, _, _, _, _, hB, h => ⟨h.1, by simpa [Region.seqB] using hB, h.2⟩
  | o :: l, k, listed, a, w, hl, hB, h => by
    have h0 : ops[k]? = some o := by simpa using (hl 0).symm
    simp only [List.length_cons, Region.seqB, Bool.and_eq_true, decide_eq_true_eq] at hB
    refine ⟨h.1, fun h1 => (by rw [hB.1] at h1; cases h1), fun i hi => ?_⟩
    rw [hB.1] at hi
    have hik : i = k := by simpa using hi
    subst hik
    have hw : wpOp P ops Q i (wpListI P ops Q I l) a w := by unfold wpOp; simp only [h0, h.2.1, if_true]; exact .inl h.2.2
    exact wpOp_mono (fun a' w' h' => wpAnyI_of_seq l (i + 1) _ a' w' (fun j => by have := hl (j + 1); simpa [Nat.add_assoc, Nat.add_comm 1 j] using this) hB.2 h') hw

theorem AnyR.soundI {w0 : World} {sp : Nat → Option SPred} {n g : Nat} {L : Array Bool → Act → World → Prop} (hI : ∀ w, Ext w0 w → I w) (hL : ∀ listed a w, L listed a w → wpAnyI P ops md Q I g listed a w) :
    ∀ (f : Nat) (listed : Array Bool) (a : Act) (env : List (Nat × Value)) (w : World), Ext w0 w → Known sp env w → AnyR P ops md w0 sp n L f listed a env → wpAnyI P ops md Q I (f + g) listed a w
  | 0, _, _, _, w, he, hk, h => by rw [Nat.zero_add]; exact hL _ _ _ (h w he hk)
  | f + 1, listed, a, env, w, he, hk, h => by
    rw [show f + 1 + g = (f + g) + 1 by omega]
    refine ⟨hI w he, fun h0 => absurd h0 h.1, fun i hi => ?_⟩
    unfold wpOp
    split
    · rename_i hn
      obtain ⟨_, o, ho, _⟩ := mem_ready.1 hi
      rw [hn] at ho; cases ho
    · rename_i o ho
      obtain ⟨hc, hr⟩ := (h.2 i hi).2 o ho
      unfold Can at hc
      cases hp : sp i with
      | none =>
        rw [hp] at hc
        obtain ⟨v, hv⟩ := hc
        have hk' : Known sp ((i, v) :: env) w := hk.cons (by rw [hp]; trivial)
        have hres : Res P ops w0 sp i o a env v := by unfold Res; rw [hp]; exact hv
        have hnext := AnyR.soundI hI hL f _ _ _ w he hk' (hr v hres)
        rcases hv with ⟨hw, hrun⟩ | ⟨hw, rfl⟩
        · rw [if_pos hw]
          refine .inl ?_
          unfold Oper.wp
          rw [hrun w he]
          exact hnext
        · rw [if_neg (by rw [hw]; decide)]
          exact hnext
      | some p =>
        rw [hp] at hc
        obtain ⟨hw, hd, hrr⟩ := hc
        rw [if_pos hw]
        refine .inl (wp_of_wpS (hrr w he (hk.dep hd)) fun v w' ⟨he', hv⟩ => ?_)
        exact AnyR.soundI hI hL f _ _ _ w' (he.trans he') ((hk.ext he').cons (by rw [hp]; exact hv)) (hr v (by unfold Res; rw [hp]; exact ⟨w', he.trans he', hk.ext he', hv⟩))
end

def Region.tail2B (ops : Array Oper) (n N : Nat) : Bool :=
  Region.noSelect ops && decide (n < ops.size) && decide (2 ≤ n) && Region.sinkB1 .any ops 2 n && Region.chainB .any ops n && ((Region.ready .any ops (Array.replicate ops.size false)).contains 0 && Region.free .any ops (Array.replicate ops.size false) 0) &&
    ((Region.ready .any ops ((Array.replicate ops.size false).setIfInBounds 0 true)).contains 1 && Region.free .any ops ((Array.replicate ops.size false).setIfInBounds 0 true) 1) &&
    Region.lexHead .any ops (ops.size - n) (n - 2) 2 (((Array.replicate ops.size false).setIfInBounds 0 true).setIfInBounds 1 true) && ssaB ops && dstB ops N

/-- The first two operations yield their values wherever the invariant holds; the operations from number n on go one after another behind all others but these. -/
theorem wp_region_lex_tail2 {P : Program} {id : Nat} {Q : Exit → Act → World → Prop} {a : Act} {w : World} {o0 o1 : Oper} {l : List Oper} (n : Nat) (sps : List (Nat × SPred)) (v0 v1 : Value) (I : World → Prop) (hm : P.follows .mixedOrders = true)
    (hB : Region.tail2B (o0 :: o1 :: l).toArray n a.tmps.size = true) (hsp0 : spOf sps 0 = none) (hsp1 : spOf sps 1 = none) (hI : ∀ w', Ext w.drew w' → I w')
    (hy0 : YieldsI P (o0 :: o1 :: l).toArray I o0 v0 a) (hy1 : YieldsI P (o0 :: o1 :: l).toArray I o1 v1 (a.put o0.dst v0))
    (h : LexW P (o0 :: o1 :: l).toArray w.drew (spOf sps) (fun a' w' => wpListI P (o0 :: o1 :: l).toArray (strictQ Q) I ((o0 :: o1 :: l).drop n) a' w') (((o0 :: o1 :: l).take n).drop 2) 2 ((a.put o0.dst v0).put o1.dst v1) [(1, v1), (0, v0)]) : (Code.region id (o0 :: o1 :: l).toArray true).wp P Q a w := by
  simp only [Region.tail2B, Bool.and_eq_true, decide_eq_true_eq] at hB
  obtain ⟨⟨⟨⟨⟨⟨⟨⟨⟨hsel, hn⟩, hn1⟩, hs⟩, hc⟩, hr0, hf0⟩, hr1, hf1⟩, hlex⟩, hssa⟩, hdst⟩ := hB
  obtain ⟨ops, hops⟩ : ∃ ops, ops = (o0 :: o1 :: l).toArray := ⟨_, rfl⟩
  have h0 : ops[0]? = some o0 := by rw [hops]; simp
  have h1 : ops[1]? = some o1 := by rw [hops]; simp
  rw [← hops] at hn hsel hs hc hr0 hf0 hr1 hf1 hlex hssa hdst hy0 hy1 h ⊢
  have hsize : ops.size = l.length + 2 := by rw [hops]; simp
  obtain ⟨L, hL⟩ : ∃ L, L = o0 :: o1 :: l := ⟨_, rfl⟩
  have hLl : L.length = ops.size := by rw [hL, hsize]; simp
  rw [← hL] at h
  have hget : ∀ j, L[j]? = ops[j]? := fun j => by rw [hL, hops, List.getElem?_toArray]
  have htl : ((L.take n).drop 2).length = n - 2 := by simp; omega
  have hdl : (L.drop n).length = ops.size - n := by simp; omega
  have inv0 : HeadInv .any ops n (Array.replicate ops.size false) := by rw [hops]; exact headInv0 _ n
  have inv1 := inv0.set (by simpa using hr0) (show 0 < n by omega)
  have inv2 := inv1.set (by simpa using hr1) (show 1 < n by omega)
  have linv : LexInv ops a.tmps.size 2 ((a.put o0.dst v0).put o1.dst v1) [(1, v1), (0, v0)] := ((lexInv0 (ops := ops) a.tmps.size a rfl).step h0 hdst v0).step h1 hdst v1
  have hk1 : Known (spOf sps) [(1, v1), (0, v0)] w.drew := fun p hp => by
    simp only [List.mem_cons, List.not_mem_nil, or_false] at hp
    rcases hp with rfl | rfl
    · simp only [hsp1, holdsO]
    · simp only [hsp0, holdsO]
  have hR := LexW.lexR hssa hdst _ 2 _ _ (fun j hj => by
    rw [htl] at hj
    rw [List.getElem?_drop, List.getElem?_take_of_lt (by omega), hget]) linv h
  have H := LexR.any1 (md := .any) (m := 2) (n := n) (B := fun listed => Region.seqB .any ops (ops.size - n) n listed) hsel
    (fun i hi1 hin listed inv hun j hj => by
      rcases Nat.lt_or_ge j n with h | h
      · exact h
      · exact absurd hj (tail_waits1 hs hc hn inv _ i rfl hi1 hin hun j h))
    (fun listed hb => seqB_ready hb)
    (fun f k listed => Region.lexHead .any ops (ops.size - n) f k listed) (fun listed hh => by simpa [Region.lexHead] using hh)
    (fun f k listed hh => by simpa [Region.lexHead] using hh) ((L.take n).drop 2) 2 _ _ [(1, v1), (0, v0)] (Nat.le_refl _) (fun j hj => by
      rw [htl] at hj
      rw [List.getElem?_drop, List.getElem?_take_of_lt (by omega), hget]) (by rw [htl]; omega) inv2 ⟨w.drew, Ext.refl _, hk1⟩ (by rw [htl]; exact hlex) hR
  refine wp_region_any hm ?_
  have S := AnyR.soundI (Q := strictQ Q) (I := I) (g := ops.size - n) hI (fun listed a' w' hL' => by
    have := wpAnyI_of_seq (md := .any) (Q := strictQ Q) (I := I) (L.drop n) n listed a' w' (fun j => by rw [List.getElem?_drop, hget]) (by rw [hdl]; exact hL'.1) hL'.2
    rwa [hdl] at this) _ _ _ _ w.drew (Ext.refl _) hk1 H
  rw [htl, show n - 2 + (ops.size - n) = ops.size - 2 by omega] at S
  have T1 := wpAnyI_first (md := .any) (Q := strictQ Q) (I := I) h1 (Region.noSelect_spec hsel) (fun c a w hq => absurd hq.1 (by simp)) (ops.size - 2) ((Array.replicate ops.size false).setIfInBounds 0 true) (a.put o0.dst v0) w.drew (Region.free_spec h1 hf1) (by simpa using hr1) hy1 S
  rw [show ops.size - 2 + 1 = ops.size - 1 by omega] at T1
  have T0 := wpAnyI_first (md := .any) (Q := strictQ Q) (I := I) h0 (Region.noSelect_spec hsel) (fun c a w hq => absurd hq.1 (by simp)) (ops.size - 1) (Array.replicate ops.size false) a w.drew (Region.free_spec h0 hf0) (by simpa using hr0) hy0 T1
  rw [show ops.size - 1 + 1 = ops.size by omega] at T0
  exact wpAny_strict _ _ _ _ (wpAnyI.plain _ _ _ _ T0)

end Go.Proofs.Ytcocbainookkcaa

/-
  The extension of a space, infinity: contracts.
  No condition.
-/
namespace Go.Proofs.Ytcocbainookkcaa
set_option maxRecDepth 100000
open Go.RowKit

/-- The squares of the extension. -/
def extL (p : Int) (qs : List Int) : List Int := qs ++ [1, p - 1]
theorem extL_len (p : Int) (qs : List Int) : (extL p qs).length = qs.length + 2 := by simp [extL]
theorem extL_isB {p : Int} {qs : List Int} (hp : 3 ≤ p) (h : isB p qs = true) : isB p (extL p qs) = true := by
  unfold isB at h ⊢
  unfold extL
  rw [List.all_append, h]
  simp [inB]; omega
/-- Infinity. -/
def infL (d : Nat) : List Int := List.replicate d 0 ++ [1, 1]

theorem wpListI_appendAll {ops : Array Oper} {rest : List Oper} {o : Oper} {a : Act} {Q : Exit → Act → World → Prop} {I : World → Prop} {w : World} (hI : I w) (hwd : Region.wanted o (yielded ops a.tmps) = true) (s x : Operand)
    (ho : o.op = .call { callee := .builtin .append, args := #[s, x], argTypes := #[24, 24] })
    {B : Nat} {ra : Option Addr} {n cap : Nat} {xs : List Int} {b off m c : Nat} {ys : List Int} (hs : a.eval s = .slice ra n cap) (hx : a.eval x = .slice (some ⟨b, off, none⟩) m c)
    (hown : OwnC B w ra n cap xs) (hy : RdC w (some ⟨b, off, none⟩) m ys) (hm : 0 < m) (hn : n ≤ 4194304) (hml : m ≤ 4194304) (hB : B ≤ w.heap.size)
    (h : ∀ g' cap' w', OwnC B w' (some ⟨g', 0, none⟩) (n + m) cap' (xs ++ ys) → (∀ W : World, W.heap.size ≤ B → Ext W w → Ext W w') →
      wpListI Try.prog ops Q I rest (a.put o.dst (.slice (some ⟨g', 0, none⟩) (n + m) cap')) w') : wpListI Try.prog ops Q I (o :: rest) a w := by
  obtain ⟨g', cap', w', hr, h1, h2, h3⟩ := run_appendAll hown hy hm hn hml hB o.type (c := c)
  refine wpListI.value (v := .slice (some ⟨g', 0, none⟩) (n + m) cap') hI hwd ?_ (h g' cap' w' h1 h3)
  unfold execOp
  simp only [ho, resolve, invoke, builtin, Sem.run_bind, Sem.run_pure, Result.andThen_ok, List.map_toArray, List.map_cons, List.map_nil, hs, hx, hr]

/-- A row of two numbers. -/
def SPred.two (x y : Int) : SPred := ⟨fun v w => ∃ g, v = .slice (some ⟨g, 0, none⟩) 2 2 ∧ w.cell? ⟨g, 0, none⟩ = some (.int .i64 x) ∧ w.cell? ⟨g, 1, none⟩ = some (.int .i64 y), fun _ _ _ ⟨g, hv, h, h'⟩ he => ⟨g, hv, he.cell h, he.cell h'⟩⟩
theorem rdC_two {w : World} {g : Nat} {x y : Int} (h : w.cell? ⟨g, 0, none⟩ = some (.int .i64 x)) (h' : w.cell? ⟨g, 1, none⟩ = some (.int .i64 y)) : RdC w (some ⟨g, 0, none⟩) 2 [x, y] := by
  refine ⟨rfl, fun i hi => ?_⟩
  have : i = 0 ∨ i = 1 := by omega
  rcases this with rfl | rfl
  · exact ⟨g, 0, rfl, h⟩
  · exact ⟨g, 0, rfl, h'⟩
set_option maxHeartbeats 4000000 in
set_option maxRecDepth 100000 in
theorem c_extended (p : Int) (a : Option Addr) (d cap : Nat) (qs : List Int) (w : World) (hd1 : 0 < d) (hd : d ≤ 4194303) (hp1 : 3 ≤ p) (hp2 : p ≤ 1000) (hq : RdC w a d qs) :
    Calls Try.prog 45 #[.agg #[.int .i64 p, .slice a d cap]] w fun e w' => ∃ g rc, e = .returned (.agg #[.int .i64 p, .slice (some ⟨g, 0, none⟩) (d + 2) rc]) ∧ OwnC w.heap.size w' (some ⟨g, 0, none⟩) (d + 2) rc (extL p qs) ∧ Ext w w' := by
  obtain ⟨b, off, rfl, _⟩ := hq.2 0 hd1
  have hw1 : IntKind.i64.wrap (p - 1) = p - 1 := IntWalk.i64_in _ (by omega)
  have HQ := Lib.hid hq
  clear hq
  obtain ⟨W1, hW1⟩ : ∃ W, W = w.alloc (.cells #[.int .i64 p, .slice (some ⟨b, off, none⟩) d cap] 26) := ⟨_, rfl⟩
  obtain ⟨W, hW⟩ : ∃ W, W = W1.alloc (.cells #[.int .i64 0, .slice none 0 0] 26) := ⟨_, rfl⟩
  have gW1 : Ext w W1 := by rw [hW1]; exact ext_alloc _ _
  have gW : Ext W1 W := by rw [hW]; exact ext_alloc _ _
  have hz : W1.heap.size = w.heap.size + 1 := by rw [hW1]; simp
  have hs0 : W1.cell? ⟨w.heap.size, 0, none⟩ = some (.int .i64 p) := by rw [hW1]; simp
  have hs1 : W1.cell? ⟨w.heap.size, 1, none⟩ = some (.slice (some ⟨b, off, none⟩) d cap) := by rw [hW1]; simp
  have hr0 : W.cell? ⟨w.heap.size + 1, 0, none⟩ = some (.int .i64 0) := by rw [hW, ← hz]; simp
  have hr1 : W.cell? ⟨w.heap.size + 1, 1, none⟩ = some (.slice none 0 0) := by rw [hW, ← hz]; simp
  have hf0 : ∀ j, W.frozen? ⟨w.heap.size + 1, j, none⟩ = false := fun j => by rw [hW, ← hz]; simp
  have hlt : w.heap.size + 1 < W.heap.size := by rw [hW, ← hz]; simp
  have HS0 := Lib.hid ((gW.trans (ext_drew _)).cell hs0)
  have HS1 := Lib.hid ((gW.trans (ext_drew _)).cell hs1)
  have HI1 := Lib.hid hs0
  have HR0 := Lib.hid ((ext_drew _).cell hr0)
  have HR1 := Lib.hid ((ext_drew _).cell hr1)
  have HF0 := Lib.hid (show ∀ j, W.drew.frozen? ⟨w.heap.size + 1, j, none⟩ = false from fun j => by rw [(ext_drew W).frz _ _ hlt]; exact hf0 j)
  have GW1 := Lib.hid gW1
  have G1 := Lib.hid (gW.trans (ext_drew W))
  have GW := Lib.hid (gW1.trans (gW.trans (ext_drew W)))
  have HZ := Lib.hid hz
  have HW := Lib.hid hW
  have HW1 := Lib.hid hW1
  have HLt := Lib.hid (show w.heap.size + 1 < W.drew.heap.size from Nat.lt_of_lt_of_le hlt (ext_drew W).size)
  clear hs0 hs1 hr0 hr1 hf0 gW gW1 hz hW hW1 hlt
  go_enter Try.func45, Try.ntmps45
  go_wp2_with (fail)
  rw [← HW1.out, ← HW.out]
  refine wp_region_lex_tail2 9 [(4, .ownS W.drew.heap.size d qs), (8, .two 1 (p - 1))] (.pointer (some ⟨w.heap.size, 0, none⟩)) (.int .i64 p) (fun w' => w'.cell? ⟨w.heap.size, 0, none⟩ = some (.int .i64 p)) (by kernel_rfl) (by kernel_rfl) rfl rfl (fun w' he => he.cell HS0.out) ⟨rfl, fun w' _ => by go_simp⟩ ⟨rfl, fun w' hI => by go_simp⟩ ?_
  simp only [List.take, List.drop]
  simp only [Act.put, List.setIfInBounds_toArray, List.set_cons_zero, List.set_cons_succ]
  (refine LexW.pure (v := ?_) rfl rfl (fun w1 he => ?_) ?_; rotate_left; ( have e1 := he.cell HS0.out; have e2 := he.cell HS1.out; go_simp; rfl); simp only [Act.put, List.setIfInBounds_toArray, List.set_cons_zero, List.set_cons_succ])
  (refine LexW.pure (v := ?_) rfl rfl (fun w1 he => ?_) ?_; rotate_left; ( have e1 := he.cell HS0.out; have e2 := he.cell HS1.out; go_simp; rfl); simp only [Act.put, List.setIfInBounds_toArray, List.set_cons_zero, List.set_cons_succ])
  (refine LexW.callR (f := ?_) (args := ?_) rfl rfl (fun w1 => ?_) (fun w1 he hdep => ?_) (fun v hv => ?_); rotate_left 2; (go_simp; refine ⟨?_, ?_⟩ <;> rfl); ( refine (c_clone b off d cap qs w1 hd1 (by omega) (HQ.out.ext (GW.out.trans he))).mono ?_; rintro e w2 ⟨g2, rc2, rfl, ho, x2⟩; exact ⟨_, rfl, x2, g2, rc2, rfl, ho.mono he.size⟩); simp only [Act.put, List.setIfInBounds_toArray, List.set_cons_zero, List.set_cons_succ])
  obtain ⟨_, g7, c7, rfl, _⟩ := hv
  (refine LexW.pure (v := ?_) rfl rfl (fun w1 he => ?_) ?_; rotate_left; ( have e1 := he.cell HS0.out; have e2 := he.cell HS1.out; go_simp; rfl); simp only [Act.put, List.setIfInBounds_toArray, List.set_cons_zero, List.set_cons_succ])
  (refine LexW.pure (v := ?_) rfl rfl (fun w1 he => ?_) ?_; rotate_left; ( have e1 := he.cell HS0.out; have e2 := he.cell HS1.out; go_simp; rfl); simp only [Act.put, List.setIfInBounds_toArray, List.set_cons_zero, List.set_cons_succ])
  (refine LexW.pure (v := ?_) rfl rfl (fun w1 he => ?_) ?_; rotate_left; ( have e1 := he.cell HS0.out; have e2 := he.cell HS1.out; go_simp; rfl); simp only [Act.put, List.setIfInBounds_toArray, List.set_cons_zero, List.set_cons_succ])
  (refine LexW.rel rfl rfl (fun w1 he hdep => ?_) (fun v hv => ?_); ( exact ⟨.slice (some ⟨w1.heap.size, 0, none⟩) 2 2, w1.alloc (.cells #[.int .i64 1, .int .i64 (p - 1)] 2), (by go_simp), ext_alloc _ _, _, rfl, (by simp), (by simp)⟩); simp only [Act.put, List.setIfInBounds_toArray, List.set_cons_zero, List.set_cons_succ])
  obtain ⟨_, g11, rfl, _⟩ := hv
  refine LexW.nil (fun w3 he hkn => ?_)
  obtain ⟨_, _, q7, r7⟩ : (SPred.ownS W.drew.heap.size d qs).holds (.slice (some ⟨g7, 0, none⟩) d c7) w3 := hkn (4, _) (by simp)
  cases q7
  obtain ⟨_, q11, r11, r11'⟩ : (SPred.two 1 (p - 1)).holds (.slice (some ⟨g11, 0, none⟩) 2 2) w3 := hkn (8, _) (by simp)
  cases q11
  have R7 := Lib.hid r7
  have R11 := Lib.hid (rdC_two r11 r11')
  have X3 := Lib.hid he
  clear he hkn r7 r11 r11'
  refine wpListI_appendAll (X3.out.cell HS0.out) rfl (.tmp 7) (.tmp 11) rfl rfl rfl R7.out R11.out (by omega) (by omega) (by omega) X3.out.size ?_
  intro g4 c4 w4 ho4 he4
  have HO4 := Lib.hid ho4
  have X4 := Lib.hid (he4 W.drew (Nat.le_refl _) X3.out)
  clear ho4 he4
  simp only [Act.put, List.setIfInBounds_toArray, List.set_cons_zero, List.set_cons_succ]
  refine wpListI.value (v := ?_) (w' := w4) (X4.out.cell HS0.out) rfl ?_ ?_
  rotate_left
  · go_simp; rfl
  simp only [Act.put, List.setIfInBounds_toArray, List.set_cons_zero, List.set_cons_succ]
  have hc0 := X4.out.cell HR0.out
  have hc1 := X4.out.cell HR1.out
  have hz0 : w4.frozen? ⟨w.heap.size + 1, 0, none⟩ = false := by rw [X4.out.frz _ _ HLt.out]; exact HF0.out 0
  have hz1 : w4.frozen? ⟨w.heap.size + 1, 1, none⟩ = false := by rw [X4.out.frz _ _ HLt.out]; exact HF0.out 1
  refine wpListI.skip (w' := (w4.setCell ⟨w.heap.size + 1, 0, none⟩ (.int .i64 p)).setCell ⟨w.heap.size + 1, 1, none⟩ (.slice (some ⟨g4, 0, none⟩) (d + 2) c4)) (X4.out.cell HS0.out) rfl ?_ ?_
  · go_simp
  have XE := Lib.hid ((((G1.out.trans X4.out).setCell (p := ⟨w.heap.size + 1, 0, none⟩) (by show W1.heap.size ≤ w.heap.size + 1; rw [HZ.out]; exact Nat.le_refl _) (.int .i64 p))).setCell (p := ⟨w.heap.size + 1, 1, none⟩) (by show W1.heap.size ≤ w.heap.size + 1; rw [HZ.out]; exact Nat.le_refl _) (.slice (some ⟨g4, 0, none⟩) (d + 2) c4))
  refine ⟨XE.out.cell HI1.out, strictQ_normal ?_⟩
  simp only [Act.put]
  go_wp2_with (fail)
  refine bodyPost_ret (v := .agg #[.int .i64 p, .slice (some ⟨g4, 0, none⟩) (d + 2) c4]) (by simp [results, Try.results45, go_sem, hc0, hc1]) rfl ⟨g4, c4, rfl, ?_, GW1.out.trans XE.out⟩
  exact ((HO4.out.other HLt.out _).other HLt.out _).mono GW.out.size

set_option maxHeartbeats 4000000 in
set_option maxRecDepth 100000 in
theorem s_extended (p : Int) (a : Option Addr) (d cap : Nat) (qs : List Int) (w : World) (hd1 : 0 < d) (hd : d ≤ 4194303) (hp1 : 3 ≤ p) (hp2 : p ≤ 1000) (hq : RdC w a d qs) :
    Calls Try.prog 52 #[.agg #[.int .i64 p, .slice a d cap]] w fun e w' => ∃ g rc, e = .returned (.agg #[.int .i64 p, .slice (some ⟨g, 0, none⟩) (d + 2) rc]) ∧ OwnC w.heap.size w' (some ⟨g, 0, none⟩) (d + 2) rc (extL p qs) ∧ Ext w w' := by
  obtain ⟨b, off, rfl, _⟩ := hq.2 0 hd1
  have hw1 : IntKind.i64.wrap (p - 1) = p - 1 := IntWalk.i64_in _ (by omega)
  have HQ := Lib.hid hq
  clear hq
  obtain ⟨W1, hW1⟩ : ∃ W, W = w.alloc (.cells #[.int .i64 p, .slice (some ⟨b, off, none⟩) d cap] 26) := ⟨_, rfl⟩
  obtain ⟨W, hW⟩ : ∃ W, W = W1.alloc (.cells #[.int .i64 0, .slice none 0 0] 26) := ⟨_, rfl⟩
  have gW1 : Ext w W1 := by rw [hW1]; exact ext_alloc _ _
  have gW : Ext W1 W := by rw [hW]; exact ext_alloc _ _
  have hz : W1.heap.size = w.heap.size + 1 := by rw [hW1]; simp
  have hs0 : W1.cell? ⟨w.heap.size, 0, none⟩ = some (.int .i64 p) := by rw [hW1]; simp
  have hs1 : W1.cell? ⟨w.heap.size, 1, none⟩ = some (.slice (some ⟨b, off, none⟩) d cap) := by rw [hW1]; simp
  have hr0 : W.cell? ⟨w.heap.size + 1, 0, none⟩ = some (.int .i64 0) := by rw [hW, ← hz]; simp
  have hr1 : W.cell? ⟨w.heap.size + 1, 1, none⟩ = some (.slice none 0 0) := by rw [hW, ← hz]; simp
  have hf0 : ∀ j, W.frozen? ⟨w.heap.size + 1, j, none⟩ = false := fun j => by rw [hW, ← hz]; simp
  have hlt : w.heap.size + 1 < W.heap.size := by rw [hW, ← hz]; simp
  have HS0 := Lib.hid ((gW.trans (ext_drew _)).cell hs0)
  have HS1 := Lib.hid ((gW.trans (ext_drew _)).cell hs1)
  have HI1 := Lib.hid hs0
  have HR0 := Lib.hid ((ext_drew _).cell hr0)
  have HR1 := Lib.hid ((ext_drew _).cell hr1)
  have HF0 := Lib.hid (show ∀ j, W.drew.frozen? ⟨w.heap.size + 1, j, none⟩ = false from fun j => by rw [(ext_drew W).frz _ _ hlt]; exact hf0 j)
  have GW1 := Lib.hid gW1
  have G1 := Lib.hid (gW.trans (ext_drew W))
  have GW := Lib.hid (gW1.trans (gW.trans (ext_drew W)))
  have HZ := Lib.hid hz
  have HW := Lib.hid hW
  have HW1 := Lib.hid hW1
  have HLt := Lib.hid (show w.heap.size + 1 < W.drew.heap.size from Nat.lt_of_lt_of_le hlt (ext_drew W).size)
  clear hs0 hs1 hr0 hr1 hf0 gW gW1 hz hW hW1 hlt
  go_enter Try.func52, Try.ntmps52
  go_wp2_with (fail)
  rw [← HW1.out, ← HW.out]
  refine wp_region_lex_tail2 9 [(4, .ownS W.drew.heap.size d qs), (8, .two 1 (p - 1))] (.pointer (some ⟨w.heap.size, 0, none⟩)) (.int .i64 p) (fun w' => w'.cell? ⟨w.heap.size, 0, none⟩ = some (.int .i64 p)) (by kernel_rfl) (by kernel_rfl) rfl rfl (fun w' he => he.cell HS0.out) ⟨rfl, fun w' _ => by go_simp⟩ ⟨rfl, fun w' hI => by go_simp⟩ ?_
  simp only [List.take, List.drop]
  simp only [Act.put, List.setIfInBounds_toArray, List.set_cons_zero, List.set_cons_succ]
  (refine LexW.pure (v := ?_) rfl rfl (fun w1 he => ?_) ?_; rotate_left; ( have e1 := he.cell HS0.out; have e2 := he.cell HS1.out; go_simp; rfl); simp only [Act.put, List.setIfInBounds_toArray, List.set_cons_zero, List.set_cons_succ])
  (refine LexW.pure (v := ?_) rfl rfl (fun w1 he => ?_) ?_; rotate_left; ( have e1 := he.cell HS0.out; have e2 := he.cell HS1.out; go_simp; rfl); simp only [Act.put, List.setIfInBounds_toArray, List.set_cons_zero, List.set_cons_succ])
  (refine LexW.callR (f := ?_) (args := ?_) rfl rfl (fun w1 => ?_) (fun w1 he hdep => ?_) (fun v hv => ?_); rotate_left 2; (go_simp; refine ⟨?_, ?_⟩ <;> rfl); ( refine (s_own b off d cap qs w1 hd1 (by omega) (HQ.out.ext (GW.out.trans he))).mono ?_; rintro e w2 ⟨g2, rc2, rfl, ho, x2⟩; exact ⟨_, rfl, x2, g2, rc2, rfl, ho.mono he.size⟩); simp only [Act.put, List.setIfInBounds_toArray, List.set_cons_zero, List.set_cons_succ])
  obtain ⟨_, g7, c7, rfl, _⟩ := hv
  (refine LexW.pure (v := ?_) rfl rfl (fun w1 he => ?_) ?_; rotate_left; ( have e1 := he.cell HS0.out; have e2 := he.cell HS1.out; go_simp; rfl); simp only [Act.put, List.setIfInBounds_toArray, List.set_cons_zero, List.set_cons_succ])
  (refine LexW.pure (v := ?_) rfl rfl (fun w1 he => ?_) ?_; rotate_left; ( have e1 := he.cell HS0.out; have e2 := he.cell HS1.out; go_simp; rfl); simp only [Act.put, List.setIfInBounds_toArray, List.set_cons_zero, List.set_cons_succ])
  (refine LexW.pure (v := ?_) rfl rfl (fun w1 he => ?_) ?_; rotate_left; ( have e1 := he.cell HS0.out; have e2 := he.cell HS1.out; go_simp; rfl); simp only [Act.put, List.setIfInBounds_toArray, List.set_cons_zero, List.set_cons_succ])
  (refine LexW.rel rfl rfl (fun w1 he hdep => ?_) (fun v hv => ?_); ( exact ⟨.slice (some ⟨w1.heap.size, 0, none⟩) 2 2, w1.alloc (.cells #[.int .i64 1, .int .i64 (p - 1)] 2), (by go_simp), ext_alloc _ _, _, rfl, (by simp), (by simp)⟩); simp only [Act.put, List.setIfInBounds_toArray, List.set_cons_zero, List.set_cons_succ])
  obtain ⟨_, g11, rfl, _⟩ := hv
  refine LexW.nil (fun w3 he hkn => ?_)
  obtain ⟨_, _, q7, r7⟩ : (SPred.ownS W.drew.heap.size d qs).holds (.slice (some ⟨g7, 0, none⟩) d c7) w3 := hkn (4, _) (by simp)
  cases q7
  obtain ⟨_, q11, r11, r11'⟩ : (SPred.two 1 (p - 1)).holds (.slice (some ⟨g11, 0, none⟩) 2 2) w3 := hkn (8, _) (by simp)
  cases q11
  have R7 := Lib.hid r7
  have R11 := Lib.hid (rdC_two r11 r11')
  have X3 := Lib.hid he
  clear he hkn r7 r11 r11'
  refine wpListI_appendAll (X3.out.cell HS0.out) rfl (.tmp 7) (.tmp 11) rfl rfl rfl R7.out R11.out (by omega) (by omega) (by omega) X3.out.size ?_
  intro g4 c4 w4 ho4 he4
  have HO4 := Lib.hid ho4
  have X4 := Lib.hid (he4 W.drew (Nat.le_refl _) X3.out)
  clear ho4 he4
  simp only [Act.put, List.setIfInBounds_toArray, List.set_cons_zero, List.set_cons_succ]
  refine wpListI.value (v := ?_) (w' := w4) (X4.out.cell HS0.out) rfl ?_ ?_
  rotate_left
  · go_simp; rfl
  simp only [Act.put, List.setIfInBounds_toArray, List.set_cons_zero, List.set_cons_succ]
  have hc0 := X4.out.cell HR0.out
  have hc1 := X4.out.cell HR1.out
  have hz0 : w4.frozen? ⟨w.heap.size + 1, 0, none⟩ = false := by rw [X4.out.frz _ _ HLt.out]; exact HF0.out 0
  have hz1 : w4.frozen? ⟨w.heap.size + 1, 1, none⟩ = false := by rw [X4.out.frz _ _ HLt.out]; exact HF0.out 1
  refine wpListI.skip (w' := (w4.setCell ⟨w.heap.size + 1, 0, none⟩ (.int .i64 p)).setCell ⟨w.heap.size + 1, 1, none⟩ (.slice (some ⟨g4, 0, none⟩) (d + 2) c4)) (X4.out.cell HS0.out) rfl ?_ ?_
  · go_simp
  have XE := Lib.hid ((((G1.out.trans X4.out).setCell (p := ⟨w.heap.size + 1, 0, none⟩) (by show W1.heap.size ≤ w.heap.size + 1; rw [HZ.out]; exact Nat.le_refl _) (.int .i64 p))).setCell (p := ⟨w.heap.size + 1, 1, none⟩) (by show W1.heap.size ≤ w.heap.size + 1; rw [HZ.out]; exact Nat.le_refl _) (.slice (some ⟨g4, 0, none⟩) (d + 2) c4))
  refine ⟨XE.out.cell HI1.out, strictQ_normal ?_⟩
  simp only [Act.put]
  go_wp2_with (fail)
  refine bodyPost_ret (v := .agg #[.int .i64 p, .slice (some ⟨g4, 0, none⟩) (d + 2) c4]) (by simp [results, Try.results52, go_sem, hc0, hc1]) rfl ⟨g4, c4, rfl, ?_, GW1.out.trans XE.out⟩
  exact ((HO4.out.other HLt.out _).other HLt.out _).mono GW.out.size

set_option maxHeartbeats 1000000 in
theorem c_infinity (p : Int) (a : Option Addr) (d cap : Nat) (w : World) (hd : d ≤ 4194303) :
    Calls Try.prog 72 #[.agg #[.int .i64 p, .slice a d cap]] w fun e w' => ∃ g rc, e = .returned (.slice (some ⟨g, 0, none⟩) (d + 2) rc) ∧ OwnC w.heap.size w' (some ⟨g, 0, none⟩) (d + 2) rc (infL d) ∧ Ext w w' := by
  go_enter Try.func72, Try.ntmps72
  go_wp2_with (go_at_call 50; refine (c_dim _ _ _ _ _).mono ?_; rintro e w1 ⟨rfl, g1⟩)
  obtain ⟨w2, hmk, ho, he⟩ := make_ints w1 d (by omega)
  have HO := Lib.hid ho
  have HE := Lib.hid ((ext_alloc _ _).trans (g1.trans he))
  have hz := g1.size'
  simp only [World.size_alloc] at hz
  clear ho he g1
  rw [hmk]
  go_wp2_with (at_builtin; refine wpList_appendAll rfl (.tmp 5) (.tmp 6) rfl rfl rfl (HO.out.ext (ext_alloc _ _)) (rdC_two (x := 1) (y := 1) (by simp) (by simp)) (by omega) (by omega) (by omega) ?hB ?hk)
  case hB => have := (HO.out.base_of _ rfl).2; simp; omega
  case hk =>
    intro g4 c4 w4 ho4 hg4 he4
    have HO4 := Lib.hid ho4
    have X4 := Lib.hid (he4 w (by omega) (HE.out.alloc _))
    clear ho4 hg4 he4
    go_wp2_with (fail)
    go_ret
    exact ⟨g4, c4, rfl, HO4.out.mono (by omega), X4.out⟩
set_option maxHeartbeats 1000000 in
theorem s_infinity (p : Int) (a : Option Addr) (d cap : Nat) (w : World) (hd : d ≤ 4194303) :
    Calls Try.prog 101 #[.agg #[.int .i64 p, .slice a d cap]] w fun e w' => ∃ g rc, e = .returned (.slice (some ⟨g, 0, none⟩) (d + 2) rc) ∧ OwnC w.heap.size w' (some ⟨g, 0, none⟩) (d + 2) rc (infL d) ∧ Ext w w' := by
  obtain ⟨W, hW⟩ : ∃ W, W = w.alloc (.cells #[.int .i64 p, .slice a d cap] 26) := ⟨_, rfl⟩
  obtain ⟨w2, hmk, ho, he⟩ := make_ints W d (by omega)
  have gW : Ext w W := by rw [hW]; exact ext_alloc _ _
  have HO := Lib.hid ho
  have HE := Lib.hid (gW.trans he)
  have hz := gW.size'
  have hs1 : W.cell? ⟨w.heap.size, 1, none⟩ = some (.slice a d cap) := by rw [hW]; simp
  have HW := Lib.hid hW
  clear ho he gW hW
  go_enter Try.func101, Try.ntmps101
  go_wp2_with (fail)
  rw [← HW.out, hmk]
  go_wp2_with (at_builtin; refine wpList_appendAll rfl (.tmp 6) (.tmp 7) rfl rfl rfl (HO.out.ext (ext_alloc _ _)) (rdC_two (x := 1) (y := 1) (by simp) (by simp)) (by omega) (by omega) (by omega) ?hB ?hk)
  case hB => have := (HO.out.base_of _ rfl).2; simp; omega
  case hk =>
    intro g4 c4 w4 ho4 hg4 he4
    have HO4 := Lib.hid ho4
    have X4 := Lib.hid (he4 w (by omega) (HE.out.alloc _))
    clear ho4 hg4 he4
    go_wp2_with (fail)
    go_ret
    exact ⟨g4, c4, rfl, HO4.out.mono (by omega), X4.out⟩
end Go.Proofs.Ytcocbainookkcaa
