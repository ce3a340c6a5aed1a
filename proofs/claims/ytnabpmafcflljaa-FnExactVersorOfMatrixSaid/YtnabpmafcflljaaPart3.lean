/-
  Contracts and plain laws, part 3: Kill, Rank, DetP, Vec, Own, RowsC, Reverse, Undual, Vecs, CodesV.
  No condition.
-/
import Derived.Test.YtnabpmafcflljaaPart2
import Derived.Test.YtnabpmafcflljaaPart0
import Derived.Test.YtnabpmafcflljaaPart1
/-
  Reduced bases have the same solutions; solutions of linear systems; in plain numbers.
  No condition. No program in sight.
-/
namespace Go.Proofs.Ytnabpmafcflljaa
set_option maxRecDepth 100000
open Go.RowKit

def dotN (m : Nat) (x z : List Int) : Int := sumN m fun t => nth x t * nth z t
theorem dot_plus {p k : Int} {m : Nat} {x y z : List Int} : dotN m (plusL p x y k m) z % p = (dotN m x z + k * dotN m y z) % p := by
  unfold dotN
  rw [← sumN_mul, ← sumN_add]
  refine sumN_emod fun t ht => ?_
  rw [plusL_nth ht, plusN]
  have : (nth x t + k * nth y t) * nth z t = nth x t * nth z t + k * (nth y t * nth z t) := by rw [Int.add_mul, Int.mul_assoc]
  rw [← this]
  exact mul_emod_congr (Int.emod_emod _ _) rfl
theorem dot_scale {p k : Int} {m : Nat} {x z : List Int} : dotN m (scaleL p x k m) z % p = (k * dotN m x z) % p := by
  unfold dotN
  rw [← sumN_mul]
  refine sumN_emod fun t ht => ?_
  rw [scaleL_nth ht, scaleN]
  have : nth x t * k * nth z t = k * (nth x t * nth z t) := by ac_rfl
  rw [← this]
  exact mul_emod_congr (Int.emod_emod _ _) rfl

/-- The product with each row is 0. -/
def Kill (p : Int) (m : Nat) (rows : List (List Int)) (z : List Int) : Prop := ∀ i, i < rows.length → dotN m (nthR rows i) z % p = 0

theorem kill_up {p : Int} {m d k i : Nat} {rows : List (List Int)} {z : List Int} (hp : primeB p = true) (hk : k < m) (hg : RowsG p m rows) (hd : d < rows.length) (hi : i < rows.length) (hne : nth (nthR rows i) k ≠ 0) :
    Kill p m (upG p m rows d k i) z ↔ Kill p m rows z := by
  have hpb := prime_bd hp
  have hb := (hg i hi).2 k hk
  have hinv := (inv_spec hp (show 0 < nth (nthR rows i) k by omega) hb.2).2.1
  unfold Kill
  rw [upG_len]
  constructor
  · intro h j hj
    by_cases hji : j = i
    · subst hji
      have := h d hd
      rw [upG_nth hd hi, if_pos rfl, dot_scale] at this
      have e : (nth (nthR rows j) k * (invN p (nth (nthR rows j) k) * dotN m (nthR rows j) z)) % p = 0 := by
        rw [Int.mul_emod, this]; simp
      rw [← Int.mul_assoc, Int.mul_emod, hinv] at e
      rwa [Int.one_mul, Int.emod_emod] at e
    · by_cases hjd : j = d
      · subst hjd
        have := h i hi
        rwa [upG_nth hd hi, if_neg (Ne.symm hji), if_pos rfl] at this
      · have := h j hj
        rwa [upG_nth hd hi, if_neg hjd, if_neg hji] at this
  · intro h j hj
    rw [upG_nth hd hi]
    split
    · rw [dot_scale, Int.mul_emod, h i hi]; simp
    · split
      · exact h d hd
      · exact h j hj
theorem kill_clr {p : Int} {m d k : Nat} {rows : List (List Int)} {z : List Int} (hd : d < rows.length) :
    Kill p m (clrS p k m d rows rows.length) z ↔ Kill p m rows z := by
  unfold Kill
  rw [clrS_len]
  have hD : nthR (clrS p k m d rows rows.length) d = nthR rows d := by rw [clrS_nth _ (Nat.le_refl _), if_neg (by omega)]
  constructor
  · intro h j hj
    have h1 := h j hj
    have h2 := h d hd
    rw [hD] at h2
    rw [clrS_nth _ (Nat.le_refl _)] at h1
    split at h1
    · rw [dot_plus, Int.add_emod, Int.mul_emod, h2] at h1
      simpa using h1
    · exact h1
  · intro h j hj
    rw [clrS_nth _ (Nat.le_refl _)]
    split
    · rw [dot_plus, Int.add_emod, h j hj, Int.mul_emod, h d hd]; simp
    · exact h j hj
theorem kill_gauss {p : Int} {m : Nat} {rows : List (List Int)} {z : List Int} (hp : primeB p = true) (hg : RowsG p m rows) : ∀ k, k ≤ m → (Kill p m (gaussS p m rows k).1 z ↔ Kill p m rows z)
  | 0, _ => Iff.rfl
  | k + 1, hk => by
    obtain ⟨h1, c, h2⟩ := gaussS_red hp hg k (by omega)
    obtain ⟨p1, p2, p3, p4⟩ := pivG_spec (gaussS p m rows k).1 k (gaussS p m rows k).2 h2.dle
    rw [← kill_gauss hp hg k (by omega)]
    show Kill p m (stepG p m (gaussS p m rows k) k).1 z ↔ _
    by_cases hn : pivG (gaussS p m rows k).1 k (gaussS p m rows k).2 = (gaussS p m rows k).1.length
    · rw [stepG_no hn]
    · have hi : pivG (gaussS p m rows k).1 k (gaussS p m rows k).2 < (gaussS p m rows k).1.length := by omega
      have hd : (gaussS p m rows k).2 < (gaussS p m rows k).1.length := by omega
      rw [stepG_yes rfl hi, ← kill_up hp (show k < m by omega) h1 hd hi (by rcases p4 with h | h; omega; exact h)]
      have := kill_clr (p := p) (m := m) (k := k) (rows := upG p m (gaussS p m rows k).1 (gaussS p m rows k).2 k (pivG (gaussS p m rows k).1 k (gaussS p m rows k).2)) (z := z) (d := (gaussS p m rows k).2) (by rw [upG_len]; exact hd)
      rw [upG_len] at this
      exact this
/-- The reduced basis has the same solutions. -/
theorem kill_basis {p : Int} {m : Nat} {rows : List (List Int)} {z : List Int} (hp : primeB p = true) (hg : RowsG p m rows) : Kill p m (basisL p m rows) z ↔ Kill p m rows z := by
  rw [← kill_gauss hp hg m (Nat.le_refl _)]
  obtain ⟨h1, c, h2⟩ := gaussS_red hp hg m (Nat.le_refl _)
  have hl : (basisL p m rows).length = (gaussS p m rows m).2 := by unfold basisL; rw [List.length_take, Nat.min_eq_left h2.dle]
  unfold Kill
  constructor
  · intro h i hi
    by_cases hid : i < (gaussS p m rows m).2
    · have := h i (by omega)
      unfold basisL at this
      rwa [nthR_take hid] at this
    · unfold dotN
      rw [sumN_zero fun t ht => by rw [h2.rest i (by omega) hi t ht, Int.zero_mul]]; simp
  · intro h i hi
    have := h i (by have := h2.dle; omega)
    unfold basisL
    rwa [nthR_take (by omega)]

/-! ### Linear systems -/
theorem nth_len {x : List Int} {n : Nat} {v : Int} (h : x.length = n) : nth (x ++ [v]) n = v := by subst h; exact nth_append_len
theorem dot_snoc {n : Nat} {x y : List Int} {v : Int} (hx : x.length = n) (hy : y.length = n) : dotN (n + 1) (x ++ [v]) (y ++ [-1]) = dotN n x y - v := by
  unfold dotN
  simp only [sumN]
  rw [nth_len hx, nth_len hy, sumN_congr (g := fun t => nth x t * nth y t) fun t ht => by rw [nth_append_left (by omega), nth_append_left (by omega)]]
  omega
/-- y solves the system: the product with row i is number i of v. -/
def Solves (p : Int) (n : Nat) (rows : List (List Int)) (v y : List Int) : Prop := ∀ i, i < rows.length → dotN n (nthR rows i) y % p = nth v i % p
theorem sub_zero_iff {p a b : Int} : (a - b) % p = 0 ↔ a % p = b % p := Int.emod_eq_emod_iff_emod_sub_eq_zero.symm
theorem solves_kill {p : Int} {n : Nat} {rows : List (List Int)} {v y : List Int} (hg : RowsG p n rows) (hy : y.length = n) : Solves p n rows v y ↔ Kill p (n + 1) (wideL rows v rows.length) (y ++ [-1]) := by
  unfold Solves Kill
  rw [wideL_len]
  have e : ∀ i, i < rows.length → nthR (wideL rows v rows.length) i = nthR rows i ++ [nth v i] := fun i hi => by
    unfold wideL; rw [nthR_map (by simpa using hi)]; simp
  constructor
  · intro h i hi
    rw [e i hi, dot_snoc (hg i hi).1 hy]
    exact sub_zero_iff.2 (h i hi)
  · intro h i hi
    have := h i hi
    rw [e i hi, dot_snoc (hg i hi).1 hy] at this
    exact sub_zero_iff.1 this
theorem okS_iff {p : Int} {m n : Nat} {red : List (List Int)} {c : Nat → Nat} (h : Basis p m red c) : okS n red = true ↔ ∀ i, i < red.length → c i ≠ n := by
  unfold okS
  rw [Option.isNone_iff_eq_none]
  constructor
  · intro hn i hi hc
    exact pivIx_none hn i hi (by rw [h.leadN hi, hc])
  · intro hc
    cases hp : pivIx red n with
    | none => rfl
    | some i =>
      obtain ⟨hi, hl⟩ := pivIx_some hp
      rw [h.leadN hi] at hl
      exact absurd hl (hc i hi)
theorem solL_len {n : Nat} {red : List (List Int)} : (solL n red).length = n := by simp [solL]
theorem sol_kill {p : Int} {n : Nat} {red : List (List Int)} {c : Nat → Nat} (h : Basis p (n + 1) red c) (hok : okS n red = true) : Kill p (n + 1) red (solL n red ++ [-1]) := by
  intro i hi
  have hc := (okS_iff h).1 hok
  have e : dotN (n + 1) (nthR red i) (solL n red ++ [-1]) = dotN n (nthR red i) (solL n red) - nth (nthR red i) n := by
    unfold dotN
    simp only [sumN]
    rw [nth_len solL_len, sumN_congr (g := fun t => nth (nthR red i) t * nth (solL n red) t) fun t ht => by rw [nth_append_left (by rw [solL_len]; exact ht)]]
    omega
  rw [e]
  have hci : c i < n := by have := h.clt i hi; have := hc i hi; omega
  have : dotN n (nthR red i) (solL n red) = nth (nthR red i) n := by
    unfold dotN
    have sn : ∀ t, t < n → nth (solL n red) t = solN n red t := fun t ht => by unfold solL; rw [nth_map (by simpa using ht)]; simp
    rw [sumN_single hci fun t ht hne => by
      rw [sn t ht]
      unfold solN
      cases hp : pivIx red t with
      | none => simp
      | some j =>
        obtain ⟨hj, hl⟩ := pivIx_some hp
        rw [h.leadN hj] at hl
        subst hl
        rw [h.one j hj i hi, if_neg (fun e => hne (by rw [e]))]; simp]
    rw [h.one i hi i hi, if_pos rfl, sn _ hci, Int.one_mul]
    unfold solN
    rw [h.piv hi]
  rw [this]; simp
theorem sol_spec {p : Int} {n : Nat} {rows : List (List Int)} {v : List Int} (hp : primeB p = true) (hg : RowsG p n rows) (hv : Good p rows.length v) (hok : okS n (basisL p (n + 1) (wideL rows v rows.length)) = true) :
    Solves p n rows v (solL n (basisL p (n + 1) (wideL rows v rows.length))) := by
  have hw := wideL_good hg hv (Nat.le_refl _)
  obtain ⟨c, hb⟩ := basis_red hp hw
  rw [solves_kill hg solL_len, ← kill_basis hp hw]
  exact sol_kill hb hok
theorem sol_exists {p : Int} {n : Nat} {rows : List (List Int)} {v y : List Int} (hp : primeB p = true) (hg : RowsG p n rows) (hv : Good p rows.length v) (hy : y.length = n) (h : Solves p n rows v y) :
    okS n (basisL p (n + 1) (wideL rows v rows.length)) = true := by
  have hpb := prime_bd hp
  have hw := wideL_good hg hv (Nat.le_refl _)
  obtain ⟨c, hb⟩ := basis_red hp hw
  rw [solves_kill hg hy, ← kill_basis hp hw] at h
  rw [okS_iff hb]
  intro i hi hc
  have hk := h i hi
  unfold dotN at hk
  rw [sumN_single (k := n) (by omega) fun t ht hne => by rw [hb.lead i hi t (by omega), Int.zero_mul]] at hk
  have h1 := hb.one i hi i hi
  rw [hc, if_pos rfl] at h1
  rw [h1, nth_len hy] at hk
  have hq : p = 3 ∨ p = 5 ∨ p = 7 ∨ p = 11 ∨ p = 13 := by simp [primeB] at hp; omega
  rcases hq with rfl | rfl | rfl | rfl | rfl <;> simp at hk

/-! ### The dove-cote -/
theorem dove : ∀ (M : Nat) (f : Nat → Nat), (∀ k, k ≤ M → f k < M) → ∃ i j, i < j ∧ j ≤ M ∧ f i = f j
  | 0, f, h => absurd (h 0 (Nat.le_refl _)) (Nat.not_lt_zero _)
  | M + 1, f, h => by
    by_cases hx : ∃ j, j < M + 1 ∧ f j = f (M + 1)
    · obtain ⟨j, hj, he⟩ := hx
      exact ⟨j, M + 1, hj, Nat.le_refl _, he⟩
    · have hx' : ∀ j, j < M + 1 → f j ≠ f (M + 1) := fun j hj he => hx ⟨j, hj, he⟩
      obtain ⟨i, j, hij, hj, he⟩ := dove M (fun k => if f k = M then f (M + 1) else f k) fun k hk => by
        have h1 := h k (by omega)
        have h2 := h (M + 1) (Nat.le_refl _)
        have h3 := hx' k (by omega)
        show (if f k = M then f (M + 1) else f k) < M
        split <;> omega
      refine ⟨i, j, hij, by omega, ?_⟩
      have he : (if f i = M then f (M + 1) else f i) = (if f j = M then f (M + 1) else f j) := he
      have h3 := hx' i (by omega)
      have h4 := hx' j (by omega)
      split at he <;> split at he
      · omega
      · exact absurd he.symm h4
      · exact absurd he h3
      · exact he
def encL (q : Nat) : List Int → Nat
  | [] => 0
  | x :: xs => x.toNat + q * encL q xs
theorem encL_lt {p : Int} {q : Nat} (hq : p = q) : ∀ (n : Nat) (x : List Int), Good p n x → encL q x < q ^ n
  | 0, x, h => by
    have : x = [] := List.length_eq_zero_iff.1 h.1
    subst this; exact Nat.one_pos
  | n + 1, [], h => by have := h.1; simp at this
  | n + 1, x :: xs, h => by
    have hx := h.2 0 (by omega)
    have hxs : Good p n xs := ⟨by have := h.1; simpa using this, fun i hi => by have := h.2 (i + 1) (by omega); simpa [nth] using this⟩
    have ih := encL_lt hq n xs hxs
    have h0 : nth (x :: xs) 0 = x := by simp [nth]
    rw [h0] at hx
    show x.toNat + q * encL q xs < q ^ (n + 1)
    rw [Nat.pow_succ, Nat.mul_comm (q ^ n)]
    have : q * (encL q xs + 1) ≤ q * q ^ n := Nat.mul_le_mul_left _ ih
    rw [Nat.mul_add, Nat.mul_one] at this
    omega
theorem encL_inj {p : Int} {q : Nat} (hq : p = q) : ∀ (n : Nat) (x y : List Int), Good p n x → Good p n y → encL q x = encL q y → x = y
  | 0, x, y, h, h', _ => by rw [List.length_eq_zero_iff.1 h.1, List.length_eq_zero_iff.1 h'.1]
  | n + 1, [], _, h, _, _ => by have := h.1; simp at this
  | n + 1, _ :: _, [], _, h, _ => by have := h.1; simp at this
  | n + 1, x :: xs, y :: ys, h, h', he => by
    have hx := h.2 0 (by omega)
    have hy := h'.2 0 (by omega)
    have g : ∀ z zs, Good p (n + 1) (z :: zs) → Good p n zs := fun z zs h => ⟨by have := h.1; simpa using this, fun i hi => by have := h.2 (i + 1) (by omega); simpa [nth] using this⟩
    have h0 : ∀ z zs, nth (z :: zs) 0 = z := fun z zs => by simp [nth]
    rw [h0] at hx hy
    have he' : x.toNat + q * encL q xs = y.toNat + q * encL q ys := he
    have hxl : x.toNat < q := by omega
    have hyl : y.toNat < q := by omega
    have e1 : x.toNat = y.toNat := by
      have := congrArg (· % q) he'
      simp only [Nat.add_mul_mod_self_left] at this
      rwa [Nat.mod_eq_of_lt hxl, Nat.mod_eq_of_lt hyl] at this
    have e2 : encL q xs = encL q ys := by
      have : q * encL q xs = q * encL q ys := by omega
      exact Nat.eq_of_mul_eq_mul_left (by omega) this
    rw [encL_inj hq n xs ys (g _ _ h) (g _ _ h') e2, show x = y by omega]

/-- A right inverse is a left inverse. -/
theorem inv_both {p : Int} {qs x y : List Int} (hp : 3 ≤ p) (hd : qs.length ≤ 6) (_hx : Good p (2 ^ qs.length) x) (hy : Good p (2 ^ qs.length) y) (h : prodL p qs tkA x y = bladeL (2 ^ qs.length) 0) : prodL p qs tkA y x = bladeL (2 ^ qs.length) 0 := by
  have hq : p = (p.toNat : Int) := by omega
  obtain ⟨i, j, hij, _, he⟩ := dove (p.toNat ^ 2 ^ qs.length) (fun k => encL p.toNat (powL p qs x k)) fun k _ => encL_lt hq _ _ (pow_good hp k)
  have he' : powL p qs x i = powL p qs x j := encL_inj hq _ _ _ (pow_good hp i) (pow_good hp j) he
  -- x^i y^i = 1
  have cancel : ∀ i, prodL p qs tkA (powL p qs x i) (powL p qs y i) = bladeL (2 ^ qs.length) 0 := fun i => by
    induction i with
    | zero => exact times_one (by omega) (blade_good hp)
    | succ i ih =>
      have e : powL p qs y (i + 1) = prodL p qs tkA y (powL p qs y i) := by
        rw [Nat.add_comm, ← pow_add hp hd 1 i, pow_one hp hy]
      show prodL p qs tkA (prodL p qs tkA (powL p qs x i) x) (powL p qs y (i + 1)) = _
      rw [e, prod_assoc (by omega) hd, ← prod_assoc (x := x) (by omega) hd, h, one_times hp (pow_good hp i), ih]
  have hn : powL p qs x (j - i) = bladeL (2 ^ qs.length) 0 := by
    have h1 := cancel i
    rw [he', show j = (j - i) + i by omega, ← pow_add hp hd, prod_assoc (by omega) hd, cancel i, times_one (by omega) (pow_good hp _)] at h1
    exact h1
  obtain ⟨k, hk⟩ : ∃ k, j - i = k + 1 := ⟨j - i - 1, by omega⟩
  rw [hk] at hn
  -- y = x^k
  have hyk : y = powL p qs x k := by
    have : prodL p qs tkA (powL p qs x (k + 1)) y = y := by rw [hn]; exact one_times hp hy
    rw [← this]
    show prodL p qs tkA (prodL p qs tkA (powL p qs x k) x) y = _
    rw [prod_assoc (by omega) hd, h, times_one (by omega) (pow_good hp k)]
  rw [hyk]; exact hn

end Go.Proofs.Ytnabpmafcflljaa

/-
  The rank of the first columns; a column that no combination of the earlier ones makes raises it.
  No condition. No program in sight.
-/
namespace Go.Proofs.Ytnabpmafcflljaa
set_option maxRecDepth 100000
open Go.RowKit

def truncL (m : Nat) (rows : List (List Int)) : List (List Int) := rows.map fun r => r.take m
theorem truncL_len {m : Nat} {rows : List (List Int)} : (truncL m rows).length = rows.length := by simp [truncL]
theorem truncL_nth {m i : Nat} {rows : List (List Int)} : nthR (truncL m rows) i = (nthR rows i).take m := by
  by_cases hi : i < rows.length
  · unfold truncL; rw [nthR_map hi, nthR_eq hi]
  · have h1 : nthR (truncL m rows) i = [] := by simp [nthR, truncL, List.getElem?_eq_none (Nat.le_of_not_lt hi)]
    have h2 : nthR rows i = [] := by simp [nthR, List.getElem?_eq_none (Nat.le_of_not_lt hi)]
    rw [h1, h2, List.take_nil]
theorem nth_take {m t : Nat} {x : List Int} (ht : t < m) : nth (x.take m) t = nth x t := by
  simp [nth, List.getElem?_take_of_lt ht]
theorem plus_take {p k : Int} {m m' : Nat} {x y : List Int} (h : m' ≤ m) : (plusL p x y k m).take m' = plusL p (x.take m') (y.take m') k m' := by
  refine ext_nth (by rw [List.length_take, plusL_len, plusL_len, Nat.min_eq_left h]) fun i hi => ?_
  rw [List.length_take, plusL_len, Nat.min_eq_left h] at hi
  rw [nth_take hi, plusL_nth (by omega), plusL_nth hi, plusN, plusN, nth_take hi, nth_take hi]
theorem scale_take {p k : Int} {m m' : Nat} {x : List Int} (h : m' ≤ m) : (scaleL p x k m).take m' = scaleL p (x.take m') k m' := by
  refine ext_nth (by rw [List.length_take, scaleL_len, scaleL_len, Nat.min_eq_left h]) fun i hi => ?_
  rw [List.length_take, scaleL_len, Nat.min_eq_left h] at hi
  rw [nth_take hi, scaleL_nth (by omega), scaleL_nth hi, scaleN, scaleN, nth_take hi]
theorem piv_trunc {m k d : Nat} {rows : List (List Int)} (hk : k < m) (hd : d ≤ rows.length) : pivG (truncL m rows) k d = pivG rows k d := by
  obtain ⟨h1, h2, h3, h4⟩ := pivG_spec rows k d hd
  refine pivG_eq h1 (by rw [truncL_len]; exact h2) (fun j hj hj2 => by rw [truncL_nth, nth_take hk]; exact h3 j hj hj2) ?_
  rcases h4 with h4 | h4
  · left; rw [truncL_len]; exact h4
  · right; rw [truncL_nth, nth_take hk]; exact h4
theorem step_trunc {p : Int} {m m' d k : Nat} {rows : List (List Int)} (h : m' ≤ m) (hk : k < m') (hd : d ≤ rows.length) :
    stepG p m' (truncL m' rows, d) k = (truncL m' (stepG p m (rows, d) k).1, (stepG p m (rows, d) k).2) := by
  have hp := piv_trunc (m := m') (k := k) (d := d) (rows := rows) hk hd
  obtain ⟨p1, p2, _, _⟩ := pivG_spec rows k d hd
  by_cases hn : pivG rows k d = rows.length
  · rw [stepG_no (s := (rows, d)) hn, stepG_no (s := (truncL m' rows, d)) (by rw [hp, truncL_len]; exact hn)]
  · obtain ⟨i, hi⟩ : ∃ i, i = pivG rows k d := ⟨_, rfl⟩
    rw [← hi] at hp p1 p2 hn
    have hil : i < rows.length := by omega
    have hdl : d < rows.length := by omega
    rw [stepG_yes (s := (rows, d)) hi.symm hil, stepG_yes (s := (truncL m' rows, d)) hp (by rw [truncL_len]; exact hil)]
    refine Prod.ext ?_ rfl
    show clrS p k m' d (upG p m' (truncL m' rows) d k i) (truncL m' rows).length = truncL m' (clrS p k m d (upG p m rows d k i) rows.length)
    have hu : ∀ j, nthR (upG p m' (truncL m' rows) d k i) j = (nthR (upG p m rows d k i) j).take m' := fun j => by
      rw [upG_nth (by rw [truncL_len]; exact hdl) (by rw [truncL_len]; exact hil), upG_nth hdl hil, truncL_nth, truncL_nth, truncL_nth, nth_take hk]
      split
      · rw [scale_take h]
      · split <;> rfl
    refine ext_rows (by rw [clrS_len, upG_len, truncL_len, truncL_len, clrS_len, upG_len]) fun j hj => ?_
    rw [clrS_len, upG_len, truncL_len] at hj
    rw [truncL_nth, truncL_len, clrS_nth _ (by rw [upG_len, truncL_len]; exact Nat.le_refl _), clrS_nth _ (by rw [upG_len]; exact Nat.le_refl _), hu, hu, nth_take hk]
    split
    · rw [plus_take h]
    · rfl
theorem gauss_trunc {p : Int} {m m' : Nat} {rows : List (List Int)} (hp : primeB p = true) (hg : RowsG p m rows) (h : m' ≤ m) : ∀ j, j ≤ m' → gaussS p m' (truncL m' rows) j = (truncL m' (gaussS p m rows j).1, (gaussS p m rows j).2)
  | 0, _ => rfl
  | j + 1, hj => by
    show stepG p m' (gaussS p m' (truncL m' rows) j) j = (truncL m' (stepG p m (gaussS p m rows j) j).1, (stepG p m (gaussS p m rows j) j).2)
    rw [gauss_trunc hp hg h j (by omega)]
    obtain ⟨_, c, hr⟩ := gaussS_red hp hg j (by omega)
    exact step_trunc h (by omega) hr.dle
def rankL (p : Int) (m : Nat) (rows : List (List Int)) : Nat := (gaussS p m rows m).2
theorem rank_le {p : Int} {m : Nat} {rows : List (List Int)} (hp : primeB p = true) (hg : RowsG p m rows) : rankL p m rows ≤ rows.length := (gauss_rank hp hg).1
/-- A further column that has no combination raises the rank. -/
theorem rank_up {p : Int} {m : Nat} {rows : List (List Int)} (hp : primeB p = true) (hg : RowsG p (m + 1) rows) (h : okS m (basisL p (m + 1) rows) = false) : rankL p (m + 1) rows = rankL p m (truncL m rows) + 1 := by
  have ht := gauss_trunc hp hg (Nat.le_succ m) m (Nat.le_refl _)
  have hr : rankL p m (truncL m rows) = (gaussS p (m + 1) rows m).2 := by unfold rankL; rw [ht]
  rw [hr]
  obtain ⟨h1, c, h2⟩ := gaussS_red hp hg m (by omega)
  obtain ⟨p1, p2, _, _⟩ := pivG_spec (gaussS p (m + 1) rows m).1 m (gaussS p (m + 1) rows m).2 h2.dle
  by_cases hn : pivG (gaussS p (m + 1) rows m).1 m (gaussS p (m + 1) rows m).2 = (gaussS p (m + 1) rows m).1.length
  · exfalso
    have e : gaussS p (m + 1) rows (m + 1) = gaussS p (m + 1) rows m := stepG_no hn
    -- no pivot in the last column: all first numbers stand ahead of it
    have hl : (basisL p (m + 1) rows).length = (gaussS p (m + 1) rows m).2 := by unfold basisL; rw [e, List.length_take, Nat.min_eq_left h2.dle]
    have hnn : ∀ i, i < (gaussS p (m + 1) rows m).2 → nthR (basisL p (m + 1) rows) i = nthR (gaussS p (m + 1) rows m).1 i := fun i hi => by unfold basisL; rw [e]; exact nthR_take hi
    have hd := h2.dle
    have ok : okS m (basisL p (m + 1) rows) = true := by
      unfold okS
      rw [Option.isNone_iff_eq_none]
      cases hp' : pivIx (basisL p (m + 1) rows) m with
      | none => rfl
      | some i =>
        obtain ⟨hi, hle⟩ := pivIx_some hp'
        have hi2 : i < (gaussS p (m + 1) rows m).2 := by omega
        have hc := h2.clt i hi2
        have hgl := (h1 i (by omega)).1
        have : leadN (nthR (basisL p (m + 1) rows) i) = c i := by
          rw [hnn i hi2]
          refine leadN_eq (by omega) (h2.lead i hi2) (.inr ?_)
          rw [h2.one i hi2 i (by omega), if_pos rfl]; omega
        omega
    rw [h] at ok; cases ok
  · unfold rankL
    show (stepG p (m + 1) (gaussS p (m + 1) rows m) m).2 = _
    rw [stepG_yes rfl (by omega)]
theorem trunc_wide {p : Int} {m n : Nat} {rows : List (List Int)} {u : List Int} (hg : RowsG p m rows) (hn : rows.length = n) : truncL m (wideL rows u n) = rows := by
  refine ext_rows (by rw [truncL_len, wideL_len, hn]) fun i hi => ?_
  rw [truncL_len, wideL_len] at hi
  rw [truncL_nth]
  have e : nthR (wideL rows u n) i = nthR rows i ++ [nth u i] := by unfold wideL; rw [nthR_map (by simpa using hi)]; simp
  rw [e, List.take_append_of_le_length (by rw [(hg i (by omega)).1]; exact Nat.le_refl _), List.take_of_length_le (by rw [(hg i (by omega)).1]; exact Nat.le_refl _)]

end Go.Proofs.Ytnabpmafcflljaa

/-
  The determinant by elimination, plain: it is not 0 exactly if the rows have full rank; rows of lesser rank lead a vector to 0.
  No condition.
-/
namespace Go.Proofs.Ytnabpmafcflljaa
set_option maxRecDepth 100000
open Go.RowKit

/-- Row k is taken, so often as needed, from all rows behind it. -/
def elimN (p : Int) (m k : Nat) (rows : List (List Int)) (r : Nat) : List Int := if k < r then plusL p (nthR rows r) (nthR rows k) (-(nth (nthR rows r) k) * invN p (nth (nthR rows k) k)) m else nthR rows r
def elimS (p : Int) (m k : Nat) (rows : List (List Int)) : Nat → List (List Int)
  | 0 => rows
  | r + 1 => if k < r then (elimS p m k rows r).set r (elimN p m k rows r) else elimS p m k rows r
theorem elimS_len {p : Int} {m k : Nat} {rows : List (List Int)} : ∀ r, (elimS p m k rows r).length = rows.length
  | 0 => rfl
  | r + 1 => by rw [elimS]; split <;> simp [elimS_len r]
theorem elimS_nth {p : Int} {m k : Nat} {rows : List (List Int)} : ∀ r, r ≤ rows.length → ∀ j, nthR (elimS p m k rows r) j = if j < r then elimN p m k rows j else nthR rows j
  | 0, _, j => by simp [elimS]
  | r + 1, h, j => by
    have ih := elimS_nth (p := p) (m := m) (k := k) (rows := rows) r (by omega) j
    rw [elimS]
    by_cases hk : k < r
    · rw [if_pos hk, nthR_set (by rw [elimS_len]; omega)]
      by_cases hj : r = j
      · subst hj; rw [if_pos rfl, if_pos (by omega)]
      · rw [if_neg hj, ih]
        by_cases hjr : j < r
        · rw [if_pos hjr, if_pos (by omega)]
        · rw [if_neg hjr, if_neg (by omega)]
    · rw [if_neg hk, ih]
      by_cases hjr : j < r
      · rw [if_pos hjr, if_pos (by omega)]
      · rw [if_neg hjr]
        by_cases hj : j < r + 1
        · rw [if_pos hj]; unfold elimN; rw [if_neg (by omega)]
        · rw [if_neg hj]
def elimL (p : Int) (m k : Nat) (rows : List (List Int)) : List (List Int) := elimS p m k rows rows.length
theorem elimL_len {p : Int} {m k : Nat} {rows : List (List Int)} : (elimL p m k rows).length = rows.length := elimS_len _
theorem elimL_nth {p : Int} {m k : Nat} {rows : List (List Int)} {j : Nat} (hj : j < rows.length) : nthR (elimL p m k rows) j = elimN p m k rows j := by
  unfold elimL; rw [elimS_nth _ (Nat.le_refl _), if_pos hj]
theorem elimL_good {p : Int} {m k : Nat} {rows : List (List Int)} (hp : 1 ≤ p) (h : RowsG p m rows) : RowsG p m (elimL p m k rows) := fun i hi => by
  rw [elimL_len] at hi
  rw [elimL_nth hi]
  unfold elimN
  split
  · exact plus_good hp
  · exact h i hi

/-- The rows and the factor when k columns are done; nothing, when a column had no number other than 0. -/
def detS (p : Int) (m : Nat) (rows : List (List Int)) : Nat → Option (List (List Int) × Int)
  | 0 => some (rows, 1)
  | k + 1 => match detS p m rows k with
    | none => none
    | some (r, o) => if pivG r k k = r.length then none
      else some (elimL p m k (swapL r k (pivG r k k)), ((if pivG r k k = k then o else (-o) % p) * nth (nthR r (pivG r k k)) k) % p)
def detL (p : Int) (m : Nat) (rows : List (List Int)) : Int := match detS p m rows rows.length with | none => 0 | some (_, o) => o

theorem detS_good {p : Int} {m : Nat} {rows : List (List Int)} (hp : 1 ≤ p) (hg : RowsG p m rows) : ∀ k, k ≤ rows.length → ∀ r o, detS p m rows k = some (r, o) → RowsG p m r ∧ r.length = rows.length
  | 0, _, r, o, h => by
    simp only [detS, Option.some.injEq, Prod.mk.injEq] at h
    obtain ⟨rfl, _⟩ := h
    exact ⟨hg, rfl⟩
  | k + 1, hk, r, o, h => by
    rw [detS] at h
    cases hd : detS p m rows k with
    | none => rw [hd] at h; cases h
    | some ro =>
      obtain ⟨r1, o1⟩ := ro
      rw [hd] at h
      simp only at h
      obtain ⟨h1, h2⟩ := detS_good hp hg k (by omega) r1 o1 hd
      split at h
      · cases h
      · rename_i hne
        simp only [Option.some.injEq, Prod.mk.injEq] at h
        obtain ⟨rfl, _⟩ := h
        have hpv := pivG_spec r1 k k (by omega)
        exact ⟨elimL_good hp (swapL_good h1 (by omega) (by omega)), by rw [elimL_len, swapL_len, h2]⟩

theorem pivG_congr {r s : List (List Int)} {k : Nat} (hl : r.length = s.length) (h : ∀ j, k ≤ j → nthR r j = nthR s j) (hk : k ≤ r.length) : pivG r k k = pivG s k k := by
  obtain ⟨h1, h2, h3, h4⟩ := pivG_spec s k k (by omega)
  refine pivG_eq h1 (by omega) (fun j hj hj2 => by rw [h j hj]; exact h3 j hj hj2) ?_
  rcases h4 with h4 | h4
  · exact .inl (by omega)
  · exact .inr (by rw [h _ h1]; exact h4)
theorem plus_scale {p c k : Int} {m : Nat} {x y : List Int} (_hp : 1 ≤ p) : plusL p x (scaleL p y c m) k m = plusL p x y (k * c) m := by
  refine ext_nth (by rw [plusL_len, plusL_len]) fun t ht => ?_
  rw [plusL_len] at ht
  rw [plusL_nth ht, plusL_nth ht, plusN, plusN, scaleL_nth ht, scaleN]
  rw [Int.add_emod, Int.mul_emod, Int.emod_emod, ← Int.mul_emod, ← Int.add_emod]
  congr 2
  rw [Int.mul_comm (nth y t), Int.mul_assoc]

/-- The elimination of the determinant and that of the reduced basis find the same numbers. -/
theorem det_gauss {p : Int} {m : Nat} {rows : List (List Int)} (hp : primeB p = true) (hg : RowsG p m rows) (hm : rows.length ≤ m) : ∀ k, k ≤ rows.length →
    (∀ r o, detS p m rows k = some (r, o) → (gaussS p m rows k).2 = k ∧ (∀ j, k ≤ j → nthR (gaussS p m rows k).1 j = nthR r j) ∧ 0 < o ∧ o < p) ∧ (detS p m rows k = none → (gaussS p m rows k).2 < k)
  | 0, _ => by
    have hpb := prime_bd hp
    refine ⟨fun r o h => ?_, fun h => by simp [detS] at h⟩
    simp only [detS, Option.some.injEq, Prod.mk.injEq] at h
    obtain ⟨rfl, rfl⟩ := h
    exact ⟨rfl, fun j _ => rfl, by omega, by omega⟩
  | k + 1, hk => by
    have hpb := prime_bd hp
    obtain ⟨ih1, ih2⟩ := det_gauss hp hg hm k (by omega)
    have hle : (gaussS p m rows (k + 1)).2 ≤ (gaussS p m rows k).2 + 1 := by
      rw [gaussS, stepG]; split <;> simp
    have hgl := gaussS_len (p := p) (m := m) (rows := rows) k
    obtain ⟨hgg, c, hred⟩ := gaussS_red hp hg k (by omega)
    cases hd : detS p m rows k with
    | none =>
      have := ih2 hd
      refine ⟨fun r o h => ?_, fun _ => by omega⟩
      rw [detS, hd] at h; cases h
    | some ro =>
      obtain ⟨r1, o1⟩ := ro
      obtain ⟨e1, e2, e3, e4⟩ := ih1 r1 o1 hd
      obtain ⟨g1, g2⟩ := detS_good (by omega) hg k (by omega) r1 o1 hd
      have hpiv : pivG (gaussS p m rows k).1 k k = pivG r1 k k := pivG_congr (by omega) e2 (by omega)
      obtain ⟨h1, h2, h3, h4⟩ := pivG_spec r1 k k (by omega)
      by_cases hno : pivG r1 k k = r1.length
      · have hst : gaussS p m rows (k + 1) = gaussS p m rows k := by
          rw [gaussS]
          exact stepG_no (by rw [e1, hpiv, hno]; omega)
        refine ⟨fun r o h => ?_, fun _ => by rw [hst]; omega⟩
        rw [detS, hd] at h
        simp only [hno, if_true] at h
        cases h
      · have hne : nth (nthR r1 (pivG r1 k k)) k ≠ 0 := by
          rcases h4 with h4 | h4
          · exact absurd h4 hno
          · exact h4
        have hil : pivG r1 k k < r1.length := by omega
        have hst := stepG_yes (p := p) (m := m) (s := gaussS p m rows k) (k := k) (i := pivG r1 k k) (by rw [e1]; exact hpiv) (by omega)
        rw [e1] at hst
        refine ⟨fun r o h => ?_, fun h => ?_⟩
        · rw [detS, hd] at h
          simp only [hno, if_false, Option.some.injEq, Prod.mk.injEq] at h
          obtain ⟨rfl, rfl⟩ := h
          have hpb1 := (g1 _ hil).2 k (by omega)
          refine ⟨by rw [gaussS, hst], fun j hj => ?_, ?_⟩
          · rw [gaussS, hst]
            simp only
            by_cases hjl : j < r1.length
            · rw [clrS_nth _ (by rw [upG_len]; omega), if_pos ⟨by omega, by omega⟩, elimL_nth (by rw [swapL_len]; exact hjl)]
              unfold elimN
              rw [if_pos (by omega), upG_nth (by omega) (by omega), upG_nth (by omega) (by omega), if_neg (by omega), if_pos rfl, plus_scale (by omega)]
              rw [swapL_nth (by omega) hil, swapL_nth (by omega) hil]
              have ek : nthR (gaussS p m rows k).1 k = nthR r1 k := e2 k (Nat.le_refl _)
              have ei : nthR (gaussS p m rows k).1 (pivG r1 k k) = nthR r1 (pivG r1 k k) := e2 _ h1
              have ej : nthR (gaussS p m rows k).1 j = nthR r1 j := e2 j (by omega)
              rw [ek, ei, ej]
              have hkk : (if k = pivG r1 k k then nthR r1 k else if k = k then nthR r1 (pivG r1 k k) else nthR r1 k) = nthR r1 (pivG r1 k k) := by
                by_cases hki : k = pivG r1 k k
                · rw [if_pos hki, ← hki]
                · rw [if_neg hki, if_pos rfl]
              rw [hkk]
              have hjj : (if j = pivG r1 k k then nthR r1 k else if j = k then nthR r1 (pivG r1 k k) else nthR r1 j) = (if j = pivG r1 k k then nthR r1 k else nthR r1 j) := by
                by_cases hji : j = pivG r1 k k
                · rw [if_pos hji, if_pos hji]
                · rw [if_neg hji, if_neg hji, if_neg (by omega)]
              rw [hjj]
            · rw [show nthR (elimL p m k (swapL r1 k (pivG r1 k k))) j = [] by unfold nthR; rw [List.getD_eq_getElem?_getD, List.getElem?_eq_none (by rw [elimL_len, swapL_len]; omega)]; rfl]
              unfold nthR
              rw [List.getD_eq_getElem?_getD, List.getElem?_eq_none (by rw [clrS_len, upG_len]; omega)]; rfl
          · have ho : 0 ≤ (if pivG r1 k k = k then o1 else (-o1) % p) ∧ (if pivG r1 k k = k then o1 else (-o1) % p) < p ∧ (if pivG r1 k k = k then o1 else (-o1) % p) ≠ 0 := by
              split
              · omega
              · refine ⟨Int.emod_nonneg _ (by omega), Int.emod_lt_of_pos _ (by omega), fun hz => ?_⟩
                rw [show -o1 = (p - o1) + p * (-1) by omega, Int.add_mul_emod_self_left, Int.emod_eq_of_lt (by omega) (by omega)] at hz
                omega
            have hz := mul_zero_of hp ho.1 ho.2.1 hpb1.1 hpb1.2
            have hn0 : (if pivG r1 k k = k then o1 else (-o1) % p) * nth (nthR r1 (pivG r1 k k)) k % p ≠ 0 := fun h => by
              rcases hz.1 h with h | h
              · exact ho.2.2 h
              · exact hne h
            have := Int.emod_nonneg ((if pivG r1 k k = k then o1 else (-o1) % p) * nth (nthR r1 (pivG r1 k k)) k) (show p ≠ 0 by omega)
            exact ⟨by omega, Int.emod_lt_of_pos _ (by omega)⟩
        · rw [detS, hd] at h
          simp only [hno, if_false] at h
          cases h
/-- The determinant is not 0 exactly if the rank is full. -/
theorem det_rank {p : Int} {m : Nat} {rows : List (List Int)} (hp : primeB p = true) (hg : RowsG p m rows) (hm : rows.length = m) : detL p m rows ≠ 0 ↔ rankL p m rows = m := by
  obtain ⟨h1, h2⟩ := det_gauss hp hg (by omega) rows.length (Nat.le_refl _)
  unfold detL rankL
  cases hd : detS p m rows rows.length with
  | none =>
    have := h2 hd
    rw [hm] at this
    simp only [ne_eq, not_true, false_iff]
    omega
  | some ro =>
    obtain ⟨r, o⟩ := ro
    obtain ⟨e1, _, e3, _⟩ := h1 r o hd
    rw [hm] at e1
    simp only [e1, iff_true]
    omega
theorem det_bd {p : Int} {m : Nat} {rows : List (List Int)} (hp : primeB p = true) (hg : RowsG p m rows) (hm : rows.length ≤ m) : 0 ≤ detL p m rows ∧ detL p m rows < p := by
  have hpb := prime_bd hp
  obtain ⟨h1, _⟩ := det_gauss hp hg hm rows.length (Nat.le_refl _)
  unfold detL
  cases hd : detS p m rows rows.length with
  | none => exact ⟨Int.le_refl _, by show (0 : Int) < p; omega⟩
  | some ro =>
    obtain ⟨r, o⟩ := ro
    have := h1 r o hd
    exact ⟨by show 0 ≤ o; omega, this.2.2.2⟩

/-! ### Kernels -/
theorem kerV_kill {p : Int} {n : Nat} {red : List (List Int)} {c : Nat → Nat} (_hp : 3 ≤ p) (h : Basis p n red c) {f : Nat} (hf : f < n) (hno : pivIx red f = none) : Kill p n red (kerV p n red f) := fun i hi => by
  have hfc : f ≠ c i := fun e => by rw [e, h.piv hi] at hno; cases hno
  have e : ∀ t, t < n → (nth (nthR red i) t * nth (kerV p n red f) t) % p = ((if t = f then nth (nthR red i) f else 0) + (if t = c i then -(nth (nthR red i) f) else 0)) % p := fun t ht => by
    rw [kerV_nth ht]
    unfold kerN
    by_cases htf : t = f
    · subst htf
      rw [if_pos rfl, if_pos rfl, if_neg hfc, Int.mul_one, Int.add_zero]
    · rw [if_neg htf, if_neg htf]
      cases hpv : pivIx red t with
      | none =>
        have htc : t ≠ c i := fun e => by rw [e, h.piv hi] at hpv; cases hpv
        rw [if_neg htc]; simp
      | some j =>
        obtain ⟨hj, hlj⟩ := pivIx_some hpv
        rw [h.leadN hj] at hlj
        subst hlj
        simp only
        rw [h.one j hj i hi]
        by_cases hij : i = j
        · subst hij
          rw [if_pos rfl, if_pos rfl, Int.one_mul, Int.emod_emod, Int.zero_add]
        · rw [if_neg hij, if_neg (fun e => hij (h.inj hi hj e.symm)), Int.zero_mul, Int.zero_add]
  unfold dotN
  rw [sumN_emod e, sumN_add, sumN_single (k := f) hf (fun t _ hne => if_neg hne), sumN_single (k := c i) (h.clt i hi) (fun t _ hne => if_neg hne), if_pos rfl, if_pos rfl]
  simp [Int.add_right_neg]
theorem ker_exists {p : Int} {n : Nat} {rows : List (List Int)} (hp : primeB p = true) (hg : RowsG p n rows) (hr : rankL p n rows < n) : ∃ z f, Good p n z ∧ Kill p n rows z ∧ f < n ∧ nth z f = 1 := by
  have hpb := prime_bd hp
  obtain ⟨c, hb⟩ := basis_red (m := n) hp hg
  have hl : (basisL p n rows).length = rankL p n rows := by
    unfold basisL rankL
    rw [List.length_take, Nat.min_eq_left]
    rw [gaussS_len]
    exact (gauss_rank hp hg).1
  have : ∃ f, f < n ∧ pivIx (basisL p n rows) f = none := Decidable.byContradiction fun hno => by
    have hall : ∀ t, t < n → ∃ j, pivIx (basisL p n rows) t = some j := fun t ht => by
      cases hpv : pivIx (basisL p n rows) t with
      | none => exact absurd ⟨t, ht, hpv⟩ hno
      | some j => exact ⟨j, rfl⟩
    obtain ⟨i, j, hij, hj, he⟩ := dove (rankL p n rows) (fun t => (pivIx (basisL p n rows) t).getD 0) (fun t ht => by
      obtain ⟨j, hj⟩ := hall t (by omega)
      rw [hj]
      have := (pivIx_some hj).1
      simp only [Option.getD_some]; omega)
    obtain ⟨a, ha⟩ := hall i (by omega)
    obtain ⟨b, hb'⟩ := hall j (by omega)
    rw [ha, hb'] at he
    simp only [Option.getD_some] at he
    have h1 := (pivIx_some ha).2
    have h2 := (pivIx_some hb').2
    rw [he] at h1
    omega
  obtain ⟨f, hf, hno⟩ := this
  refine ⟨_, f, kerV_good (f := f) (red := basisL p n rows) (by omega), (kill_basis hp hg).1 (kerV_kill (by omega) hb hf hno), hf, ?_⟩
  rw [kerV_nth hf, kerN, if_pos rfl]
/-- Rows of full rank have solutions for every right side. -/
theorem rank_ok {p : Int} {n : Nat} {rows : List (List Int)} {v : List Int} (hp : primeB p = true) (hg : RowsG p n rows) (hn : rows.length = n) (hv : Good p n v) (hr : rankL p n rows = n) : okS n (basisL p (n + 1) (wideL rows v n)) = true := by
  cases h : okS n (basisL p (n + 1) (wideL rows v n)) with
  | true => rfl
  | false =>
    have hw : RowsG p (n + 1) (wideL rows v n) := wideL_good hg hv (by omega)
    have h1 := rank_up (m := n) hp hw h
    rw [trunc_wide hg hn, hr] at h1
    have h2 := rank_le (m := n + 1) hp hw
    rw [wideL_len] at h2
    omega
end Go.Proofs.Ytnabpmafcflljaa

/-
  Vectors as multivectors; the codes of spaces and vectors.
  No condition.
-/
namespace Go.Proofs.Ytnabpmafcflljaa
set_option maxRecDepth 100000
open Go.RowKit

def vecS (N : Nat) (v : List Int) : Nat → List Int
  | 0 => List.replicate N 0
  | k + 1 => (vecS N v k).set (2 ^ k) (nth v k)
def vecL (N : Nat) (v : List Int) : List Int := vecS N v v.length
theorem vecS_good {p : Int} {N n : Nat} {v : List Int} (hp : 1 ≤ p) (hv : Good p n v) : ∀ k, k ≤ n → Good p N (vecS N v k)
  | 0, _ => good_zero hp
  | k + 1, hk => good_set (vecS_good hp hv k (by omega)) (hv.2 k (by omega)).1 (hv.2 k (by omega)).2
theorem vec_good {p : Int} {N n : Nat} {v : List Int} (hp : 1 ≤ p) (hv : Good p n v) : Good p N (vecL N v) := vecS_good hp hv _ (by rw [hv.1]; exact Nat.le_refl _)

set_option maxHeartbeats 1000000 in
theorem c_vector {N d : Nat} (hN : N = 2 ^ d) (p : Int) (a : Option Addr) (cap : Nat) (av : Option Addr) (cv : Nat) (v : List Int) (w : World) (hd : d ≤ 6) (hv : RdC w av d v) :
    Calls Try.prog 111 #[.agg #[.int .i64 p, .slice a d cap], .slice av d cv] w fun e w' => ∃ g, e = .returned (.slice (some ⟨g, 0, none⟩) N N) ∧ OwnC w.heap.size w' (some ⟨g, 0, none⟩) N N (vecL N v) ∧ Ext w w' := by
  have HN := Lib.hid hN
  have HV := Lib.hid hv
  have HL := Lib.hid (show vecL N v = vecS N v d by unfold vecL; rw [hv.1])
  clear hN hv
  obtain ⟨W, hW⟩ : ∃ W, W = w.alloc (.cells #[.int .i64 p, .slice a d cap] 30) := ⟨_, rfl⟩
  have gW : Ext w W := by rw [hW]; exact ext_alloc _ _
  have hs0 : W.cell? ⟨w.heap.size, 0, none⟩ = some (.int .i64 p) := by rw [hW]; simp
  have hs1 : W.cell? ⟨w.heap.size, 1, none⟩ = some (.slice a d cap) := by rw [hW]; simp
  have HS0 := Lib.hid (hs0)
  have HS1 := Lib.hid (hs1)
  have GW := Lib.hid (gW)
  have HW := Lib.hid hW
  clear hs0 hs1 gW hW
  go_enter Try.func111, Try.ntmps111
  go_wp2_with (fail)
  rw [← HW.out]
  refine (c_nothingN HN.out p a cap W hd).mono ?_
  rintro e w1 ⟨g, rfl, ho, g1⟩
  have HO := Lib.hid ho
  have G1 := Lib.hid g1
  have hg := ho.base_le
  clear ho g1
  go_wp2_with (fail)
  go_loopw [12] (fun i wr => ∃ k : Nat, k ≤ d ∧ i = .int .i64 k ∧ OwnC W.heap.size wr (some ⟨g, 0, none⟩) N N (vecS N v k) ∧ Ext W wr) (fun i _ => d - (intOf i).toNat)
  case atStart => exact ⟨0, Nat.zero_le _, rfl, HO.out, G1.out⟩
  case round =>
    obtain ⟨k, hk, rfl, hown, hext⟩ := hrel
    have HOwn := Lib.hid hown
    have HExt := Lib.hid hext
    clear hown hext
    by_cases hlt : k < d
    · obtain ⟨b, off, rfl, hc⟩ := HV.out.2 k hlt
      have hc' := (GW.out.trans HExt.out).cell hc
      have hpi : IntKind.i64.wrap (2 ^ k) = ((2 ^ k : Nat) : Int) := pow_wrapI (by omega)
      have hpw : wrap64 (2 ^ k) = ((2 ^ k : Nat) : Int) := pow_wrap (by omega)
      have hMN : 2 ^ k < N := by rw [HN.out]; exact Nat.pow_lt_pow_right (by omega) hlt
      obtain ⟨M, hM⟩ : ∃ M, M = 2 ^ k := ⟨_, rfl⟩
      rw [← hM] at hpi hpw hMN
      have HM := Lib.hid hM
      have ec := HOwn.out.cell hMN
      have ef := HOwn.out.frozen M
      clear hc hM
      go_wp2_with (fail)
      go_roundw
      case rel => exact ⟨k + 1, by omega, by go_num, by unfold vecS; rw [← HM.out]; exact HOwn.out.store hMN _, HExt.out.setCell hg.1 _⟩
      case measure => simp [intOf]; omega
    · go_wp2_with (fail)
      go_ret
      obtain rfl : k = d := by omega
      exact ⟨g, rfl, by rw [HL.out]; exact HOwn.out.mono GW.out.size, GW.out.trans HExt.out⟩
set_option maxHeartbeats 1000000 in
theorem s_vector {N d : Nat} (hN : N = 2 ^ d) (p : Int) (a : Option Addr) (cap : Nat) (av : Option Addr) (cv : Nat) (v : List Int) (w : World) (hd : d ≤ 6) (hv : RdC w av d v) :
    Calls Try.prog 105 #[.agg #[.int .i64 p, .slice a d cap], .slice av d cv] w fun e w' => ∃ g, e = .returned (.slice (some ⟨g, 0, none⟩) N N) ∧ OwnC w.heap.size w' (some ⟨g, 0, none⟩) N N (vecL N v) ∧ Ext w w' := by
  have HN := Lib.hid hN
  have HV := Lib.hid hv
  have HL := Lib.hid (show vecL N v = vecS N v d by unfold vecL; rw [hv.1])
  clear hN hv
  obtain ⟨W, hW⟩ : ∃ W, W = w.alloc (.cells #[.int .i64 p, .slice a d cap] 30) := ⟨_, rfl⟩
  have gW : Ext w W := by rw [hW]; exact ext_alloc _ _
  have hs0 : W.cell? ⟨w.heap.size, 0, none⟩ = some (.int .i64 p) := by rw [hW]; simp
  have hs1 : W.cell? ⟨w.heap.size, 1, none⟩ = some (.slice a d cap) := by rw [hW]; simp
  have HS0 := Lib.hid (hs0)
  have HS1 := Lib.hid (hs1)
  have GW := Lib.hid (gW)
  have HW := Lib.hid hW
  clear hs0 hs1 gW hW
  go_enter Try.func105, Try.ntmps105
  go_wp2_with (fail)
  rw [← HW.out]
  refine (s_zeroN HN.out p a cap W hd).mono ?_
  rintro e w1 ⟨g, rfl, ho, g1⟩
  have HO := Lib.hid ho
  have G1 := Lib.hid g1
  have hg := ho.base_le
  clear ho g1
  go_wp2_with (fail)
  go_loopw [6] (fun i wr => ∃ k : Nat, k ≤ d ∧ i = .int .i64 k ∧ OwnC W.heap.size wr (some ⟨g, 0, none⟩) N N (vecS N v k) ∧ Ext W wr) (fun i _ => d - (intOf i).toNat)
  case atStart => exact ⟨0, Nat.zero_le _, rfl, HO.out, G1.out⟩
  case round =>
    obtain ⟨k, hk, rfl, hown, hext⟩ := hrel
    have HOwn := Lib.hid hown
    have HExt := Lib.hid hext
    clear hown hext
    by_cases hlt : k < d
    · obtain ⟨b, off, rfl, hc⟩ := HV.out.2 k hlt
      have hc' := (GW.out.trans HExt.out).cell hc
      have hpi : IntKind.i64.wrap (2 ^ k) = ((2 ^ k : Nat) : Int) := pow_wrapI (by omega)
      have hpw : wrap64 (2 ^ k) = ((2 ^ k : Nat) : Int) := pow_wrap (by omega)
      have hcv := conv_u k (by omega)
      have hMN : 2 ^ k < N := by rw [HN.out]; exact Nat.pow_lt_pow_right (by omega) hlt
      obtain ⟨M, hM⟩ : ∃ M, M = 2 ^ k := ⟨_, rfl⟩
      rw [← hM] at hpi hpw hMN
      have HM := Lib.hid hM
      have ec := HOwn.out.cell hMN
      have ef := HOwn.out.frozen M
      clear hc hM
      go_wp2_with (fail)
      go_roundw
      case rel => exact ⟨k + 1, by omega, by go_num, by unfold vecS; rw [← HM.out]; exact HOwn.out.store hMN _, HExt.out.setCell hg.1 _⟩
      case measure => simp [intOf]; omega
    · go_wp2_with (fail)
      go_ret
      obtain rfl : k = d := by omega
      exact ⟨g, rfl, by rw [HL.out]; exact HOwn.out.mono GW.out.size, GW.out.trans HExt.out⟩

/-! ### Codes of spaces and vectors -/
def vecB (p : Int) (d : Nat) (v : List Int) : Bool := decide (v.length = d) && isB p v
def codeV (p : Int) (qs : List Int) (rows : List (List Int)) : Int := if spaceB p qs then (if rows.all (vecB p qs.length) then 0 else 2) else 1
theorem vec_of {p : Int} {d : Nat} {v : List Int} (h : vecB p d v = true) : v.length = d ∧ isB p v = true := by
  simpa [vecB] using h
set_option maxHeartbeats 400000 in
theorem c_isVector (p : Int) (a : Option Addr) (d cap : Nat) (ax : Option Addr) (n cx : Nat) (xs : List Int) (w : World) (hp1 : 1 ≤ p) (hp2 : p ≤ 1000) (hl : n ≤ 4194304) (hx : RdC w ax n xs) :
    Calls Try.prog 148 #[.agg #[.int .i64 p, .slice a d cap], .slice ax n cx] w fun e w' => e = .returned (.bool (vecB p d xs)) ∧ Ext w w' := by
  by_cases hc : n = d
  · have HF := Lib.hid (show vecB p d xs = isB p xs by simp [vecB, hx.1, hc])
    have hcb : ((n : Int) == (d : Int)) = true := by simp [hc]
    clear hc
    go_enter Try.func148, Try.ntmps148
    go_wp2_with (first | (go_at_call 49; refine (c_dim _ _ _ _ _).mono ?_; rintro e w1 ⟨rfl, h1⟩; have hcc := Ext.cells h1) | (go_at_call 45; refine (c_field _ _ _).mono ?_; rintro e w2 ⟨rfl, h2⟩; have hcc2 := Ext.cells (h1.trans h2)) | (go_at_call 123; refine (c_is _ _ _ _ _ _ hp1 hp2 hl (hx.ext ((ext_alloc _ _).trans (h1.trans h2)))).mono ?_; rintro e w3 ⟨rfl, h3⟩))
    go_ret
    exact ⟨ret_bool HF.out.symm, (ext_alloc _ _).trans (h1.trans (h2.trans h3))⟩
  · have HF := Lib.hid (show vecB p d xs = false by simp [vecB, hx.1, hc])
    have hcb : ((n : Int) == (d : Int)) = false := by simp; omega
    go_enter Try.func148, Try.ntmps148
    go_wp2_with (first | (go_at_call 49; refine (c_dim _ _ _ _ _).mono ?_; rintro e w1 ⟨rfl, h1⟩; have hcc := Ext.cells h1))
    go_ret
    exact ⟨ret_bool HF.out.symm, (ext_alloc _ _).trans h1⟩

set_option maxHeartbeats 400000 in
theorem c_checkVectors1 (p : Int) (a : Option Addr) (d cap : Nat) (ax : Option Addr) (n cx : Nat) (xs : List Int) (q : Nat) (w : World) (hp1 : 1 ≤ p) (hp2 : p ≤ 1000) (hl : n ≤ 4194304) (hx : RdC w ax n xs)
    (hq0 : w.cell? ⟨q, 0, none⟩ = some (.int .i64 p)) (hq1 : w.cell? ⟨q, 1, none⟩ = some (.slice a d cap)) :
    Calls Try.prog 147 #[.slice ax n cx, .pointer (some ⟨q, 0, none⟩)] w fun e w' => e = .returned (.bool (!vecB p d xs)) ∧ Ext w w' := by
  go_enter Try.func147, Try.ntmps147
  go_wp2_with (go_at_call 148; refine (c_isVector _ _ _ _ _ _ _ _ _ hp1 hp2 hl hx).mono ?_; rintro e w1 ⟨rfl, h1⟩)
  go_ret
  exact ⟨rfl, h1⟩

theorem any_rowsV (p : Int) (d n : Nat) (rows : List (List Int)) (hn : rows.length = n) : (List.range n).any (fun i => !vecB p d (nthR rows i)) = !rows.all (vecB p d) := by
  subst hn
  rw [← any_not_all]
  rw [Bool.eq_iff_iff]
  simp only [List.any_eq_true, List.mem_range]
  constructor
  · rintro ⟨i, hi, h⟩
    exact ⟨i, hi, by rw [List.getElem?_eq_getElem hi]; rw [nthR_eq hi] at h; exact h⟩
  · rintro ⟨i, hi, h⟩
    exact ⟨i, hi, by rw [List.getElem?_eq_getElem hi] at h; rw [nthR_eq hi]; exact h⟩

set_option maxHeartbeats 400000 in
theorem c_checkVectors (p : Int) (a : Option Addr) (d cap : Nat) (qs : List Int) (al : Option Addr) (n cl : Nat) (rows : List (List Int)) (w : World) (hd : d ≤ 4194304) (hl : n ≤ 4194304) (hr : ∀ i, i < n → (nthR rows i).length ≤ 4194304)
    (hq : RdC w a d qs) (hx : RdR w al n rows) :
    Calls Try.prog 117 #[.agg #[.int .i64 p, .slice a d cap], .slice al n cl] w fun e w' => e = .returned (.int .i64 (codeV p qs rows)) ∧ Ext w w' := by
  cases hs : spaceB p qs
  · have HS := Lib.hid hs
    have HC := Lib.hid (show codeV p qs rows = 1 by simp [codeV, hs])
    clear hs
    go_enter Try.func117, Try.ntmps117
    go_wp2_with (go_at_call 82; refine (c_isSpace _ _ _ _ _ _ hd (hq.ext (ext_alloc _ _))).mono ?_; rintro e w1 ⟨rfl, h1⟩; rw [HS.out])
    go_ret
    exact ⟨ret_int HC.out.symm, (ext_alloc _ _).trans h1⟩
  · obtain ⟨hp, hd1, hd6, _⟩ := space_of hs
    have hpb := prime_bd hp
    have hdq := hq.1
    have HS := Lib.hid hs
    have HC := Lib.hid (show codeV p qs rows = if rows.all (vecB p d) then 0 else 2 by simp [codeV, hs, hdq])
    have HA := Lib.hid (any_rowsV p d n rows hx.1)
    clear hs hp hdq hd1 hd6
    obtain ⟨ai, ci, hR, hrow⟩ := hx.choose
    have HR := Lib.hid hR
    have HRow := Lib.hid hrow
    clear hR hrow
    cases ha : rows.all (vecB p d)
    all_goals
      have HAl := Lib.hid ha
      clear ha
      go_enter Try.func117, Try.ntmps117
      go_wp2_with (first | (go_at_call 82; refine (c_isSpace _ _ _ _ _ _ hd (hq.ext (ext_alloc _ _))).mono ?_; rintro e w1 ⟨rfl, h1⟩; rw [HS.out]; have hcc := Ext.cells h1) | (go_at_call 146; refine (c_containsFunc al n cl 147 #[.pointer (some ⟨w.heap.size, 0, none⟩)] (rowV ai ci rows) (fun i => !vecB p d (nthR rows i)) _ hl ?_ (fun i hi => ?_) (fun i hi w2 he => ?_)).mono ?_; rotate_right; rintro e w2 ⟨rfl, h2⟩; rw [HA.out, HAl.out]))
      rotate_left
      · intro args w; go_simp
      · obtain ⟨b, off, hb1, hb2⟩ := HR.out i hi
        exact ⟨b, off, hb1, ((ext_alloc _ _).trans h1).cell hb2⟩
      · refine c_checkVectors1 p a d cap _ _ _ _ _ _ (by omega) (by omega) (hr i hi) ((HRow.out i hi).ext ((ext_alloc _ _).trans (h1.trans he))) ?_ ?_
        · refine he.cell (h1.cell ?_); simp
        · refine he.cell (h1.cell ?_); simp
      go_ret
      refine ⟨ret_int ?_, (ext_alloc _ _).trans (h1.trans h2)⟩
      rw [HC.out, HAl.out]; rfl
end Go.Proofs.Ytnabpmafcflljaa

/-
  Copies of slices, in the program and in the reference.
  No condition.
-/
namespace Go.Proofs.Ytnabpmafcflljaa
set_option maxRecDepth 100000
open Go.RowKit

set_option maxHeartbeats 400000 in
theorem s_own (b off n cap : Nat) (xs : List Int) (w : World) (hn : 0 < n) (hl : n ≤ 4194303) (hx : RdC w (some ⟨b, off, none⟩) n xs) :
    Calls Try.prog 42 #[.slice (some ⟨b, off, none⟩) n cap] w fun e w' => ∃ g rc, e = .returned (.slice (some ⟨g, 0, none⟩) n rc) ∧ OwnC w.heap.size w' (some ⟨g, 0, none⟩) n rc xs ∧ Ext w w' := by
  go_enter Try.func42, Try.ntmps42
  go_wp2_with (at_builtin; refine wpList_appendAll rfl (.tmp 3) (.tmp 4) rfl rfl rfl (own_empty w) (hx.ext (ext_alloc _ _)) hn (by omega) (by omega) ?hB ?hk)
  case hB => simp
  case hk =>
    intro g' cap' w3 ho3 hg3 he3
    have HO3 := Lib.hid ho3
    have HE3 := Lib.hid (he3 w (Nat.le_refl _) (ext_alloc _ _))
    clear ho3 hg3 he3
    go_wp2_with (fail)
    go_ret
    exact ⟨g', cap', rfl, HO3.out, HE3.out⟩
set_option maxHeartbeats 400000 in
theorem c_clone (b off n cap : Nat) (xs : List Int) (w : World) (hn : 0 < n) (hl : n ≤ 4194303) (hx : RdC w (some ⟨b, off, none⟩) n xs) :
    Calls Try.prog 72 #[.slice (some ⟨b, off, none⟩) n cap] w fun e w' => ∃ g rc, e = .returned (.slice (some ⟨g, 0, none⟩) n rc) ∧ OwnC w.heap.size w' (some ⟨g, 0, none⟩) n rc xs ∧ Ext w w' := by
  have qT : ∀ (w : World) (a : Option Addr) (n c : Nat), (binOp .eql 22 (.slice a n c) (.slice none 0 0)).run Try.prog w = .ok (.bool a.isNone) w := fun w a n c => Lib.run_eql_slice_nil w _ _ a n c 0 0 Try.underlying22
  go_enter Try.func72, Try.ntmps72
  go_wp2_with (at_builtin; refine wpList_appendAll rfl (.tmp 5) (.tmp 6) rfl rfl rfl (own_empty w) (hx.ext (ext_alloc _ _)) hn (by omega) (by omega) ?hB ?hk)
  case hB => simp
  case hk =>
    intro g' cap' w3 ho3 hg3 he3
    have HO3 := Lib.hid ho3
    have HE3 := Lib.hid (he3 w (Nat.le_refl _) (ext_alloc _ _))
    clear ho3 hg3 he3
    go_wp2_with (fail)
    go_ret
    exact ⟨g', cap', rfl, HO3.out, HE3.out⟩

end Go.Proofs.Ytnabpmafcflljaa

/-
  Contracts: copies of rows, transposed rows, unit rows, in the program and in the reference.
  No condition.
-/
namespace Go.Proofs.Ytnabpmafcflljaa
set_option maxRecDepth 100000
open Go.RowKit

theorem RdC.addr {w : World} {a : Option Addr} {n : Nat} {xs : List Int} (h : RdC w a n xs) (hn : 0 < n) : ∃ b off, a = some ⟨b, off, none⟩ := by
  obtain ⟨b, off, ha, _⟩ := h.2 0 hn
  exact ⟨b, off, ha⟩

theorem cell_new (w : World) (z : Nat) (hz : z = w.heap.size) (v : Value) (t : TypeId) : (w.alloc (.cells #[v] t)).cell? ⟨z, 0, none⟩ = some v := by subst hz; simp

set_option maxHeartbeats 1000000 in
theorem c_cloneRows (a : Option Addr) (n cap m : Nat) (rows : List (List Int)) (w : World) (hm : 0 < m) (hm2 : m ≤ 4194303) (hl : n ≤ 4194303) (hrl : ∀ i, i < n → (nthR rows i).length = m) (hx : RdR w a n rows) :
    Calls Try.prog 125 #[.slice a n cap] w fun e w' => ∃ g rc, e = .returned (.slice (some ⟨g, 0, none⟩) n rc) ∧ OwnR w.heap.size w' (some ⟨g, 0, none⟩) n rc rows ∧ Ext w w' := by
  have HX := Lib.hid hx
  have HRL := Lib.hid hrl
  clear hx hrl
  go_enter Try.func125, Try.ntmps125
  go_wp2_with (fail)
  go_loopw [3, 9] (fun v i wr => ∃ (k g rc : Nat), k ≤ n ∧ i = .int .i64 k ∧ v = .slice (some ⟨g, 0, none⟩) k rc ∧ OwnR w.heap.size wr (some ⟨g, 0, none⟩) k rc (rows.take k) ∧ Ext w wr) (fun _ i _ => n - (intOf i).toNat)
  case atStart => exact ⟨0, _, _, Nat.zero_le _, rfl, rfl, ownR_empty w, ext_alloc _ _⟩
  case round =>
    obtain ⟨k, g, rc, hk, rfl, rfl, hown, hext⟩ := hrel
    have HOwn := Lib.hid hown
    have HExt := Lib.hid hext
    clear hown hext
    by_cases hlt : k < n
    · obtain ⟨b, off, ai, ci, rfl, hc, hri⟩ := HX.out.2 k hlt
      rw [HRL.out k hlt] at hc hri
      obtain ⟨bi, oi, rfl⟩ := hri.addr hm
      have hc' := HExt.out.cell hc
      have HRi := Lib.hid (hri.ext HExt.out)
      clear hc hri
      go_wp2_with (fail)
      refine (c_clone bi oi m ci _ _ hm hm2 HRi.out).mono ?_
      rintro e w1 ⟨g1, rc1, rfl, ho1, h1⟩
      have HO1 := Lib.hid ho1
      have H1 := Lib.hid h1
      clear ho1 h1
      go_wp2_with (at_builtin; refine wpList_pushR (w0 := wr) rfl (.tmp 13) (.tmp 16) rfl rfl rfl HOwn.out (H1.out.trans (ext_alloc _ _)) (HO1.out.ext (ext_alloc _ _)) ?hc (by omega) HExt.out.size ?hk)
      case hc => simp
      case hk =>
        intro g' cap' w3 ho3 hg3 he3
        have HO3 := Lib.hid ho3
        have HE3 := Lib.hid (he3 w (Nat.le_refl _) ((HExt.out.trans H1.out).alloc _))
        clear ho3 hg3 he3
        go_wp2_with (fail)
        go_roundw
        case rel => exact ⟨k + 1, g', cap', by omega, by go_num, rfl, by rw [takeR_snoc _ _ (by rw [HX.out.1]; exact hlt)]; exact HO3.out, HE3.out⟩
        case measure => simp [intOf]; omega
    · go_wp2_with (fail)
      go_ret
      obtain rfl : k = n := by omega
      exact ⟨g, rc, rfl, by have := HOwn.out; rwa [List.take_of_length_le (by rw [HX.out.1]; exact Nat.le_refl _)] at this, HExt.out⟩

set_option maxHeartbeats 1000000 in
theorem s_own2 (a : Option Addr) (n cap m : Nat) (rows : List (List Int)) (w : World) (hm : 0 < m) (hm2 : m ≤ 4194303) (hl : n ≤ 4194303) (hrl : ∀ i, i < n → (nthR rows i).length = m) (hx : RdR w a n rows) :
    Calls Try.prog 81 #[.slice a n cap] w fun e w' => ∃ g rc, e = .returned (.slice (some ⟨g, 0, none⟩) n rc) ∧ OwnR w.heap.size w' (some ⟨g, 0, none⟩) n rc rows ∧ Ext w w' := by
  have HX := Lib.hid hx
  have HRL := Lib.hid hrl
  clear hx hrl
  go_enter Try.func81, Try.ntmps81
  go_wp2_with (fail)
  go_loopw [3, 4] (fun v i wr => ∃ (k g rc : Nat), k ≤ n ∧ i = .int .i64 k ∧ v = .slice (some ⟨g, 0, none⟩) k rc ∧ OwnR w.heap.size wr (some ⟨g, 0, none⟩) k rc (rows.take k) ∧ Ext w wr) (fun _ i _ => n - (intOf i).toNat)
  case atStart => exact ⟨0, _, _, Nat.zero_le _, rfl, rfl, ownR_empty w, ext_alloc _ _⟩
  case round =>
    obtain ⟨k, g, rc, hk, rfl, rfl, hown, hext⟩ := hrel
    have HOwn := Lib.hid hown
    have HExt := Lib.hid hext
    clear hown hext
    by_cases hlt : k < n
    · obtain ⟨b, off, ai, ci, rfl, hc, hri⟩ := HX.out.2 k hlt
      rw [HRL.out k hlt] at hc hri
      obtain ⟨bi, oi, rfl⟩ := hri.addr hm
      have hc' := HExt.out.cell hc
      have HRi := Lib.hid (hri.ext HExt.out)
      clear hc hri
      go_wp2_with (fail)
      refine (s_own bi oi m ci _ _ hm hm2 HRi.out).mono ?_
      rintro e w1 ⟨g1, rc1, rfl, ho1, h1⟩
      have HO1 := Lib.hid ho1
      have H1 := Lib.hid h1
      clear ho1 h1
      go_wp2_with (at_builtin; refine wpList_pushR (w0 := wr) rfl (.tmp 12) (.tmp 18) rfl rfl rfl HOwn.out (H1.out.trans (ext_alloc _ _)) (HO1.out.ext (ext_alloc _ _)) ?hc (by omega) HExt.out.size ?hk)
      case hc => simp
      case hk =>
        intro g' cap' w3 ho3 hg3 he3
        have HO3 := Lib.hid ho3
        have HE3 := Lib.hid (he3 w (Nat.le_refl _) ((HExt.out.trans H1.out).alloc _))
        clear ho3 hg3 he3
        go_wp2_with (fail)
        go_roundw
        case rel => exact ⟨k + 1, g', cap', by omega, by go_num, rfl, by rw [takeR_snoc _ _ (by rw [HX.out.1]; exact hlt)]; exact HO3.out, HE3.out⟩
        case measure => simp [intOf]; omega
    · go_wp2_with (fail)
      go_ret
      obtain rfl : k = n := by omega
      exact ⟨g, rc, rfl, by have := HOwn.out; rwa [List.take_of_length_le (by rw [HX.out.1]; exact Nat.le_refl _)] at this, HExt.out⟩

/-! ### Transposed rows -/
def colL (rows : List (List Int)) (k n : Nat) : List Int := (List.range n).map fun i => nth (nthR rows i) k
theorem colL_succ (rows : List (List Int)) (k n : Nat) : colL rows k (n + 1) = colL rows k n ++ [nth (nthR rows n) k] := by simp [colL, List.range_succ]
theorem colL_len (rows : List (List Int)) (k n : Nat) : (colL rows k n).length = n := by simp [colL]
theorem colL_nth {rows : List (List Int)} {k n i : Nat} (h : i < n) : nth (colL rows k n) i = nth (nthR rows i) k := by
  unfold colL; rw [nth_map (by simpa using h)]; simp
/-- The first m columns of n rows. -/
def turnL (rows : List (List Int)) (n m : Nat) : List (List Int) := (List.range m).map fun k => colL rows k n
theorem turnL_succ (rows : List (List Int)) (n m : Nat) : turnL rows n (m + 1) = turnL rows n m ++ [colL rows m n] := by simp [turnL, List.range_succ]
theorem turnL_len (rows : List (List Int)) (n m : Nat) : (turnL rows n m).length = m := by simp [turnL]
theorem turnL_nth {rows : List (List Int)} {n m k : Nat} (h : k < m) : nthR (turnL rows n m) k = colL rows k n := by
  unfold turnL; rw [nthR_map (by simpa using h)]; simp

set_option maxHeartbeats 2000000 in
theorem c_transpose (a : Option Addr) (n cap m : Nat) (rows : List (List Int)) (w : World) (hn : 0 < n) (hm2 : m ≤ 1048576) (hl : n ≤ 1048576) (hrl : ∀ i, i < n → (nthR rows i).length = m) (hx : RdR w a n rows) :
    Calls Try.prog 101 #[.slice a n cap] w fun e w' => ∃ g rc, e = .returned (.slice (some ⟨g, 0, none⟩) m rc) ∧ OwnR w.heap.size w' (some ⟨g, 0, none⟩) m rc (turnL rows n m) ∧ Ext w w' := by
  have HX := Lib.hid hx
  have HRL := Lib.hid hrl
  obtain ⟨b0, off0, a0, c0, rfl, hc0, _⟩ := hx.2 0 hn
  rw [hrl 0 hn, Nat.add_zero] at hc0
  clear hx hrl
  go_enter Try.func101, Try.ntmps101
  have hc0' : (w.alloc (.cells #[] 22)).cell? ⟨b0, off0, none⟩ = some (.slice a0 m c0) := (ext_alloc w _).cell hc0
  go_wp2_with (fail)
  clear hc0' hc0
  go_loopw [3, 12] (fun v i wr => ∃ (k g rc : Nat), k ≤ m ∧ i = .int .i64 k ∧ v = .slice (some ⟨g, 0, none⟩) k rc ∧ OwnR w.heap.size wr (some ⟨g, 0, none⟩) k rc (turnL rows n k) ∧ Ext w wr) (fun _ i _ => m - (intOf i).toNat)
  case atStart => exact ⟨0, _, _, Nat.zero_le _, rfl, rfl, ownR_empty w, ext_alloc _ _⟩
  case round =>
    obtain ⟨k, g, rc, hk, rfl, rfl, hown, hext⟩ := hrel
    have HOwn := Lib.hid hown
    have HExt := Lib.hid hext
    clear hown hext
    by_cases hlt : k < m
    · go_wp2_with (fail)
      obtain ⟨wo, rfl⟩ : ∃ wo : World, wo = wr := ⟨_, rfl⟩
      go_loopw [5, 18] (fun v i wr => ∃ (j g rc : Nat), j ≤ n ∧ i = .int .i64 j ∧ v = .slice (some ⟨g, 0, none⟩) j rc ∧ OwnC wo.heap.size wr (some ⟨g, 0, none⟩) j rc (colL rows k j) ∧ Ext wo wr) (fun _ i _ => n - (intOf i).toNat)
      case atStart => exact ⟨0, _, _, Nat.zero_le _, rfl, rfl, own_empty wo, ext_alloc _ _⟩
      case round =>
        obtain ⟨j, g1, rc1, hj, rfl, rfl, hown1, hext1⟩ := hrel
        have HOwn1 := Lib.hid hown1
        have HExt1 := Lib.hid hext1
        clear hown1 hext1
        by_cases hlt1 : j < n
        · obtain ⟨b, off, ai, ci, hab, hc, hri⟩ := HX.out.2 j hlt1
          cases hab
          rw [HRL.out j hlt1] at hc hri
          obtain ⟨bi, oi, rfl, hci⟩ := hri.2 k hlt
          have hc' := (HExt.out.trans HExt1.out).cell hc
          have hci' := (HExt.out.trans HExt1.out).cell hci
          clear hc hri hci
          go_wp2_with (at_builtin; refine wpList_push rfl (.tmp 21) (.tmp 29) rfl rfl rfl (v := nth (nthR rows j) k) (HOwn1.out.ext (ext_alloc _ _)) ?hc (by omega) ?hB ?hk)
          case hc => simp
          case hB => have hz := HExt1.out.size'; simp; omega
          case hk =>
            intro g' cap' w3 ho3 hg3 he3
            have HO3 := Lib.hid ho3
            have HE3 := Lib.hid (he3 wo (Nat.le_refl _) (HExt1.out.alloc _))
            clear ho3 hg3 he3
            go_wp2_with (fail)
            go_roundw
            case rel => exact ⟨j + 1, g', cap', by omega, by go_num, rfl, by rw [colL_succ]; exact HO3.out, HE3.out⟩
            case measure => simp [intOf]; omega
        · obtain rfl : j = n := by omega
          go_wp2_with (at_builtin; refine wpList_pushR (w0 := wo) rfl (.tmp 32) (.tmp 34) rfl rfl rfl HOwn.out (HExt1.out.trans (ext_alloc _ _)) (HOwn1.out.ext (ext_alloc _ _)) ?hc (by omega) HExt.out.size ?hk)
          case hc => simp
          case hk =>
            intro g' cap' w3 ho3 hg3 he3
            have HO3 := Lib.hid ho3
            have HE3 := Lib.hid (he3 w (Nat.le_refl _) ((HExt.out.trans HExt1.out).alloc _))
            clear ho3 hg3 he3
            go_wp2_with (fail)
            go_roundw
            case rel => exact ⟨k + 1, g', cap', by omega, by go_num, rfl, by rw [turnL_succ]; exact HO3.out, HE3.out⟩
            case measure => simp [intOf]; omega
    · go_wp2_with (fail)
      go_ret
      obtain rfl : k = m := by omega
      exact ⟨g, rc, rfl, HOwn.out, HExt.out⟩

set_option maxHeartbeats 2000000 in
theorem s_turn (a : Option Addr) (n cap m : Nat) (rows : List (List Int)) (w : World) (hn : 0 < n) (hm2 : m ≤ 1048576) (hl : n ≤ 1048576) (hrl : ∀ i, i < n → (nthR rows i).length = m) (hx : RdR w a n rows) :
    Calls Try.prog 106 #[.slice a n cap] w fun e w' => ∃ g rc, e = .returned (.slice (some ⟨g, 0, none⟩) m rc) ∧ OwnR w.heap.size w' (some ⟨g, 0, none⟩) m rc (turnL rows n m) ∧ Ext w w' := by
  have HX := Lib.hid hx
  have HRL := Lib.hid hrl
  obtain ⟨b0, off0, a0, c0, rfl, hc0, _⟩ := hx.2 0 hn
  rw [hrl 0 hn, Nat.add_zero] at hc0
  have HC0 := Lib.hid hc0
  clear hx hrl hc0
  go_enter Try.func106, Try.ntmps106
  go_wp2_with (fail)
  go_loopw [3, 4] (fun v i wr => ∃ (k g rc : Nat), k ≤ m ∧ i = .int .i64 k ∧ v = .slice (some ⟨g, 0, none⟩) k rc ∧ OwnR w.heap.size wr (some ⟨g, 0, none⟩) k rc (turnL rows n k) ∧ Ext w wr) (fun _ i _ => m - (intOf i).toNat)
  case atStart => exact ⟨0, _, _, Nat.zero_le _, rfl, rfl, ownR_empty w, ext_alloc _ _⟩
  case round =>
    obtain ⟨k, g, rc, hk, rfl, rfl, hown, hext⟩ := hrel
    have HOwn := Lib.hid hown
    have HExt := Lib.hid hext
    have hc0 : wr.cell? ⟨b0, off0, none⟩ = some (.slice a0 m c0) := hext.cell HC0.out
    clear hown hext
    by_cases hlt : k < m
    · go_wp2_with (fail)
      clear hc0
      obtain ⟨wo, rfl⟩ : ∃ wo : World, wo = wr := ⟨_, rfl⟩
      go_loopw [5, 6] (fun v i wr => ∃ (j g rc : Nat), j ≤ n ∧ i = .int .i64 j ∧ v = .slice (some ⟨g, 0, none⟩) j rc ∧ OwnC wo.heap.size wr (some ⟨g, 0, none⟩) j rc (colL rows k j) ∧ Ext wo wr) (fun _ i _ => n - (intOf i).toNat)
      case atStart => exact ⟨0, _, _, Nat.zero_le _, rfl, rfl, own_empty wo, ext_alloc _ _⟩
      case round =>
        obtain ⟨j, g1, rc1, hj, rfl, rfl, hown1, hext1⟩ := hrel
        have HOwn1 := Lib.hid hown1
        have HExt1 := Lib.hid hext1
        clear hown1 hext1
        by_cases hlt1 : j < n
        · obtain ⟨b, off, ai, ci, hab, hc, hri⟩ := HX.out.2 j hlt1
          cases hab
          rw [HRL.out j hlt1] at hc hri
          obtain ⟨bi, oi, rfl, hci⟩ := hri.2 k hlt
          have hc' := (HExt.out.trans HExt1.out).cell hc
          have hci' := (HExt.out.trans HExt1.out).cell hci
          clear hc hri hci
          go_wp2_with (at_builtin; refine wpList_push rfl (.tmp 23) (.tmp 31) rfl rfl rfl (v := nth (nthR rows j) k) (HOwn1.out.ext (ext_alloc _ _)) ?hc (by omega) ?hB ?hk)
          case hc => simp
          case hB => have hz := HExt1.out.size'; simp; omega
          case hk =>
            intro g' cap' w3 ho3 hg3 he3
            have HO3 := Lib.hid ho3
            have HE3 := Lib.hid (he3 wo (Nat.le_refl _) (HExt1.out.alloc _))
            clear ho3 hg3 he3
            go_wp2_with (fail)
            go_roundw
            case rel => exact ⟨j + 1, g', cap', by omega, by go_num, rfl, by rw [colL_succ]; exact HO3.out, HE3.out⟩
            case measure => simp [intOf]; omega
        · obtain rfl : j = n := by omega
          go_wp2_with (at_builtin; refine wpList_pushR (w0 := wo) rfl (.tmp 33) (.tmp 35) rfl rfl rfl HOwn.out (HExt1.out.trans (ext_alloc _ _)) (HOwn1.out.ext (ext_alloc _ _)) ?hc (by omega) HExt.out.size ?hk)
          case hc => simp
          case hk =>
            intro g' cap' w3 ho3 hg3 he3
            have HO3 := Lib.hid ho3
            have HE3 := Lib.hid (he3 w (Nat.le_refl _) ((HExt.out.trans HExt1.out).alloc _))
            clear ho3 hg3 he3
            go_wp2_with (fail)
            go_roundw
            case rel => exact ⟨k + 1, g', cap', by omega, by go_num, rfl, by rw [turnL_succ]; exact HO3.out, HE3.out⟩
            case measure => simp [intOf]; omega
    · go_wp2_with (fail)
      go_ret
      obtain rfl : k = m := by omega
      exact ⟨g, rc, rfl, HOwn.out, HExt.out⟩

/-! ### Unit rows -/
def unitL (n k : Nat) : List (List Int) := (List.range k).map fun i => bladeL n i
theorem unitL_succ (n k : Nat) : unitL n (k + 1) = unitL n k ++ [bladeL n k] := by simp [unitL, List.range_succ]
theorem unitL_len (n k : Nat) : (unitL n k).length = k := by simp [unitL]
theorem unitL_nth {n k i : Nat} (h : i < k) : nthR (unitL n k) i = bladeL n i := by
  unfold unitL; rw [nthR_map (by simpa using h)]; simp
set_option maxHeartbeats 1000000 in
theorem c_unit (n : Nat) (w : World) (hl : n ≤ 1048576) :
    Calls Try.prog 48 #[.int .i64 n] w fun e w' => ∃ g rc, e = .returned (.slice (some ⟨g, 0, none⟩) n rc) ∧ OwnR w.heap.size w' (some ⟨g, 0, none⟩) n rc (unitL n n) ∧ Ext w w' := by
  go_enter Try.func48, Try.ntmps48
  go_wp2_with (fail)
  go_loopw [3, 8] (fun v i wr => ∃ (k g rc : Nat), k ≤ n ∧ i = .int .i64 k ∧ v = .slice (some ⟨g, 0, none⟩) k rc ∧ OwnR w.heap.size wr (some ⟨g, 0, none⟩) k rc (unitL n k) ∧ Ext w wr) (fun _ i _ => n - (intOf i).toNat)
  case atStart => exact ⟨0, _, _, Nat.zero_le _, rfl, rfl, ownR_empty w, ext_alloc _ _⟩
  case round =>
    obtain ⟨k, g, rc, hk, rfl, rfl, hown, hext⟩ := hrel
    have HOwn := Lib.hid hown
    have HExt := Lib.hid hext
    clear hown hext
    by_cases hlt : k < n
    · obtain ⟨w0, hmk, hown0, hext0⟩ := make_ints wr n (by omega)
      obtain ⟨g0, hg0⟩ : ∃ g, g = wr.heap.size := ⟨_, rfl⟩
      rw [← hg0] at hmk hown0
      have HG0 := Lib.hid hg0
      have hge : wr.heap.size ≤ g0 := by omega
      have HO0 := Lib.hid hown0
      have HE0 := Lib.hid hext0
      have hcg := hown0.cell hlt
      have hfz := hown0.frozen k
      clear hown0 hext0 hg0
      go_wp2_with (at_builtin; refine wpList_pushR (w0 := wr) rfl (.tmp 16) (.tmp 18) rfl rfl rfl HOwn.out ((HE0.out.setCell hge _).trans (ext_alloc _ _)) (xs := bladeL n k) (((HO0.out.store hlt 1).mono hge).ext (ext_alloc _ _)) ?hc (by omega) HExt.out.size ?hk)
      case hc => exact cell_new _ _ (by simp) _ _
      case hk =>
        intro g' cap' w3 ho3 hg3 he3
        have HO3 := Lib.hid ho3
        have HE3 := Lib.hid (he3 w (Nat.le_refl _) ((HExt.out.trans (HE0.out.setCell hge _)).alloc _))
        clear ho3 hg3 he3
        go_wp2_with (fail)
        go_roundw
        case rel => exact ⟨k + 1, g', cap', by omega, by go_num, rfl, by rw [unitL_succ]; exact HO3.out, HE3.out⟩
        case measure => simp [intOf]; omega
    · go_wp2_with (fail)
      go_ret
      obtain rfl : k = n := by omega
      exact ⟨g, rc, rfl, HOwn.out, HExt.out⟩
end Go.Proofs.Ytnabpmafcflljaa

/-
  Reverses of multivectors, in the program and in the reference.
  No condition.
-/
namespace Go.Proofs.Ytnabpmafcflljaa
set_option maxRecDepth 100000
open Go.RowKit


def revB (g : Nat) : Bool := g * (g - 1) / 2 % 2 == 1
theorem rev_i (g : Nat) (hg : g ≤ 6) : ((wrap64 ((wrap64 ((g : Int) * ((g : Int) - 1))).tdiv 2)).tmod 2 == 1) = revB g := by
  have : ∀ g : Nat, g < 7 → ((wrap64 ((wrap64 ((g : Int) * ((g : Int) - 1))).tdiv 2)).tmod 2 == 1) = revB g := by decide +kernel
  exact this g (by omega)

def signN (p : Int) (odd : Nat → Bool) (x : List Int) (i : Nat) : Int := if odd (popc i) = true then (-nth x i) % p else nth x i
def signL (p : Int) (odd : Nat → Bool) (x : List Int) (n : Nat) : List Int := (List.range n).map (signN p odd x)
theorem signL_len (p : Int) (odd : Nat → Bool) (x : List Int) (n : Nat) : (signL p odd x n).length = n := by simp [signL]
theorem signL_nth {p : Int} {odd : Nat → Bool} {x : List Int} {n i : Nat} (h : i < n) : nth (signL p odd x n) i = signN p odd x i := by
  unfold signL; rw [nth_map (by simpa using h)]; simp
theorem signL_succ (p : Int) (odd : Nat → Bool) (x : List Int) (n : Nat) : signL p odd x (n + 1) = signL p odd x n ++ [signN p odd x n] := by simp [signL, List.range_succ]
theorem signN_bd {p : Int} {odd : Nat → Bool} {x : List Int} {n i : Nat} (hp : 1 ≤ p) (hx : Good p n x) (h : i < n) : 0 ≤ signN p odd x i ∧ signN p odd x i < p := by
  unfold signN; split
  · exact ⟨Int.emod_nonneg _ (by omega), Int.emod_lt_of_pos _ (by omega)⟩
  · exact hx.2 i h
theorem sign_good {p : Int} {odd : Nat → Bool} {x : List Int} {n : Nat} (hp : 1 ≤ p) (hx : Good p n x) : Good p n (signL p odd x n) := ⟨signL_len _ _ _ _, fun i hi => by rw [signL_nth hi]; exact signN_bd hp hx hi⟩



theorem neg_ref {p x : Int} : (p - x) % p = (-x) % p := by
  rw [show p - x = -x + p * 1 by omega, Int.add_mul_emod_self_left]


end Go.Proofs.Ytnabpmafcflljaa

/-
  Unduals, scalar products, brackets: walks.
  No condition.
-/
namespace Go.Proofs.Ytnabpmafcflljaa
set_option maxRecDepth 100000
open Go.RowKit



def scalL (p : Int) (qs x y : List Int) : Int := nth (prodL p qs tkA (signL p revB x (2 ^ qs.length)) y) 0


theorem prod_two {p : Int} {qs x y : List Int} {N : Nat} (hN : N = 2 ^ qs.length) (hp : 3 ≤ p) (hx : Good p N x) : timesL p qs [x, y] = prodL p qs tkA x y := timesL_two hp (by rw [← hN]; exact hx)



end Go.Proofs.Ytnabpmafcflljaa

/-
  Products of lists of vectors.
  No condition.
-/
namespace Go.Proofs.Ytnabpmafcflljaa
set_option maxRecDepth 100000
open Go.RowKit

/-- The product of the first k of some vectors. -/
def prodS (p : Int) (qs : List Int) (tk : Nat → Nat → Bool) (rows : List (List Int)) : Nat → List Int
  | 0 => bladeL (2 ^ qs.length) 0
  | k + 1 => prodL p qs tk (prodS p qs tk rows k) (vecL (2 ^ qs.length) (nthR rows k))
theorem prodS_good {p : Int} {qs : List Int} {tk : Nat → Nat → Bool} {rows : List (List Int)} (hp : 3 ≤ p) : ∀ k, Good p (2 ^ qs.length) (prodS p qs tk rows k)
  | 0 => blade_good hp
  | k + 1 => prod_good (by omega)
/-- The code of a space and a list of at most 16 vectors. -/
def codeVR (p : Int) (qs : List Int) (rows : List (List Int)) : Int := if codeV p qs rows = 0 then (if rows.length ≤ 16 then 0 else 2) else codeV p qs rows
theorem codeVR_zero {p : Int} {qs : List Int} {rows : List (List Int)} (h : codeVR p qs rows = 0) : spaceB p qs = true ∧ rows.all (vecB p qs.length) = true ∧ rows.length ≤ 16 := by
  unfold codeVR codeV at h
  cases hs : spaceB p qs
  · simp [hs] at h
  · cases ha : rows.all (vecB p qs.length)
    · simp [hs, ha] at h
    · simp [hs, ha] at h
      exact ⟨rfl, rfl, h⟩
theorem rows_good {p : Int} {d : Nat} {rows : List (List Int)} (h : rows.all (vecB p d) = true) : RowsG p d rows := fun i hi => by
  have := List.all_eq_true.1 h (nthR rows i) (by rw [nthR_eq hi]; exact List.getElem_mem hi)
  obtain ⟨h1, h2⟩ := vec_of this
  exact good_isB h1 h2



set_option maxHeartbeats 2000000 in
theorem c_versor {N d : Nat} (hN : N = 2 ^ d) (p : Int) (a : Option Addr) (cap : Nat) (qs : List Int) (al : Option Addr) (n cl : Nat) (rows : List (List Int)) (w : World) (hd : d ≤ 6) (hp1 : 3 ≤ p) (hp2 : p ≤ 1000) (hl : n ≤ 4194304) (hq : RdC w a d qs) (hqb : isB p qs = true) (hx : RdR w al n rows) (hg : RowsG p d rows) :
    Calls Try.prog 60 #[.agg #[.int .i64 p, .slice a d cap], .slice al n cl] w fun e w' => ∃ g, e = .returned (.slice (some ⟨g, 0, none⟩) N N) ∧ OwnC w.heap.size w' (some ⟨g, 0, none⟩) N N (prodS p qs tkA rows n) ∧ Ext w w' := by
  have HN := Lib.hid hN
  have HX := Lib.hid hx
  have HQ := Lib.hid hq
  have HQB := Lib.hid hqb
  have HG := Lib.hid hg
  have HD := Lib.hid (show N = 2 ^ qs.length by rw [hq.1]; exact hN)
  have HPA : Hid (∀ k, Good p N (prodS p qs tkA rows k)) := Lib.hid (fun k => by rw [HD.out]; exact prodS_good hp1 k)
  clear hN hx hq hqb hg
  obtain ⟨W, hW⟩ : ∃ W, W = w.alloc (.cells #[.int .i64 p, .slice a d cap] 30) := ⟨_, rfl⟩
  have gW : Ext w W := by rw [hW]; exact ext_alloc _ _
  have hs0 : W.cell? ⟨w.heap.size, 0, none⟩ = some (.int .i64 p) := by rw [hW]; simp
  have hs1 : W.cell? ⟨w.heap.size, 1, none⟩ = some (.slice a d cap) := by rw [hW]; simp
  have HS0 := Lib.hid (hs0)
  have HS1 := Lib.hid (hs1)
  have GW := Lib.hid (gW)
  have HW := Lib.hid hW
  clear hs0 hs1 gW hW
  go_enter Try.func60, Try.ntmps60
  go_wp2_with (fail)
  rw [← HW.out]
  refine (c_oneN HN.out p a cap W hd).mono ?_
  rintro e w1 ⟨g, rfl, ho, g1⟩
  have HO := Lib.hid (ho.mono GW.out.size)
  have G1 := Lib.hid g1
  clear ho g1
  go_wp2_with (fail)
  go_loopw [5, 12] (fun v i wr => ∃ (k g : Nat), k ≤ n ∧ i = .int .i64 k ∧ v = .slice (some ⟨g, 0, none⟩) N N ∧ OwnC w.heap.size wr (some ⟨g, 0, none⟩) N N (prodS p qs tkA rows k) ∧ Ext W wr) (fun _ i _ => n - (intOf i).toNat)
  case atStart => exact ⟨0, g, Nat.zero_le _, rfl, rfl, by show OwnC _ _ _ _ _ (bladeL (2 ^ qs.length) 0); rw [← HD.out]; exact HO.out, G1.out⟩
  case round =>
    obtain ⟨k, g', hk, rfl, rfl, hown, hext⟩ := hrel
    have HOwn := Lib.hid hown
    have HExt := Lib.hid hext
    clear hown hext
    by_cases hlt : k < n
    · obtain ⟨b, off, ai, ci, rfl, hc, hri⟩ := HX.out.2 k hlt
      rw [(HG.out k (by rw [HX.out.1]; exact hlt)).1] at hc hri
      have hc' := (GW.out.trans HExt.out).cell hc
      have HRi := Lib.hid hri
      have HV := Lib.hid (show Good p N (vecL N (nthR rows k)) from vec_good (by omega) (HG.out k (by rw [HX.out.1]; exact hlt)))
      have HPS := Lib.hid (HPA.out k)
      have HCd := Lib.hid ((ext_drew _).cell hc')
      clear hri hc
      go_wp2_with (fail)
      clear hc'
      have GX := Lib.hid (GW.out.trans (HExt.out.trans (ext_drew wr)))
      have HT0 := Lib.hid ((HExt.out.trans (ext_drew wr)).cell HS0.out)
      have HT1 := Lib.hid ((HExt.out.trans (ext_drew wr)).cell HS1.out)
      refine wp_region_lex [(4, .ownG w.heap.size N (vecL N (nthR rows k))), (5, .rows 2 [prodS p qs tkA rows k, vecL N (nthR rows k)]), (6, .ownG w.heap.size N (timesL p qs [prodS p qs tkA rows k, vecL N (nthR rows k)]))] (by kernel_rfl) (by kernel_rfl) ?_
      (refine LexW.pure (v := ?_) rfl rfl (fun w1 he => ?_) ?_; rotate_left; ( have e1 := he.cell HT0.out; have e2 := he.cell HT1.out; have e3 := he.cell HCd.out; go_simp; rfl); simp only [Act.put, List.setIfInBounds_toArray, List.set_cons_zero, List.set_cons_succ])
      (refine LexW.pure (v := ?_) rfl rfl (fun w1 he => ?_) ?_; rotate_left; ( have e1 := he.cell HT0.out; have e2 := he.cell HT1.out; have e3 := he.cell HCd.out; go_simp; rfl); simp only [Act.put, List.setIfInBounds_toArray, List.set_cons_zero, List.set_cons_succ])
      (refine LexW.pure (v := ?_) rfl rfl (fun w1 he => ?_) ?_; rotate_left; ( have e1 := he.cell HT0.out; have e2 := he.cell HT1.out; have e3 := he.cell HCd.out; go_simp; rfl); simp only [Act.put, List.setIfInBounds_toArray, List.set_cons_zero, List.set_cons_succ])
      (refine LexW.pure (v := ?_) rfl rfl (fun w1 he => ?_) ?_; rotate_left; ( have e1 := he.cell HT0.out; have e2 := he.cell HT1.out; have e3 := he.cell HCd.out; go_simp; rfl); simp only [Act.put, List.setIfInBounds_toArray, List.set_cons_zero, List.set_cons_succ])
      (refine LexW.callR (f := ?_) (args := ?_) rfl rfl (fun w1 => ?_) (fun w1 he hdep => ?_) (fun v hv => ?_); rotate_left 2; (go_simp; refine ⟨?_, ?_⟩ <;> rfl); ( refine (c_vector HN.out p a cap ai ci (nthR rows k) w1 hd (HRi.out.ext (GX.out.trans he))).mono ?_; rintro e w2 ⟨g, rfl, ho, g2⟩; exact ⟨_, rfl, g2, g, rfl, ho.mono (Nat.le_trans GX.out.size he.size)⟩); simp only [Act.put, List.setIfInBounds_toArray, List.set_cons_zero, List.set_cons_succ])
      obtain ⟨_, g20, rfl, _⟩ := hv
      (refine LexW.rel rfl rfl (fun w1 he hdep => ?_) (fun v hv => ?_); ( obtain ⟨_, q20, r20⟩ : (SPred.ownG w.heap.size N (vecL N (nthR rows k))).holds (.slice (some ⟨g20, 0, none⟩) N N) w1 := hdep (4, 20) (by decide +kernel); cases q20; exact ⟨.slice (some ⟨w1.heap.size, 0, none⟩) 2 2, w1.alloc (.cells #[.slice (some ⟨g', 0, none⟩) N N, .slice (some ⟨g20, 0, none⟩) N N] 22), (by go_simp), ext_alloc _ _, _, rfl, rdR_two (a := (some ⟨g', 0, none⟩)) (b := (some ⟨g20, 0, none⟩)) (n := N) (m := N) (ca := N) (cb := N) (by simp) (by simp) ((HOwn.out.rd.ext ((ext_drew _).trans he)).ext (ext_alloc _ _)) ((r20.rd).ext (ext_alloc _ _))⟩); simp only [Act.put, List.setIfInBounds_toArray, List.set_cons_zero, List.set_cons_succ])
      obtain ⟨_, g21, rfl, _⟩ := hv
      (refine LexW.callR (f := ?_) (args := ?_) rfl rfl (fun w1 => ?_) (fun w1 he hdep => ?_) (fun v hv => ?_); rotate_left 2; (go_simp; refine ⟨?_, ?_⟩ <;> rfl); ( obtain ⟨_, q21, r21⟩ : (SPred.rows 2 [prodS p qs tkA rows k, vecL N (nthR rows k)]).holds (.slice (some ⟨g21, 0, none⟩) 2 2) w1 := hdep (5, 21) (by decide +kernel); cases q21; refine (c_timesN HN.out p a cap qs _ 2 _ [prodS p qs tkA rows k, vecL N (nthR rows k)] w1 hd hp1 hp2 (by omega) (HQ.out.ext (GX.out.trans he)) HQB.out r21 (good_two HPS.out HV.out)).mono ?_; rintro e w2 ⟨g, rfl, ho, g2⟩; exact ⟨_, rfl, g2, g, rfl, ho.mono (Nat.le_trans GX.out.size he.size)⟩); simp only [Act.put, List.setIfInBounds_toArray, List.set_cons_zero, List.set_cons_succ])
      obtain ⟨_, g22, rfl, _⟩ := hv
      (refine LexW.pure (v := ?_) rfl rfl (fun w1 he => ?_) ?_; rotate_left; ( have e1 := he.cell HT0.out; have e2 := he.cell HT1.out; have e3 := he.cell HCd.out; go_simp; rfl); simp only [Act.put, List.setIfInBounds_toArray, List.set_cons_zero, List.set_cons_succ])
      refine LexW.nil (fun w3 he hkn => ?_)
      obtain ⟨_, q22, r22⟩ : (SPred.ownG w.heap.size N (timesL p qs [prodS p qs tkA rows k, vecL N (nthR rows k)])).holds (.slice (some ⟨g22, 0, none⟩) N N) w3 := hkn (6, _) (by simp)
      cases q22
      have R22 := Lib.hid r22
      have HE := Lib.hid (GX.out.trans he)
      have X4 := Lib.hid (HExt.out.trans ((ext_drew _).trans he))
      clear he hkn r22
      go_wp2_with (fail)
      go_roundw
      case rel => exact ⟨k + 1, g22, by omega, by go_num, rfl, (by show OwnC _ _ _ _ _ (prodL p qs tkA _ _); rw [← HD.out, ← prod_two HD.out hp1 HPS.out]; exact R22.out), X4.out⟩
      case measure => simp [intOf]; omega
    · go_wp2_with (fail)
      go_ret
      obtain rfl : k = n := by omega
      exact ⟨_, rfl, HOwn.out, GW.out.trans HExt.out⟩

set_option maxHeartbeats 2000000 in
theorem s_versor {N d : Nat} (hN : N = 2 ^ d) (p : Int) (a : Option Addr) (cap : Nat) (qs : List Int) (al : Option Addr) (n cl : Nat) (rows : List (List Int)) (w : World) (hd : d ≤ 6) (hp1 : 3 ≤ p) (hp2 : p ≤ 1000) (hl : n ≤ 4194304) (hq : RdC w a d qs) (hqb : isB p qs = true) (hx : RdR w al n rows) (hg : RowsG p d rows) :
    Calls Try.prog 58 #[.agg #[.int .i64 p, .slice a d cap], .slice al n cl] w fun e w' => ∃ g, e = .returned (.slice (some ⟨g, 0, none⟩) N N) ∧ OwnC w.heap.size w' (some ⟨g, 0, none⟩) N N (prodS p qs tkA rows n) ∧ Ext w w' := by
  have HN := Lib.hid hN
  have HX := Lib.hid hx
  have HQ := Lib.hid hq
  have HQB := Lib.hid hqb
  have HG := Lib.hid hg
  have HD := Lib.hid (show N = 2 ^ qs.length by rw [hq.1]; exact hN)
  have HPA : Hid (∀ k, Good p N (prodS p qs tkA rows k)) := Lib.hid (fun k => by rw [HD.out]; exact prodS_good hp1 k)
  clear hN hx hq hqb hg
  obtain ⟨W, hW⟩ : ∃ W, W = w.alloc (.cells #[.int .i64 p, .slice a d cap] 30) := ⟨_, rfl⟩
  have gW : Ext w W := by rw [hW]; exact ext_alloc _ _
  have hs0 : W.cell? ⟨w.heap.size, 0, none⟩ = some (.int .i64 p) := by rw [hW]; simp
  have hs1 : W.cell? ⟨w.heap.size, 1, none⟩ = some (.slice a d cap) := by rw [hW]; simp
  have HS0 := Lib.hid (hs0)
  have HS1 := Lib.hid (hs1)
  have GW := Lib.hid (gW)
  have HW := Lib.hid hW
  clear hs0 hs1 gW hW
  go_enter Try.func58, Try.ntmps58
  go_wp2_with (fail)
  rw [← HW.out]
  refine (s_oneN HN.out p a cap W hd).mono ?_
  rintro e w1 ⟨g, rfl, ho, g1⟩
  have HO := Lib.hid (ho.mono GW.out.size)
  have G1 := Lib.hid g1
  clear ho g1
  go_wp2_with (fail)
  go_loopw [5, 6] (fun v i wr => ∃ (k g : Nat), k ≤ n ∧ i = .int .i64 k ∧ v = .slice (some ⟨g, 0, none⟩) N N ∧ OwnC w.heap.size wr (some ⟨g, 0, none⟩) N N (prodS p qs tkA rows k) ∧ Ext W wr) (fun _ i _ => n - (intOf i).toNat)
  case atStart => exact ⟨0, g, Nat.zero_le _, rfl, rfl, by show OwnC _ _ _ _ _ (bladeL (2 ^ qs.length) 0); rw [← HD.out]; exact HO.out, G1.out⟩
  case round =>
    obtain ⟨k, g', hk, rfl, rfl, hown, hext⟩ := hrel
    have HOwn := Lib.hid hown
    have HExt := Lib.hid hext
    clear hown hext
    by_cases hlt : k < n
    · obtain ⟨b, off, ai, ci, rfl, hc, hri⟩ := HX.out.2 k hlt
      rw [(HG.out k (by rw [HX.out.1]; exact hlt)).1] at hc hri
      have hc' := (GW.out.trans HExt.out).cell hc
      have HRi := Lib.hid hri
      have HV := Lib.hid (show Good p N (vecL N (nthR rows k)) from vec_good (by omega) (HG.out k (by rw [HX.out.1]; exact hlt)))
      have HPS := Lib.hid (HPA.out k)
      have HCd := Lib.hid ((ext_drew _).cell hc')
      clear hri hc
      go_wp2_with (fail)
      clear hc'
      have GX := Lib.hid (GW.out.trans (HExt.out.trans (ext_drew wr)))
      have HT0 := Lib.hid ((HExt.out.trans (ext_drew wr)).cell HS0.out)
      have HT1 := Lib.hid ((HExt.out.trans (ext_drew wr)).cell HS1.out)
      refine wp_region_lex [(7, .ownG w.heap.size N (vecL N (nthR rows k))), (8, .ownG w.heap.size N (prodL p qs tkA (prodS p qs tkA rows k) (vecL N (nthR rows k))))] (by kernel_rfl) (by kernel_rfl) ?_
      (refine LexW.pure (v := ?_) rfl rfl (fun w1 he => ?_) ?_; rotate_left; ( have e1 := he.cell HT0.out; have e2 := he.cell HT1.out; have e3 := he.cell HCd.out; go_simp; rfl); simp only [Act.put, List.setIfInBounds_toArray, List.set_cons_zero, List.set_cons_succ])
      (refine LexW.pure (v := ?_) rfl rfl (fun w1 he => ?_) ?_; rotate_left; ( have e1 := he.cell HT0.out; have e2 := he.cell HT1.out; have e3 := he.cell HCd.out; go_simp; rfl); simp only [Act.put, List.setIfInBounds_toArray, List.set_cons_zero, List.set_cons_succ])
      (refine LexW.pure (v := ?_) rfl rfl (fun w1 he => ?_) ?_; rotate_left; ( have e1 := he.cell HT0.out; have e2 := he.cell HT1.out; have e3 := he.cell HCd.out; go_simp; rfl); simp only [Act.put, List.setIfInBounds_toArray, List.set_cons_zero, List.set_cons_succ])
      (refine LexW.pure (v := ?_) rfl rfl (fun w1 he => ?_) ?_; rotate_left; ( have e1 := he.cell HT0.out; have e2 := he.cell HT1.out; have e3 := he.cell HCd.out; go_simp; rfl); simp only [Act.put, List.setIfInBounds_toArray, List.set_cons_zero, List.set_cons_succ])
      (refine LexW.pure (v := ?_) rfl rfl (fun w1 he => ?_) ?_; rotate_left; ( have e1 := he.cell HT0.out; have e2 := he.cell HT1.out; have e3 := he.cell HCd.out; go_simp; rfl); simp only [Act.put, List.setIfInBounds_toArray, List.set_cons_zero, List.set_cons_succ])
      (refine LexW.pure (v := ?_) rfl rfl (fun w1 he => ?_) ?_; rotate_left; ( have e1 := he.cell HT0.out; have e2 := he.cell HT1.out; have e3 := he.cell HCd.out; go_simp; rfl); simp only [Act.put, List.setIfInBounds_toArray, List.set_cons_zero, List.set_cons_succ])
      (refine LexW.pure (v := ?_) rfl rfl (fun w1 he => ?_) ?_; rotate_left; ( have e1 := he.cell HT0.out; have e2 := he.cell HT1.out; have e3 := he.cell HCd.out; go_simp; rfl); simp only [Act.put, List.setIfInBounds_toArray, List.set_cons_zero, List.set_cons_succ])
      (refine LexW.callR (f := ?_) (args := ?_) rfl rfl (fun w1 => ?_) (fun w1 he hdep => ?_) (fun v hv => ?_); rotate_left 2; (go_simp; refine ⟨?_, ?_⟩ <;> rfl); ( refine (s_vector HN.out p a cap ai ci (nthR rows k) w1 hd (HRi.out.ext (GX.out.trans he))).mono ?_; rintro e w2 ⟨g, rfl, ho, g2⟩; exact ⟨_, rfl, g2, g, rfl, ho.mono (Nat.le_trans GX.out.size he.size)⟩); simp only [Act.put, List.setIfInBounds_toArray, List.set_cons_zero, List.set_cons_succ])
      obtain ⟨_, g22, rfl, _⟩ := hv
      (refine LexW.callR (f := ?_) (args := ?_) rfl rfl (fun w1 => ?_) (fun w1 he hdep => ?_) (fun v hv => ?_); rotate_left 2; (go_simp; refine ⟨?_, ?_⟩ <;> rfl); ( obtain ⟨_, q22, r22⟩ : (SPred.ownG w.heap.size N (vecL N (nthR rows k))).holds (.slice (some ⟨g22, 0, none⟩) N N) w1 := hdep (7, 22) (by decide +kernel); cases q22; refine (s_timesN HN.out p a cap qs _ _ N N (prodS p qs tkA rows k) (vecL N (nthR rows k)) w1 hd hp1 hp2 (HQ.out.ext (GX.out.trans he)) HQB.out (HOwn.out.rd.ext ((ext_drew _).trans he)) r22.rd HPS.out.isB HV.out.isB).mono ?_; rintro e w2 ⟨g, rfl, ho, g2⟩; exact ⟨_, rfl, g2, g, rfl, ho.mono (Nat.le_trans GX.out.size he.size)⟩); simp only [Act.put, List.setIfInBounds_toArray, List.set_cons_zero, List.set_cons_succ])
      obtain ⟨_, g23, rfl, _⟩ := hv
      (refine LexW.pure (v := ?_) rfl rfl (fun w1 he => ?_) ?_; rotate_left; ( have e1 := he.cell HT0.out; have e2 := he.cell HT1.out; have e3 := he.cell HCd.out; go_simp; rfl); simp only [Act.put, List.setIfInBounds_toArray, List.set_cons_zero, List.set_cons_succ])
      refine LexW.nil (fun w3 he hkn => ?_)
      obtain ⟨_, q23, r23⟩ : (SPred.ownG w.heap.size N (prodL p qs tkA (prodS p qs tkA rows k) (vecL N (nthR rows k)))).holds (.slice (some ⟨g23, 0, none⟩) N N) w3 := hkn (8, _) (by simp)
      cases q23
      have R23 := Lib.hid r23
      have HE := Lib.hid (GX.out.trans he)
      have X4 := Lib.hid (HExt.out.trans ((ext_drew _).trans he))
      clear he hkn r23
      go_wp2_with (fail)
      go_roundw
      case rel => exact ⟨k + 1, g23, by omega, by go_num, rfl, (by show OwnC _ _ _ _ _ (prodL p qs tkA _ _); rw [← HD.out]; exact R23.out), X4.out⟩
      case measure => simp [intOf]; omega
    · go_wp2_with (fail)
      go_ret
      obtain rfl : k = n := by omega
      exact ⟨_, rfl, HOwn.out, GW.out.trans HExt.out⟩

end Go.Proofs.Ytnabpmafcflljaa

/-
  The codes of spaces and lists of vectors; the listed function WedgeOfVectors.
  No condition.
-/
namespace Go.Proofs.Ytnabpmafcflljaa
set_option maxRecDepth 100000
open Go.RowKit

theorem codeVR_space {p : Int} {qs : List Int} {rows : List (List Int)} (h : spaceB p qs = false) : codeVR p qs rows = 1 := by simp [codeVR, codeV, h]
theorem codeVR_of {p : Int} {qs : List Int} {rows : List (List Int)} (h : spaceB p qs = true) : codeVR p qs rows = if (rows.all (vecB p qs.length) && decide (rows.length ≤ 16)) = true then 0 else 2 := by
  unfold codeVR codeV
  cases ha : rows.all (vecB p qs.length)
  · simp [h]
  · by_cases hl : rows.length ≤ 16 <;> simp [h, hl]


set_option maxHeartbeats 400000 in
theorem s_isVector (p : Int) (a : Option Addr) (d cap : Nat) (ax : Option Addr) (n cx : Nat) (xs : List Int) (w : World) (hp1 : 1 ≤ p) (hp2 : p ≤ 1000) (hl : n ≤ 4194304) (hx : RdC w ax n xs) :
    Calls Try.prog 114 #[.agg #[.int .i64 p, .slice a d cap], .slice ax n cx] w fun e w' => e = .returned (.bool (vecB p d xs)) ∧ Ext w w' := by
  by_cases hc : n = d
  · have HF := Lib.hid (show vecB p d xs = isB p xs by simp [vecB, hx.1, hc])
    have hcb : ((n : Int) == (d : Int)) = true := by simp [hc]
    clear hc
    go_enter Try.func114, Try.ntmps114
    go_wp2_with (go_at_call 129; refine (s_numbers _ _ _ _ _ _ hp1 hp2 hl (hx.ext (ext_alloc _ _))).mono ?_; rintro e w3 ⟨rfl, h3⟩)
    go_ret
    exact ⟨ret_bool HF.out.symm, (ext_alloc _ _).trans h3⟩
  · have HF := Lib.hid (show vecB p d xs = false by simp [vecB, hx.1, hc])
    have hcb : ((n : Int) == (d : Int)) = false := by simp; omega
    go_enter Try.func114, Try.ntmps114
    go_wp2_with (fail)
    go_ret
    exact ⟨ret_bool HF.out.symm, ext_alloc _ _⟩

theorem allV_false {p : Int} {d n k : Nat} {rows : List (List Int)} (hn : rows.length = n) (hk : k < n) (h : vecB p d (nthR rows k) = false) : rows.all (vecB p d) = false := by
  rw [List.all_eq_false]
  subst hn
  exact ⟨rows[k], List.getElem_mem hk, by rw [nthR_eq hk] at h; simp [h]⟩
theorem allV_true {p : Int} {d n : Nat} {rows : List (List Int)} (hn : rows.length = n) (h : ∀ j, j < n → vecB p d (nthR rows j) = true) : rows.all (vecB p d) = true := by
  rw [List.all_eq_true]
  intro x hx
  obtain ⟨i, hi, rfl⟩ := List.getElem_of_mem hx
  have := h i (by omega)
  rwa [nthR_eq hi] at this



def wedgeL (p : Int) (qs : List Int) (rows : List (List Int)) (n : Nat) : List Int := prodS p qs tkW rows n
end Go.Proofs.Ytnabpmafcflljaa
