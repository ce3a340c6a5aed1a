/-
  Contracts and plain laws, part 5: Ker, Kill, Rank, DetP, LawR, Law5, Top5, StabE.
  No condition.
-/
import Derived.Test.YtcocbainookkcaaPart3
import Derived.Test.YtcocbainookkcaaPart4
import Derived.Test.YtcocbainookkcaaPart1
import Derived.Test.YtcocbainookkcaaPart2
import Derived.Test.YtcocbainookkcaaPart0
/-
  Kernels, solutions and inverses from reduced bases, in plain words.
  No condition.
-/
namespace Go.Proofs.Ytcocbainookkcaa
set_option maxRecDepth 100000
open Go.RowKit

/-- The row whose first number other than 0 is at place t. -/
def pivIx (red : List (List Int)) (t : Nat) : Option Nat := (List.range red.length).find? (fun i => leadN (nthR red i) == t)
theorem pivIx_some {red : List (List Int)} {t i : Nat} (h : pivIx red t = some i) : i < red.length ∧ leadN (nthR red i) = t := by
  unfold pivIx at h
  rw [List.find?_range_eq_some] at h
  exact ⟨by simpa using h.2.1, by simpa using h.1⟩
theorem pivIx_none {red : List (List Int)} {t : Nat} (h : pivIx red t = none) : ∀ i, i < red.length → leadN (nthR red i) ≠ t := by
  unfold pivIx at h
  rw [List.find?_range_eq_none] at h
  intro i hi
  simpa using h i hi

theorem Basis.leadN {p : Int} {m : Nat} {red : List (List Int)} {c : Nat → Nat} (h : Basis p m red c) {i : Nat} (hi : i < red.length) : leadN (nthR red i) = c i := by
  have hl := (h.good i hi).1
  have hc := h.clt i hi
  refine leadN_eq (by omega) (h.lead i hi) (.inr ?_)
  rw [h.one i hi i hi, if_pos rfl]
  omega
theorem Basis.inj {p : Int} {m : Nat} {red : List (List Int)} {c : Nat → Nat} (h : Basis p m red c) {i j : Nat} (hi : i < red.length) (hj : j < red.length) (he : c i = c j) : i = j := by
  rcases Nat.lt_trichotomy i j with hij | hij | hij
  · have := h.mono i j hij hj; omega
  · exact hij
  · have := h.mono j i hij hi; omega
theorem Basis.piv {p : Int} {m : Nat} {red : List (List Int)} {c : Nat → Nat} (h : Basis p m red c) {i : Nat} (hi : i < red.length) : pivIx red (c i) = some i := by
  cases hp : pivIx red (c i) with
  | none => exact absurd (h.leadN hi) (pivIx_none hp i hi)
  | some j =>
    obtain ⟨hj, hl⟩ := pivIx_some hp
    rw [h.leadN hj] at hl
    rw [h.inj hj hi hl]

/-- The vector of the kernel with 1 at a free place f. -/
def kerN (p : Int) (red : List (List Int)) (f t : Nat) : Int := if t = f then 1 else match pivIx red t with | some i => (-(nth (nthR red i) f)) % p | none => 0
def kerV (p : Int) (n : Nat) (red : List (List Int)) (f : Nat) : List Int := (List.range n).map (kerN p red f)
theorem kerV_len {p : Int} {n : Nat} {red : List (List Int)} {f : Nat} : (kerV p n red f).length = n := by simp [kerV]
theorem kerV_nth {p : Int} {n : Nat} {red : List (List Int)} {f t : Nat} (ht : t < n) : nth (kerV p n red f) t = kerN p red f t := by
  unfold kerV; rw [nth_map (by simpa using ht)]; simp
theorem kerV_good {p : Int} {n : Nat} {red : List (List Int)} {f : Nat} (hp : 3 ≤ p) : Good p n (kerV p n red f) := ⟨kerV_len, fun t ht => by
  rw [kerV_nth ht]
  unfold kerN
  split
  · omega
  · split
    · exact ⟨Int.emod_nonneg _ (by omega), Int.emod_lt_of_pos _ (by omega)⟩
    · omega⟩
/-- The free places ahead of k. -/
def freeL (red : List (List Int)) (k : Nat) : List Nat := (List.range k).filter fun t => (pivIx red t).isNone
theorem freeL_no {red : List (List Int)} {k i : Nat} (h : pivIx red k = some i) : freeL red (k + 1) = freeL red k := by simp [freeL, List.range_succ, List.filter_append, h]
theorem freeL_yes {red : List (List Int)} {k : Nat} (h : pivIx red k = none) : freeL red (k + 1) = freeL red k ++ [k] := by simp [freeL, List.range_succ, List.filter_append, h]
theorem freeL_len (red : List (List Int)) (k : Nat) : (freeL red k).length ≤ k := by
  unfold freeL
  have := List.length_filter_le (fun t => (pivIx red t).isNone) (List.range k)
  simpa using this
def kerR (p : Int) (n : Nat) (red : List (List Int)) (k : Nat) : List (List Int) := (freeL red k).map (kerV p n red)
theorem kerR_good {p : Int} {n : Nat} {red : List (List Int)} {k : Nat} (hp : 3 ≤ p) : RowsG p n (kerR p n red k) := fun i hi => by
  unfold kerR at hi ⊢
  rw [nthR_map (by simpa using hi)]
  exact kerV_good hp
/-- The reduced basis of the vectors with n numbers whose products with all rows are 0. -/
def kernL (p : Int) (n : Nat) (rows : List (List Int)) : List (List Int) := basisL p n (kerR p n (basisL p n rows) n)

/-- The solution that is 0 at all free places. -/
def wideL (rows : List (List Int)) (v : List Int) (k : Nat) : List (List Int) := (List.range k).map fun i => nthR rows i ++ [nth v i]
theorem wideL_succ (rows : List (List Int)) (v : List Int) (k : Nat) : wideL rows v (k + 1) = wideL rows v k ++ [nthR rows k ++ [nth v k]] := by simp [wideL, List.range_succ]
theorem wideL_len (rows : List (List Int)) (v : List Int) (k : Nat) : (wideL rows v k).length = k := by simp [wideL]
theorem good_snoc {p : Int} {n : Nat} {x : List Int} {v : Int} (hx : Good p n x) (h0 : 0 ≤ v) (h1 : v < p) : Good p (n + 1) (x ++ [v]) := by
  refine ⟨by simp [hx.1], fun i hi => ?_⟩
  by_cases h : i < n
  · rw [nth_append_left (by rw [hx.1]; exact h)]; exact hx.2 i h
  · have : i = x.length := by rw [hx.1]; omega
    rw [this, nth_append_len]; exact ⟨h0, h1⟩
theorem wideL_good {p : Int} {n : Nat} {rows : List (List Int)} {v : List Int} {k : Nat} (hg : RowsG p n rows) (hv : Good p k v) (hk : k ≤ rows.length) : RowsG p (n + 1) (wideL rows v k) := fun i hi => by
  rw [wideL_len] at hi
  unfold wideL
  rw [nthR_map (by simpa using hi)]
  simp only [List.getElem_range]
  exact good_snoc (hg i (by omega)) (hv.2 i hi).1 (hv.2 i hi).2
def solN (n : Nat) (red : List (List Int)) (t : Nat) : Int := match pivIx red t with | some i => nth (nthR red i) n | none => 0
def solL (n : Nat) (red : List (List Int)) : List Int := (List.range n).map (solN n red)
def okS (n : Nat) (red : List (List Int)) : Bool := (pivIx red n).isNone
/-- The solution as it stands when the first k rows have been gone through. -/
def solS (n : Nat) (red : List (List Int)) : Nat → List Int
  | 0 => List.replicate n 0
  | k + 1 => (solS n red k).set (leadN (nthR red k)) (nth (nthR red k) n)
theorem solS_len {n : Nat} {red : List (List Int)} : ∀ k, (solS n red k).length = n
  | 0 => by simp [solS]
  | k + 1 => by simp [solS, solS_len k]
theorem solS_nth {p : Int} {m n : Nat} {red : List (List Int)} {c : Nat → Nat} (h : Basis p m red c) : ∀ k, k ≤ red.length → ∀ t, t < n → nth (solS n red k) t = match pivIx red t with | some i => if i < k then nth (nthR red i) n else 0 | none => 0
  | 0, _, t, ht => by
    unfold solS
    rw [nth_replicate ht]
    split
    · rw [if_neg (by omega)]
    · rfl
  | k + 1, hk, t, ht => by
    have ih := solS_nth h k (by omega) t ht (n := n)
    show nth ((solS n red k).set (leadN (nthR red k)) (nth (nthR red k) n)) t = _
    by_cases hl : leadN (nthR red k) = t
    · have hkl : k < red.length := by omega
      rw [hl, nth_set (by rw [solS_len]; exact ht), if_pos rfl]
      have hp : pivIx red t = some k := by rw [← hl, h.leadN hkl]; exact h.piv hkl
      rw [hp]
      show _ = if k < k + 1 then _ else _
      rw [if_pos (by omega)]
    · have e : nth ((solS n red k).set (leadN (nthR red k)) (nth (nthR red k) n)) t = nth (solS n red k) t := by
        simp only [nth]
        rw [List.getD_eq_getElem?_getD, List.getElem?_set_ne hl, ← List.getD_eq_getElem?_getD]
      rw [e, ih]
      cases hp : pivIx red t with
      | none => rfl
      | some i =>
        show (if i < k then _ else _) = if i < k + 1 then _ else _
        have : i ≠ k := fun hik => by subst hik; exact hl (pivIx_some hp).2
        by_cases hi : i < k
        · rw [if_pos hi, if_pos (by omega)]
        · rw [if_neg hi, if_neg (by omega)]
theorem solS_all {p : Int} {m n : Nat} {red : List (List Int)} {c : Nat → Nat} (h : Basis p m red c) : solS n red red.length = solL n red := by
  refine ext_nth (by rw [solS_len]; simp [solL]) fun t ht => ?_
  rw [solS_len] at ht
  rw [solS_nth h _ (Nat.le_refl _) t ht]
  unfold solL
  rw [nth_map (by simpa using ht)]
  simp only [List.getElem_range]
  unfold solN
  cases hp : pivIx red t with
  | none => rfl
  | some i => show (if i < red.length then _ else _) = _; rw [if_pos (pivIx_some hp).1]
theorem nth_bd0 {p : Int} {m : Nat} {x : List Int} (hp : 1 ≤ p) (hx : Good p m x) (i : Nat) : 0 ≤ nth x i ∧ nth x i < p := by
  by_cases h : i < m
  · exact hx.2 i h
  · have : nth x i = 0 := by
      simp only [nth, List.getD_eq_getElem?_getD]
      rw [List.getElem?_eq_none (by rw [hx.1]; omega)]; rfl
    omega
theorem sol_good {p : Int} {m n : Nat} {red : List (List Int)} (hp : 1 ≤ p) (hg : RowsG p m red) : Good p n (solL n red) := ⟨by simp [solL], fun t ht => by
  unfold solL
  rw [nth_map (by simpa using ht)]
  simp only [List.getElem_range]
  unfold solN
  split
  · rename_i i h; exact nth_bd0 hp (hg i (pivIx_some h).1) n
  · omega⟩

end Go.Proofs.Ytcocbainookkcaa

/-
  Reduced bases have the same solutions; solutions of linear systems; in plain numbers.
  No condition. No program in sight.
-/
namespace Go.Proofs.Ytcocbainookkcaa
set_option maxRecDepth 100000
open Go.RowKit

def dotN (m : Nat) (x z : List Int) : Int := sumN m fun t => nth x t * nth z t
theorem dot_plus {p k : Int} {m : Nat} {x y z : List Int} : dotN m (plusL p x y k m) z % p = (dotN m x z + k * dotN m y z) % p := by
  unfold dotN
  rw [← sumN_mul, ← sumN_add]
  refine sumN_emod fun t ht => ?_
  rw [plusL_nth ht, plusN]
  have : (nth x t + k * nth y t) * nth z t = nth x t * nth z t + k * (nth y t * nth z t) := by rw [Int.add_mul, Int.mul_assoc]
  rw [← this]
  exact mul_emod_congr (Int.emod_emod _ _) rfl
theorem dot_scale {p k : Int} {m : Nat} {x z : List Int} : dotN m (scaleL p x k m) z % p = (k * dotN m x z) % p := by
  unfold dotN
  rw [← sumN_mul]
  refine sumN_emod fun t ht => ?_
  rw [scaleL_nth ht, scaleN]
  have : nth x t * k * nth z t = k * (nth x t * nth z t) := by ac_rfl
  rw [← this]
  exact mul_emod_congr (Int.emod_emod _ _) rfl

/-- The product with each row is 0. -/
def Kill (p : Int) (m : Nat) (rows : List (List Int)) (z : List Int) : Prop := ∀ i, i < rows.length → dotN m (nthR rows i) z % p = 0

theorem kill_up {p : Int} {m d k i : Nat} {rows : List (List Int)} {z : List Int} (hp : primeB p = true) (hk : k < m) (hg : RowsG p m rows) (hd : d < rows.length) (hi : i < rows.length) (hne : nth (nthR rows i) k ≠ 0) :
    Kill p m (upG p m rows d k i) z ↔ Kill p m rows z := by
  have hpb := prime_bd hp
  have hb := (hg i hi).2 k hk
  have hinv := (inv_spec hp (show 0 < nth (nthR rows i) k by omega) hb.2).2.1
  unfold Kill
  rw [upG_len]
  constructor
  · intro h j hj
    by_cases hji : j = i
    · subst hji
      have := h d hd
      rw [upG_nth hd hi, if_pos rfl, dot_scale] at this
      have e : (nth (nthR rows j) k * (invN p (nth (nthR rows j) k) * dotN m (nthR rows j) z)) % p = 0 := by
        rw [Int.mul_emod, this]; simp
      rw [← Int.mul_assoc, Int.mul_emod, hinv] at e
      rwa [Int.one_mul, Int.emod_emod] at e
    · by_cases hjd : j = d
      · subst hjd
        have := h i hi
        rwa [upG_nth hd hi, if_neg (Ne.symm hji), if_pos rfl] at this
      · have := h j hj
        rwa [upG_nth hd hi, if_neg hjd, if_neg hji] at this
  · intro h j hj
    rw [upG_nth hd hi]
    split
    · rw [dot_scale, Int.mul_emod, h i hi]; simp
    · split
      · exact h d hd
      · exact h j hj
theorem kill_clr {p : Int} {m d k : Nat} {rows : List (List Int)} {z : List Int} (hd : d < rows.length) :
    Kill p m (clrS p k m d rows rows.length) z ↔ Kill p m rows z := by
  unfold Kill
  rw [clrS_len]
  have hD : nthR (clrS p k m d rows rows.length) d = nthR rows d := by rw [clrS_nth _ (Nat.le_refl _), if_neg (by omega)]
  constructor
  · intro h j hj
    have h1 := h j hj
    have h2 := h d hd
    rw [hD] at h2
    rw [clrS_nth _ (Nat.le_refl _)] at h1
    split at h1
    · rw [dot_plus, Int.add_emod, Int.mul_emod, h2] at h1
      simpa using h1
    · exact h1
  · intro h j hj
    rw [clrS_nth _ (Nat.le_refl _)]
    split
    · rw [dot_plus, Int.add_emod, h j hj, Int.mul_emod, h d hd]; simp
    · exact h j hj
theorem kill_gauss {p : Int} {m : Nat} {rows : List (List Int)} {z : List Int} (hp : primeB p = true) (hg : RowsG p m rows) : ∀ k, k ≤ m → (Kill p m (gaussS p m rows k).1 z ↔ Kill p m rows z)
  | 0, _ => Iff.rfl
  | k + 1, hk => by
    obtain ⟨h1, c, h2⟩ := gaussS_red hp hg k (by omega)
    obtain ⟨p1, p2, p3, p4⟩ := pivG_spec (gaussS p m rows k).1 k (gaussS p m rows k).2 h2.dle
    rw [← kill_gauss hp hg k (by omega)]
    show Kill p m (stepG p m (gaussS p m rows k) k).1 z ↔ _
    by_cases hn : pivG (gaussS p m rows k).1 k (gaussS p m rows k).2 = (gaussS p m rows k).1.length
    · rw [stepG_no hn]
    · have hi : pivG (gaussS p m rows k).1 k (gaussS p m rows k).2 < (gaussS p m rows k).1.length := by omega
      have hd : (gaussS p m rows k).2 < (gaussS p m rows k).1.length := by omega
      rw [stepG_yes rfl hi, ← kill_up hp (show k < m by omega) h1 hd hi (by rcases p4 with h | h; omega; exact h)]
      have := kill_clr (p := p) (m := m) (k := k) (rows := upG p m (gaussS p m rows k).1 (gaussS p m rows k).2 k (pivG (gaussS p m rows k).1 k (gaussS p m rows k).2)) (z := z) (d := (gaussS p m rows k).2) (by rw [upG_len]; exact hd)
      rw [upG_len] at this
      exact this
/-- The reduced basis has the same solutions. -/
theorem kill_basis {p : Int} {m : Nat} {rows : List (List Int)} {z : List Int} (hp : primeB p = true) (hg : RowsG p m rows) : Kill p m (basisL p m rows) z ↔ Kill p m rows z := by
  rw [← kill_gauss hp hg m (Nat.le_refl _)]
  obtain ⟨h1, c, h2⟩ := gaussS_red hp hg m (Nat.le_refl _)
  have hl : (basisL p m rows).length = (gaussS p m rows m).2 := by unfold basisL; rw [List.length_take, Nat.min_eq_left h2.dle]
  unfold Kill
  constructor
  · intro h i hi
    by_cases hid : i < (gaussS p m rows m).2
    · have := h i (by omega)
      unfold basisL at this
      rwa [nthR_take hid] at this
    · unfold dotN
      rw [sumN_zero fun t ht => by rw [h2.rest i (by omega) hi t ht, Int.zero_mul]]; simp
  · intro h i hi
    have := h i (by have := h2.dle; omega)
    unfold basisL
    rwa [nthR_take (by omega)]

/-! ### Linear systems -/
theorem nth_len {x : List Int} {n : Nat} {v : Int} (h : x.length = n) : nth (x ++ [v]) n = v := by subst h; exact nth_append_len
theorem dot_snoc {n : Nat} {x y : List Int} {v : Int} (hx : x.length = n) (hy : y.length = n) : dotN (n + 1) (x ++ [v]) (y ++ [-1]) = dotN n x y - v := by
  unfold dotN
  simp only [sumN]
  rw [nth_len hx, nth_len hy, sumN_congr (g := fun t => nth x t * nth y t) fun t ht => by rw [nth_append_left (by omega), nth_append_left (by omega)]]
  omega
/-- y solves the system: the product with row i is number i of v. -/
def Solves (p : Int) (n : Nat) (rows : List (List Int)) (v y : List Int) : Prop := ∀ i, i < rows.length → dotN n (nthR rows i) y % p = nth v i % p
theorem sub_zero_iff {p a b : Int} : (a - b) % p = 0 ↔ a % p = b % p := Int.emod_eq_emod_iff_emod_sub_eq_zero.symm
theorem solves_kill {p : Int} {n : Nat} {rows : List (List Int)} {v y : List Int} (hg : RowsG p n rows) (hy : y.length = n) : Solves p n rows v y ↔ Kill p (n + 1) (wideL rows v rows.length) (y ++ [-1]) := by
  unfold Solves Kill
  rw [wideL_len]
  have e : ∀ i, i < rows.length → nthR (wideL rows v rows.length) i = nthR rows i ++ [nth v i] := fun i hi => by
    unfold wideL; rw [nthR_map (by simpa using hi)]; simp
  constructor
  · intro h i hi
    rw [e i hi, dot_snoc (hg i hi).1 hy]
    exact sub_zero_iff.2 (h i hi)
  · intro h i hi
    have := h i hi
    rw [e i hi, dot_snoc (hg i hi).1 hy] at this
    exact sub_zero_iff.1 this
theorem okS_iff {p : Int} {m n : Nat} {red : List (List Int)} {c : Nat → Nat} (h : Basis p m red c) : okS n red = true ↔ ∀ i, i < red.length → c i ≠ n := by
  unfold okS
  rw [Option.isNone_iff_eq_none]
  constructor
  · intro hn i hi hc
    exact pivIx_none hn i hi (by rw [h.leadN hi, hc])
  · intro hc
    cases hp : pivIx red n with
    | none => rfl
    | some i =>
      obtain ⟨hi, hl⟩ := pivIx_some hp
      rw [h.leadN hi] at hl
      exact absurd hl (hc i hi)
theorem solL_len {n : Nat} {red : List (List Int)} : (solL n red).length = n := by simp [solL]
theorem sol_kill {p : Int} {n : Nat} {red : List (List Int)} {c : Nat → Nat} (h : Basis p (n + 1) red c) (hok : okS n red = true) : Kill p (n + 1) red (solL n red ++ [-1]) := by
  intro i hi
  have hc := (okS_iff h).1 hok
  have e : dotN (n + 1) (nthR red i) (solL n red ++ [-1]) = dotN n (nthR red i) (solL n red) - nth (nthR red i) n := by
    unfold dotN
    simp only [sumN]
    rw [nth_len solL_len, sumN_congr (g := fun t => nth (nthR red i) t * nth (solL n red) t) fun t ht => by rw [nth_append_left (by rw [solL_len]; exact ht)]]
    omega
  rw [e]
  have hci : c i < n := by have := h.clt i hi; have := hc i hi; omega
  have : dotN n (nthR red i) (solL n red) = nth (nthR red i) n := by
    unfold dotN
    have sn : ∀ t, t < n → nth (solL n red) t = solN n red t := fun t ht => by unfold solL; rw [nth_map (by simpa using ht)]; simp
    rw [sumN_single hci fun t ht hne => by
      rw [sn t ht]
      unfold solN
      cases hp : pivIx red t with
      | none => simp
      | some j =>
        obtain ⟨hj, hl⟩ := pivIx_some hp
        rw [h.leadN hj] at hl
        subst hl
        rw [h.one j hj i hi, if_neg (fun e => hne (by rw [e]))]; simp]
    rw [h.one i hi i hi, if_pos rfl, sn _ hci, Int.one_mul]
    unfold solN
    rw [h.piv hi]
  rw [this]; simp
theorem sol_spec {p : Int} {n : Nat} {rows : List (List Int)} {v : List Int} (hp : primeB p = true) (hg : RowsG p n rows) (hv : Good p rows.length v) (hok : okS n (basisL p (n + 1) (wideL rows v rows.length)) = true) :
    Solves p n rows v (solL n (basisL p (n + 1) (wideL rows v rows.length))) := by
  have hw := wideL_good hg hv (Nat.le_refl _)
  obtain ⟨c, hb⟩ := basis_red hp hw
  rw [solves_kill hg solL_len, ← kill_basis hp hw]
  exact sol_kill hb hok
theorem sol_exists {p : Int} {n : Nat} {rows : List (List Int)} {v y : List Int} (hp : primeB p = true) (hg : RowsG p n rows) (hv : Good p rows.length v) (hy : y.length = n) (h : Solves p n rows v y) :
    okS n (basisL p (n + 1) (wideL rows v rows.length)) = true := by
  have hpb := prime_bd hp
  have hw := wideL_good hg hv (Nat.le_refl _)
  obtain ⟨c, hb⟩ := basis_red hp hw
  rw [solves_kill hg hy, ← kill_basis hp hw] at h
  rw [okS_iff hb]
  intro i hi hc
  have hk := h i hi
  unfold dotN at hk
  rw [sumN_single (k := n) (by omega) fun t ht hne => by rw [hb.lead i hi t (by omega), Int.zero_mul]] at hk
  have h1 := hb.one i hi i hi
  rw [hc, if_pos rfl] at h1
  rw [h1, nth_len hy] at hk
  have hq : p = 3 ∨ p = 5 ∨ p = 7 ∨ p = 11 ∨ p = 13 := by simp [primeB] at hp; omega
  rcases hq with rfl | rfl | rfl | rfl | rfl <;> simp at hk

/-! ### The dove-cote -/
theorem dove : ∀ (M : Nat) (f : Nat → Nat), (∀ k, k ≤ M → f k < M) → ∃ i j, i < j ∧ j ≤ M ∧ f i = f j
  | 0, f, h => absurd (h 0 (Nat.le_refl _)) (Nat.not_lt_zero _)
  | M + 1, f, h => by
    by_cases hx : ∃ j, j < M + 1 ∧ f j = f (M + 1)
    · obtain ⟨j, hj, he⟩ := hx
      exact ⟨j, M + 1, hj, Nat.le_refl _, he⟩
    · have hx' : ∀ j, j < M + 1 → f j ≠ f (M + 1) := fun j hj he => hx ⟨j, hj, he⟩
      obtain ⟨i, j, hij, hj, he⟩ := dove M (fun k => if f k = M then f (M + 1) else f k) fun k hk => by
        have h1 := h k (by omega)
        have h2 := h (M + 1) (Nat.le_refl _)
        have h3 := hx' k (by omega)
        show (if f k = M then f (M + 1) else f k) < M
        split <;> omega
      refine ⟨i, j, hij, by omega, ?_⟩
      have he : (if f i = M then f (M + 1) else f i) = (if f j = M then f (M + 1) else f j) := he
      have h3 := hx' i (by omega)
      have h4 := hx' j (by omega)
      split at he <;> split at he
      · omega
      · exact absurd he.symm h4
      · exact absurd he h3
      · exact he
def encL (q : Nat) : List Int → Nat
  | [] => 0
  | x :: xs => x.toNat + q * encL q xs
theorem encL_lt {p : Int} {q : Nat} (hq : p = q) : ∀ (n : Nat) (x : List Int), Good p n x → encL q x < q ^ n
  | 0, x, h => by
    have : x = [] := List.length_eq_zero_iff.1 h.1
    subst this; exact Nat.one_pos
  | n + 1, [], h => by have := h.1; simp at this
  | n + 1, x :: xs, h => by
    have hx := h.2 0 (by omega)
    have hxs : Good p n xs := ⟨by have := h.1; simpa using this, fun i hi => by have := h.2 (i + 1) (by omega); simpa [nth] using this⟩
    have ih := encL_lt hq n xs hxs
    have h0 : nth (x :: xs) 0 = x := by simp [nth]
    rw [h0] at hx
    show x.toNat + q * encL q xs < q ^ (n + 1)
    rw [Nat.pow_succ, Nat.mul_comm (q ^ n)]
    have : q * (encL q xs + 1) ≤ q * q ^ n := Nat.mul_le_mul_left _ ih
    rw [Nat.mul_add, Nat.mul_one] at this
    omega
theorem encL_inj {p : Int} {q : Nat} (hq : p = q) : ∀ (n : Nat) (x y : List Int), Good p n x → Good p n y → encL q x = encL q y → x = y
  | 0, x, y, h, h', _ => by rw [List.length_eq_zero_iff.1 h.1, List.length_eq_zero_iff.1 h'.1]
  | n + 1, [], _, h, _, _ => by have := h.1; simp at this
  | n + 1, _ :: _, [], _, h, _ => by have := h.1; simp at this
  | n + 1, x :: xs, y :: ys, h, h', he => by
    have hx := h.2 0 (by omega)
    have hy := h'.2 0 (by omega)
    have g : ∀ z zs, Good p (n + 1) (z :: zs) → Good p n zs := fun z zs h => ⟨by have := h.1; simpa using this, fun i hi => by have := h.2 (i + 1) (by omega); simpa [nth] using this⟩
    have h0 : ∀ z zs, nth (z :: zs) 0 = z := fun z zs => by simp [nth]
    rw [h0] at hx hy
    have he' : x.toNat + q * encL q xs = y.toNat + q * encL q ys := he
    have hxl : x.toNat < q := by omega
    have hyl : y.toNat < q := by omega
    have e1 : x.toNat = y.toNat := by
      have := congrArg (· % q) he'
      simp only [Nat.add_mul_mod_self_left] at this
      rwa [Nat.mod_eq_of_lt hxl, Nat.mod_eq_of_lt hyl] at this
    have e2 : encL q xs = encL q ys := by
      have : q * encL q xs = q * encL q ys := by omega
      exact Nat.eq_of_mul_eq_mul_left (by omega) this
    rw [encL_inj hq n xs ys (g _ _ h) (g _ _ h') e2, show x = y by omega]

/-- A right inverse is a left inverse. -/
theorem inv_both {p : Int} {qs x y : List Int} (hp : 3 ≤ p) (hd : qs.length ≤ 6) (_hx : Good p (2 ^ qs.length) x) (hy : Good p (2 ^ qs.length) y) (h : prodL p qs tkA x y = bladeL (2 ^ qs.length) 0) : prodL p qs tkA y x = bladeL (2 ^ qs.length) 0 := by
  have hq : p = (p.toNat : Int) := by omega
  obtain ⟨i, j, hij, _, he⟩ := dove (p.toNat ^ 2 ^ qs.length) (fun k => encL p.toNat (powL p qs x k)) fun k _ => encL_lt hq _ _ (pow_good hp k)
  have he' : powL p qs x i = powL p qs x j := encL_inj hq _ _ _ (pow_good hp i) (pow_good hp j) he
  -- x^i y^i = 1
  have cancel : ∀ i, prodL p qs tkA (powL p qs x i) (powL p qs y i) = bladeL (2 ^ qs.length) 0 := fun i => by
    induction i with
    | zero => exact times_one (by omega) (blade_good hp)
    | succ i ih =>
      have e : powL p qs y (i + 1) = prodL p qs tkA y (powL p qs y i) := by
        rw [Nat.add_comm, ← pow_add hp hd 1 i, pow_one hp hy]
      show prodL p qs tkA (prodL p qs tkA (powL p qs x i) x) (powL p qs y (i + 1)) = _
      rw [e, prod_assoc (by omega) hd, ← prod_assoc (x := x) (by omega) hd, h, one_times hp (pow_good hp i), ih]
  have hn : powL p qs x (j - i) = bladeL (2 ^ qs.length) 0 := by
    have h1 := cancel i
    rw [he', show j = (j - i) + i by omega, ← pow_add hp hd, prod_assoc (by omega) hd, cancel i, times_one (by omega) (pow_good hp _)] at h1
    exact h1
  obtain ⟨k, hk⟩ : ∃ k, j - i = k + 1 := ⟨j - i - 1, by omega⟩
  rw [hk] at hn
  -- y = x^k
  have hyk : y = powL p qs x k := by
    have : prodL p qs tkA (powL p qs x (k + 1)) y = y := by rw [hn]; exact one_times hp hy
    rw [← this]
    show prodL p qs tkA (prodL p qs tkA (powL p qs x k) x) y = _
    rw [prod_assoc (by omega) hd, h, times_one (by omega) (pow_good hp k)]
  rw [hyk]; exact hn

end Go.Proofs.Ytcocbainookkcaa

/-
  The rank of the first columns; a column that no combination of the earlier ones makes raises it.
  No condition. No program in sight.
-/
namespace Go.Proofs.Ytcocbainookkcaa
set_option maxRecDepth 100000
open Go.RowKit

def truncL (m : Nat) (rows : List (List Int)) : List (List Int) := rows.map fun r => r.take m
theorem truncL_len {m : Nat} {rows : List (List Int)} : (truncL m rows).length = rows.length := by simp [truncL]
theorem truncL_nth {m i : Nat} {rows : List (List Int)} : nthR (truncL m rows) i = (nthR rows i).take m := by
  by_cases hi : i < rows.length
  · unfold truncL; rw [nthR_map hi, nthR_eq hi]
  · have h1 : nthR (truncL m rows) i = [] := by simp [nthR, truncL, List.getElem?_eq_none (Nat.le_of_not_lt hi)]
    have h2 : nthR rows i = [] := by simp [nthR, List.getElem?_eq_none (Nat.le_of_not_lt hi)]
    rw [h1, h2, List.take_nil]
theorem nth_take {m t : Nat} {x : List Int} (ht : t < m) : nth (x.take m) t = nth x t := by
  simp [nth, List.getElem?_take_of_lt ht]
theorem plus_take {p k : Int} {m m' : Nat} {x y : List Int} (h : m' ≤ m) : (plusL p x y k m).take m' = plusL p (x.take m') (y.take m') k m' := by
  refine ext_nth (by rw [List.length_take, plusL_len, plusL_len, Nat.min_eq_left h]) fun i hi => ?_
  rw [List.length_take, plusL_len, Nat.min_eq_left h] at hi
  rw [nth_take hi, plusL_nth (by omega), plusL_nth hi, plusN, plusN, nth_take hi, nth_take hi]
theorem scale_take {p k : Int} {m m' : Nat} {x : List Int} (h : m' ≤ m) : (scaleL p x k m).take m' = scaleL p (x.take m') k m' := by
  refine ext_nth (by rw [List.length_take, scaleL_len, scaleL_len, Nat.min_eq_left h]) fun i hi => ?_
  rw [List.length_take, scaleL_len, Nat.min_eq_left h] at hi
  rw [nth_take hi, scaleL_nth (by omega), scaleL_nth hi, scaleN, scaleN, nth_take hi]
theorem piv_trunc {m k d : Nat} {rows : List (List Int)} (hk : k < m) (hd : d ≤ rows.length) : pivG (truncL m rows) k d = pivG rows k d := by
  obtain ⟨h1, h2, h3, h4⟩ := pivG_spec rows k d hd
  refine pivG_eq h1 (by rw [truncL_len]; exact h2) (fun j hj hj2 => by rw [truncL_nth, nth_take hk]; exact h3 j hj hj2) ?_
  rcases h4 with h4 | h4
  · left; rw [truncL_len]; exact h4
  · right; rw [truncL_nth, nth_take hk]; exact h4
theorem step_trunc {p : Int} {m m' d k : Nat} {rows : List (List Int)} (h : m' ≤ m) (hk : k < m') (hd : d ≤ rows.length) :
    stepG p m' (truncL m' rows, d) k = (truncL m' (stepG p m (rows, d) k).1, (stepG p m (rows, d) k).2) := by
  have hp := piv_trunc (m := m') (k := k) (d := d) (rows := rows) hk hd
  obtain ⟨p1, p2, _, _⟩ := pivG_spec rows k d hd
  by_cases hn : pivG rows k d = rows.length
  · rw [stepG_no (s := (rows, d)) hn, stepG_no (s := (truncL m' rows, d)) (by rw [hp, truncL_len]; exact hn)]
  · obtain ⟨i, hi⟩ : ∃ i, i = pivG rows k d := ⟨_, rfl⟩
    rw [← hi] at hp p1 p2 hn
    have hil : i < rows.length := by omega
    have hdl : d < rows.length := by omega
    rw [stepG_yes (s := (rows, d)) hi.symm hil, stepG_yes (s := (truncL m' rows, d)) hp (by rw [truncL_len]; exact hil)]
    refine Prod.ext ?_ rfl
    show clrS p k m' d (upG p m' (truncL m' rows) d k i) (truncL m' rows).length = truncL m' (clrS p k m d (upG p m rows d k i) rows.length)
    have hu : ∀ j, nthR (upG p m' (truncL m' rows) d k i) j = (nthR (upG p m rows d k i) j).take m' := fun j => by
      rw [upG_nth (by rw [truncL_len]; exact hdl) (by rw [truncL_len]; exact hil), upG_nth hdl hil, truncL_nth, truncL_nth, truncL_nth, nth_take hk]
      split
      · rw [scale_take h]
      · split <;> rfl
    refine ext_rows (by rw [clrS_len, upG_len, truncL_len, truncL_len, clrS_len, upG_len]) fun j hj => ?_
    rw [clrS_len, upG_len, truncL_len] at hj
    rw [truncL_nth, truncL_len, clrS_nth _ (by rw [upG_len, truncL_len]; exact Nat.le_refl _), clrS_nth _ (by rw [upG_len]; exact Nat.le_refl _), hu, hu, nth_take hk]
    split
    · rw [plus_take h]
    · rfl
theorem gauss_trunc {p : Int} {m m' : Nat} {rows : List (List Int)} (hp : primeB p = true) (hg : RowsG p m rows) (h : m' ≤ m) : ∀ j, j ≤ m' → gaussS p m' (truncL m' rows) j = (truncL m' (gaussS p m rows j).1, (gaussS p m rows j).2)
  | 0, _ => rfl
  | j + 1, hj => by
    show stepG p m' (gaussS p m' (truncL m' rows) j) j = (truncL m' (stepG p m (gaussS p m rows j) j).1, (stepG p m (gaussS p m rows j) j).2)
    rw [gauss_trunc hp hg h j (by omega)]
    obtain ⟨_, c, hr⟩ := gaussS_red hp hg j (by omega)
    exact step_trunc h (by omega) hr.dle
def rankL (p : Int) (m : Nat) (rows : List (List Int)) : Nat := (gaussS p m rows m).2
theorem rank_le {p : Int} {m : Nat} {rows : List (List Int)} (hp : primeB p = true) (hg : RowsG p m rows) : rankL p m rows ≤ rows.length := (gauss_rank hp hg).1
/-- A further column that has no combination raises the rank. -/
theorem rank_up {p : Int} {m : Nat} {rows : List (List Int)} (hp : primeB p = true) (hg : RowsG p (m + 1) rows) (h : okS m (basisL p (m + 1) rows) = false) : rankL p (m + 1) rows = rankL p m (truncL m rows) + 1 := by
  have ht := gauss_trunc hp hg (Nat.le_succ m) m (Nat.le_refl _)
  have hr : rankL p m (truncL m rows) = (gaussS p (m + 1) rows m).2 := by unfold rankL; rw [ht]
  rw [hr]
  obtain ⟨h1, c, h2⟩ := gaussS_red hp hg m (by omega)
  obtain ⟨p1, p2, _, _⟩ := pivG_spec (gaussS p (m + 1) rows m).1 m (gaussS p (m + 1) rows m).2 h2.dle
  by_cases hn : pivG (gaussS p (m + 1) rows m).1 m (gaussS p (m + 1) rows m).2 = (gaussS p (m + 1) rows m).1.length
  · exfalso
    have e : gaussS p (m + 1) rows (m + 1) = gaussS p (m + 1) rows m := stepG_no hn
    -- no pivot in the last column: all first numbers stand ahead of it
    have hl : (basisL p (m + 1) rows).length = (gaussS p (m + 1) rows m).2 := by unfold basisL; rw [e, List.length_take, Nat.min_eq_left h2.dle]
    have hnn : ∀ i, i < (gaussS p (m + 1) rows m).2 → nthR (basisL p (m + 1) rows) i = nthR (gaussS p (m + 1) rows m).1 i := fun i hi => by unfold basisL; rw [e]; exact nthR_take hi
    have hd := h2.dle
    have ok : okS m (basisL p (m + 1) rows) = true := by
      unfold okS
      rw [Option.isNone_iff_eq_none]
      cases hp' : pivIx (basisL p (m + 1) rows) m with
      | none => rfl
      | some i =>
        obtain ⟨hi, hle⟩ := pivIx_some hp'
        have hi2 : i < (gaussS p (m + 1) rows m).2 := by omega
        have hc := h2.clt i hi2
        have hgl := (h1 i (by omega)).1
        have : leadN (nthR (basisL p (m + 1) rows) i) = c i := by
          rw [hnn i hi2]
          refine leadN_eq (by omega) (h2.lead i hi2) (.inr ?_)
          rw [h2.one i hi2 i (by omega), if_pos rfl]; omega
        omega
    rw [h] at ok; cases ok
  · unfold rankL
    show (stepG p (m + 1) (gaussS p (m + 1) rows m) m).2 = _
    rw [stepG_yes rfl (by omega)]
theorem trunc_wide {p : Int} {m n : Nat} {rows : List (List Int)} {u : List Int} (hg : RowsG p m rows) (hn : rows.length = n) : truncL m (wideL rows u n) = rows := by
  refine ext_rows (by rw [truncL_len, wideL_len, hn]) fun i hi => ?_
  rw [truncL_len, wideL_len] at hi
  rw [truncL_nth]
  have e : nthR (wideL rows u n) i = nthR rows i ++ [nth u i] := by unfold wideL; rw [nthR_map (by simpa using hi)]; simp
  rw [e, List.take_append_of_le_length (by rw [(hg i (by omega)).1]; exact Nat.le_refl _), List.take_of_length_le (by rw [(hg i (by omega)).1]; exact Nat.le_refl _)]

end Go.Proofs.Ytcocbainookkcaa

/-
  The determinant by elimination, plain: it is not 0 exactly if the rows have full rank; rows of lesser rank lead a vector to 0.
  No condition.
-/
namespace Go.Proofs.Ytcocbainookkcaa
set_option maxRecDepth 100000
open Go.RowKit

/-- Row k is taken, so often as needed, from all rows behind it. -/
def elimN (p : Int) (m k : Nat) (rows : List (List Int)) (r : Nat) : List Int := if k < r then plusL p (nthR rows r) (nthR rows k) (-(nth (nthR rows r) k) * invN p (nth (nthR rows k) k)) m else nthR rows r
def elimS (p : Int) (m k : Nat) (rows : List (List Int)) : Nat → List (List Int)
  | 0 => rows
  | r + 1 => if k < r then (elimS p m k rows r).set r (elimN p m k rows r) else elimS p m k rows r
theorem elimS_len {p : Int} {m k : Nat} {rows : List (List Int)} : ∀ r, (elimS p m k rows r).length = rows.length
  | 0 => rfl
  | r + 1 => by rw [elimS]; split <;> simp [elimS_len r]
theorem elimS_nth {p : Int} {m k : Nat} {rows : List (List Int)} : ∀ r, r ≤ rows.length → ∀ j, nthR (elimS p m k rows r) j = if j < r then elimN p m k rows j else nthR rows j
  | 0, _, j => by simp [elimS]
  | r + 1, h, j => by
    have ih := elimS_nth (p := p) (m := m) (k := k) (rows := rows) r (by omega) j
    rw [elimS]
    by_cases hk : k < r
    · rw [if_pos hk, nthR_set (by rw [elimS_len]; omega)]
      by_cases hj : r = j
      · subst hj; rw [if_pos rfl, if_pos (by omega)]
      · rw [if_neg hj, ih]
        by_cases hjr : j < r
        · rw [if_pos hjr, if_pos (by omega)]
        · rw [if_neg hjr, if_neg (by omega)]
    · rw [if_neg hk, ih]
      by_cases hjr : j < r
      · rw [if_pos hjr, if_pos (by omega)]
      · rw [if_neg hjr]
        by_cases hj : j < r + 1
        · rw [if_pos hj]; unfold elimN; rw [if_neg (by omega)]
        · rw [if_neg hj]
def elimL (p : Int) (m k : Nat) (rows : List (List Int)) : List (List Int) := elimS p m k rows rows.length
theorem elimL_len {p : Int} {m k : Nat} {rows : List (List Int)} : (elimL p m k rows).length = rows.length := elimS_len _
theorem elimL_nth {p : Int} {m k : Nat} {rows : List (List Int)} {j : Nat} (hj : j < rows.length) : nthR (elimL p m k rows) j = elimN p m k rows j := by
  unfold elimL; rw [elimS_nth _ (Nat.le_refl _), if_pos hj]
theorem elimL_good {p : Int} {m k : Nat} {rows : List (List Int)} (hp : 1 ≤ p) (h : RowsG p m rows) : RowsG p m (elimL p m k rows) := fun i hi => by
  rw [elimL_len] at hi
  rw [elimL_nth hi]
  unfold elimN
  split
  · exact plus_good hp
  · exact h i hi

/-- The rows and the factor when k columns are done; nothing, when a column had no number other than 0. -/
def detS (p : Int) (m : Nat) (rows : List (List Int)) : Nat → Option (List (List Int) × Int)
  | 0 => some (rows, 1)
  | k + 1 => match detS p m rows k with
    | none => none
    | some (r, o) => if pivG r k k = r.length then none
      else some (elimL p m k (swapL r k (pivG r k k)), ((if pivG r k k = k then o else (-o) % p) * nth (nthR r (pivG r k k)) k) % p)
def detL (p : Int) (m : Nat) (rows : List (List Int)) : Int := match detS p m rows rows.length with | none => 0 | some (_, o) => o

theorem detS_good {p : Int} {m : Nat} {rows : List (List Int)} (hp : 1 ≤ p) (hg : RowsG p m rows) : ∀ k, k ≤ rows.length → ∀ r o, detS p m rows k = some (r, o) → RowsG p m r ∧ r.length = rows.length
  | 0, _, r, o, h => by
    simp only [detS, Option.some.injEq, Prod.mk.injEq] at h
    obtain ⟨rfl, _⟩ := h
    exact ⟨hg, rfl⟩
  | k + 1, hk, r, o, h => by
    rw [detS] at h
    cases hd : detS p m rows k with
    | none => rw [hd] at h; cases h
    | some ro =>
      obtain ⟨r1, o1⟩ := ro
      rw [hd] at h
      simp only at h
      obtain ⟨h1, h2⟩ := detS_good hp hg k (by omega) r1 o1 hd
      split at h
      · cases h
      · rename_i hne
        simp only [Option.some.injEq, Prod.mk.injEq] at h
        obtain ⟨rfl, _⟩ := h
        have hpv := pivG_spec r1 k k (by omega)
        exact ⟨elimL_good hp (swapL_good h1 (by omega) (by omega)), by rw [elimL_len, swapL_len, h2]⟩

theorem pivG_congr {r s : List (List Int)} {k : Nat} (hl : r.length = s.length) (h : ∀ j, k ≤ j → nthR r j = nthR s j) (hk : k ≤ r.length) : pivG r k k = pivG s k k := by
  obtain ⟨h1, h2, h3, h4⟩ := pivG_spec s k k (by omega)
  refine pivG_eq h1 (by omega) (fun j hj hj2 => by rw [h j hj]; exact h3 j hj hj2) ?_
  rcases h4 with h4 | h4
  · exact .inl (by omega)
  · exact .inr (by rw [h _ h1]; exact h4)
theorem plus_scale {p c k : Int} {m : Nat} {x y : List Int} (_hp : 1 ≤ p) : plusL p x (scaleL p y c m) k m = plusL p x y (k * c) m := by
  refine ext_nth (by rw [plusL_len, plusL_len]) fun t ht => ?_
  rw [plusL_len] at ht
  rw [plusL_nth ht, plusL_nth ht, plusN, plusN, scaleL_nth ht, scaleN]
  rw [Int.add_emod, Int.mul_emod, Int.emod_emod, ← Int.mul_emod, ← Int.add_emod]
  congr 2
  rw [Int.mul_comm (nth y t), Int.mul_assoc]

/-- The elimination of the determinant and that of the reduced basis find the same numbers. -/
theorem det_gauss {p : Int} {m : Nat} {rows : List (List Int)} (hp : primeB p = true) (hg : RowsG p m rows) (hm : rows.length ≤ m) : ∀ k, k ≤ rows.length →
    (∀ r o, detS p m rows k = some (r, o) → (gaussS p m rows k).2 = k ∧ (∀ j, k ≤ j → nthR (gaussS p m rows k).1 j = nthR r j) ∧ 0 < o ∧ o < p) ∧ (detS p m rows k = none → (gaussS p m rows k).2 < k)
  | 0, _ => by
    have hpb := prime_bd hp
    refine ⟨fun r o h => ?_, fun h => by simp [detS] at h⟩
    simp only [detS, Option.some.injEq, Prod.mk.injEq] at h
    obtain ⟨rfl, rfl⟩ := h
    exact ⟨rfl, fun j _ => rfl, by omega, by omega⟩
  | k + 1, hk => by
    have hpb := prime_bd hp
    obtain ⟨ih1, ih2⟩ := det_gauss hp hg hm k (by omega)
    have hle : (gaussS p m rows (k + 1)).2 ≤ (gaussS p m rows k).2 + 1 := by
      rw [gaussS, stepG]; split <;> simp
    have hgl := gaussS_len (p := p) (m := m) (rows := rows) k
    obtain ⟨hgg, c, hred⟩ := gaussS_red hp hg k (by omega)
    cases hd : detS p m rows k with
    | none =>
      have := ih2 hd
      refine ⟨fun r o h => ?_, fun _ => by omega⟩
      rw [detS, hd] at h; cases h
    | some ro =>
      obtain ⟨r1, o1⟩ := ro
      obtain ⟨e1, e2, e3, e4⟩ := ih1 r1 o1 hd
      obtain ⟨g1, g2⟩ := detS_good (by omega) hg k (by omega) r1 o1 hd
      have hpiv : pivG (gaussS p m rows k).1 k k = pivG r1 k k := pivG_congr (by omega) e2 (by omega)
      obtain ⟨h1, h2, h3, h4⟩ := pivG_spec r1 k k (by omega)
      by_cases hno : pivG r1 k k = r1.length
      · have hst : gaussS p m rows (k + 1) = gaussS p m rows k := by
          rw [gaussS]
          exact stepG_no (by rw [e1, hpiv, hno]; omega)
        refine ⟨fun r o h => ?_, fun _ => by rw [hst]; omega⟩
        rw [detS, hd] at h
        simp only [hno, if_true] at h
        cases h
      · have hne : nth (nthR r1 (pivG r1 k k)) k ≠ 0 := by
          rcases h4 with h4 | h4
          · exact absurd h4 hno
          · exact h4
        have hil : pivG r1 k k < r1.length := by omega
        have hst := stepG_yes (p := p) (m := m) (s := gaussS p m rows k) (k := k) (i := pivG r1 k k) (by rw [e1]; exact hpiv) (by omega)
        rw [e1] at hst
        refine ⟨fun r o h => ?_, fun h => ?_⟩
        · rw [detS, hd] at h
          simp only [hno, if_false, Option.some.injEq, Prod.mk.injEq] at h
          obtain ⟨rfl, rfl⟩ := h
          have hpb1 := (g1 _ hil).2 k (by omega)
          refine ⟨by rw [gaussS, hst], fun j hj => ?_, ?_⟩
          · rw [gaussS, hst]
            simp only
            by_cases hjl : j < r1.length
            · rw [clrS_nth _ (by rw [upG_len]; omega), if_pos ⟨by omega, by omega⟩, elimL_nth (by rw [swapL_len]; exact hjl)]
              unfold elimN
              rw [if_pos (by omega), upG_nth (by omega) (by omega), upG_nth (by omega) (by omega), if_neg (by omega), if_pos rfl, plus_scale (by omega)]
              rw [swapL_nth (by omega) hil, swapL_nth (by omega) hil]
              have ek : nthR (gaussS p m rows k).1 k = nthR r1 k := e2 k (Nat.le_refl _)
              have ei : nthR (gaussS p m rows k).1 (pivG r1 k k) = nthR r1 (pivG r1 k k) := e2 _ h1
              have ej : nthR (gaussS p m rows k).1 j = nthR r1 j := e2 j (by omega)
              rw [ek, ei, ej]
              have hkk : (if k = pivG r1 k k then nthR r1 k else if k = k then nthR r1 (pivG r1 k k) else nthR r1 k) = nthR r1 (pivG r1 k k) := by
                by_cases hki : k = pivG r1 k k
                · rw [if_pos hki, ← hki]
                · rw [if_neg hki, if_pos rfl]
              rw [hkk]
              have hjj : (if j = pivG r1 k k then nthR r1 k else if j = k then nthR r1 (pivG r1 k k) else nthR r1 j) = (if j = pivG r1 k k then nthR r1 k else nthR r1 j) := by
                by_cases hji : j = pivG r1 k k
                · rw [if_pos hji, if_pos hji]
                · rw [if_neg hji, if_neg hji, if_neg (by omega)]
              rw [hjj]
            · rw [show nthR (elimL p m k (swapL r1 k (pivG r1 k k))) j = [] by unfold nthR; rw [List.getD_eq_getElem?_getD, List.getElem?_eq_none (by rw [elimL_len, swapL_len]; omega)]; rfl]
              unfold nthR
              rw [List.getD_eq_getElem?_getD, List.getElem?_eq_none (by rw [clrS_len, upG_len]; omega)]; rfl
          · have ho : 0 ≤ (if pivG r1 k k = k then o1 else (-o1) % p) ∧ (if pivG r1 k k = k then o1 else (-o1) % p) < p ∧ (if pivG r1 k k = k then o1 else (-o1) % p) ≠ 0 := by
              split
              · omega
              · refine ⟨Int.emod_nonneg _ (by omega), Int.emod_lt_of_pos _ (by omega), fun hz => ?_⟩
                rw [show -o1 = (p - o1) + p * (-1) by omega, Int.add_mul_emod_self_left, Int.emod_eq_of_lt (by omega) (by omega)] at hz
                omega
            have hz := mul_zero_of hp ho.1 ho.2.1 hpb1.1 hpb1.2
            have hn0 : (if pivG r1 k k = k then o1 else (-o1) % p) * nth (nthR r1 (pivG r1 k k)) k % p ≠ 0 := fun h => by
              rcases hz.1 h with h | h
              · exact ho.2.2 h
              · exact hne h
            have := Int.emod_nonneg ((if pivG r1 k k = k then o1 else (-o1) % p) * nth (nthR r1 (pivG r1 k k)) k) (show p ≠ 0 by omega)
            exact ⟨by omega, Int.emod_lt_of_pos _ (by omega)⟩
        · rw [detS, hd] at h
          simp only [hno, if_false] at h
          cases h
/-- The determinant is not 0 exactly if the rank is full. -/
theorem det_rank {p : Int} {m : Nat} {rows : List (List Int)} (hp : primeB p = true) (hg : RowsG p m rows) (hm : rows.length = m) : detL p m rows ≠ 0 ↔ rankL p m rows = m := by
  obtain ⟨h1, h2⟩ := det_gauss hp hg (by omega) rows.length (Nat.le_refl _)
  unfold detL rankL
  cases hd : detS p m rows rows.length with
  | none =>
    have := h2 hd
    rw [hm] at this
    simp only [ne_eq, not_true, false_iff]
    omega
  | some ro =>
    obtain ⟨r, o⟩ := ro
    obtain ⟨e1, _, e3, _⟩ := h1 r o hd
    rw [hm] at e1
    simp only [e1, iff_true]
    omega
theorem det_bd {p : Int} {m : Nat} {rows : List (List Int)} (hp : primeB p = true) (hg : RowsG p m rows) (hm : rows.length ≤ m) : 0 ≤ detL p m rows ∧ detL p m rows < p := by
  have hpb := prime_bd hp
  obtain ⟨h1, _⟩ := det_gauss hp hg hm rows.length (Nat.le_refl _)
  unfold detL
  cases hd : detS p m rows rows.length with
  | none => exact ⟨Int.le_refl _, by show (0 : Int) < p; omega⟩
  | some ro =>
    obtain ⟨r, o⟩ := ro
    have := h1 r o hd
    exact ⟨by show 0 ≤ o; omega, this.2.2.2⟩

/-! ### Kernels -/
theorem kerV_kill {p : Int} {n : Nat} {red : List (List Int)} {c : Nat → Nat} (_hp : 3 ≤ p) (h : Basis p n red c) {f : Nat} (hf : f < n) (hno : pivIx red f = none) : Kill p n red (kerV p n red f) := fun i hi => by
  have hfc : f ≠ c i := fun e => by rw [e, h.piv hi] at hno; cases hno
  have e : ∀ t, t < n → (nth (nthR red i) t * nth (kerV p n red f) t) % p = ((if t = f then nth (nthR red i) f else 0) + (if t = c i then -(nth (nthR red i) f) else 0)) % p := fun t ht => by
    rw [kerV_nth ht]
    unfold kerN
    by_cases htf : t = f
    · subst htf
      rw [if_pos rfl, if_pos rfl, if_neg hfc, Int.mul_one, Int.add_zero]
    · rw [if_neg htf, if_neg htf]
      cases hpv : pivIx red t with
      | none =>
        have htc : t ≠ c i := fun e => by rw [e, h.piv hi] at hpv; cases hpv
        rw [if_neg htc]; simp
      | some j =>
        obtain ⟨hj, hlj⟩ := pivIx_some hpv
        rw [h.leadN hj] at hlj
        subst hlj
        simp only
        rw [h.one j hj i hi]
        by_cases hij : i = j
        · subst hij
          rw [if_pos rfl, if_pos rfl, Int.one_mul, Int.emod_emod, Int.zero_add]
        · rw [if_neg hij, if_neg (fun e => hij (h.inj hi hj e.symm)), Int.zero_mul, Int.zero_add]
  unfold dotN
  rw [sumN_emod e, sumN_add, sumN_single (k := f) hf (fun t _ hne => if_neg hne), sumN_single (k := c i) (h.clt i hi) (fun t _ hne => if_neg hne), if_pos rfl, if_pos rfl]
  simp [Int.add_right_neg]
theorem ker_exists {p : Int} {n : Nat} {rows : List (List Int)} (hp : primeB p = true) (hg : RowsG p n rows) (hr : rankL p n rows < n) : ∃ z f, Good p n z ∧ Kill p n rows z ∧ f < n ∧ nth z f = 1 := by
  have hpb := prime_bd hp
  obtain ⟨c, hb⟩ := basis_red (m := n) hp hg
  have hl : (basisL p n rows).length = rankL p n rows := by
    unfold basisL rankL
    rw [List.length_take, Nat.min_eq_left]
    rw [gaussS_len]
    exact (gauss_rank hp hg).1
  have : ∃ f, f < n ∧ pivIx (basisL p n rows) f = none := Decidable.byContradiction fun hno => by
    have hall : ∀ t, t < n → ∃ j, pivIx (basisL p n rows) t = some j := fun t ht => by
      cases hpv : pivIx (basisL p n rows) t with
      | none => exact absurd ⟨t, ht, hpv⟩ hno
      | some j => exact ⟨j, rfl⟩
    obtain ⟨i, j, hij, hj, he⟩ := dove (rankL p n rows) (fun t => (pivIx (basisL p n rows) t).getD 0) (fun t ht => by
      obtain ⟨j, hj⟩ := hall t (by omega)
      rw [hj]
      have := (pivIx_some hj).1
      simp only [Option.getD_some]; omega)
    obtain ⟨a, ha⟩ := hall i (by omega)
    obtain ⟨b, hb'⟩ := hall j (by omega)
    rw [ha, hb'] at he
    simp only [Option.getD_some] at he
    have h1 := (pivIx_some ha).2
    have h2 := (pivIx_some hb').2
    rw [he] at h1
    omega
  obtain ⟨f, hf, hno⟩ := this
  refine ⟨_, f, kerV_good (f := f) (red := basisL p n rows) (by omega), (kill_basis hp hg).1 (kerV_kill (by omega) hb hf hno), hf, ?_⟩
  rw [kerV_nth hf, kerN, if_pos rfl]
/-- Rows of full rank have solutions for every right side. -/
theorem rank_ok {p : Int} {n : Nat} {rows : List (List Int)} {v : List Int} (hp : primeB p = true) (hg : RowsG p n rows) (hn : rows.length = n) (hv : Good p n v) (hr : rankL p n rows = n) : okS n (basisL p (n + 1) (wideL rows v n)) = true := by
  cases h : okS n (basisL p (n + 1) (wideL rows v n)) with
  | true => rfl
  | false =>
    have hw : RowsG p (n + 1) (wideL rows v n) := wideL_good hg hv (by omega)
    have h1 := rank_up (m := n) hp hw h
    rw [trunc_wide hg hn, hr] at h1
    have h2 := rank_le (m := n + 1) hp hw
    rw [wideL_len] at h2
    omega
end Go.Proofs.Ytcocbainookkcaa

/-
  Objects of a law in memory: rows of rows in blocks of a range, and writes into a range.
  No condition.
-/
namespace Go.Proofs.Ytcocbainookkcaa
set_option maxRecDepth 100000
open Go.RowKit

/-- Rows of rows, all in blocks from lo on and below hi. -/
def OwnRH (lo hi : Nat) (w : World) (a : Option Addr) (n cap : Nat) (rows : List (List Int)) : Prop :=
  rows.length = n ∧ (∀ g, a = some ⟨g, 0, none⟩ → g < hi) ∧ ∃ vs : List Value, w.ownsRow lo 24 1 (.slice a n cap) n vs ∧ Apart vs ∧
    ∀ i, i < n → ∃ ai ci, vs[i]? = some (.slice ai (nthR rows i).length ci) ∧ OwnC lo w ai (nthR rows i).length ci (nthR rows i) ∧ ∀ g, ai = some ⟨g, 0, none⟩ → g < hi
theorem OwnR.high {B : Nat} {w : World} {a : Option Addr} {n cap : Nat} {rows : List (List Int)} (h : OwnR B w a n cap rows) : OwnRH B w.heap.size w a n cap rows := by
  have hb := h.base_of
  obtain ⟨h1, vs, h2, h3, h4⟩ := h
  refine ⟨h1, fun g hg => (hb g hg).2, vs, h2, h3, fun i hi => ?_⟩
  obtain ⟨ai, ci, h5, h6⟩ := h4 i hi
  exact ⟨ai, ci, h5, h6, fun g hg => (h6.base_of g hg).2⟩
theorem OwnRH.low {lo hi : Nat} {w : World} {a : Option Addr} {n cap : Nat} {rows : List (List Int)} (h : OwnRH lo hi w a n cap rows) : OwnR lo w a n cap rows := by
  obtain ⟨h1, _, vs, h2, h3, h4⟩ := h
  refine ⟨h1, vs, h2, h3, fun i hi => ?_⟩
  obtain ⟨ai, ci, h5, h6, _⟩ := h4 i hi
  exact ⟨ai, ci, h5, h6⟩
theorem OwnRH.ext {lo hi : Nat} {w w' : World} {a : Option Addr} {n cap : Nat} {rows : List (List Int)} (h : OwnRH lo hi w a n cap rows) (he : Ext w w') : OwnRH lo hi w' a n cap rows := by
  obtain ⟨h1, h0, vs, h2, h3, h4⟩ := h
  refine ⟨h1, h0, vs, ownsRow_ext h2 he, h3, fun i hi => ?_⟩
  obtain ⟨ai, ci, h5, h6, h7⟩ := h4 i hi
  exact ⟨ai, ci, h5, h6.ext he, h7⟩

/-- The world has been extended, and blocks from lo on below hi may have been written. -/
structure WroteIn (lo hi : Nat) (w w' : World) : Prop where
  size : w.heap.size ≤ w'.heap.size
  os : w'.os = w.os
  tape : w'.tape = w.tape
  output : w'.output = w.output
  block : ∀ k, k < w.heap.size → (k < lo ∨ hi ≤ k) → w'.heap[k]? = w.heap[k]?
theorem WroteIn.refl (lo hi : Nat) (w : World) : WroteIn lo hi w w := ⟨Nat.le_refl _, rfl, rfl, rfl, fun _ _ _ => rfl⟩
theorem WroteIn.trans {lo hi : Nat} {a b c : World} (h : WroteIn lo hi a b) (k : WroteIn lo hi b c) : WroteIn lo hi a c :=
  ⟨Nat.le_trans h.size k.size, k.os.trans h.os, k.tape.trans h.tape, k.output.trans h.output, fun i hi hr => (k.block i (Nat.lt_of_lt_of_le hi h.size) hr).trans (h.block i hi hr)⟩
theorem WroteIn.ofExt {lo hi : Nat} {a b : World} (h : Ext a b) : WroteIn lo hi a b := ⟨h.size, h.os, h.tape, h.output, fun i hi _ => h.block i hi⟩
theorem Wrote.inR {lo hi : Nat} {w w' : World} {a : Option Addr} (h : Wrote w w' a) (hd : ∀ g, a = some ⟨g, 0, none⟩ → lo ≤ g ∧ g < hi) : WroteIn lo hi w w' :=
  ⟨h.1, h.2.1, h.2.2.1, h.2.2.2.1, fun k hk hr => h.2.2.2.2 k hk fun g hg e => by have := hd g hg; omega⟩
theorem WroteIn.ext {lo hi : Nat} {B w w' : World} (h : WroteIn lo hi w w') (hb : Ext B w) (hl : B.heap.size ≤ lo) : Ext B w' :=
  hb.trans' ⟨h.os, h.tape, h.output, h.size, fun k hk => h.block k (Nat.lt_of_lt_of_le hk hb.size) (.inl (by omega))⟩
theorem WroteIn.cell {lo hi : Nat} {w w' : World} (h : WroteIn lo hi w w') {p : Addr} {v : Value} (hc : w.cell? p = some v) (hn : p.block < lo ∨ hi ≤ p.block) : w'.cell? p = some v := by
  rw [World.cell?_of_block (w := w) (h.block p.block (lt_of_cell hc) hn)]
  exact hc
theorem WroteIn.own {lo hi B : Nat} {w w' : World} {b : Option Addr} {n cap : Nat} {xs : List Int} (h : WroteIn lo hi w w') (ho : OwnC B w b n cap xs) (hd : ∀ g, b = some ⟨g, 0, none⟩ → g < lo ∨ hi ≤ g) : OwnC B w' b n cap xs :=
  ho.keep fun g hg => h.block g (ho.base_of g hg).2 (hd g hg)
theorem WroteIn.ownR {lo hi lo' hi' : Nat} {w w' : World} {b : Option Addr} {n cap : Nat} {rows : List (List Int)} (h : WroteIn lo hi w w') (ho : OwnRH lo' hi' w b n cap rows) (hd : hi' ≤ lo ∨ hi ≤ lo') : OwnRH lo' hi' w' b n cap rows := by
  have hb := ho.low.base_of
  obtain ⟨h1, h0, vs, h2, h3, h4⟩ := ho
  have ow : w'.ownsRow lo' 24 1 (.slice b n cap) n vs := by
    obtain ⟨h5, h6⟩ := h2
    refine ⟨h5, ?_⟩
    rcases h6 with h6 | ⟨g, c, cur, hv, hg, hh, h7⟩
    · exact .inl h6
    · refine .inr ⟨g, c, cur, hv, hg, ?_, h7⟩
      simp only [Value.slice.injEq] at hv
      have := hb g hv.1
      have := h0 g hv.1
      rw [h.block g (by omega) (by omega)]; exact hh
  refine ⟨h1, h0, vs, ow, h3, fun i hi => ?_⟩
  obtain ⟨ai, ci, h5, h6, h7⟩ := h4 i hi
  refine ⟨ai, ci, h5, h.own h6 fun g hg => ?_, h7⟩
  have := h7 g hg
  have := (h6.base_of g hg).1
  omega

/-- One row of the rows is written in its place. -/
theorem OwnRH.atRow {lo hi : Nat} {w : World} {a : Option Addr} {n cap : Nat} {rows : List (List Int)} (h : OwnRH lo hi w a n cap rows) {i : Nat} (hi' : i < n) :
    ∃ b off ai ci, a = some ⟨b, off, none⟩ ∧ w.cell? ⟨b, off + i, none⟩ = some (.slice ai (nthR rows i).length ci) ∧ OwnC lo w ai (nthR rows i).length ci (nthR rows i) ∧ (∀ g, ai = some ⟨g, 0, none⟩ → lo ≤ g ∧ g < hi) ∧
      ∀ w' xs, xs.length = (nthR rows i).length → Wrote w w' ai → OwnC lo w' ai (nthR rows i).length ci xs → OwnRH lo hi w' a n cap (rows.set i xs) := by
  have hb := h.low.base_of
  obtain ⟨g, cur, rfl, _⟩ := h.low.row (by omega)
  obtain ⟨h1, h0, vs, h2, h3, h4⟩ := h
  obtain ⟨ai, ci, h5, h6, h7⟩ := h4 i hi'
  have hvl : vs.length = n := by have := h2.1; omega
  refine ⟨g, 0, ai, ci, rfl, ?_, h6, fun k hk => ⟨(h6.base_of k hk).1, h7 k hk⟩, fun w' xs hxl hw ho => ?_⟩
  · rw [Nat.zero_add, h2.cellAt i (by omega)]; exact h5
  · have hn : ∀ g', ai = some ⟨g', 0, none⟩ → g ≠ g' := fun g' hg' e => by
      subst e
      exact own_apart h2 h6 g hg' rfl
    have ow : w'.ownsRow lo 24 1 (.slice (some ⟨g, 0, none⟩) n cap) n vs := by
      obtain ⟨h8, h9⟩ := h2
      refine ⟨h8, ?_⟩
      rcases h9 with h9 | ⟨g', c, cur, hv, hg, hh, h10⟩
      · exact .inl h9
      · refine .inr ⟨g', c, cur, hv, hg, ?_, h10⟩
        simp only [Value.slice.injEq, Option.some.injEq, Addr.mk.injEq] at hv
        obtain ⟨⟨rfl, _⟩, _⟩ := hv
        have := hb g rfl
        rw [hw.2.2.2.2 g (by omega) (fun g' hg' => hn g' hg')]; exact hh
    refine ⟨by simpa using h1, h0, vs, ow, h3, fun j hj => ?_⟩
    rw [nthR_set (by omega)]
    by_cases hij : i = j
    · subst hij
      rw [if_pos rfl, hxl]
      exact ⟨ai, ci, h5, ho, h7⟩
    · rw [if_neg hij]
      obtain ⟨aj, cj, h8, h9, h10⟩ := h4 j hj
      refine ⟨aj, cj, h8, hw.own h9 fun g' hg' e => ?_, h10⟩
      subst hg'
      subst e
      exact h3 i j g' _ _ _ _ hij h5 h8

/-! ### Numbers of places, marks, sizes -/
def cntR (rows : List (List Int)) : Nat → Nat
  | 0 => 0
  | j + 1 => cntR rows j + (nthR rows j).length
theorem cntR_mono (rows : List (List Int)) (i : Nat) : ∀ j, cntR rows i ≤ cntR rows (i + j)
  | 0 => Nat.le_refl _
  | j + 1 => Nat.le_trans (cntR_mono rows i j) (Nat.le_add_right _ _)
theorem cntR_le (rows : List (List Int)) {i j : Nat} (h : i ≤ j) : cntR rows i ≤ cntR rows j := by
  have := cntR_mono rows i (j - i)
  rwa [Nat.add_sub_cancel' h] at this
theorem cntR_row (rows : List (List Int)) {i n : Nat} (h : i < n) : (nthR rows i).length ≤ cntR rows n := by
  have : cntR rows (i + 1) ≤ cntR rows n := cntR_le rows h
  have e : cntR rows (i + 1) = cntR rows i + (nthR rows i).length := rfl
  omega
/-- Marks in rows. -/
def markR (k : Int) (rows : List (List Int)) (n : Nat) : List (List Int) := (List.range n).map fun j => marks (k + cntR rows j) (nthR rows j).length
theorem markR_len (k : Int) (rows : List (List Int)) (n : Nat) : (markR k rows n).length = n := by simp [markR]
theorem markR_nth {k : Int} {rows : List (List Int)} {n j : Nat} (h : j < n) : nthR (markR k rows n) j = marks (k + cntR rows j) (nthR rows j).length := by
  unfold markR; rw [nthR_map (by simpa using h)]; simp
theorem markR_sum {k : Int} {rows : List (List Int)} {n : Nat} : ∀ j, j ≤ n → cntR (markR k rows n) j = cntR rows j
  | 0, _ => rfl
  | j + 1, h => by
    show cntR (markR k rows n) j + _ = cntR rows j + _
    rw [markR_sum j (by omega), markR_nth (by omega), marks_len]

def szK (left : Int) (rows : List (List Int)) (n j : Nat) : Int := left - (n : Int) - (cntR rows j : Int)
/-- What is left when rows have been counted, or -1. -/
def szR (left : Int) (rows : List (List Int)) : Int := if szK left rows rows.length rows.length < 0 then -1 else szK left rows rows.length rows.length
theorem szR_neg {left : Int} {rows : List (List Int)} {n j : Nat} (hn : rows.length = n) (hj : j ≤ n) (h : szK left rows n j < 0) : szR left rows = -1 := by
  unfold szR
  have : szK left rows rows.length rows.length ≤ szK left rows n j := by
    subst hn
    unfold szK
    have := cntR_le rows hj
    omega
  rw [if_pos (by omega)]
theorem szR_pos {left : Int} {rows : List (List Int)} {n : Nat} (hn : rows.length = n) (h : 0 ≤ szK left rows n n) : szR left rows = szK left rows n n := by
  subst hn
  unfold szR
  rw [if_neg (by omega)]
theorem szR_bd {left : Int} {rows : List (List Int)} (h : 0 ≤ szR left rows) : (rows.length : Int) + cntR rows rows.length ≤ left := by
  unfold szR at h
  split at h
  · omega
  · rename_i h'
    unfold szK at h'
    omega
theorem szR_le {left : Int} {rows : List (List Int)} (h : 0 ≤ szR left rows) : szR left rows ≤ left := by
  unfold szR at h ⊢
  split
  · rename_i h'
    rw [if_pos h'] at h; omega
  · unfold szK; omega
theorem szR_lt {left : Int} {rows : List (List Int)} (h : szR left rows < 0) : szR left rows = -1 := by
  unfold szR at h ⊢
  split
  · rfl
  · rename_i h'
    rw [if_neg h'] at h
    omega
def eqR (xs ys : List (List Int)) : Bool := decide (xs = ys)
theorem eqR_self (xs : List (List Int)) : eqR xs xs = true := by simp [eqR]
theorem eqR_len {xs ys : List (List Int)} (h : xs.length ≠ ys.length) : eqR xs ys = false := by
  simp only [eqR, decide_eq_false_iff_not]; intro he; exact h (by rw [he])
theorem eqR_nth {xs ys : List (List Int)} {k : Nat} (h : nthR xs k ≠ nthR ys k) : eqR xs ys = false := by
  simp only [eqR, decide_eq_false_iff_not]; intro he; exact h (by rw [he])
theorem eqR_all {xs ys : List (List Int)} {n : Nat} (hx : xs.length = n) (hy : ys.length = n) (h : ∀ j, j < n → nthR xs j = nthR ys j) : eqR xs ys = true := by
  simp only [eqR, decide_eq_true_eq]; exact ext_rows (by omega) (fun i hi => h i (by omega))

end Go.Proofs.Ytcocbainookkcaa

/-
  Contracts: the helpers of the laws of algebra.
  No condition.
-/
namespace Go.Proofs.Ytcocbainookkcaa
set_option maxRecDepth 100000
open Go.RowKit

set_option maxHeartbeats 400000 in
theorem l_big (a : Option Addr) (n cap : Nat) (w : World) :
    Calls Try.prog 7 #[.slice a n cap] w fun e w' => e = .returned (.bool (decide (4096 < n))) ∧ Ext w w' := by
  by_cases h : 4096 < n
  · have hg : (4096 : Int) < n := by omega
    have HD := Lib.hid (show decide (4096 < n) = true by simp [h])
    go_enter Try.func7, Try.ntmps7
    go_wp2_with (fail)
    go_ret
    first | exact ⟨rfl, Ext.refl _⟩ | exact ⟨ret_bool HD.out.symm, Ext.refl _⟩
  · have hg : ¬ (4096 : Int) < n := by omega
    have HD := Lib.hid (show decide (4096 < n) = false by simp [h])
    go_enter Try.func7, Try.ntmps7
    go_wp2_with (fail)
    go_ret
    first | exact ⟨rfl, Ext.refl _⟩ | exact ⟨ret_bool HD.out.symm, Ext.refl _⟩
set_option maxHeartbeats 400000 in
theorem l_like (a b : Option Addr) (n m ca cb : Nat) (xs ys : List Int) (w : World) (hl : n ≤ 4194304) (hm : m ≤ 4194304) (hx : RdC w a n xs) (hy : RdC w b m ys) :
    Calls Try.prog 11 #[.slice a n ca, .slice b m cb] w fun e w' => e = .returned (.bool (eqB xs ys)) ∧ Ext w w' := by
  by_cases hnm : n = m
  · subst hnm
    have hcb : ((n : Int) != (n : Int)) = false := by simp
    have HX := Lib.hid hx.2
    have HXN := Lib.hid hx.1
    have HY := Lib.hid hy.2
    have HYN := Lib.hid hy.1
    clear hx hy
    go_enter Try.func11, Try.ntmps11
    go_wp2_with (fail)
    go_loopw [5] (fun i wr => ∃ (k : Nat), k ≤ n ∧ i = .int .i64 k ∧ Hid (∀ j, j < k → nth xs j = nth ys j) ∧ Ext w wr) (fun i _ => n - (intOf i).toNat)
    case atStart => exact ⟨0, Nat.zero_le _, rfl, Lib.hid (fun j hj => by omega), Ext.refl _⟩
    case round =>
      obtain ⟨k, hk, rfl, HT, hext⟩ := hrel
      by_cases hlt : k < n
      · obtain ⟨b1, off1, rfl, hc1⟩ := HX.out k hlt
        obtain ⟨b2, off2, rfl, hc2⟩ := HY.out k hlt
        have Hc1 := Lib.hid ((hext.trans (ext_drew _)).cell hc1)
        have Hc2 := Lib.hid ((hext.trans (ext_drew _)).cell hc2)
        clear hc1 hc2
        by_cases hb : nth xs k = nth ys k
        · have HB := Lib.hid hb
          have hbb : (nth xs k != nth ys k) = false := by simp [hb]
          clear hb
          go_wp2_with (fail)
          refine wp_region_lex [] (by kernel_rfl) (by kernel_rfl) ?_
          repeat' first | (refine LexW.pure (v := ?_) rfl rfl (fun w1 he => ?_) ?_; rotate_left; ( have hc1 := he.cell Hc1.out; have hc2 := he.cell Hc2.out; go_simp; rfl); simp only [Act.put, List.setIfInBounds_toArray, List.set_cons_zero, List.set_cons_succ])
          refine LexW.nil (fun w2 he hk => ?_)
          go_wp2_with (fail)
          go_roundw
          case rel => exact ⟨k + 1, by omega, by go_num, Lib.hid (fun j hj => by
            by_cases hjk : j = k
            · subst hjk; exact HB.out
            · exact HT.out j (by omega)), hext.trans ((ext_drew _).trans he)⟩
          case measure => simp [intOf]; omega
        · have HB := Lib.hid hb
          have hbb : (nth xs k != nth ys k) = true := by simp [hb]
          clear hb
          go_wp2_with (fail)
          refine wp_region_lex [] (by kernel_rfl) (by kernel_rfl) ?_
          repeat' first | (refine LexW.pure (v := ?_) rfl rfl (fun w1 he => ?_) ?_; rotate_left; ( have hc1 := he.cell Hc1.out; have hc2 := he.cell Hc2.out; go_simp; rfl); simp only [Act.put, List.setIfInBounds_toArray, List.set_cons_zero, List.set_cons_succ])
          refine LexW.nil (fun w2 he hk => ?_)
          go_wp2_with (fail)
          go_ret
          exact ⟨ret_bool (eqB_nth HB.out).symm, hext.trans ((ext_drew _).trans he)⟩
      · go_wp2_with (fail)
        go_ret
        exact ⟨ret_bool (eqB_all HXN.out HYN.out (fun j hj => HT.out j (by omega))).symm, hext⟩
  · have HF := Lib.hid (eqB_len (xs := xs) (ys := ys) (by rw [hx.1, hy.1]; exact hnm))
    have hcb : ((n : Int) != (m : Int)) = true := by simp; omega
    go_enter Try.func11, Try.ntmps11
    go_wp2_with (fail)
    go_ret
    exact ⟨ret_bool HF.out.symm, Ext.refl _⟩
end Go.Proofs.Ytcocbainookkcaa

/-
  The listed functions VectorOf, PairOf, NormOf; the product and the vector of the laws.
  No condition.
-/
namespace Go.Proofs.Ytcocbainookkcaa
set_option maxRecDepth 100000
open Go.RowKit

theorem good_vecB {p : Int} {d : Nat} {v : List Int} (h : Good p d v) : vecB p d v = true := by
  unfold vecB
  simp only [h.1, decide_true, Bool.true_and]
  unfold isB
  rw [List.all_eq_true]
  intro x hx
  obtain ⟨i, hi, rfl⟩ := List.getElem_of_mem hx
  have := h.2 i (by rw [← h.1]; exact hi)
  rw [nth_eq hi] at this
  simp [inB]; omega
theorem vecB_good {p : Int} {d : Nat} {v : List Int} (h : vecB p d v = true) : Good p d v := good_isB (vec_of h).1 (vec_of h).2
theorem good_bits {p : Int} {n : Nat} {v : List Int} (h : Good p n v) : isB p v = true := (vec_of (good_vecB h)).2
theorem good_multiB {p : Int} {d : Nat} {x : List Int} (h : Good p (2 ^ d) x) : multiB p d x = true := by
  have := good_vecB h
  unfold vecB at this
  unfold multiB
  exact this
theorem codeV_one0 {p : Int} {qs v : List Int} (hs : spaceB p qs = true) (hv : Good p qs.length v) : codeV p qs [v] = 0 := by
  simp [codeV, hs, good_vecB hv]
theorem codeV_two0 {p : Int} {qs v u : List Int} (hs : spaceB p qs = true) (hv : Good p qs.length v) (hu : Good p qs.length u) : codeV p qs [v, u] = 0 := by
  simp [codeV, hs, good_vecB hv, good_vecB hu]
theorem codeM_two0 {p : Int} {qs x y : List Int} (hs : spaceB p qs = true) (hx : Good p (2 ^ qs.length) x) (hy : Good p (2 ^ qs.length) y) : codeM p qs [x, y] = 0 := by
  simp [codeM, hs, good_multiB hx, good_multiB hy]
theorem codeM_one0 {p : Int} {qs x : List Int} (hs : spaceB p qs = true) (hx : Good p (2 ^ qs.length) x) : codeM p qs [x] = 0 := by
  simp [codeM, hs, good_multiB hx]
theorem codeV_two_of {p : Int} {qs v u : List Int} (h : codeV p qs [v, u] = 0) : spaceB p qs = true ∧ Good p qs.length v ∧ Good p qs.length u := by
  unfold codeV at h
  split at h
  · rename_i hs
    split at h
    · rename_i ha
      simp only [List.all_cons, List.all_nil, Bool.and_true, Bool.and_eq_true] at ha
      exact ⟨hs, vecB_good ha.1, vecB_good ha.2⟩
    · cases h
  · cases h

set_option maxHeartbeats 1000000 in
theorem c_VectorOf_ok {N : Nat} (p : Int) (a : Option Addr) (d cap : Nat) (qs : List Int) (av : Option Addr) (cv : Nat) (v : List Int) (w : World) (hN : N = 2 ^ d) (hs : spaceB p qs = true) (hq : RdC w a d qs) (hv : RdC w av d v) (hg : Good p d v) :
    Calls Try.prog 41 #[.agg #[.int .i64 p, .slice a d cap], .slice av d cv] w fun e w' => ∃ g, e = .returned (.tuple #[.slice (some ⟨g, 0, none⟩) N N, .int .i64 0]) ∧ OwnC w.heap.size w' (some ⟨g, 0, none⟩) N N (vecL N v) ∧ Ext w w' := by
  have hd6 := (space_of hs).2.2.1
  rw [hq.1] at hd6
  have hc := codeV_one0 hs (by rw [hq.1]; exact hg)
  have HC := Lib.hid hc
  have hcb : ((0 : Int) != 0) = false := by simp
  clear hc
  have HN := Lib.hid hN
  clear hN
  go_enter Try.func41, Try.ntmps41
  go_wp2_with (fail)
  refine Calls.mono (c_checkVectors p a d cap qs _ 1 _ [v] _ (by omega) (by omega) (len_one (by rw [hv.1]; omega)) (hq.ext ((ext_alloc _ _).alloc _)) (rdR_one (a := av) (n := d) (cap := cv) (by simp) (hv.ext ((ext_alloc _ _).alloc _)))) ?_
  rintro e w1 ⟨rfl, g1⟩
  rw [HC.out]
  have q0 : w1.cell? ⟨w.heap.size, 0, none⟩ = some (.int .i64 p) := g1.cell (by simp)
  have q1 : w1.cell? ⟨w.heap.size, 1, none⟩ = some (.slice a d cap) := g1.cell (by simp)
  have G1 := Lib.hid (((ext_alloc w _).alloc _).trans g1)
  clear g1
  go_wp2_with (fail)
  refine Calls.mono (c_vector HN.out p a cap av cv v w1 hd6 (hv.ext G1.out)) ?_
  rintro e w2 ⟨g, rfl, ho, g2⟩
  go_wp2_with (fail)
  go_ret2
  exact ⟨g, rfl, ho.mono G1.out.size, G1.out.trans g2⟩



/-- What PairOf returns. -/
def pairV (p : Int) (qs v u : List Int) : Int := if codeV p qs [v, u] = 0 then pairL p qs v u qs.length else 0
set_option maxHeartbeats 1000000 in
theorem c_NormOf_ok (p : Int) (a : Option Addr) (d cap : Nat) (qs : List Int) (av : Option Addr) (cv : Nat) (v : List Int) (w : World) (hs : spaceB p qs = true) (hq : RdC w a d qs) (hv : RdC w av d v) (hg : Good p d v) :
    Calls Try.prog 22 #[.agg #[.int .i64 p, .slice a d cap], .slice av d cv] w fun e w' => e = .returned (.tuple #[.int .i64 (pairL p qs v v d), .int .i64 0]) ∧ Ext w w' := by
  obtain ⟨hpr, hd1, hd6, hqb⟩ := space_of hs
  have hpb := prime_bd hpr
  rw [hq.1] at hd6
  have hc := codeV_one0 hs (by rw [hq.1]; exact hg)
  have HC := Lib.hid hc
  have hcb : ((0 : Int) != 0) = false := by simp
  clear hc
  go_enter Try.func22, Try.ntmps22
  go_wp2_with (fail)
  refine Calls.mono (c_checkVectors p a d cap qs _ 1 _ [v] _ (by omega) (by omega) (len_one (by rw [hv.1]; omega)) (hq.ext ((ext_alloc _ _).alloc _)) (rdR_one (a := av) (n := d) (cap := cv) (by simp) (hv.ext ((ext_alloc _ _).alloc _)))) ?_
  rintro e w1 ⟨rfl, g1⟩
  rw [HC.out]
  have q0 : w1.cell? ⟨w.heap.size, 0, none⟩ = some (.int .i64 p) := g1.cell (by simp)
  have q1 : w1.cell? ⟨w.heap.size, 1, none⟩ = some (.slice a d cap) := g1.cell (by simp)
  have G1 := Lib.hid (((ext_alloc w _).alloc _).trans g1)
  clear g1
  go_wp2_with (fail)
  refine Calls.mono (c_norm p a d cap qs av cv v w1 hpb.1 (by omega) hd6 (hq.ext G1.out) hqb (hv.ext G1.out) hg) ?_
  rintro e w2 ⟨rfl, g2⟩
  go_wp2_with (fail)
  go_ret2
  exact ⟨rfl, G1.out.trans g2⟩
end Go.Proofs.Ytcocbainookkcaa

/-
  Regions that draw their order of evaluation, walked once in the order of the text, where operations change the world by a relation that the proof chooses (so also a block of its own that calls write).
  No condition. General over every program.
-/
namespace Go.Proofs.Ytcocbainookkcaa.Chg
open Go.RowKit

/-- A relation between worlds that holds from a world to itself and goes on. -/
structure Rel where
  r : World → World → Prop
  refl : ∀ w, r w w
  trans : ∀ {a b c}, r a b → r b c → r a c

variable {E : Rel}

/-- What is said of a value in a world, and stays true when the world is extended. -/
structure SPred (E : Rel) where
  holds : Value → World → Prop
  st : ∀ v w w', holds v w → E.r w w' → holds v w'

/-- This very value. -/
def SPred.val (v0 : Value) : SPred E := ⟨fun v _ => v = v0, fun _ _ _ h _ => h⟩

section
variable {P : Program} {ops : Array Oper} {md : Region.Mode}

/-- One operation hands on a value, in a world, of which R holds; it does not panic. -/
def wpS (P : Program) (o : Oper) (a : Act) (w : World) (R : Value → World → Prop) : Prop :=
  match (execOp a.eval o).run P w with
  | .ok (.value v) w' => R v w'
  | .ok .skip w' => R undef w'
  | .ok (.enter f args) w' => Calls P f args w' fun e w'' => ∃ v, e = .returned v ∧ R v w''
  | _ => False

theorem wpS_some {o : Oper} {a : Act} {w : World} {R : Value → World → Prop} (h : wpS P o a w R) : ∃ v w', R v w' := by
  unfold wpS at h
  split at h
  · exact ⟨_, _, h⟩
  · exact ⟨_, _, h⟩
  · obtain ⟨e, w', fr, ⟨v, _, hr⟩, _⟩ := h []
    exact ⟨_, _, hr⟩
  · exact h.elim

theorem wp_of_wpS {o : Oper} {a : Act} {w : World} {R : Value → World → Prop} {K : Act → World → Prop} {Q : Exit → Act → World → Prop} (h : wpS P o a w R) (hk : ∀ v w', R v w' → K (a.put o.dst v) w') : o.wp P a w K Q := by
  unfold wpS at h
  unfold Oper.wp
  split at h
  · rename_i hr; rw [hr]; exact hk _ _ h
  · rename_i hr; rw [hr]; exact hk _ _ h
  · rename_i hr; rw [hr]
    exact Calls.mono h fun e w'' ⟨v, he, hr⟩ => by subst he; exact hk _ _ hr
  · exact h.elim

/-- The temporaries that operation i reads and that an earlier operation of the region writes. -/
def depsOf (ops : Array Oper) (i : Nat) : List (Nat × Tmp) :=
  match ops[i]? with
  | none => []
  | some o => (List.range i).filterMap fun d => match (ops[d]?).bind (·.dst) with
      | some t => if (o.looksAt ops).contains t then some (d, t) else none
      | none => none

theorem depsOf_spec {i d : Nat} {t : Tmp} {o : Oper} (ho : ops[i]? = some o) (h : (d, t) ∈ depsOf ops i) : t ∈ o.looksAt ops ∧ ∃ od, ops[d]? = some od ∧ od.dst = some t := by
  simp only [depsOf, ho, List.mem_filterMap, List.mem_range] at h
  obtain ⟨d', _, hd⟩ := h
  split at hd
  · rename_i t' ht'
    split at hd
    · rename_i hc
      simp only [Option.some.injEq, Prod.mk.injEq] at hd
      obtain ⟨rfl, rfl⟩ := hd
      refine ⟨by simpa using hc, ?_⟩
      cases hod : ops[d']? with
      | none => simp [hod] at ht'
      | some od => exact ⟨od, rfl, by simpa [hod] using ht'⟩
    · cases hd
  · cases hd

/-- What is said of a value: nothing, where none was given. -/
def holdsO (s : Option (SPred E)) (v : Value) (w : World) : Prop := match s with | none => True | some p => p.holds v w
theorem holdsO.ext {s : Option (SPred E)} {v : Value} {w w' : World} (h : holdsO s v w) (he : E.r w w') : holdsO s v w' := by
  cases s with
  | none => trivial
  | some p => exact p.st _ _ _ h he

def Dep (sp : Nat → Option (SPred E)) (l : List (Nat × Tmp)) (a : Act) (w : World) : Prop := ∀ p ∈ l, holdsO (sp p.1) (a.tmps.getD p.2 undef) w
def DepIn (env : List (Nat × Value)) (l : List (Nat × Tmp)) (a : Act) : Prop := ∀ p ∈ l, (p.1, a.tmps.getD p.2 undef) ∈ env
/-- All that is known of the values so far. -/
def Known (sp : Nat → Option (SPred E)) (env : List (Nat × Value)) (w : World) : Prop := ∀ p ∈ env, holdsO (sp p.1) p.2 w

theorem Known.dep {sp : Nat → Option (SPred E)} {env : List (Nat × Value)} {w : World} (h : Known sp env w) {l : List (Nat × Tmp)} {a : Act} (hd : DepIn env l a) : Dep sp l a w := fun p hp => h _ (hd p hp)
theorem Known.ext {sp : Nat → Option (SPred E)} {env : List (Nat × Value)} {w w' : World} (h : Known sp env w) (he : E.r w w') : Known sp env w' := fun p hp => (h p hp).ext he
theorem Known.cons {sp : Nat → Option (SPred E)} {env : List (Nat × Value)} {w : World} (h : Known sp env w) {i : Nat} {v : Value} (hv : holdsO (sp i) v w) : Known sp ((i, v) :: env) w := fun p hp => by
  rcases List.mem_cons.1 hp with rfl | hp
  · exact hv
  · exact h p hp

theorem getD_put {a : Act} {dst : Option Tmp} {v : Value} {t : Tmp} (h : ∀ d, dst = some d → d ≠ t) : (a.put dst v).tmps.getD t undef = a.tmps.getD t undef := by
  cases dst with
  | none => rfl
  | some d => simp [Act.put, Array.getElem?_setIfInBounds_ne (h d rfl)]

variable (E P ops) in
/-- The operation yields this very value in every world that extends the first one (or is passed over). -/
def Sure (w0 : World) (o : Oper) (a : Act) (v : Value) : Prop :=
  (Region.wanted o (yielded ops a.tmps) = true ∧ ∀ w, E.r w0 w → (execOp a.eval o).run P w = .ok (.value v) w) ∨ (Region.wanted o (yielded ops a.tmps) = false ∧ v = undef)

theorem Sure.uniq {w0 : World} {o : Oper} {a : Act} {v v' : Value} (h : Sure E P ops w0 o a v) (h' : Sure E P ops w0 o a v') : v = v' := by
  rcases h with ⟨hw, hr⟩ | ⟨hw, rfl⟩ <;> rcases h' with ⟨hw', hr'⟩ | ⟨hw', rfl⟩
  · have h1 := hr w0 (E.refl _)
    have h2 := hr' w0 (E.refl _)
    rw [h1] at h2
    simpa using h2
  · rw [hw] at hw'; cases hw'
  · rw [hw] at hw'; cases hw'
  · rfl

variable (P ops) in
/-- Operation i can be carried out in a state. -/
def Can (w0 : World) (sp : Nat → Option (SPred E)) (i : Nat) (o : Oper) (a : Act) (env : List (Nat × Value)) : Prop :=
  match sp i with
  | none => ∃ v, Sure E P ops w0 o a v
  | some p => Region.wanted o (yielded ops a.tmps) = true ∧ DepIn env (depsOf ops i) a ∧ ∀ w, E.r w0 w → Dep sp (depsOf ops i) a w → wpS P o a w fun v w' => E.r w w' ∧ p.holds v w'

variable (P ops) in
/-- What it may yield. -/
def Res (w0 : World) (sp : Nat → Option (SPred E)) (i : Nat) (o : Oper) (a : Act) (env : List (Nat × Value)) (v : Value) : Prop :=
  match sp i with
  | none => Sure E P ops w0 o a v
  | some p => ∃ w, E.r w0 w ∧ Known sp env w ∧ p.holds v w

theorem wpS_put {w : World} {R : Value → World → Prop} {oj : Oper} (hs : ∀ cs b, oj.op ≠ .select cs b) (a : Act) (dst : Option Tmp) (v : Value) (h : ∀ d, dst = some d → d ∉ oj.looksAt ops) : wpS P oj (a.put dst v) w R = wpS P oj a w R := by
  unfold wpS; rw [execOp_put oj hs a dst v h]

theorem Sure_put {w0 : World} {oj : Oper} (hs : ∀ cs b, oj.op ≠ .select cs b) (a : Act) (dst : Option Tmp) (v u : Value) (h : ∀ d, dst = some d → d ∉ oj.looksAt ops) : Sure E P ops w0 oj (a.put dst v) u ↔ Sure E P ops w0 oj a u := by
  unfold Sure; rw [execOp_put oj hs a dst v h, wanted_put (ops := ops) oj a dst v h]

theorem Dep_put {sp : Nat → Option (SPred E)} {j : Nat} {oj : Oper} (hj : ops[j]? = some oj) (a : Act) (dst : Option Tmp) (v : Value) (w : World) (h : ∀ d, dst = some d → d ∉ oj.looksAt ops) :
    Dep sp (depsOf ops j) (a.put dst v) w ↔ Dep sp (depsOf ops j) a w := by
  constructor
  · intro hd p hp
    have := hd p hp
    rwa [getD_put (fun d he hdt => h d he (by rw [hdt]; exact (depsOf_spec hj hp).1))] at this
  · intro hd p hp
    rw [getD_put (fun d he hdt => h d he (by rw [hdt]; exact (depsOf_spec hj hp).1))]
    exact hd p hp

section
variable {w0 : World} {sp : Nat → Option (SPred E)} {i j : Nat} {oi oj : Oper} {a : Act} {v vj : Value} {env : List (Nat × Value)}

/-- What can be carried out behind i, apart from it, can be carried out ahead of it. -/
theorem Can.back (hi : ops[i]? = some oi) (hj : ops[j]? = some oj) (hap : oi.apart ops oj = true)
    (hsj : ∀ cs b, oj.op ≠ .select cs b) (h : Can P ops w0 sp j oj (a.put oi.dst v) ((i, v) :: env)) : Can P ops w0 sp j oj a env := by
  obtain ⟨h1, h2, h3⟩ := Oper.apart_spec hap
  unfold Can at *
  cases hsp : sp j with
  | none =>
    rw [hsp] at h
    obtain ⟨u, hu⟩ := h
    exact ⟨u, (Sure_put hsj a oi.dst v u h1).1 hu⟩
  | some p =>
    rw [hsp] at h
    obtain ⟨hw, hd, hr⟩ := h
    rw [wanted_put (ops := ops) oj a oi.dst v h1] at hw
    refine ⟨hw, fun q hq => ?_, fun w he hdp => ?_⟩
    · have hin := hd q hq
      obtain ⟨hl, od, hod, hdt⟩ := depsOf_spec hj hq
      rw [getD_put (fun d he hdd => h1 d he (by rw [hdd]; exact hl))] at hin
      rcases List.mem_cons.1 hin with heq | hin
      · have : q.1 = i := congrArg Prod.fst heq
        rw [this, hi] at hod
        obtain rfl := Option.some.inj hod
        exact absurd hl (h1 _ hdt)
      · exact hin
    · have := hr w he ((Dep_put hj a oi.dst v w h1).2 hdp)
      rwa [wpS_put hsj a oi.dst v h1] at this

theorem Can.fore (hi : ops[i]? = some oi) (hap : oi.apart ops oj = true)
    (hsi : ∀ cs b, oi.op ≠ .select cs b) (h : Can P ops w0 sp i oi a env) : Can P ops w0 sp i oi (a.put oj.dst v) ((j, v) :: env) := by
  obtain ⟨h1, h2, h3⟩ := Oper.apart_spec hap
  unfold Can at *
  cases hsp : sp i with
  | none =>
    rw [hsp] at h
    obtain ⟨u, hu⟩ := h
    exact ⟨u, (Sure_put hsi a oj.dst v u h3).2 hu⟩
  | some p =>
    rw [hsp] at h
    obtain ⟨hw, hd, hr⟩ := h
    rw [← wanted_put (ops := ops) oi a oj.dst v h3] at hw
    refine ⟨hw, fun q hq => ?_, fun w he hdp => ?_⟩
    · obtain ⟨hl, od, hod, hdt⟩ := depsOf_spec hi hq
      rw [getD_put (fun d he hdd => h3 d he (by rw [hdd]; exact hl))]
      exact List.mem_cons_of_mem _ (hd q hq)
    · have := hr w he ((Dep_put hi a oj.dst v w h3).1 hdp)
      rwa [wpS_put hsi a oj.dst v h3]

theorem Res.joint (hap : oi.apart ops oj = true) (hsi : ∀ cs b, oi.op ≠ .select cs b) (hsj : ∀ cs b, oj.op ≠ .select cs b)
    (h1 : Res P ops w0 sp j oj a env vj) (h2 : Res P ops w0 sp i oi (a.put oj.dst vj) ((j, vj) :: env) v) :
    Res P ops w0 sp i oi a env v ∧ Res P ops w0 sp j oj (a.put oi.dst v) ((i, v) :: env) vj := by
  obtain ⟨g1, g2, g3⟩ := Oper.apart_spec hap
  unfold Res at *
  cases hpi : sp i with
  | none =>
    rw [hpi] at h2
    refine ⟨(Sure_put hsi a oj.dst vj v g3).1 h2, ?_⟩
    cases hpj : sp j with
    | none => rw [hpj] at h1; exact (Sure_put hsj a oi.dst v vj g1).2 h1
    | some q =>
      rw [hpj] at h1
      obtain ⟨w, he, hk, hv⟩ := h1
      exact ⟨w, he, hk.cons (by rw [hpi]; trivial), hv⟩
  | some p =>
    rw [hpi] at h2
    obtain ⟨w, he, hk, hv⟩ := h2
    have hk' : Known sp env w := fun q hq => hk q (List.mem_cons_of_mem _ hq)
    refine ⟨⟨w, he, hk', hv⟩, ?_⟩
    cases hpj : sp j with
    | none => rw [hpj] at h1; exact (Sure_put hsj a oi.dst v vj g1).2 h1
    | some q =>
      have hq := hk (j, vj) List.mem_cons_self
      simp only [hpj] at hq
      exact ⟨w, he, hk'.cons (by rw [hpi]; exact hv), hq⟩

theorem Can.some_res (h : Can P ops w0 sp i oi a env) (hsat : ∃ w, E.r w0 w ∧ Known sp env w) : ∃ v, Res P ops w0 sp i oi a env v := by
  unfold Can at h
  unfold Res
  cases hp : sp i with
  | none => rw [hp] at h; exact h
  | some p =>
    rw [hp] at h
    obtain ⟨hw, hd, hr⟩ := h
    obtain ⟨w, he, hk⟩ := hsat
    obtain ⟨v, w', he', hv⟩ := wpS_some (hr w he (hk.dep hd))
    exact ⟨v, w', E.trans he he', hk.ext he', hv⟩

theorem Res.sat (h : Res P ops w0 sp i oi a env v) (hsat : ∃ w, E.r w0 w ∧ Known sp env w) : ∃ w, E.r w0 w ∧ Known sp ((i, v) :: env) w := by
  unfold Res at h
  cases hp : sp i with
  | none =>
    obtain ⟨w, he, hk⟩ := hsat
    exact ⟨w, he, hk.cons (by rw [hp]; trivial)⟩
  | some p =>
    rw [hp] at h
    obtain ⟨w, he, hk, hv⟩ := h
    exact ⟨w, he, hk.cons (by rw [hp]; exact hv)⟩

theorem Res.weak {env' : List (Nat × Value)} (hs : ∀ p ∈ env, p ∈ env') (h : Res P ops w0 sp i oi a env' v) : Res P ops w0 sp i oi a env v := by
  unfold Res at *
  cases hp : sp i with
  | none => rw [hp] at h; exact h
  | some p =>
    rw [hp] at h
    obtain ⟨w, he, hk, hv⟩ := h
    exact ⟨w, he, fun q hq => hk q (hs q hq), hv⟩
theorem Can.weak {env' : List (Nat × Value)} (hs : ∀ p ∈ env, p ∈ env') (h : Can P ops w0 sp i oi a env) : Can P ops w0 sp i oi a env' := by
  unfold Can at *
  cases hp : sp i with
  | none => rw [hp] at h; exact h
  | some p =>
    rw [hp] at h
    exact ⟨h.1, fun q hq => hs _ (h.2.1 q hq), h.2.2⟩
end

variable (P ops md) in
/-- Whatever order is picked, till the first n have been carried out. -/
def AnyR (w0 : World) (sp : Nat → Option (SPred E)) (n : Nat) (L : Array Bool → Act → World → Prop) : Nat → Array Bool → Act → List (Nat × Value) → Prop
  | 0, listed, a, env => ∀ w, E.r w0 w → Known sp env w → L listed a w
  | f + 1, listed, a, env => Region.ready md ops listed ≠ [] ∧ ∀ i ∈ Region.ready md ops listed, i < n ∧ ∀ o, ops[i]? = some o →
      Can P ops w0 sp i o a env ∧ ∀ v, Res P ops w0 sp i o a env v → AnyR w0 sp n L f (listed.setIfInBounds i true) (a.put o.dst v) ((i, v) :: env)

theorem AnyR.env {w0 : World} {sp : Nat → Option (SPred E)} {n : Nat} {L : Array Bool → Act → World → Prop} : ∀ (f : Nat) (listed : Array Bool) (a : Act) (env env' : List (Nat × Value)), (∀ p ∈ env, p ∈ env') →
    AnyR P ops md w0 sp n L f listed a env → AnyR P ops md w0 sp n L f listed a env'
  | 0, _, _, _, _, hs, h => fun w he hk => h w he fun p hp => hk p (hs p hp)
  | f + 1, listed, a, env, env', hs, h => ⟨h.1, fun i hi => ⟨(h.2 i hi).1, fun o ho => by
      obtain ⟨hc, hr⟩ := (h.2 i hi).2 o ho
      refine ⟨Can.weak hs hc, fun v hv => ?_⟩
      exact AnyR.env f _ _ _ _ (fun p hp => by
        rcases List.mem_cons.1 hp with rfl | hp
        · exact List.mem_cons_self
        · exact List.mem_cons_of_mem _ (hs p hp)) (hr v (Res.weak hs hv))⟩⟩

theorem AnyR.sound {w0 : World} {sp : Nat → Option (SPred E)} {n g : Nat} {L : Array Bool → Act → World → Prop} {Q : Exit → Act → World → Prop} (hL : ∀ listed a w, L listed a w → wpAny P md ops Q g listed a w) :
    ∀ (f : Nat) (listed : Array Bool) (a : Act) (env : List (Nat × Value)) (w : World), E.r w0 w → Known sp env w → AnyR P ops md w0 sp n L f listed a env → wpAny P md ops Q (f + g) listed a w
  | 0, _, _, _, w, he, hk, h => by rw [Nat.zero_add]; exact hL _ _ _ (h w he hk)
  | f + 1, listed, a, env, w, he, hk, h => by
    rw [show f + 1 + g = (f + g) + 1 by omega]
    refine ⟨fun h0 => absurd h0 h.1, fun i hi => ?_⟩
    unfold wpOp
    split
    · rename_i hn
      obtain ⟨_, o, ho, _⟩ := mem_ready.1 hi
      rw [hn] at ho; cases ho
    · rename_i o ho
      obtain ⟨hc, hr⟩ := (h.2 i hi).2 o ho
      unfold Can at hc
      cases hp : sp i with
      | none =>
        rw [hp] at hc
        obtain ⟨v, hv⟩ := hc
        have hk' : Known sp ((i, v) :: env) w := hk.cons (by rw [hp]; trivial)
        have hres : Res P ops w0 sp i o a env v := by unfold Res; rw [hp]; exact hv
        have hnext := AnyR.sound hL f _ _ _ w he hk' (hr v hres)
        rcases hv with ⟨hw, hrun⟩ | ⟨hw, rfl⟩
        · rw [if_pos hw]
          refine .inl ?_
          unfold Oper.wp
          rw [hrun w he]
          exact hnext
        · rw [if_neg (by rw [hw]; decide)]
          exact hnext
      | some p =>
        rw [hp] at hc
        obtain ⟨hw, hd, hrr⟩ := hc
        rw [if_pos hw]
        refine .inl (wp_of_wpS (hrr w he (hk.dep hd)) fun v w' ⟨he', hv⟩ => ?_)
        exact AnyR.sound hL f _ _ _ w' (E.trans he he') ((hk.ext he').cons (by rw [hp]; exact hv)) (hr v (by unfold Res; rw [hp]; exact ⟨w', E.trans he he', hk.ext he', hv⟩))

theorem AnyR.first {w0 : World} {sp : Nat → Option (SPred E)} {n i : Nat} {oi : Oper} {L : Array Bool → Act → World → Prop} (hi : ops[i]? = some oi) (hsel : ∀ (j : Nat) (o : Oper) cs b, ops[j]? = some o → o.op ≠ .select cs b)
    (hlt : ∀ listed, HeadInv md ops n listed → listed.getD i true = false → ∀ j ∈ Region.ready md ops listed, j < n)
    (hdone : ∀ listed a w, L listed a w → ∀ j ∈ Region.ready md ops listed, n ≤ j) :
    ∀ (f : Nat) (listed : Array Bool) (a : Act) (env : List (Nat × Value)), HeadInv md ops n listed →
      (∀ j oj, ops[j]? = some oj → j ≠ i → listed.getD j true = false → (∀ e ∈ oj.after, Region.binds md e = true → e.on ≠ i) → oi.apart ops oj = true) →
      i ∈ Region.ready md ops listed → (∃ w, E.r w0 w ∧ Known sp env w) → Can P ops w0 sp i oi a env →
      (∀ v, Res P ops w0 sp i oi a env v → AnyR P ops md w0 sp n L f (listed.setIfInBounds i true) (a.put oi.dst v) ((i, v) :: env)) →
      AnyR P ops md w0 sp n L (f + 1) listed a env := by
  intro f
  induction f with
  | zero =>
    intro listed a env inv _ hr hsat hc H
    have hun := (mem_ready.1 hr).1
    refine ⟨fun h => (by rw [h] at hr; cases hr), fun j hj => ⟨hlt listed inv hun j hj, fun oj hoj => ?_⟩⟩
    by_cases hji : j = i
    · subst hji
      obtain rfl := Option.some.inj (hi.symm.trans hoj)
      exact ⟨hc, H⟩
    · exfalso
      obtain ⟨v, hv⟩ := hc.some_res hsat
      obtain ⟨w, he, hk⟩ := hv.sat hsat
      have h0 := H v hv w he hk
      have h1 := hdone _ _ _ h0 j (ready_mono hj hji)
      have h2 := hlt listed inv hun j hj
      omega
  | succ f ih =>
    intro listed a env inv hfree hr hsat hc H
    have hun := (mem_ready.1 hr).1
    refine ⟨fun h => (by rw [h] at hr; cases hr), fun j hj => ⟨hlt listed inv hun j hj, fun oj hoj => ?_⟩⟩
    by_cases hji : j = i
    · subst hji
      obtain rfl := Option.some.inj (hi.symm.trans hoj)
      exact ⟨hc, H⟩
    · obtain ⟨hjun, oj', hoj', hall⟩ := mem_ready.1 hj
      obtain rfl := Option.some.inj (hoj.symm.trans hoj')
      have hjn := hlt listed inv hun j hj
      have hnot : ∀ e ∈ oj.after, Region.binds md e = true → e.on ≠ i := fun e he hb heq => by
        have h1 := hall e he hb
        rw [heq, getD_both hun] at h1
        cases h1
      have hap := hfree j oj hoj hji hjun hnot
      obtain ⟨h1, h2, h3⟩ := Oper.apart_spec hap
      have hsi : ∀ cs b, oi.op ≠ .select cs b := fun cs b => hsel i oi cs b hi
      have hsj : ∀ cs b, oj.op ≠ .select cs b := fun cs b => hsel j oj cs b hoj
      obtain ⟨v0, hv0⟩ := hc.some_res hsat
      have hcj := ((H v0 hv0).2 j (ready_mono hj hji)).2 oj hoj
      refine ⟨hcj.1.back hi hoj hap hsj, fun vj hvj => ?_⟩
      refine ih (listed.setIfInBounds j true) (a.put oj.dst vj) ((j, vj) :: env) (inv.set hj hjn) ?_ (ready_mono hr (Ne.symm hji)) (hvj.sat hsat) (hc.fore hi hap hsi) ?_
      · intro k ok hk hki hun' hno
        refine hfree k ok hk hki ?_ hno
        by_cases hjk : j = k
        · subst hjk; exact hjun
        · rw [getD_set_ne true hjk] at hun'; exact hun'
      · intro v hv
        obtain ⟨hv1, hvj1⟩ := Res.joint hap hsi hsj hvj hv
        have := (((H v hv1).2 j (ready_mono hj hji)).2 oj hoj).2 vj hvj1
        rw [Array.setIfInBounds_comm _ _ hji, ← Act.put_comm a v vj h2]
        refine AnyR.env _ _ _ _ _ ?_ this
        intro p hp
        rcases List.mem_cons.1 hp with rfl | hp
        · exact List.mem_cons_of_mem _ List.mem_cons_self
        · rcases List.mem_cons.1 hp with rfl | hp
          · exact List.mem_cons_self
          · exact List.mem_cons_of_mem _ (List.mem_cons_of_mem _ hp)

variable (P ops) in
/-- The walk in the order of the text. -/
def LexR (w0 : World) (sp : Nat → Option (SPred E)) (Q : Act → World → Prop) : List Oper → Nat → Act → List (Nat × Value) → Prop
  | [], _, a, env => ∀ w, E.r w0 w → Known sp env w → Q a w
  | o :: l, k, a, env => Can P ops w0 sp k o a env ∧ ∀ v, Res P ops w0 sp k o a env v → LexR w0 sp Q l (k + 1) (a.put o.dst v) ((k, v) :: env)

theorem LexR.any {w0 : World} {sp : Nat → Option (SPred E)} {n : Nat} {B : Array Bool → Bool} {Lq : Act → World → Prop} (hsel : Region.noSelect ops = true)
    (hlt : ∀ i, i < n → ∀ listed, HeadInv md ops n listed → listed.getD i true = false → ∀ j ∈ Region.ready md ops listed, j < n)
    (hdone : ∀ listed, B listed = true → ∀ j ∈ Region.ready md ops listed, n ≤ j)
    (hd : Nat → Nat → Array Bool → Bool) (h0 : ∀ listed, hd 0 n listed = true → B listed = true)
    (h1 : ∀ f k listed, hd (f + 1) k listed = true → ((Region.ready md ops listed).contains k = true ∧ Region.free md ops listed k = true) ∧ hd f (k + 1) (listed.setIfInBounds k true) = true) :
    ∀ (l : List Oper) (k : Nat) (listed : Array Bool) (a : Act) (env : List (Nat × Value)), (∀ j, j < l.length → l[j]? = ops[k + j]?) → k + l.length = n → HeadInv md ops n listed →
    (∃ w, E.r w0 w ∧ Known sp env w) → hd l.length k listed = true → LexR P ops w0 sp Lq l k a env →
    AnyR P ops md w0 sp n (fun listed' a' w' => B listed' = true ∧ Lq a' w') l.length listed a env
  | [], k, listed, a, env, _, hk0, _, _, hB, h => fun w he hk => ⟨h0 _ (by obtain rfl : k = n := (by simpa using hk0); exact hB), h w he hk⟩
  | o :: l, k, listed, a, env, hl, hk, inv, hsat, hB, h => by
    have ho : ops[k]? = some o := by simpa using (hl 0 (by simp)).symm
    obtain ⟨⟨hr, hf⟩, hB'⟩ := h1 _ _ _ (by simpa using hB)
    have hkn : k < n := by simp only [List.length_cons] at hk; omega
    have hr' : k ∈ Region.ready md ops listed := by simpa using hr
    exact AnyR.first ho (Region.noSelect_spec hsel) (hlt k hkn) (fun listed' a' w' hL => hdone _ hL.1) l.length listed a env inv (Region.free_spec ho hf) hr' hsat h.1
      fun v hv => LexR.any hsel hlt hdone hd h0 h1 l (k + 1) _ _ _ (fun j hj => by have := hl (j + 1) (by simp; omega); simpa [Nat.add_assoc, Nat.add_comm 1 j] using this) (by simp only [List.length_cons] at hk; omega) (inv.set hr' hkn)
        (hv.sat hsat) hB' (h.2 v hv)

theorem headInv0 (l : List Oper) (n : Nat) : HeadInv md l.toArray n (Array.replicate l.toArray.size false) :=
  ⟨by simp, fun j oj _ hl => (by rw [getD_replicate_false] at hl; cases hl), fun t _ ht => getD_in (by simpa using ht) (getD_replicate_false _ _)⟩

/-- A region that draws its order, all of whose operations only extend the world. -/
theorem wp_region_rel {id : Nat} {Q : Exit → Act → World → Prop} {a : Act} {w : World} {l : List Oper} (sp : Nat → Option (SPred E)) (hm : P.follows .mixedOrders = true) (hB : Region.lexB .any l.toArray = true)
    (h : LexR P l.toArray w.drew sp (fun a' w' => Q .normal a' w') l 0 a []) : (Code.region id l.toArray true).wp P Q a w := by
  simp only [Region.lexB, Bool.and_eq_true] at hB
  have H := LexR.any (md := .any) (n := l.toArray.size) (B := fun listed => (Region.ready .any l.toArray listed).isEmpty) hB.1
    (fun i _ listed _ _ j hj => by obtain ⟨_, o, ho, _⟩ := mem_ready.1 hj; exact (Array.getElem?_eq_some_iff.1 ho).1)
    (fun listed hb j hj => by simp only [List.isEmpty_iff] at hb; rw [hb] at hj; cases hj)
    (fun f k listed => Region.lexFrom .any l.toArray f k listed) (fun listed hh => by simpa [Region.lexFrom] using hh)
    (fun f k listed hh => by simpa [Region.lexFrom] using hh) l 0 _ a [] (by simp) (by simp) (headInv0 l _) ⟨w.drew, E.refl _, fun p hp => by cases hp⟩ (by simpa using hB.2) h
  refine wp_region_any hm ?_
  have := AnyR.sound (Q := Q) (g := 0) (fun listed a' w' hL => (⟨by simpa using hL.1, hL.2⟩ : wpAny P .any l.toArray Q 0 listed a' w')) _ _ _ _ w.drew (E.refl _) (fun p hp => by cases hp) H
  simpa using this

/-- .. whose operations from number n on go one after another behind all others. -/
theorem wp_region_rel_tail {id : Nat} {Q : Exit → Act → World → Prop} {a : Act} {w : World} {l : List Oper} (n : Nat) (sp : Nat → Option (SPred E)) (hm : P.follows .mixedOrders = true) (hB : Region.lexTailB .any l.toArray n = true)
    (h : LexR P l.toArray w.drew sp (fun a' w' => wpList P l.toArray Q (l.drop n) a' w') (l.take n) 0 a []) : (Code.region id l.toArray true).wp P Q a w := by
  simp only [Region.lexTailB, Bool.and_eq_true, decide_eq_true_eq] at hB
  obtain ⟨⟨⟨⟨hsel, hn⟩, hs⟩, hc⟩, hlex⟩ := hB
  have hn' : n < l.length := by simpa using hn
  have htl : (l.take n).length = n := by simp; omega
  have hdl : (l.drop n).length = l.toArray.size - n := by simp
  have H := LexR.any (md := .any) (n := n) (B := fun listed => Region.seqB .any l.toArray (l.toArray.size - n) n listed) hsel
    (fun i hin listed inv hun j hj => by
      rcases Nat.lt_or_ge j n with h | h
      · exact h
      · exact absurd hj (tail_waits hs hc hn inv _ i rfl hin hun j h))
    (fun listed hb => seqB_ready hb)
    (fun f k listed => Region.lexHead .any l.toArray (l.toArray.size - n) f k listed) (fun listed hh => by simpa [Region.lexHead] using hh)
    (fun f k listed hh => by simpa [Region.lexHead] using hh) (l.take n) 0 _ a [] (fun j hj => by
      have hj' : j < n := by rw [htl] at hj; exact hj
      simp [hj']) (by simpa using htl) (headInv0 l _) ⟨w.drew, E.refl _, fun p hp => by cases hp⟩ (by rw [htl]; exact hlex) h
  refine wp_region_any hm ?_
  have := AnyR.sound (Q := Q) (g := l.toArray.size - n) (fun listed a' w' hL => by
    have := wpAny_of_seq (md := .any) (Q' := Q) (l.drop n) n listed a' w' (fun j => by simp [List.getElem?_drop]) (by rw [hdl]; exact hL.1) hL.2
    rwa [hdl] at this) _ _ _ _ w.drew (E.refl _) (fun p hp => by cases hp) H
  rw [htl, show n + (l.toArray.size - n) = l.toArray.size by omega] at this
  exact this
end

/-! ### The walk without the bookkeeping -/

/-- No temporary that is read is written twice ahead of its reader. -/
def ssaB (ops : Array Oper) : Bool :=
  (List.range ops.size).all fun k => (depsOf ops k).all fun p => (List.range k).all fun d => decide (d ≤ p.1) || ((ops[d]?).bind (·.dst)) != some p.2
def dstB (ops : Array Oper) (n : Nat) : Bool := ops.all fun o => match o.dst with | some d => decide (d < n) | none => true

section
variable {P : Program} {ops : Array Oper}

variable (P ops) in
def LexW (w0 : World) (sp : Nat → Option (SPred E)) (Q : Act → World → Prop) : List Oper → Nat → Act → List (Nat × Value) → Prop
  | [], _, a, env => ∀ w, E.r w0 w → Known sp env w → Q a w
  | o :: l, k, a, env => match sp k with
    | none => ∃ v, Sure E P ops w0 o a v ∧ LexW w0 sp Q l (k + 1) (a.put o.dst v) ((k, v) :: env)
    | some p => Region.wanted o (yielded ops a.tmps) = true ∧ (∀ w, E.r w0 w → Dep sp (depsOf ops k) a w → wpS P o a w fun v w' => E.r w w' ∧ p.holds v w') ∧
        ∀ v, (∃ w, p.holds v w) → LexW w0 sp Q l (k + 1) (a.put o.dst v) ((k, v) :: env)

structure LexInv (ops : Array Oper) (n k : Nat) (a : Act) (env : List (Nat × Value)) : Prop where
  size : a.tmps.size = n
  known : ∀ d t, d < k → (ops[d]?).bind (·.dst) = some t → (∀ d', d < d' → d' < k → (ops[d']?).bind (·.dst) ≠ some t) → (d, a.tmps.getD t undef) ∈ env

theorem LexInv.step {n k : Nat} {a : Act} {env : List (Nat × Value)} (h : LexInv ops n k a env) {o : Oper} (ho : ops[k]? = some o) (hd : dstB ops n = true) (v : Value) : LexInv ops n (k + 1) (a.put o.dst v) ((k, v) :: env) := by
  constructor
  · cases o.dst <;> simp [Act.put, h.size]
  · intro d t hdk hdt hno
    by_cases hdk' : d = k
    · subst hdk'
      simp only [ho, Option.bind_some] at hdt
      have hlt : t < n := by
        have := Array.all_eq_true_iff_forall_mem.1 hd o (Array.mem_of_getElem? ho)
        simpa [hdt] using this
      have : (a.put o.dst v).tmps.getD t undef = v := by
        rw [hdt]; simp [Act.put, h.size, hlt]
      rw [this]; exact List.mem_cons_self
    · have hd1 : d < k := by omega
      have hne : o.dst ≠ some t := by
        have := hno k hd1 (by omega)
        simpa [ho] using this
      rw [getD_put (fun d' he hdd => hne (by rw [he, hdd]))]
      exact List.mem_cons_of_mem _ (h.known d t hd1 hdt fun d' h1 h2 => hno d' h1 (by omega))

theorem depsOf_lt {i d : Nat} {t : Tmp} (h : (d, t) ∈ depsOf ops i) : d < i ∧ (ops[d]?).bind (·.dst) = some t := by
  unfold depsOf at h
  split at h
  · cases h
  · simp only [List.mem_filterMap, List.mem_range] at h
    obtain ⟨d', hd', hd⟩ := h
    split at hd
    · rename_i t' ht'
      split at hd
      · simp only [Option.some.injEq, Prod.mk.injEq] at hd
        obtain ⟨rfl, rfl⟩ := hd
        exact ⟨hd', ht'⟩
      · cases hd
    · cases hd

theorem LexW.lexR {w0 : World} {sp : Nat → Option (SPred E)} {Q : Act → World → Prop} {n : Nat} (hs : ssaB ops = true) (hd : dstB ops n = true) :
    ∀ (l : List Oper) (k : Nat) (a : Act) (env : List (Nat × Value)), (∀ j, j < l.length → l[j]? = ops[k + j]?) → LexInv ops n k a env → LexW P ops w0 sp Q l k a env → LexR P ops w0 sp Q l k a env
  | [], _, _, _, _, _, h => h
  | o :: l, k, a, env, hl, inv, h => by
    have ho : ops[k]? = some o := by simpa using (hl 0 (by simp)).symm
    have hks : k < ops.size := (Array.getElem?_eq_some_iff.1 ho).1
    have next : ∀ v, LexW P ops w0 sp Q l (k + 1) (a.put o.dst v) ((k, v) :: env) → LexR P ops w0 sp Q l (k + 1) (a.put o.dst v) ((k, v) :: env) := fun v hv =>
      LexW.lexR hs hd l (k + 1) _ _ (fun j hj => by have := hl (j + 1) (by simp; omega); simpa [Nat.add_assoc, Nat.add_comm 1 j] using this) (inv.step ho hd v) hv
    unfold LexW at h
    cases hp : sp k with
    | none =>
      rw [hp] at h
      obtain ⟨v, hv, hn⟩ := h
      refine ⟨by unfold Can; rw [hp]; exact ⟨v, hv⟩, fun v' hv' => ?_⟩
      unfold Res at hv'
      rw [hp] at hv'
      obtain rfl := hv.uniq hv'
      exact next _ hn
    | some p =>
      rw [hp] at h
      obtain ⟨hw, hr, hn⟩ := h
      refine ⟨by
        unfold Can
        rw [hp]
        refine ⟨hw, fun q hq => ?_, hr⟩
        obtain ⟨hlt, hdst⟩ := depsOf_lt (ops := ops) (i := k) (d := q.1) (t := q.2) hq
        refine inv.known q.1 q.2 hlt hdst fun d' h1 h2 hc => ?_
        have := List.all_eq_true.1 (List.all_eq_true.1 (List.all_eq_true.1 hs k (List.mem_range.2 hks)) q hq) d' (List.mem_range.2 h2)
        simp only [Bool.or_eq_true, decide_eq_true_eq, bne_iff_ne, ne_eq] at this
        rcases this with h3 | h3
        · omega
        · exact h3 hc, fun v hv => ?_⟩
      unfold Res at hv
      rw [hp] at hv
      obtain ⟨w, _, _, hv⟩ := hv
      exact next _ (hn v ⟨w, hv⟩)

theorem lexInv0 (n : Nat) (a : Act) (h : a.tmps.size = n) : LexInv ops n 0 a [] := ⟨h, fun _ _ h => absurd h (Nat.not_lt_zero _)⟩

/-- What is said of the values of some operations, by their numbers. -/
def spOf (sps : List (Nat × SPred E)) (k : Nat) : Option (SPred E) := sps.lookup k

theorem wp_region_lex {id : Nat} {Q : Exit → Act → World → Prop} {a : Act} {w : World} {l : List Oper} (sps : List (Nat × SPred E)) (hm : P.follows .mixedOrders = true)
    (hB : (Region.lexB .any l.toArray && ssaB l.toArray && dstB l.toArray a.tmps.size) = true)
    (h : LexW P l.toArray w.drew (spOf sps) (fun a' w' => Q .normal a' w') l 0 a []) : (Code.region id l.toArray true).wp P Q a w := by
  simp only [Bool.and_eq_true] at hB
  exact wp_region_rel (spOf sps) hm hB.1.1 (LexW.lexR hB.1.2 hB.2 l 0 a [] (by simp) (lexInv0 _ _ rfl) h)

theorem wp_region_lex_tail {id : Nat} {Q : Exit → Act → World → Prop} {a : Act} {w : World} {l : List Oper} (n : Nat) (sps : List (Nat × SPred E)) (hm : P.follows .mixedOrders = true)
    (hB : (Region.lexTailB .any l.toArray n && ssaB l.toArray && dstB l.toArray a.tmps.size) = true)
    (h : LexW P l.toArray w.drew (spOf sps) (fun a' w' => wpList P l.toArray Q (l.drop n) a' w') (l.take n) 0 a []) : (Code.region id l.toArray true).wp P Q a w := by
  simp only [Bool.and_eq_true] at hB
  exact wp_region_rel_tail n (spOf sps) hm hB.1.1 (LexW.lexR hB.1.2 hB.2 _ 0 a [] (fun j hj => by
    have : j < n := by simp at hj; omega
    simp [this]) (lexInv0 _ _ rfl) h)

section
variable {w0 : World} {sp : Nat → Option (SPred E)} {Q : Act → World → Prop} {o : Oper} {l : List Oper} {k : Nat} {a : Act} {env : List (Nat × Value)}

/-- An operation whose value is known and that leaves the world alone. -/
theorem LexW.pure {v : Value} (hsp : sp k = none) (hw : Region.wanted o (yielded ops a.tmps) = true) (hr : ∀ w, E.r w0 w → (execOp a.eval o).run P w = .ok (.value v) w)
    (h : LexW P ops w0 sp Q l (k + 1) (a.put o.dst v) ((k, v) :: env)) : LexW P ops w0 sp Q (o :: l) k a env := by
  unfold LexW; rw [hsp]; exact ⟨v, .inl ⟨hw, hr⟩, h⟩

theorem LexW.skip (hsp : sp k = none) (hw : Region.wanted o (yielded ops a.tmps) = false)
    (h : LexW P ops w0 sp Q l (k + 1) (a.put o.dst undef) ((k, undef) :: env)) : LexW P ops w0 sp Q (o :: l) k a env := by
  unfold LexW; rw [hsp]; exact ⟨undef, .inr ⟨hw, rfl⟩, h⟩

/-- A call whose value is known and that only extends the world. -/
theorem LexW.call {v : Value} {f : FuncId} {args : Array Value} (hsp : sp k = some (SPred.val v)) (hw : Region.wanted o (yielded ops a.tmps) = true) (hr : ∀ w, (execOp a.eval o).run P w = .ok (.enter f args) w)
    (hc : ∀ w, E.r w0 w → Dep sp (depsOf ops k) a w → Calls P f args w fun e w' => e = .returned v ∧ E.r w w')
    (h : LexW P ops w0 sp Q l (k + 1) (a.put o.dst v) ((k, v) :: env)) : LexW P ops w0 sp Q (o :: l) k a env := by
  unfold LexW; rw [hsp]
  refine ⟨hw, fun w he hd => ?_, fun v' ⟨w, hv⟩ => ?_⟩
  · unfold wpS; rw [hr w]; exact (hc w he hd).mono fun e w' ⟨h1, h2⟩ => ⟨v, h1, h2, rfl⟩
  · have hv' : v' = v := hv
    subst hv'
    exact h

/-- A call of whose value a predicate is known. -/
theorem LexW.callR {p : SPred E} {f : FuncId} {args : Array Value} (hsp : sp k = some p) (hw : Region.wanted o (yielded ops a.tmps) = true) (hr : ∀ w, (execOp a.eval o).run P w = .ok (.enter f args) w)
    (hc : ∀ w, E.r w0 w → Dep sp (depsOf ops k) a w → Calls P f args w fun e w' => ∃ v, e = .returned v ∧ E.r w w' ∧ p.holds v w')
    (h : ∀ v, (∃ w, p.holds v w) → LexW P ops w0 sp Q l (k + 1) (a.put o.dst v) ((k, v) :: env)) : LexW P ops w0 sp Q (o :: l) k a env := by
  unfold LexW; rw [hsp]
  exact ⟨hw, fun w he hd => by unfold wpS; rw [hr w]; exact hc w he hd, h⟩

/-- Any other operation, of whose value a predicate is known. -/
theorem LexW.rel {p : SPred E} (hsp : sp k = some p) (hw : Region.wanted o (yielded ops a.tmps) = true)
    (hr : ∀ w, E.r w0 w → Dep sp (depsOf ops k) a w → ∃ v w', (execOp a.eval o).run P w = .ok (.value v) w' ∧ E.r w w' ∧ p.holds v w')
    (h : ∀ v, (∃ w, p.holds v w) → LexW P ops w0 sp Q l (k + 1) (a.put o.dst v) ((k, v) :: env)) : LexW P ops w0 sp Q (o :: l) k a env := by
  unfold LexW; rw [hsp]
  exact ⟨hw, fun w he hd => by obtain ⟨v, w', h1, h2⟩ := hr w he hd; unfold wpS; rw [h1]; exact h2, h⟩

theorem LexW.nil (h : ∀ w, E.r w0 w → Known sp env w → Q a w) : LexW P ops w0 sp Q [] k a env := h

end
end

end Go.Proofs.Ytcocbainookkcaa.Chg
