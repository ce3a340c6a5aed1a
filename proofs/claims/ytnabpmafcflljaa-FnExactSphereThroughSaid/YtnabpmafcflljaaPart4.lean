/-
  Contracts and plain laws, part 4: Kill, Float, Solve, Kernel, Vec, Reverse, Undual, Vecs, CodesV, Norm.
  No condition.
-/
import Derived.Test.YtnabpmafcflljaaPart2
import Derived.Test.YtnabpmafcflljaaPart0
import Derived.Test.YtnabpmafcflljaaPart3
import Derived.Test.YtnabpmafcflljaaPart1
/-
  Reduced bases have the same solutions; solutions of linear systems; in plain numbers.
  No condition. No program in sight.
-/
namespace Go.Proofs.Ytnabpmafcflljaa
set_option maxRecDepth 100000
open Go.RowKit

def dotN (m : Nat) (x z : List Int) : Int := sumN m fun t => nth x t * nth z t
theorem dot_plus {p k : Int} {m : Nat} {x y z : List Int} : dotN m (plusL p x y k m) z % p = (dotN m x z + k * dotN m y z) % p := by
  unfold dotN
  rw [← sumN_mul, ← sumN_add]
  refine sumN_emod fun t ht => ?_
  rw [plusL_nth ht, plusN]
  have : (nth x t + k * nth y t) * nth z t = nth x t * nth z t + k * (nth y t * nth z t) := by rw [Int.add_mul, Int.mul_assoc]
  rw [← this]
  exact mul_emod_congr (Int.emod_emod _ _) rfl
theorem dot_scale {p k : Int} {m : Nat} {x z : List Int} : dotN m (scaleL p x k m) z % p = (k * dotN m x z) % p := by
  unfold dotN
  rw [← sumN_mul]
  refine sumN_emod fun t ht => ?_
  rw [scaleL_nth ht, scaleN]
  have : nth x t * k * nth z t = k * (nth x t * nth z t) := by ac_rfl
  rw [← this]
  exact mul_emod_congr (Int.emod_emod _ _) rfl

/-- The product with each row is 0. -/
def Kill (p : Int) (m : Nat) (rows : List (List Int)) (z : List Int) : Prop := ∀ i, i < rows.length → dotN m (nthR rows i) z % p = 0

theorem kill_up {p : Int} {m d k i : Nat} {rows : List (List Int)} {z : List Int} (hp : primeB p = true) (hk : k < m) (hg : RowsG p m rows) (hd : d < rows.length) (hi : i < rows.length) (hne : nth (nthR rows i) k ≠ 0) :
    Kill p m (upG p m rows d k i) z ↔ Kill p m rows z := by
  have hpb := prime_bd hp
  have hb := (hg i hi).2 k hk
  have hinv := (inv_spec hp (show 0 < nth (nthR rows i) k by omega) hb.2).2.1
  unfold Kill
  rw [upG_len]
  constructor
  · intro h j hj
    by_cases hji : j = i
    · subst hji
      have := h d hd
      rw [upG_nth hd hi, if_pos rfl, dot_scale] at this
      have e : (nth (nthR rows j) k * (invN p (nth (nthR rows j) k) * dotN m (nthR rows j) z)) % p = 0 := by
        rw [Int.mul_emod, this]; simp
      rw [← Int.mul_assoc, Int.mul_emod, hinv] at e
      rwa [Int.one_mul, Int.emod_emod] at e
    · by_cases hjd : j = d
      · subst hjd
        have := h i hi
        rwa [upG_nth hd hi, if_neg (Ne.symm hji), if_pos rfl] at this
      · have := h j hj
        rwa [upG_nth hd hi, if_neg hjd, if_neg hji] at this
  · intro h j hj
    rw [upG_nth hd hi]
    split
    · rw [dot_scale, Int.mul_emod, h i hi]; simp
    · split
      · exact h d hd
      · exact h j hj
theorem kill_clr {p : Int} {m d k : Nat} {rows : List (List Int)} {z : List Int} (hd : d < rows.length) :
    Kill p m (clrS p k m d rows rows.length) z ↔ Kill p m rows z := by
  unfold Kill
  rw [clrS_len]
  have hD : nthR (clrS p k m d rows rows.length) d = nthR rows d := by rw [clrS_nth _ (Nat.le_refl _), if_neg (by omega)]
  constructor
  · intro h j hj
    have h1 := h j hj
    have h2 := h d hd
    rw [hD] at h2
    rw [clrS_nth _ (Nat.le_refl _)] at h1
    split at h1
    · rw [dot_plus, Int.add_emod, Int.mul_emod, h2] at h1
      simpa using h1
    · exact h1
  · intro h j hj
    rw [clrS_nth _ (Nat.le_refl _)]
    split
    · rw [dot_plus, Int.add_emod, h j hj, Int.mul_emod, h d hd]; simp
    · exact h j hj
theorem kill_gauss {p : Int} {m : Nat} {rows : List (List Int)} {z : List Int} (hp : primeB p = true) (hg : RowsG p m rows) : ∀ k, k ≤ m → (Kill p m (gaussS p m rows k).1 z ↔ Kill p m rows z)
  | 0, _ => Iff.rfl
  | k + 1, hk => by
    obtain ⟨h1, c, h2⟩ := gaussS_red hp hg k (by omega)
    obtain ⟨p1, p2, p3, p4⟩ := pivG_spec (gaussS p m rows k).1 k (gaussS p m rows k).2 h2.dle
    rw [← kill_gauss hp hg k (by omega)]
    show Kill p m (stepG p m (gaussS p m rows k) k).1 z ↔ _
    by_cases hn : pivG (gaussS p m rows k).1 k (gaussS p m rows k).2 = (gaussS p m rows k).1.length
    · rw [stepG_no hn]
    · have hi : pivG (gaussS p m rows k).1 k (gaussS p m rows k).2 < (gaussS p m rows k).1.length := by omega
      have hd : (gaussS p m rows k).2 < (gaussS p m rows k).1.length := by omega
      rw [stepG_yes rfl hi, ← kill_up hp (show k < m by omega) h1 hd hi (by rcases p4 with h | h; omega; exact h)]
      have := kill_clr (p := p) (m := m) (k := k) (rows := upG p m (gaussS p m rows k).1 (gaussS p m rows k).2 k (pivG (gaussS p m rows k).1 k (gaussS p m rows k).2)) (z := z) (d := (gaussS p m rows k).2) (by rw [upG_len]; exact hd)
      rw [upG_len] at this
      exact this
/-- The reduced basis has the same solutions. -/
theorem kill_basis {p : Int} {m : Nat} {rows : List (List Int)} {z : List Int} (hp : primeB p = true) (hg : RowsG p m rows) : Kill p m (basisL p m rows) z ↔ Kill p m rows z := by
  rw [← kill_gauss hp hg m (Nat.le_refl _)]
  obtain ⟨h1, c, h2⟩ := gaussS_red hp hg m (Nat.le_refl _)
  have hl : (basisL p m rows).length = (gaussS p m rows m).2 := by unfold basisL; rw [List.length_take, Nat.min_eq_left h2.dle]
  unfold Kill
  constructor
  · intro h i hi
    by_cases hid : i < (gaussS p m rows m).2
    · have := h i (by omega)
      unfold basisL at this
      rwa [nthR_take hid] at this
    · unfold dotN
      rw [sumN_zero fun t ht => by rw [h2.rest i (by omega) hi t ht, Int.zero_mul]]; simp
  · intro h i hi
    have := h i (by have := h2.dle; omega)
    unfold basisL
    rwa [nthR_take (by omega)]

/-! ### Linear systems -/
theorem nth_len {x : List Int} {n : Nat} {v : Int} (h : x.length = n) : nth (x ++ [v]) n = v := by subst h; exact nth_append_len
theorem dot_snoc {n : Nat} {x y : List Int} {v : Int} (hx : x.length = n) (hy : y.length = n) : dotN (n + 1) (x ++ [v]) (y ++ [-1]) = dotN n x y - v := by
  unfold dotN
  simp only [sumN]
  rw [nth_len hx, nth_len hy, sumN_congr (g := fun t => nth x t * nth y t) fun t ht => by rw [nth_append_left (by omega), nth_append_left (by omega)]]
  omega
/-- y solves the system: the product with row i is number i of v. -/
def Solves (p : Int) (n : Nat) (rows : List (List Int)) (v y : List Int) : Prop := ∀ i, i < rows.length → dotN n (nthR rows i) y % p = nth v i % p
theorem sub_zero_iff {p a b : Int} : (a - b) % p = 0 ↔ a % p = b % p := Int.emod_eq_emod_iff_emod_sub_eq_zero.symm
theorem solves_kill {p : Int} {n : Nat} {rows : List (List Int)} {v y : List Int} (hg : RowsG p n rows) (hy : y.length = n) : Solves p n rows v y ↔ Kill p (n + 1) (wideL rows v rows.length) (y ++ [-1]) := by
  unfold Solves Kill
  rw [wideL_len]
  have e : ∀ i, i < rows.length → nthR (wideL rows v rows.length) i = nthR rows i ++ [nth v i] := fun i hi => by
    unfold wideL; rw [nthR_map (by simpa using hi)]; simp
  constructor
  · intro h i hi
    rw [e i hi, dot_snoc (hg i hi).1 hy]
    exact sub_zero_iff.2 (h i hi)
  · intro h i hi
    have := h i hi
    rw [e i hi, dot_snoc (hg i hi).1 hy] at this
    exact sub_zero_iff.1 this
theorem okS_iff {p : Int} {m n : Nat} {red : List (List Int)} {c : Nat → Nat} (h : Basis p m red c) : okS n red = true ↔ ∀ i, i < red.length → c i ≠ n := by
  unfold okS
  rw [Option.isNone_iff_eq_none]
  constructor
  · intro hn i hi hc
    exact pivIx_none hn i hi (by rw [h.leadN hi, hc])
  · intro hc
    cases hp : pivIx red n with
    | none => rfl
    | some i =>
      obtain ⟨hi, hl⟩ := pivIx_some hp
      rw [h.leadN hi] at hl
      exact absurd hl (hc i hi)
theorem solL_len {n : Nat} {red : List (List Int)} : (solL n red).length = n := by simp [solL]
theorem sol_kill {p : Int} {n : Nat} {red : List (List Int)} {c : Nat → Nat} (h : Basis p (n + 1) red c) (hok : okS n red = true) : Kill p (n + 1) red (solL n red ++ [-1]) := by
  intro i hi
  have hc := (okS_iff h).1 hok
  have e : dotN (n + 1) (nthR red i) (solL n red ++ [-1]) = dotN n (nthR red i) (solL n red) - nth (nthR red i) n := by
    unfold dotN
    simp only [sumN]
    rw [nth_len solL_len, sumN_congr (g := fun t => nth (nthR red i) t * nth (solL n red) t) fun t ht => by rw [nth_append_left (by rw [solL_len]; exact ht)]]
    omega
  rw [e]
  have hci : c i < n := by have := h.clt i hi; have := hc i hi; omega
  have : dotN n (nthR red i) (solL n red) = nth (nthR red i) n := by
    unfold dotN
    have sn : ∀ t, t < n → nth (solL n red) t = solN n red t := fun t ht => by unfold solL; rw [nth_map (by simpa using ht)]; simp
    rw [sumN_single hci fun t ht hne => by
      rw [sn t ht]
      unfold solN
      cases hp : pivIx red t with
      | none => simp
      | some j =>
        obtain ⟨hj, hl⟩ := pivIx_some hp
        rw [h.leadN hj] at hl
        subst hl
        rw [h.one j hj i hi, if_neg (fun e => hne (by rw [e]))]; simp]
    rw [h.one i hi i hi, if_pos rfl, sn _ hci, Int.one_mul]
    unfold solN
    rw [h.piv hi]
  rw [this]; simp
theorem sol_spec {p : Int} {n : Nat} {rows : List (List Int)} {v : List Int} (hp : primeB p = true) (hg : RowsG p n rows) (hv : Good p rows.length v) (hok : okS n (basisL p (n + 1) (wideL rows v rows.length)) = true) :
    Solves p n rows v (solL n (basisL p (n + 1) (wideL rows v rows.length))) := by
  have hw := wideL_good hg hv (Nat.le_refl _)
  obtain ⟨c, hb⟩ := basis_red hp hw
  rw [solves_kill hg solL_len, ← kill_basis hp hw]
  exact sol_kill hb hok
theorem sol_exists {p : Int} {n : Nat} {rows : List (List Int)} {v y : List Int} (hp : primeB p = true) (hg : RowsG p n rows) (hv : Good p rows.length v) (hy : y.length = n) (h : Solves p n rows v y) :
    okS n (basisL p (n + 1) (wideL rows v rows.length)) = true := by
  have hpb := prime_bd hp
  have hw := wideL_good hg hv (Nat.le_refl _)
  obtain ⟨c, hb⟩ := basis_red hp hw
  rw [solves_kill hg hy, ← kill_basis hp hw] at h
  rw [okS_iff hb]
  intro i hi hc
  have hk := h i hi
  unfold dotN at hk
  rw [sumN_single (k := n) (by omega) fun t ht hne => by rw [hb.lead i hi t (by omega), Int.zero_mul]] at hk
  have h1 := hb.one i hi i hi
  rw [hc, if_pos rfl] at h1
  rw [h1, nth_len hy] at hk
  have hq : p = 3 ∨ p = 5 ∨ p = 7 ∨ p = 11 ∨ p = 13 := by simp [primeB] at hp; omega
  rcases hq with rfl | rfl | rfl | rfl | rfl <;> simp at hk

/-! ### The dove-cote -/
theorem dove : ∀ (M : Nat) (f : Nat → Nat), (∀ k, k ≤ M → f k < M) → ∃ i j, i < j ∧ j ≤ M ∧ f i = f j
  | 0, f, h => absurd (h 0 (Nat.le_refl _)) (Nat.not_lt_zero _)
  | M + 1, f, h => by
    by_cases hx : ∃ j, j < M + 1 ∧ f j = f (M + 1)
    · obtain ⟨j, hj, he⟩ := hx
      exact ⟨j, M + 1, hj, Nat.le_refl _, he⟩
    · have hx' : ∀ j, j < M + 1 → f j ≠ f (M + 1) := fun j hj he => hx ⟨j, hj, he⟩
      obtain ⟨i, j, hij, hj, he⟩ := dove M (fun k => if f k = M then f (M + 1) else f k) fun k hk => by
        have h1 := h k (by omega)
        have h2 := h (M + 1) (Nat.le_refl _)
        have h3 := hx' k (by omega)
        show (if f k = M then f (M + 1) else f k) < M
        split <;> omega
      refine ⟨i, j, hij, by omega, ?_⟩
      have he : (if f i = M then f (M + 1) else f i) = (if f j = M then f (M + 1) else f j) := he
      have h3 := hx' i (by omega)
      have h4 := hx' j (by omega)
      split at he <;> split at he
      · omega
      · exact absurd he.symm h4
      · exact absurd he h3
      · exact he
def encL (q : Nat) : List Int → Nat
  | [] => 0
  | x :: xs => x.toNat + q * encL q xs
theorem encL_lt {p : Int} {q : Nat} (hq : p = q) : ∀ (n : Nat) (x : List Int), Good p n x → encL q x < q ^ n
  | 0, x, h => by
    have : x = [] := List.length_eq_zero_iff.1 h.1
    subst this; exact Nat.one_pos
  | n + 1, [], h => by have := h.1; simp at this
  | n + 1, x :: xs, h => by
    have hx := h.2 0 (by omega)
    have hxs : Good p n xs := ⟨by have := h.1; simpa using this, fun i hi => by have := h.2 (i + 1) (by omega); simpa [nth] using this⟩
    have ih := encL_lt hq n xs hxs
    have h0 : nth (x :: xs) 0 = x := by simp [nth]
    rw [h0] at hx
    show x.toNat + q * encL q xs < q ^ (n + 1)
    rw [Nat.pow_succ, Nat.mul_comm (q ^ n)]
    have : q * (encL q xs + 1) ≤ q * q ^ n := Nat.mul_le_mul_left _ ih
    rw [Nat.mul_add, Nat.mul_one] at this
    omega
theorem encL_inj {p : Int} {q : Nat} (hq : p = q) : ∀ (n : Nat) (x y : List Int), Good p n x → Good p n y → encL q x = encL q y → x = y
  | 0, x, y, h, h', _ => by rw [List.length_eq_zero_iff.1 h.1, List.length_eq_zero_iff.1 h'.1]
  | n + 1, [], _, h, _, _ => by have := h.1; simp at this
  | n + 1, _ :: _, [], _, h, _ => by have := h.1; simp at this
  | n + 1, x :: xs, y :: ys, h, h', he => by
    have hx := h.2 0 (by omega)
    have hy := h'.2 0 (by omega)
    have g : ∀ z zs, Good p (n + 1) (z :: zs) → Good p n zs := fun z zs h => ⟨by have := h.1; simpa using this, fun i hi => by have := h.2 (i + 1) (by omega); simpa [nth] using this⟩
    have h0 : ∀ z zs, nth (z :: zs) 0 = z := fun z zs => by simp [nth]
    rw [h0] at hx hy
    have he' : x.toNat + q * encL q xs = y.toNat + q * encL q ys := he
    have hxl : x.toNat < q := by omega
    have hyl : y.toNat < q := by omega
    have e1 : x.toNat = y.toNat := by
      have := congrArg (· % q) he'
      simp only [Nat.add_mul_mod_self_left] at this
      rwa [Nat.mod_eq_of_lt hxl, Nat.mod_eq_of_lt hyl] at this
    have e2 : encL q xs = encL q ys := by
      have : q * encL q xs = q * encL q ys := by omega
      exact Nat.eq_of_mul_eq_mul_left (by omega) this
    rw [encL_inj hq n xs ys (g _ _ h) (g _ _ h') e2, show x = y by omega]

/-- A right inverse is a left inverse. -/
theorem inv_both {p : Int} {qs x y : List Int} (hp : 3 ≤ p) (hd : qs.length ≤ 6) (_hx : Good p (2 ^ qs.length) x) (hy : Good p (2 ^ qs.length) y) (h : prodL p qs tkA x y = bladeL (2 ^ qs.length) 0) : prodL p qs tkA y x = bladeL (2 ^ qs.length) 0 := by
  have hq : p = (p.toNat : Int) := by omega
  obtain ⟨i, j, hij, _, he⟩ := dove (p.toNat ^ 2 ^ qs.length) (fun k => encL p.toNat (powL p qs x k)) fun k _ => encL_lt hq _ _ (pow_good hp k)
  have he' : powL p qs x i = powL p qs x j := encL_inj hq _ _ _ (pow_good hp i) (pow_good hp j) he
  -- x^i y^i = 1
  have cancel : ∀ i, prodL p qs tkA (powL p qs x i) (powL p qs y i) = bladeL (2 ^ qs.length) 0 := fun i => by
    induction i with
    | zero => exact times_one (by omega) (blade_good hp)
    | succ i ih =>
      have e : powL p qs y (i + 1) = prodL p qs tkA y (powL p qs y i) := by
        rw [Nat.add_comm, ← pow_add hp hd 1 i, pow_one hp hy]
      show prodL p qs tkA (prodL p qs tkA (powL p qs x i) x) (powL p qs y (i + 1)) = _
      rw [e, prod_assoc (by omega) hd, ← prod_assoc (x := x) (by omega) hd, h, one_times hp (pow_good hp i), ih]
  have hn : powL p qs x (j - i) = bladeL (2 ^ qs.length) 0 := by
    have h1 := cancel i
    rw [he', show j = (j - i) + i by omega, ← pow_add hp hd, prod_assoc (by omega) hd, cancel i, times_one (by omega) (pow_good hp _)] at h1
    exact h1
  obtain ⟨k, hk⟩ : ∃ k, j - i = k + 1 := ⟨j - i - 1, by omega⟩
  rw [hk] at hn
  -- y = x^k
  have hyk : y = powL p qs x k := by
    have : prodL p qs tkA (powL p qs x (k + 1)) y = y := by rw [hn]; exact one_times hp hy
    rw [← this]
    show prodL p qs tkA (prodL p qs tkA (powL p qs x k) x) y = _
    rw [prod_assoc (by omega) hd, h, times_one (by omega) (pow_good hp k)]
  rw [hyk]; exact hn

end Go.Proofs.Ytnabpmafcflljaa

/-
  A region whose first operation is a move that may be carried out at any time: it is carried out first.
  No condition. General over every program.
-/
namespace Go.Proofs.Ytnabpmafcflljaa
set_option maxRecDepth 100000
open Go.RowKit

/-- The exit is normal. -/
def strictQ (Q : Exit → Act → World → Prop) : Exit → Act → World → Prop := fun e a w => e = .normal ∧ Q .normal a w
theorem strictQ_normal {Q : Exit → Act → World → Prop} {a : Act} {w : World} (h : Q .normal a w) : strictQ Q .normal a w := ⟨rfl, h⟩

section
variable {P : Program} {ops : Array Oper} {md : Region.Mode} {Q : Exit → Act → World → Prop}
theorem not_letsOut : ¬ LetsOut (strictQ Q) := fun ⟨_, _, h, _⟩ => by cases h
theorem wp_strict {o : Oper} {a : Act} {w : World} {K K' : Act → World → Prop} (h : ∀ a w, K a w → K' a w) (hh : o.wp P a w K (strictQ Q)) : o.wp P a w K' Q := by
  unfold Oper.wp at *
  generalize (execOp a.eval o).run P w = r at *
  cases r with
  | ok n w' =>
    cases n <;> simp only [Oper.upon] at hh ⊢ <;>
      first
        | exact h _ _ hh
        | exact Calls.mono hh (fun e w'' he => by
            cases e with
            | returned v => exact h _ _ he
            | panicked c => exact absurd he.1 (by simp)
            | outgrown => exact absurd he not_letsOut)
        | exact Rows.mono hh (fun _ _ he => h _ _ he)
  | halt x w' =>
    cases x <;> simp only [Oper.upon] at hh ⊢ <;> first | exact hh.elim | exact absurd hh.1 (by simp) | exact hh
theorem wpOp_strict {i : Nat} {a : Act} {w : World} {K K' : Act → World → Prop} (h : ∀ a w, K a w → K' a w) (hh : wpOp P ops (strictQ Q) i K a w) : wpOp P ops Q i K' a w := by
  unfold wpOp at *
  split
  · exact h _ _ (by simpa [*] using hh)
  · rename_i o ho
    simp only [ho] at hh
    split
    · rename_i hw
      simp only [hw, if_true] at hh
      rcases hh with hh | hh
      · exact .inl (wp_strict h hh)
      · exact absurd hh.2 not_letsOut
    · rename_i hw; simp only [hw] at hh; exact h _ _ hh
theorem wpAny_strict : ∀ (f : Nat) (listed : Array Bool) (a : Act) (w : World), wpAny P md ops (strictQ Q) f listed a w → wpAny P md ops Q f listed a w
  | 0, _, _, _, h => ⟨h.1, h.2.2⟩
  | f + 1, _, _, _, h => ⟨fun h0 => (h.1 h0).2, fun i hi => wpOp_strict (fun a w => wpAny_strict f _ a w) (h.2 i hi)⟩

def Region.sinkB1 (md : Region.Mode) (ops : Array Oper) (m n : Nat) : Bool :=
  (List.range n).all fun i => decide (i < m) || (List.range (n + 1)).any fun j => decide (i < j) && Region.waitsFor md ops j i
theorem tail_waits1 {m n : Nat} {listed : Array Bool} (hs : Region.sinkB1 md ops m n = true) (hc : Region.chainB md ops n = true) (hn : n < ops.size) (inv : HeadInv md ops n listed) :
    ∀ (d i : Nat), n - i = d → m ≤ i → i < n → listed.getD i true = false → ∀ t, n ≤ t → t ∉ Region.ready md ops listed := by
  intro d
  induction d using Nat.strongRecOn with
  | _ d ih =>
    intro i hd hm hi hun t ht hr
    obtain ⟨_, ot, hot, hall⟩ := mem_ready.1 hr
    have htlt : t < ops.size := (Array.getElem?_eq_some_iff.1 hot).1
    by_cases htn : t = n
    · subst htn
      have h1 := List.all_eq_true.1 hs i (List.mem_range.2 hi)
      simp only [Bool.or_eq_true, decide_eq_true_eq] at h1
      obtain ⟨j, hj, hj2⟩ := List.any_eq_true.1 (h1.resolve_left (by omega))
      simp only [Bool.and_eq_true, decide_eq_true_eq] at hj2
      obtain ⟨oj, hoj, e, he, hb, hon⟩ := Region.waitsFor_spec hj2.2
      have hjle : j ≤ t := by have := List.mem_range.1 hj; omega
      by_cases hjt : j = t
      · subst hjt
        have : oj = ot := Option.some.inj (hoj.symm.trans hot)
        subst this
        have h2 := hall e he hb
        rw [hon, getD_both hun] at h2
        cases h2
      · cases hl : listed.getD j false with
        | true =>
          have h2 := inv.closed j oj hoj hl e he hb
          rw [hon, getD_both hun] at h2
          cases h2
        | false =>
          have hjs : j < listed.size := by rw [inv.size]; omega
          exact ih (t - j) (by omega) j rfl (by omega) (by omega) (getD_in hjs hl) t (Nat.le_refl _) hr
    · have h1 := List.all_eq_true.1 hc t (List.mem_range.2 htlt)
      simp only [Bool.or_eq_true, decide_eq_true_eq] at h1
      rcases h1 with h1 | h1
      · omega
      · obtain ⟨o', ho', e, he, hb, hon⟩ := Region.waitsFor_spec h1
        have : o' = ot := Option.some.inj (ho'.symm.trans hot)
        subst this
        have h2 := hall e he hb
        rw [hon, getD_both (inv.tail (t - 1) (by omega) (by omega))] at h2
        cases h2

theorem LexR.any1 {w0 : World} {sp : Nat → Option SPred} {m n : Nat} {B : Array Bool → Bool} {Lq : Act → World → Prop} (hsel : Region.noSelect ops = true)
    (hlt : ∀ i, m ≤ i → i < n → ∀ listed, HeadInv md ops n listed → listed.getD i true = false → ∀ j ∈ Region.ready md ops listed, j < n)
    (hdone : ∀ listed, B listed = true → ∀ j ∈ Region.ready md ops listed, n ≤ j)
    (hd : Nat → Nat → Array Bool → Bool) (h0 : ∀ listed, hd 0 n listed = true → B listed = true)
    (h1 : ∀ f k listed, hd (f + 1) k listed = true → ((Region.ready md ops listed).contains k = true ∧ Region.free md ops listed k = true) ∧ hd f (k + 1) (listed.setIfInBounds k true) = true) :
    ∀ (l : List Oper) (k : Nat) (listed : Array Bool) (a : Act) (env : List (Nat × Value)), m ≤ k → (∀ j, j < l.length → l[j]? = ops[k + j]?) → k + l.length = n → HeadInv md ops n listed →
    (∃ w, Ext w0 w ∧ Known sp env w) → hd l.length k listed = true → LexR P ops w0 sp Lq l k a env →
    AnyR P ops md w0 sp n (fun listed' a' w' => B listed' = true ∧ Lq a' w') l.length listed a env
  | [], k, listed, a, env, _, _, hk0, _, _, hB, h => fun w he hk => ⟨h0 _ (by obtain rfl : k = n := (by simpa using hk0); exact hB), h w he hk⟩
  | o :: l, k, listed, a, env, hmk, hl, hk, inv, hsat, hB, h => by
    have ho : ops[k]? = some o := by simpa using (hl 0 (by simp)).symm
    obtain ⟨⟨hr, hf⟩, hB'⟩ := h1 _ _ _ (by simpa using hB)
    have hkn : k < n := by simp only [List.length_cons] at hk; omega
    have hr' : k ∈ Region.ready md ops listed := by simpa using hr
    exact AnyR.first ho (Region.noSelect_spec hsel) (hlt k hmk hkn) (fun listed' a' w' hL => hdone _ hL.1) l.length listed a env inv (Region.free_spec ho hf) hr' hsat h.1
      fun v hv => LexR.any1 hsel hlt hdone hd h0 h1 l (k + 1) _ _ _ (by omega) (fun j hj => by have := hl (j + 1) (by simp; omega); simpa [Nat.add_assoc, Nat.add_comm 1 j] using this) (by simp only [List.length_cons] at hk; omega) (inv.set hr' hkn)
        (hv.sat hsat) hB' (h.2 v hv)
end

def Region.tail1B (ops : Array Oper) (n N : Nat) : Bool :=
  Region.noSelect ops && decide (n < ops.size) && decide (1 ≤ n) && Region.sinkB1 .any ops 1 n && Region.chainB .any ops n && ((Region.ready .any ops (Array.replicate ops.size false)).contains 0 && Region.free .any ops (Array.replicate ops.size false) 0) &&
    Region.lexHead .any ops (ops.size - n) (n - 1) 1 ((Array.replicate ops.size false).setIfInBounds 0 true) && ssaB ops && dstB ops N

/-- The first operation is a move; the operations from number n on go one after another behind all others but it. -/
theorem wp_region_lex_tail1 {P : Program} {id : Nat} {Q : Exit → Act → World → Prop} {a : Act} {w : World} {o0 : Oper} {l : List Oper} (n : Nat) (sps : List (Nat × SPred)) (v0 : Value) (hm : P.follows .mixedOrders = true)
    (hB : Region.tail1B (o0 :: l).toArray n a.tmps.size = true) (hsp : spOf sps 0 = none) (hw : Region.wanted o0 (yielded (o0 :: l).toArray a.tmps) = true) (hy : ∀ w, (execOp a.eval o0).run P w = .ok (.value v0) w)
    (h : LexW P (o0 :: l).toArray w.drew (spOf sps) (fun a' w' => wpList P (o0 :: l).toArray (strictQ Q) ((o0 :: l).drop n) a' w') (((o0 :: l).take n).drop 1) 1 (a.put o0.dst v0) [(0, v0)]) : (Code.region id (o0 :: l).toArray true).wp P Q a w := by
  simp only [Region.tail1B, Bool.and_eq_true, decide_eq_true_eq] at hB
  obtain ⟨⟨⟨⟨⟨⟨⟨⟨hsel, hn⟩, hn1⟩, hs⟩, hc⟩, hr0, hf0⟩, hlex⟩, hssa⟩, hdst⟩ := hB
  obtain ⟨ops, hops⟩ : ∃ ops, ops = (o0 :: l).toArray := ⟨_, rfl⟩
  have h0 : ops[0]? = some o0 := by rw [hops]; simp
  rw [← hops] at hn hsel hs hc hr0 hf0 hlex hssa hdst hw h ⊢
  have hsize : ops.size = l.length + 1 := by rw [hops]; simp
  obtain ⟨L, hL⟩ : ∃ L, L = o0 :: l := ⟨_, rfl⟩
  have hLl : L.length = ops.size := by rw [hL, hsize, List.length_cons]
  rw [← hL] at h
  have hget : ∀ j, L[j]? = ops[j]? := fun j => by rw [hL, hops, List.getElem?_toArray]
  have htl : ((L.take n).drop 1).length = n - 1 := by simp; omega
  have hdl : (L.drop n).length = ops.size - n := by simp; omega
  have inv0 : HeadInv .any ops n (Array.replicate ops.size false) := by rw [hops]; exact headInv0 _ n
  have inv1 := inv0.set (by simpa using hr0) (show 0 < n by omega)
  have linv : LexInv ops a.tmps.size 1 (a.put o0.dst v0) [(0, v0)] := (lexInv0 (ops := ops) a.tmps.size a rfl).step h0 hdst v0
  have hk1 : Known (spOf sps) [(0, v0)] w.drew := fun p hp => by
    simp only [List.mem_singleton] at hp
    subst hp
    simp only [hsp, holdsO]
  have hR := LexW.lexR hssa hdst _ 1 _ _ (fun j hj => by
    rw [htl] at hj
    rw [List.getElem?_drop, List.getElem?_take_of_lt (by omega), hget]) linv h
  have H := LexR.any1 (md := .any) (m := 1) (n := n) (B := fun listed => Region.seqB .any ops (ops.size - n) n listed) hsel
    (fun i hi1 hin listed inv hun j hj => by
      rcases Nat.lt_or_ge j n with h | h
      · exact h
      · exact absurd hj (tail_waits1 hs hc hn inv _ i rfl hi1 hin hun j h))
    (fun listed hb => seqB_ready hb)
    (fun f k listed => Region.lexHead .any ops (ops.size - n) f k listed) (fun listed hh => by simpa [Region.lexHead] using hh)
    (fun f k listed hh => by simpa [Region.lexHead] using hh) ((L.take n).drop 1) 1 _ _ [(0, v0)] (Nat.le_refl _) (fun j hj => by
      rw [htl] at hj
      rw [List.getElem?_drop, List.getElem?_take_of_lt (by omega), hget]) (by rw [htl]; omega) inv1 ⟨w.drew, Ext.refl _, hk1⟩ (by rw [htl]; exact hlex) hR
  refine wp_region_any hm ?_
  have S := AnyR.sound (Q := strictQ Q) (g := ops.size - n) (fun listed a' w' hL' => by
    have := wpAny_of_seq (md := .any) (Q' := strictQ Q) (L.drop n) n listed a' w' (fun j => by rw [List.getElem?_drop, hget]) (by rw [hdl]; exact hL'.1) hL'.2
    rwa [hdl] at this) _ _ _ _ w.drew (Ext.refl _) hk1 H
  rw [htl, show n - 1 + (ops.size - n) = ops.size - 1 by omega] at S
  have T := wpAny_take (md := .any) (Q := strictQ Q) (fuel := ops.size - 1) (listed := Array.replicate ops.size false) h0 hsel hf0 hr0 (fun c a w hq => absurd hq.1 (by simp)) (.inl ⟨hw, hy⟩) S
  rw [show ops.size - 1 + 1 = ops.size by omega] at T
  exact wpAny_strict _ _ _ _ T

end Go.Proofs.Ytnabpmafcflljaa

/-
  Contracts: solutions of linear systems, in the program and in the reference.
  No condition.
-/
namespace Go.Proofs.Ytnabpmafcflljaa
set_option maxRecDepth 100000
open Go.RowKit

theorem OwnR.other {B : Nat} {w : World} {a : Option Addr} {n cap : Nat} {rows : List (List Int)} (h : OwnR B w a n cap rows) {p : Addr} (hp : p.block < B) (v : Value) : OwnR B (w.setCell p v) a n cap rows := by
  obtain ⟨h1, vs, ⟨h2, h3⟩, hap, h4⟩ := h
  refine ⟨h1, vs, ⟨h2, ?_⟩, hap, fun i hi => ?_⟩
  · rcases h3 with h3 | ⟨g, c, cur, hv, hb, hh, h5⟩
    · exact .inl h3
    · exact .inr ⟨g, c, cur, hv, hb, by rw [Below.heap_setCell _ _ _ _ (by omega)]; exact hh, h5⟩
  · obtain ⟨ai, ci, h5, h6⟩ := h4 i hi
    exact ⟨ai, ci, h5, h6.other hp v⟩

/-- The solution and whether there is one. -/
def redL (p : Int) (m : Nat) (rows : List (List Int)) (u : List Int) (n : Nat) : List (List Int) := basisL p (m + 1) (wideL rows u n)
def solR (m : Nat) (red : List (List Int)) : List Int := if okS m red = true then solL m red else []

theorem solL_len' {n : Nat} {red : List (List Int)} : (solL n red).length = n := by simp [solL]


/-- The place of the first number other than 0, or -1. -/
def firstL (xs : List Int) : Int := if leadN xs = xs.length then -1 else (leadN xs : Int)
set_option maxHeartbeats 400000 in
theorem s_first (a : Option Addr) (n cap : Nat) (xs : List Int) (w : World) (hl : n ≤ 4194303) (hx : RdC w a n xs) :
    Calls Try.prog 80 #[.slice a n cap] w fun e w' => e = .returned (.int .i64 (firstL xs)) ∧ Ext w w' := by
  have HX := Lib.hid hx
  clear hx
  go_enter Try.func80, Try.ntmps80
  go_wp2_with (fail)
  go_loopw [3] (fun i wr => ∃ k : Nat, k ≤ n ∧ i = .int .i64 k ∧ Hid (∀ j, j < k → nth xs j = 0) ∧ Ext w wr) (fun i _ => n - (intOf i).toNat)
  case atStart => exact ⟨0, Nat.zero_le _, rfl, Lib.hid (fun j hj => by omega), Ext.refl _⟩
  case round =>
    obtain ⟨k, hk, rfl, HT, hext⟩ := hrel
    by_cases hlt : k < n
    · obtain ⟨b, off, rfl, hc⟩ := HX.out.2 k hlt
      have hc' := hext.cell hc
      clear hc
      by_cases hz : nth xs k = 0
      · have HZ := Lib.hid hz
        have hzb : (nth xs k != 0) = false := by simp [hz]
        clear hz
        go_wp2_with (fail)
        go_roundw
        case rel => exact ⟨k + 1, by omega, by go_num, Lib.hid (fun j hj => by
          by_cases hjk : j = k
          · subst hjk; exact HZ.out
          · exact HT.out j (by omega)), hext⟩
        case measure => simp [intOf]; omega
      · have HZ := Lib.hid hz
        have hzb : (nth xs k != 0) = true := by simp [hz]
        clear hz
        go_wp2_with (fail)
        go_ret
        exact ⟨ret_int (by unfold firstL; rw [leadN_eq (k := k) (by rw [HX.out.1]; omega) HT.out (.inr HZ.out), if_neg (by rw [HX.out.1]; omega)]), hext⟩
    · go_wp2_with (fail)
      go_ret
      exact ⟨ret_int (by unfold firstL; rw [leadN_eq (k := k) (by rw [HX.out.1]; omega) HT.out (.inl (by rw [HX.out.1]; omega)), if_pos (by rw [HX.out.1]; omega)]), hext⟩
theorem OwnRH.otherH {lo hi : Nat} {w : World} {a : Option Addr} {n cap : Nat} {rows : List (List Int)} (h : OwnRH lo hi w a n cap rows) {p : Addr} (hp : p.block < lo ∨ hi ≤ p.block) (v : Value) : OwnRH lo hi (w.setCell p v) a n cap rows := by
  have hb := h.low.base_of
  obtain ⟨h1, h0, vs, ⟨h2, h3⟩, hap, h4⟩ := h
  refine ⟨h1, h0, vs, ⟨h2, ?_⟩, hap, fun i hi => ?_⟩
  · rcases h3 with h3 | ⟨g, c, cur, hv, hb', hh, h5⟩
    · exact .inl h3
    · refine .inr ⟨g, c, cur, hv, hb', ?_, h5⟩
      simp only [Value.slice.injEq] at hv
      have := h0 g hv.1
      rw [Below.heap_setCell _ _ _ _ (by omega)]; exact hh
  · obtain ⟨ai, ci, h5, h6, h7⟩ := h4 i hi
    refine ⟨ai, ci, h5, h6.keep fun g hg => ?_, h7⟩
    have := h7 g hg
    have := (h6.base_of g hg).1
    exact Below.heap_setCell _ _ _ _ (by omega)

end Go.Proofs.Ytnabpmafcflljaa

/-
  Kernels: contracts of the program and the reference.
  No condition.
-/
namespace Go.Proofs.Ytnabpmafcflljaa
set_option maxRecDepth 100000
open Go.RowKit

theorem kerR_no {p : Int} {n : Nat} {red : List (List Int)} {k i : Nat} (h : pivIx red k = some i) : kerR p n red (k + 1) = kerR p n red k := by unfold kerR; rw [freeL_no h]
theorem kerR_yes {p : Int} {n : Nat} {red : List (List Int)} {k : Nat} (h : pivIx red k = none) : kerR p n red (k + 1) = kerR p n red k ++ [kerV p n red k] := by unfold kerR; rw [freeL_yes h]; simp
theorem kerR_len (p : Int) (n : Nat) (red : List (List Int)) (k : Nat) : (kerR p n red k).length ≤ k := by unfold kerR; rw [List.length_map]; exact freeL_len red k
theorem kernL_cnt {p : Int} {n : Nat} {rows : List (List Int)} (hp : primeB p = true) : (kernL p n rows).length ≤ n ∧ RowsG p n (kernL p n rows) := by
  obtain ⟨c, hb⟩ := basis_red hp (kerR_good (n := n) (red := basisL p n rows) (k := n) (prime_bd hp).1)
  exact ⟨hb.len, hb.good⟩

set_option maxHeartbeats 8000000 in
set_option maxRecDepth 100000 in
theorem c_kernel (p : Int) (a : Option Addr) (m cap n : Nat) (rows : List (List Int)) (w : World) (hpr : primeB p = true) (hn : 0 < n) (hn2 : n ≤ 4095) (hm : m ≤ 4095) (hx : RdR w a m rows) (hg : RowsG p n rows) :
    Calls Try.prog 46 #[.int .i64 p, .slice a m cap, .int .i64 n] w fun e w' => ∃ g rc, e = .returned (.slice (some ⟨g, 0, none⟩) (kernL p n rows).length rc) ∧ OwnR w.heap.size w' (some ⟨g, 0, none⟩) (kernL p n rows).length rc (kernL p n rows) ∧ Ext w w' := by
  have hmm := @run_makeMap Try.prog
  have hpb := prime_bd hpr
  obtain ⟨cc, hbas⟩ := basis_red hpr hg
  have HPR := Lib.hid hpr
  have HX := Lib.hid hx
  have HG := Lib.hid hg
  obtain ⟨red, hred⟩ : ∃ red, red = basisL p n rows := ⟨_, rfl⟩
  have HBas := Lib.hid (show Basis p n red cc by rw [hred]; exact hbas)
  have HRed := Lib.hid hred
  have HKL := Lib.hid (show kernL p n rows = basisL p n (kerR p n red n) by unfold kernL; rw [hred])
  have hrl : red.length ≤ 4095 := by have := HBas.out.len; omega
  clear hx hg hbas hpr hred
  go_enter Try.func46, Try.ntmps46
  go_wp2_with (go_at_call 84; refine (c_basis p a m cap n rows _ HPR.out hn (by omega) (by omega) HX.out HG.out).mono ?_; rintro e w1 ⟨gb, cb, r, rfl, hob, hxb⟩; rw [← HRed.out] at hob; obtain rfl := hob.len; have HOb := Lib.hid hob; have X1 := Lib.hid hxb; clear hob hxb)
  go_loopw [24] (fun i wr => ∃ k : Nat, k ≤ red.length ∧ i = .int .i64 k ∧ wr.ownsMap Try.prog 3 (plainElem Try.prog 3) w1.heap.size k (plD red k) ∧ Ext w1 wr) (fun i _ => red.length - (intOf i).toNat)
  case atStart => exact ⟨0, Nat.zero_le _, rfl, World.ownsMap_made _ _ _ _, ext_alloc _ _⟩
  case round =>
    obtain ⟨k, hk, rfl, hown, hext⟩ := hrel
    have HOwn := Lib.hid hown
    have HExt := Lib.hid hext
    clear hown hext
    by_cases hlt : k < red.length
    · obtain ⟨aj, cj, hcj, hoj⟩ := HOb.out.at hlt
      have hjl := (HBas.out.good k hlt).1
      rw [hjl] at hcj hoj
      have hcj' := HExt.out.cell hcj
      have HOj := Lib.hid (hoj.rd.ext HExt.out)
      obtain ⟨L, hL⟩ : ∃ L, L = leadN (nthR red k) := ⟨_, rfl⟩
      have HL := Lib.hid hL
      have hLn : L ≤ n := by rw [hL, ← hjl]; exact leadN_le _
      clear hcj hoj hjl hL
      go_wp2_with (first
        | (go_at_call 85; refine (c_lead aj n cj (nthR red k) _ (by omega) HOj.out).mono ?_; rintro e w2 ⟨rfl, g2⟩; rw [← HL.out]; have G2 := Lib.hid g2; clear g2)
        | (at_mapUpdate; refine wpList_mapUpdate_own _ rfl _ _ _ 80 rfl 3 3 lawK Try.underlying80 _ w1.heap.size k _ rfl (ownsMap_ext HOwn.out G2.out) (by unfold maxLen; omega) _ _ _ rfl rfl (Maps.keyOf_int_mk Try.underlying3 (WalkArith.wf_i64 (by omega))) _ [] (plainElem_int Try.underlying3 (WalkArith.wf_i64 (by omega))) ?_; intro w3 hown3 hgrow3; have HO3 := Lib.hid hown3; have HE3 := Lib.hid ((HExt.out.trans G2.out).grown hgrow3 (fun j hj => by cases hj; exact Nat.le_refl _)); clear hown3 hgrow3))
      go_roundw
      case rel => exact ⟨k + 1, by omega, by go_num, by (show World.ownsMap _ _ _ _ _ _ ((plD red k).put (.int .i64 (leadN (nthR red k))) (.lit (.int .i64 k)))); rw [← HL.out]; exact HO3.out, HE3.out⟩
      case measure => simp [intOf]; omega
    · obtain rfl : k = red.length := by omega
      have HM := HOwn
      have X2 := HExt
      have HRd := Lib.hid (HOb.out.ext X2.out)
      have GW := Lib.hid (X1.out.trans X2.out)
      clear HOwn HExt HOb
      rename World => wM
      go_wp2_with (fail)
      go_loopw [11, 36] (fun v i wq => ∃ (f g rc : Nat), f ≤ n ∧ i = .int .i64 f ∧ v = .slice (some ⟨g, 0, none⟩) (kerR p n red f).length rc ∧ OwnW wM.heap.size wq (some ⟨g, 0, none⟩) (kerR p n red f).length rc (kerR p n red f) ∧ Ext wM wq) (fun _ i _ => n - (intOf i).toNat)
      case atStart => exact ⟨0, _, _, Nat.zero_le _, rfl, rfl, OwnW.start _ _ _, ext_alloc _ _⟩
      case round =>
        obtain ⟨f, g, rc, hf, rfl, rfl, hown, hext⟩ := hrel
        rename World => wq
        have HOwn := Lib.hid hown
        have HExt := Lib.hid hext
        clear hown hext
        have hkl := kerR_len p n red f
        by_cases hlf : f < n
        · have hmap := ownsMap_ext HM.out HExt.out
          have hpiv := @plD_piv red f
          cases hp : pivIx red f with
          | some j =>
            rw [hp] at hpiv
            have HK := Lib.hid (kerR_no (p := p) (n := n) hp)
            have hhas : Maps.has (plD red red.length) (.int .i64 f) = true := hpiv
            clear hp hpiv
            go_wp2_with (at_lookup; refine wpList_lookup_own_ok_int _ rfl _ _ 80 rfl 3 3 .i64 lawK Try.underlying80 Try.underlying3 (zeroK _) w1.heap.size red.length _ rfl hmap _ _ rfl (Maps.keyOf_int_mk Try.underlying3 (WalkArith.wf_i64 (by omega))) ?_; intro c hat hwc; rw [hhas])
            go_roundw
            case rel => exact ⟨f + 1, g, rc, by omega, by go_num, by rw [HK.out], by rw [HK.out]; exact HOwn.out, HExt.out⟩
            case measure => simp [intOf]; omega
          | none =>
            rw [hp] at hpiv
            have HK := Lib.hid (kerR_yes (p := p) (n := n) hp)
            have HP := Lib.hid hp
            have hhas : Maps.has (plD red red.length) (.int .i64 f) = false := hpiv
            clear hp hpiv
            obtain ⟨w4, hmk, ho4, he4⟩ := make_ints wq n (by omega)
            obtain ⟨g0, hg0⟩ : ∃ g, g = wq.heap.size := ⟨_, rfl⟩
            rw [← hg0] at hmk ho4
            have HG0 := Lib.hid hg0
            have hge : wq.heap.size ≤ g0 := by omega
            have hgl : g0 < w4.heap.size := (ho4.base_of _ rfl).2
            have HO4 := Lib.hid ho4
            have HE4 := Lib.hid he4
            have hcg := ho4.cell hlf
            have hfz := ho4.frozen f
            have HM5 := Lib.hid (ownsMap_ext hmap (he4.setCell (p := ⟨g0, f, none⟩) hge (.int .i64 1)))
            clear ho4 he4 hg0
            go_wp2_with (first
              | (at_lookup; refine wpList_lookup_own_ok_int _ rfl _ _ 80 rfl 3 3 .i64 lawK Try.underlying80 Try.underlying3 (zeroK _) w1.heap.size red.length _ rfl hmap _ _ rfl (Maps.keyOf_int_mk Try.underlying3 (WalkArith.wf_i64 (by omega))) ?_; intro c hat hwc; rw [hhas])
              | (at_range; refine wpList_range_own _ rfl _ 80 rfl 3 3 lawK Try.underlying80 _ w1.heap.size red.length _ rfl HM5.out ?_; intro w6 hrg6 hg6 hs6))
            go_frame
            have hszg : (w4.setCell ⟨g0, f, none⟩ (.int .i64 1)).heap.size = w4.heap.size := by simp
            rw [hszg]
            clear hszg
            have X5 := Lib.hid (HE4.out.setCell (p := ⟨g0, f, none⟩) hge (.int .i64 1))
            have HO5 := Lib.hid (HO4.out.store hlf 1)
            have HSz := Lib.hid (show (w4.setCell ⟨g0, f, none⟩ (.int .i64 1)).heap.size = w4.heap.size by simp)
            obtain ⟨w5, hw5⟩ : ∃ w5, w5 = w4.setCell ⟨g0, f, none⟩ (.int .i64 1) := ⟨_, rfl⟩
            rw [← hw5] at hrg6 hg6 hs6 X5 HO5 HSz
            have hsz5 := HSz.out
            rw [hsz5] at hrg6
            have E6 := Lib.hid ((Ext.refl w5).grown hg6 (fun j hj => by cases hj))
            have HR6 := Lib.hid hrg6
            clear hcg hfz hmap hw5 hrg6 hg6 hs6 hmk hsz5
            go_loopw [53] (fun _ wz => ∃ (left : Lit → Bool) (cnt : Nat), wz.ranges Try.prog 3 (plainElem (H := Unit) Try.prog 3) w1.heap.size w4.heap.size red.length (plD red red.length) left cnt ∧ OwnC wq.heap.size wz (some ⟨g0, 0, none⟩) n n (kerP p n red f left) ∧ Ext wq wz) (fun _ wz => wz.rangeLeft w1.heap.size w4.heap.size)
            case atStart => exact ⟨_, _, HR6.out, by rw [kerP_start hlf]; exact (HO5.out.mono hge).ext E6.out, X5.out.trans E6.out⟩
            case round =>
              obtain ⟨left, cnt, hrg, hown, hext⟩ := hrel
              rename World => wz
              have HRg := Lib.hid hrg
              have HOz := Lib.hid hown
              have HEz := Lib.hid hext
              clear hrg hown hext
              go_wp2_with (at_next; refine wpList_next_ranges_ii _ rfl _ rfl 3 3 .i64 .i64 lawK Try.underlying3 Try.underlying3 w1.heap.size w4.heap.size red.length _ _ _ ?hit HRg.out ?_ ?_)
              case hit => simp [Act.eval]
              · intro _ hl0
                have HKE := Lib.hid (kerP_end (p := p) (n := n) (red := red) (f := f) hl0)
                clear hl0
                go_wp2_with (at_builtin; refine wpList_pushRW (w0 := wq) rfl (.tmp 71) (.tmp 73) rfl rfl rfl HOwn.out (HEz.out.trans (ext_alloc _ _)) (xs := kerV p n red f) (by rw [← HKE.out]; exact HOz.out.ext (ext_alloc _ _)) ?hc (by omega) HExt.out.size ?hk)
                case hc => exact cell_new _ _ rfl _ _
                case hk =>
                  intro g' cap' w9 ho9 he9
                  have HO9 := Lib.hid ho9
                  have HE9 := Lib.hid (he9 wM (Nat.le_refl _) ((HExt.out.trans HEz.out).alloc _))
                  clear ho9 he9
                  go_wp2_with (fail)
                  go_roundw
                  case rel => exact ⟨f + 1, g', cap', by omega, by go_num, by rw [HK.out, List.length_append]; rfl, by rw [HK.out, List.length_append]; exact .inr HO9.out, HE9.out⟩
                  case measure => simp [intOf]; omega
              · intro x c w7 cnt7 hwx hwc hlx hat hrg7 hlt7 hg7 hs7 hen
                obtain ⟨i, hi, rfl, rfl⟩ := plD_entry HBas.out hat
                have hjl := (HBas.out.good i hi).1
                have hlt : leadN (nthR red i) < n := by rw [HBas.out.leadN hi]; exact HBas.out.clt i hi
                have hbd := (HBas.out.good i hi).2 f hlf
                obtain ⟨ai, ci, hci, hoi⟩ := HRd.out.at hi
                rw [hjl] at hci hoi
                have HSt := Lib.hid (kerP_step (p := p) (n := n) (left := left) HBas.out hi hlt HP.out)
                have hw5 : wq.heap.size ≤ w4.heap.size := HE4.out.size'
                have HE7 := Lib.hid (HEz.out.grown hg7 (fun j hj => by cases hj; exact hw5))
                obtain ⟨bj, oj, rfl, hcm⟩ := hoi.rd.2 f (by omega)
                have hci7 := (HExt.out.trans HE7.out).cell hci
                have hcm7 := (HExt.out.trans HE7.out).cell hcm
                obtain ⟨u, hu⟩ : ∃ u, u = nth (nthR red i) f := ⟨_, rfl⟩
                rw [← hu] at hcm7 hbd HSt
                have hwn : IntKind.i64.wrap (-u) = -u := IntWalk.i64_in _ (by omega)
                have ho7 := HOz.out.grown hg7 (fun g hg => by cases hg; intro he; injection he with he; have := HSz.out; omega)
                obtain ⟨L, hL⟩ : ∃ L, L = leadN (nthR red i) := ⟨_, rfl⟩
                rw [← hL] at hlt HSt hrg7 hen hwx hlx
                have HO7 := Lib.hid ho7
                have HRg7 := Lib.hid hrg7
                have hcg := ho7.cell hlt
                have hfz := ho7.frozen L
                have HCnt := Lib.hid hlt7
                clear hci hoi hcm hat hlx hwx hwc ho7 hrg7 hL hu hg7 hs7 hlt7 hjl
                go_wp2_with (go_at_call 86; refine (c_num _ _ _ (by omega) (by omega)).mono ?_; rintro e w10 ⟨rfl, g10⟩; have G10 := Lib.hid g10; have hcg' := g10.cell hcg; have hfz' := (HO7.out.ext g10).frozen L; clear g10)
                go_roundw
                case rel => exact ⟨_, cnt7, ranges_keep (ranges_ext HRg7.out G10.out) (Below.heap_setCell _ _ _ _ (by show w1.heap.size ≠ g0; have := HExt.out.size'; have := HM.out.lt; omega)) (Below.heap_setCell _ _ _ _ (by show w4.heap.size ≠ g0; have := HSz.out; omega)), by rw [HSt.out]; exact (HO7.out.ext G10.out).store hlt _, (HE7.out.trans G10.out).setCell hge _⟩
                case measure =>
                  have h1 := HRg.out.left_eq
                  have h2 := (ranges_keep (w' := w10.setCell ⟨g0, L, none⟩ (.int .i64 (-u % p))) (ranges_ext HRg7.out G10.out) (Below.heap_setCell _ _ _ _ (by show w1.heap.size ≠ g0; have := HExt.out.size'; have := HM.out.lt; omega)) (Below.heap_setCell _ _ _ _ (by show w4.heap.size ≠ g0; have := HSz.out; omega))).left_eq
                  have h3 := HCnt.out
                  omega
        · obtain rfl : f = n := by omega
          go_wp2_with (go_at_call 84; refine (c_basis p (some ⟨g, 0, none⟩) (kerR p f red f).length rc f (kerR p f red f) _ HPR.out hn (by omega) (by omega) HOwn.out.rd (kerR_good (by omega))).mono ?_; rintro e w8 ⟨g8, c8, r, rfl, ho8, x8⟩; rw [← HKL.out] at ho8; obtain rfl := ho8.len; have HO8 := Lib.hid ho8; have X8 := Lib.hid x8; clear ho8 x8)
          go_ret
          exact ⟨g8, c8, rfl, HO8.out.mono (GW.out.trans HExt.out).size, GW.out.trans (HExt.out.trans X8.out)⟩
end Go.Proofs.Ytnabpmafcflljaa

/-
  Vectors as multivectors; the codes of spaces and vectors.
  No condition.
-/
namespace Go.Proofs.Ytnabpmafcflljaa
set_option maxRecDepth 100000
open Go.RowKit

def vecS (N : Nat) (v : List Int) : Nat → List Int
  | 0 => List.replicate N 0
  | k + 1 => (vecS N v k).set (2 ^ k) (nth v k)
def vecL (N : Nat) (v : List Int) : List Int := vecS N v v.length
theorem vecS_good {p : Int} {N n : Nat} {v : List Int} (hp : 1 ≤ p) (hv : Good p n v) : ∀ k, k ≤ n → Good p N (vecS N v k)
  | 0, _ => good_zero hp
  | k + 1, hk => good_set (vecS_good hp hv k (by omega)) (hv.2 k (by omega)).1 (hv.2 k (by omega)).2
theorem vec_good {p : Int} {N n : Nat} {v : List Int} (hp : 1 ≤ p) (hv : Good p n v) : Good p N (vecL N v) := vecS_good hp hv _ (by rw [hv.1]; exact Nat.le_refl _)

set_option maxHeartbeats 1000000 in
theorem c_vector {N d : Nat} (hN : N = 2 ^ d) (p : Int) (a : Option Addr) (cap : Nat) (av : Option Addr) (cv : Nat) (v : List Int) (w : World) (hd : d ≤ 6) (hv : RdC w av d v) :
    Calls Try.prog 111 #[.agg #[.int .i64 p, .slice a d cap], .slice av d cv] w fun e w' => ∃ g, e = .returned (.slice (some ⟨g, 0, none⟩) N N) ∧ OwnC w.heap.size w' (some ⟨g, 0, none⟩) N N (vecL N v) ∧ Ext w w' := by
  have HN := Lib.hid hN
  have HV := Lib.hid hv
  have HL := Lib.hid (show vecL N v = vecS N v d by unfold vecL; rw [hv.1])
  clear hN hv
  obtain ⟨W, hW⟩ : ∃ W, W = w.alloc (.cells #[.int .i64 p, .slice a d cap] 30) := ⟨_, rfl⟩
  have gW : Ext w W := by rw [hW]; exact ext_alloc _ _
  have hs0 : W.cell? ⟨w.heap.size, 0, none⟩ = some (.int .i64 p) := by rw [hW]; simp
  have hs1 : W.cell? ⟨w.heap.size, 1, none⟩ = some (.slice a d cap) := by rw [hW]; simp
  have HS0 := Lib.hid (hs0)
  have HS1 := Lib.hid (hs1)
  have GW := Lib.hid (gW)
  have HW := Lib.hid hW
  clear hs0 hs1 gW hW
  go_enter Try.func111, Try.ntmps111
  go_wp2_with (fail)
  rw [← HW.out]
  refine (c_nothingN HN.out p a cap W hd).mono ?_
  rintro e w1 ⟨g, rfl, ho, g1⟩
  have HO := Lib.hid ho
  have G1 := Lib.hid g1
  have hg := ho.base_le
  clear ho g1
  go_wp2_with (fail)
  go_loopw [12] (fun i wr => ∃ k : Nat, k ≤ d ∧ i = .int .i64 k ∧ OwnC W.heap.size wr (some ⟨g, 0, none⟩) N N (vecS N v k) ∧ Ext W wr) (fun i _ => d - (intOf i).toNat)
  case atStart => exact ⟨0, Nat.zero_le _, rfl, HO.out, G1.out⟩
  case round =>
    obtain ⟨k, hk, rfl, hown, hext⟩ := hrel
    have HOwn := Lib.hid hown
    have HExt := Lib.hid hext
    clear hown hext
    by_cases hlt : k < d
    · obtain ⟨b, off, rfl, hc⟩ := HV.out.2 k hlt
      have hc' := (GW.out.trans HExt.out).cell hc
      have hpi : IntKind.i64.wrap (2 ^ k) = ((2 ^ k : Nat) : Int) := pow_wrapI (by omega)
      have hpw : wrap64 (2 ^ k) = ((2 ^ k : Nat) : Int) := pow_wrap (by omega)
      have hMN : 2 ^ k < N := by rw [HN.out]; exact Nat.pow_lt_pow_right (by omega) hlt
      obtain ⟨M, hM⟩ : ∃ M, M = 2 ^ k := ⟨_, rfl⟩
      rw [← hM] at hpi hpw hMN
      have HM := Lib.hid hM
      have ec := HOwn.out.cell hMN
      have ef := HOwn.out.frozen M
      clear hc hM
      go_wp2_with (fail)
      go_roundw
      case rel => exact ⟨k + 1, by omega, by go_num, by unfold vecS; rw [← HM.out]; exact HOwn.out.store hMN _, HExt.out.setCell hg.1 _⟩
      case measure => simp [intOf]; omega
    · go_wp2_with (fail)
      go_ret
      obtain rfl : k = d := by omega
      exact ⟨g, rfl, by rw [HL.out]; exact HOwn.out.mono GW.out.size, GW.out.trans HExt.out⟩
set_option maxHeartbeats 1000000 in
theorem s_vector {N d : Nat} (hN : N = 2 ^ d) (p : Int) (a : Option Addr) (cap : Nat) (av : Option Addr) (cv : Nat) (v : List Int) (w : World) (hd : d ≤ 6) (hv : RdC w av d v) :
    Calls Try.prog 105 #[.agg #[.int .i64 p, .slice a d cap], .slice av d cv] w fun e w' => ∃ g, e = .returned (.slice (some ⟨g, 0, none⟩) N N) ∧ OwnC w.heap.size w' (some ⟨g, 0, none⟩) N N (vecL N v) ∧ Ext w w' := by
  have HN := Lib.hid hN
  have HV := Lib.hid hv
  have HL := Lib.hid (show vecL N v = vecS N v d by unfold vecL; rw [hv.1])
  clear hN hv
  obtain ⟨W, hW⟩ : ∃ W, W = w.alloc (.cells #[.int .i64 p, .slice a d cap] 30) := ⟨_, rfl⟩
  have gW : Ext w W := by rw [hW]; exact ext_alloc _ _
  have hs0 : W.cell? ⟨w.heap.size, 0, none⟩ = some (.int .i64 p) := by rw [hW]; simp
  have hs1 : W.cell? ⟨w.heap.size, 1, none⟩ = some (.slice a d cap) := by rw [hW]; simp
  have HS0 := Lib.hid (hs0)
  have HS1 := Lib.hid (hs1)
  have GW := Lib.hid (gW)
  have HW := Lib.hid hW
  clear hs0 hs1 gW hW
  go_enter Try.func105, Try.ntmps105
  go_wp2_with (fail)
  rw [← HW.out]
  refine (s_zeroN HN.out p a cap W hd).mono ?_
  rintro e w1 ⟨g, rfl, ho, g1⟩
  have HO := Lib.hid ho
  have G1 := Lib.hid g1
  have hg := ho.base_le
  clear ho g1
  go_wp2_with (fail)
  go_loopw [6] (fun i wr => ∃ k : Nat, k ≤ d ∧ i = .int .i64 k ∧ OwnC W.heap.size wr (some ⟨g, 0, none⟩) N N (vecS N v k) ∧ Ext W wr) (fun i _ => d - (intOf i).toNat)
  case atStart => exact ⟨0, Nat.zero_le _, rfl, HO.out, G1.out⟩
  case round =>
    obtain ⟨k, hk, rfl, hown, hext⟩ := hrel
    have HOwn := Lib.hid hown
    have HExt := Lib.hid hext
    clear hown hext
    by_cases hlt : k < d
    · obtain ⟨b, off, rfl, hc⟩ := HV.out.2 k hlt
      have hc' := (GW.out.trans HExt.out).cell hc
      have hpi : IntKind.i64.wrap (2 ^ k) = ((2 ^ k : Nat) : Int) := pow_wrapI (by omega)
      have hpw : wrap64 (2 ^ k) = ((2 ^ k : Nat) : Int) := pow_wrap (by omega)
      have hcv := conv_u k (by omega)
      have hMN : 2 ^ k < N := by rw [HN.out]; exact Nat.pow_lt_pow_right (by omega) hlt
      obtain ⟨M, hM⟩ : ∃ M, M = 2 ^ k := ⟨_, rfl⟩
      rw [← hM] at hpi hpw hMN
      have HM := Lib.hid hM
      have ec := HOwn.out.cell hMN
      have ef := HOwn.out.frozen M
      clear hc hM
      go_wp2_with (fail)
      go_roundw
      case rel => exact ⟨k + 1, by omega, by go_num, by unfold vecS; rw [← HM.out]; exact HOwn.out.store hMN _, HExt.out.setCell hg.1 _⟩
      case measure => simp [intOf]; omega
    · go_wp2_with (fail)
      go_ret
      obtain rfl : k = d := by omega
      exact ⟨g, rfl, by rw [HL.out]; exact HOwn.out.mono GW.out.size, GW.out.trans HExt.out⟩

/-! ### Codes of spaces and vectors -/
def vecB (p : Int) (d : Nat) (v : List Int) : Bool := decide (v.length = d) && isB p v
def codeV (p : Int) (qs : List Int) (rows : List (List Int)) : Int := if spaceB p qs then (if rows.all (vecB p qs.length) then 0 else 2) else 1
theorem vec_of {p : Int} {d : Nat} {v : List Int} (h : vecB p d v = true) : v.length = d ∧ isB p v = true := by
  simpa [vecB] using h
set_option maxHeartbeats 400000 in
theorem c_isVector (p : Int) (a : Option Addr) (d cap : Nat) (ax : Option Addr) (n cx : Nat) (xs : List Int) (w : World) (hp1 : 1 ≤ p) (hp2 : p ≤ 1000) (hl : n ≤ 4194304) (hx : RdC w ax n xs) :
    Calls Try.prog 148 #[.agg #[.int .i64 p, .slice a d cap], .slice ax n cx] w fun e w' => e = .returned (.bool (vecB p d xs)) ∧ Ext w w' := by
  by_cases hc : n = d
  · have HF := Lib.hid (show vecB p d xs = isB p xs by simp [vecB, hx.1, hc])
    have hcb : ((n : Int) == (d : Int)) = true := by simp [hc]
    clear hc
    go_enter Try.func148, Try.ntmps148
    go_wp2_with (first | (go_at_call 49; refine (c_dim _ _ _ _ _).mono ?_; rintro e w1 ⟨rfl, h1⟩; have hcc := Ext.cells h1) | (go_at_call 45; refine (c_field _ _ _).mono ?_; rintro e w2 ⟨rfl, h2⟩; have hcc2 := Ext.cells (h1.trans h2)) | (go_at_call 123; refine (c_is _ _ _ _ _ _ hp1 hp2 hl (hx.ext ((ext_alloc _ _).trans (h1.trans h2)))).mono ?_; rintro e w3 ⟨rfl, h3⟩))
    go_ret
    exact ⟨ret_bool HF.out.symm, (ext_alloc _ _).trans (h1.trans (h2.trans h3))⟩
  · have HF := Lib.hid (show vecB p d xs = false by simp [vecB, hx.1, hc])
    have hcb : ((n : Int) == (d : Int)) = false := by simp; omega
    go_enter Try.func148, Try.ntmps148
    go_wp2_with (first | (go_at_call 49; refine (c_dim _ _ _ _ _).mono ?_; rintro e w1 ⟨rfl, h1⟩; have hcc := Ext.cells h1))
    go_ret
    exact ⟨ret_bool HF.out.symm, (ext_alloc _ _).trans h1⟩

set_option maxHeartbeats 400000 in
theorem c_checkVectors1 (p : Int) (a : Option Addr) (d cap : Nat) (ax : Option Addr) (n cx : Nat) (xs : List Int) (q : Nat) (w : World) (hp1 : 1 ≤ p) (hp2 : p ≤ 1000) (hl : n ≤ 4194304) (hx : RdC w ax n xs)
    (hq0 : w.cell? ⟨q, 0, none⟩ = some (.int .i64 p)) (hq1 : w.cell? ⟨q, 1, none⟩ = some (.slice a d cap)) :
    Calls Try.prog 147 #[.slice ax n cx, .pointer (some ⟨q, 0, none⟩)] w fun e w' => e = .returned (.bool (!vecB p d xs)) ∧ Ext w w' := by
  go_enter Try.func147, Try.ntmps147
  go_wp2_with (go_at_call 148; refine (c_isVector _ _ _ _ _ _ _ _ _ hp1 hp2 hl hx).mono ?_; rintro e w1 ⟨rfl, h1⟩)
  go_ret
  exact ⟨rfl, h1⟩

theorem any_rowsV (p : Int) (d n : Nat) (rows : List (List Int)) (hn : rows.length = n) : (List.range n).any (fun i => !vecB p d (nthR rows i)) = !rows.all (vecB p d) := by
  subst hn
  rw [← any_not_all]
  rw [Bool.eq_iff_iff]
  simp only [List.any_eq_true, List.mem_range]
  constructor
  · rintro ⟨i, hi, h⟩
    exact ⟨i, hi, by rw [List.getElem?_eq_getElem hi]; rw [nthR_eq hi] at h; exact h⟩
  · rintro ⟨i, hi, h⟩
    exact ⟨i, hi, by rw [List.getElem?_eq_getElem hi] at h; rw [nthR_eq hi]; exact h⟩

set_option maxHeartbeats 400000 in
theorem c_checkVectors (p : Int) (a : Option Addr) (d cap : Nat) (qs : List Int) (al : Option Addr) (n cl : Nat) (rows : List (List Int)) (w : World) (hd : d ≤ 4194304) (hl : n ≤ 4194304) (hr : ∀ i, i < n → (nthR rows i).length ≤ 4194304)
    (hq : RdC w a d qs) (hx : RdR w al n rows) :
    Calls Try.prog 117 #[.agg #[.int .i64 p, .slice a d cap], .slice al n cl] w fun e w' => e = .returned (.int .i64 (codeV p qs rows)) ∧ Ext w w' := by
  cases hs : spaceB p qs
  · have HS := Lib.hid hs
    have HC := Lib.hid (show codeV p qs rows = 1 by simp [codeV, hs])
    clear hs
    go_enter Try.func117, Try.ntmps117
    go_wp2_with (go_at_call 82; refine (c_isSpace _ _ _ _ _ _ hd (hq.ext (ext_alloc _ _))).mono ?_; rintro e w1 ⟨rfl, h1⟩; rw [HS.out])
    go_ret
    exact ⟨ret_int HC.out.symm, (ext_alloc _ _).trans h1⟩
  · obtain ⟨hp, hd1, hd6, _⟩ := space_of hs
    have hpb := prime_bd hp
    have hdq := hq.1
    have HS := Lib.hid hs
    have HC := Lib.hid (show codeV p qs rows = if rows.all (vecB p d) then 0 else 2 by simp [codeV, hs, hdq])
    have HA := Lib.hid (any_rowsV p d n rows hx.1)
    clear hs hp hdq hd1 hd6
    obtain ⟨ai, ci, hR, hrow⟩ := hx.choose
    have HR := Lib.hid hR
    have HRow := Lib.hid hrow
    clear hR hrow
    cases ha : rows.all (vecB p d)
    all_goals
      have HAl := Lib.hid ha
      clear ha
      go_enter Try.func117, Try.ntmps117
      go_wp2_with (first | (go_at_call 82; refine (c_isSpace _ _ _ _ _ _ hd (hq.ext (ext_alloc _ _))).mono ?_; rintro e w1 ⟨rfl, h1⟩; rw [HS.out]; have hcc := Ext.cells h1) | (go_at_call 146; refine (c_containsFunc al n cl 147 #[.pointer (some ⟨w.heap.size, 0, none⟩)] (rowV ai ci rows) (fun i => !vecB p d (nthR rows i)) _ hl ?_ (fun i hi => ?_) (fun i hi w2 he => ?_)).mono ?_; rotate_right; rintro e w2 ⟨rfl, h2⟩; rw [HA.out, HAl.out]))
      rotate_left
      · intro args w; go_simp
      · obtain ⟨b, off, hb1, hb2⟩ := HR.out i hi
        exact ⟨b, off, hb1, ((ext_alloc _ _).trans h1).cell hb2⟩
      · refine c_checkVectors1 p a d cap _ _ _ _ _ _ (by omega) (by omega) (hr i hi) ((HRow.out i hi).ext ((ext_alloc _ _).trans (h1.trans he))) ?_ ?_
        · refine he.cell (h1.cell ?_); simp
        · refine he.cell (h1.cell ?_); simp
      go_ret
      refine ⟨ret_int ?_, (ext_alloc _ _).trans (h1.trans h2)⟩
      rw [HC.out, HAl.out]; rfl
end Go.Proofs.Ytnabpmafcflljaa

/-
  Reverses of multivectors, in the program and in the reference.
  No condition.
-/
namespace Go.Proofs.Ytnabpmafcflljaa
set_option maxRecDepth 100000
open Go.RowKit


def revB (g : Nat) : Bool := g * (g - 1) / 2 % 2 == 1
theorem rev_i (g : Nat) (hg : g ≤ 6) : ((wrap64 ((wrap64 ((g : Int) * ((g : Int) - 1))).tdiv 2)).tmod 2 == 1) = revB g := by
  have : ∀ g : Nat, g < 7 → ((wrap64 ((wrap64 ((g : Int) * ((g : Int) - 1))).tdiv 2)).tmod 2 == 1) = revB g := by decide +kernel
  exact this g (by omega)

def signN (p : Int) (odd : Nat → Bool) (x : List Int) (i : Nat) : Int := if odd (popc i) = true then (-nth x i) % p else nth x i
def signL (p : Int) (odd : Nat → Bool) (x : List Int) (n : Nat) : List Int := (List.range n).map (signN p odd x)
theorem signL_len (p : Int) (odd : Nat → Bool) (x : List Int) (n : Nat) : (signL p odd x n).length = n := by simp [signL]
theorem signL_nth {p : Int} {odd : Nat → Bool} {x : List Int} {n i : Nat} (h : i < n) : nth (signL p odd x n) i = signN p odd x i := by
  unfold signL; rw [nth_map (by simpa using h)]; simp
theorem signL_succ (p : Int) (odd : Nat → Bool) (x : List Int) (n : Nat) : signL p odd x (n + 1) = signL p odd x n ++ [signN p odd x n] := by simp [signL, List.range_succ]
theorem signN_bd {p : Int} {odd : Nat → Bool} {x : List Int} {n i : Nat} (hp : 1 ≤ p) (hx : Good p n x) (h : i < n) : 0 ≤ signN p odd x i ∧ signN p odd x i < p := by
  unfold signN; split
  · exact ⟨Int.emod_nonneg _ (by omega), Int.emod_lt_of_pos _ (by omega)⟩
  · exact hx.2 i h
theorem sign_good {p : Int} {odd : Nat → Bool} {x : List Int} {n : Nat} (hp : 1 ≤ p) (hx : Good p n x) : Good p n (signL p odd x n) := ⟨signL_len _ _ _ _, fun i hi => by rw [signL_nth hi]; exact signN_bd hp hx hi⟩



theorem neg_ref {p x : Int} : (p - x) % p = (-x) % p := by
  rw [show p - x = -x + p * 1 by omega, Int.add_mul_emod_self_left]


end Go.Proofs.Ytnabpmafcflljaa

/-
  Unduals, scalar products, brackets: walks.
  No condition.
-/
namespace Go.Proofs.Ytnabpmafcflljaa
set_option maxRecDepth 100000
open Go.RowKit



def scalL (p : Int) (qs x y : List Int) : Int := nth (prodL p qs tkA (signL p revB x (2 ^ qs.length)) y) 0


theorem prod_two {p : Int} {qs x y : List Int} {N : Nat} (hN : N = 2 ^ qs.length) (hp : 3 ≤ p) (hx : Good p N x) : timesL p qs [x, y] = prodL p qs tkA x y := timesL_two hp (by rw [← hN]; exact hx)



end Go.Proofs.Ytnabpmafcflljaa

/-
  Products of lists of vectors.
  No condition.
-/
namespace Go.Proofs.Ytnabpmafcflljaa
set_option maxRecDepth 100000
open Go.RowKit

/-- The product of the first k of some vectors. -/
def prodS (p : Int) (qs : List Int) (tk : Nat → Nat → Bool) (rows : List (List Int)) : Nat → List Int
  | 0 => bladeL (2 ^ qs.length) 0
  | k + 1 => prodL p qs tk (prodS p qs tk rows k) (vecL (2 ^ qs.length) (nthR rows k))
theorem prodS_good {p : Int} {qs : List Int} {tk : Nat → Nat → Bool} {rows : List (List Int)} (hp : 3 ≤ p) : ∀ k, Good p (2 ^ qs.length) (prodS p qs tk rows k)
  | 0 => blade_good hp
  | k + 1 => prod_good (by omega)
/-- The code of a space and a list of at most 16 vectors. -/
def codeVR (p : Int) (qs : List Int) (rows : List (List Int)) : Int := if codeV p qs rows = 0 then (if rows.length ≤ 16 then 0 else 2) else codeV p qs rows
theorem codeVR_zero {p : Int} {qs : List Int} {rows : List (List Int)} (h : codeVR p qs rows = 0) : spaceB p qs = true ∧ rows.all (vecB p qs.length) = true ∧ rows.length ≤ 16 := by
  unfold codeVR codeV at h
  cases hs : spaceB p qs
  · simp [hs] at h
  · cases ha : rows.all (vecB p qs.length)
    · simp [hs, ha] at h
    · simp [hs, ha] at h
      exact ⟨rfl, rfl, h⟩
theorem rows_good {p : Int} {d : Nat} {rows : List (List Int)} (h : rows.all (vecB p d) = true) : RowsG p d rows := fun i hi => by
  have := List.all_eq_true.1 h (nthR rows i) (by rw [nthR_eq hi]; exact List.getElem_mem hi)
  obtain ⟨h1, h2⟩ := vec_of this
  exact good_isB h1 h2



set_option maxHeartbeats 2000000 in
theorem c_versor {N d : Nat} (hN : N = 2 ^ d) (p : Int) (a : Option Addr) (cap : Nat) (qs : List Int) (al : Option Addr) (n cl : Nat) (rows : List (List Int)) (w : World) (hd : d ≤ 6) (hp1 : 3 ≤ p) (hp2 : p ≤ 1000) (hl : n ≤ 4194304) (hq : RdC w a d qs) (hqb : isB p qs = true) (hx : RdR w al n rows) (hg : RowsG p d rows) :
    Calls Try.prog 60 #[.agg #[.int .i64 p, .slice a d cap], .slice al n cl] w fun e w' => ∃ g, e = .returned (.slice (some ⟨g, 0, none⟩) N N) ∧ OwnC w.heap.size w' (some ⟨g, 0, none⟩) N N (prodS p qs tkA rows n) ∧ Ext w w' := by
  have HN := Lib.hid hN
  have HX := Lib.hid hx
  have HQ := Lib.hid hq
  have HQB := Lib.hid hqb
  have HG := Lib.hid hg
  have HD := Lib.hid (show N = 2 ^ qs.length by rw [hq.1]; exact hN)
  have HPA : Hid (∀ k, Good p N (prodS p qs tkA rows k)) := Lib.hid (fun k => by rw [HD.out]; exact prodS_good hp1 k)
  clear hN hx hq hqb hg
  obtain ⟨W, hW⟩ : ∃ W, W = w.alloc (.cells #[.int .i64 p, .slice a d cap] 30) := ⟨_, rfl⟩
  have gW : Ext w W := by rw [hW]; exact ext_alloc _ _
  have hs0 : W.cell? ⟨w.heap.size, 0, none⟩ = some (.int .i64 p) := by rw [hW]; simp
  have hs1 : W.cell? ⟨w.heap.size, 1, none⟩ = some (.slice a d cap) := by rw [hW]; simp
  have HS0 := Lib.hid (hs0)
  have HS1 := Lib.hid (hs1)
  have GW := Lib.hid (gW)
  have HW := Lib.hid hW
  clear hs0 hs1 gW hW
  go_enter Try.func60, Try.ntmps60
  go_wp2_with (fail)
  rw [← HW.out]
  refine (c_oneN HN.out p a cap W hd).mono ?_
  rintro e w1 ⟨g, rfl, ho, g1⟩
  have HO := Lib.hid (ho.mono GW.out.size)
  have G1 := Lib.hid g1
  clear ho g1
  go_wp2_with (fail)
  go_loopw [5, 12] (fun v i wr => ∃ (k g : Nat), k ≤ n ∧ i = .int .i64 k ∧ v = .slice (some ⟨g, 0, none⟩) N N ∧ OwnC w.heap.size wr (some ⟨g, 0, none⟩) N N (prodS p qs tkA rows k) ∧ Ext W wr) (fun _ i _ => n - (intOf i).toNat)
  case atStart => exact ⟨0, g, Nat.zero_le _, rfl, rfl, by show OwnC _ _ _ _ _ (bladeL (2 ^ qs.length) 0); rw [← HD.out]; exact HO.out, G1.out⟩
  case round =>
    obtain ⟨k, g', hk, rfl, rfl, hown, hext⟩ := hrel
    have HOwn := Lib.hid hown
    have HExt := Lib.hid hext
    clear hown hext
    by_cases hlt : k < n
    · obtain ⟨b, off, ai, ci, rfl, hc, hri⟩ := HX.out.2 k hlt
      rw [(HG.out k (by rw [HX.out.1]; exact hlt)).1] at hc hri
      have hc' := (GW.out.trans HExt.out).cell hc
      have HRi := Lib.hid hri
      have HV := Lib.hid (show Good p N (vecL N (nthR rows k)) from vec_good (by omega) (HG.out k (by rw [HX.out.1]; exact hlt)))
      have HPS := Lib.hid (HPA.out k)
      have HCd := Lib.hid ((ext_drew _).cell hc')
      clear hri hc
      go_wp2_with (fail)
      clear hc'
      have GX := Lib.hid (GW.out.trans (HExt.out.trans (ext_drew wr)))
      have HT0 := Lib.hid ((HExt.out.trans (ext_drew wr)).cell HS0.out)
      have HT1 := Lib.hid ((HExt.out.trans (ext_drew wr)).cell HS1.out)
      refine wp_region_lex [(4, .ownG w.heap.size N (vecL N (nthR rows k))), (5, .rows 2 [prodS p qs tkA rows k, vecL N (nthR rows k)]), (6, .ownG w.heap.size N (timesL p qs [prodS p qs tkA rows k, vecL N (nthR rows k)]))] (by kernel_rfl) (by kernel_rfl) ?_
      (refine LexW.pure (v := ?_) rfl rfl (fun w1 he => ?_) ?_; rotate_left; ( have e1 := he.cell HT0.out; have e2 := he.cell HT1.out; have e3 := he.cell HCd.out; go_simp; rfl); simp only [Act.put, List.setIfInBounds_toArray, List.set_cons_zero, List.set_cons_succ])
      (refine LexW.pure (v := ?_) rfl rfl (fun w1 he => ?_) ?_; rotate_left; ( have e1 := he.cell HT0.out; have e2 := he.cell HT1.out; have e3 := he.cell HCd.out; go_simp; rfl); simp only [Act.put, List.setIfInBounds_toArray, List.set_cons_zero, List.set_cons_succ])
      (refine LexW.pure (v := ?_) rfl rfl (fun w1 he => ?_) ?_; rotate_left; ( have e1 := he.cell HT0.out; have e2 := he.cell HT1.out; have e3 := he.cell HCd.out; go_simp; rfl); simp only [Act.put, List.setIfInBounds_toArray, List.set_cons_zero, List.set_cons_succ])
      (refine LexW.pure (v := ?_) rfl rfl (fun w1 he => ?_) ?_; rotate_left; ( have e1 := he.cell HT0.out; have e2 := he.cell HT1.out; have e3 := he.cell HCd.out; go_simp; rfl); simp only [Act.put, List.setIfInBounds_toArray, List.set_cons_zero, List.set_cons_succ])
      (refine LexW.callR (f := ?_) (args := ?_) rfl rfl (fun w1 => ?_) (fun w1 he hdep => ?_) (fun v hv => ?_); rotate_left 2; (go_simp; refine ⟨?_, ?_⟩ <;> rfl); ( refine (c_vector HN.out p a cap ai ci (nthR rows k) w1 hd (HRi.out.ext (GX.out.trans he))).mono ?_; rintro e w2 ⟨g, rfl, ho, g2⟩; exact ⟨_, rfl, g2, g, rfl, ho.mono (Nat.le_trans GX.out.size he.size)⟩); simp only [Act.put, List.setIfInBounds_toArray, List.set_cons_zero, List.set_cons_succ])
      obtain ⟨_, g20, rfl, _⟩ := hv
      (refine LexW.rel rfl rfl (fun w1 he hdep => ?_) (fun v hv => ?_); ( obtain ⟨_, q20, r20⟩ : (SPred.ownG w.heap.size N (vecL N (nthR rows k))).holds (.slice (some ⟨g20, 0, none⟩) N N) w1 := hdep (4, 20) (by decide +kernel); cases q20; exact ⟨.slice (some ⟨w1.heap.size, 0, none⟩) 2 2, w1.alloc (.cells #[.slice (some ⟨g', 0, none⟩) N N, .slice (some ⟨g20, 0, none⟩) N N] 22), (by go_simp), ext_alloc _ _, _, rfl, rdR_two (a := (some ⟨g', 0, none⟩)) (b := (some ⟨g20, 0, none⟩)) (n := N) (m := N) (ca := N) (cb := N) (by simp) (by simp) ((HOwn.out.rd.ext ((ext_drew _).trans he)).ext (ext_alloc _ _)) ((r20.rd).ext (ext_alloc _ _))⟩); simp only [Act.put, List.setIfInBounds_toArray, List.set_cons_zero, List.set_cons_succ])
      obtain ⟨_, g21, rfl, _⟩ := hv
      (refine LexW.callR (f := ?_) (args := ?_) rfl rfl (fun w1 => ?_) (fun w1 he hdep => ?_) (fun v hv => ?_); rotate_left 2; (go_simp; refine ⟨?_, ?_⟩ <;> rfl); ( obtain ⟨_, q21, r21⟩ : (SPred.rows 2 [prodS p qs tkA rows k, vecL N (nthR rows k)]).holds (.slice (some ⟨g21, 0, none⟩) 2 2) w1 := hdep (5, 21) (by decide +kernel); cases q21; refine (c_timesN HN.out p a cap qs _ 2 _ [prodS p qs tkA rows k, vecL N (nthR rows k)] w1 hd hp1 hp2 (by omega) (HQ.out.ext (GX.out.trans he)) HQB.out r21 (good_two HPS.out HV.out)).mono ?_; rintro e w2 ⟨g, rfl, ho, g2⟩; exact ⟨_, rfl, g2, g, rfl, ho.mono (Nat.le_trans GX.out.size he.size)⟩); simp only [Act.put, List.setIfInBounds_toArray, List.set_cons_zero, List.set_cons_succ])
      obtain ⟨_, g22, rfl, _⟩ := hv
      (refine LexW.pure (v := ?_) rfl rfl (fun w1 he => ?_) ?_; rotate_left; ( have e1 := he.cell HT0.out; have e2 := he.cell HT1.out; have e3 := he.cell HCd.out; go_simp; rfl); simp only [Act.put, List.setIfInBounds_toArray, List.set_cons_zero, List.set_cons_succ])
      refine LexW.nil (fun w3 he hkn => ?_)
      obtain ⟨_, q22, r22⟩ : (SPred.ownG w.heap.size N (timesL p qs [prodS p qs tkA rows k, vecL N (nthR rows k)])).holds (.slice (some ⟨g22, 0, none⟩) N N) w3 := hkn (6, _) (by simp)
      cases q22
      have R22 := Lib.hid r22
      have HE := Lib.hid (GX.out.trans he)
      have X4 := Lib.hid (HExt.out.trans ((ext_drew _).trans he))
      clear he hkn r22
      go_wp2_with (fail)
      go_roundw
      case rel => exact ⟨k + 1, g22, by omega, by go_num, rfl, (by show OwnC _ _ _ _ _ (prodL p qs tkA _ _); rw [← HD.out, ← prod_two HD.out hp1 HPS.out]; exact R22.out), X4.out⟩
      case measure => simp [intOf]; omega
    · go_wp2_with (fail)
      go_ret
      obtain rfl : k = n := by omega
      exact ⟨_, rfl, HOwn.out, GW.out.trans HExt.out⟩

set_option maxHeartbeats 2000000 in
theorem s_versor {N d : Nat} (hN : N = 2 ^ d) (p : Int) (a : Option Addr) (cap : Nat) (qs : List Int) (al : Option Addr) (n cl : Nat) (rows : List (List Int)) (w : World) (hd : d ≤ 6) (hp1 : 3 ≤ p) (hp2 : p ≤ 1000) (hl : n ≤ 4194304) (hq : RdC w a d qs) (hqb : isB p qs = true) (hx : RdR w al n rows) (hg : RowsG p d rows) :
    Calls Try.prog 58 #[.agg #[.int .i64 p, .slice a d cap], .slice al n cl] w fun e w' => ∃ g, e = .returned (.slice (some ⟨g, 0, none⟩) N N) ∧ OwnC w.heap.size w' (some ⟨g, 0, none⟩) N N (prodS p qs tkA rows n) ∧ Ext w w' := by
  have HN := Lib.hid hN
  have HX := Lib.hid hx
  have HQ := Lib.hid hq
  have HQB := Lib.hid hqb
  have HG := Lib.hid hg
  have HD := Lib.hid (show N = 2 ^ qs.length by rw [hq.1]; exact hN)
  have HPA : Hid (∀ k, Good p N (prodS p qs tkA rows k)) := Lib.hid (fun k => by rw [HD.out]; exact prodS_good hp1 k)
  clear hN hx hq hqb hg
  obtain ⟨W, hW⟩ : ∃ W, W = w.alloc (.cells #[.int .i64 p, .slice a d cap] 30) := ⟨_, rfl⟩
  have gW : Ext w W := by rw [hW]; exact ext_alloc _ _
  have hs0 : W.cell? ⟨w.heap.size, 0, none⟩ = some (.int .i64 p) := by rw [hW]; simp
  have hs1 : W.cell? ⟨w.heap.size, 1, none⟩ = some (.slice a d cap) := by rw [hW]; simp
  have HS0 := Lib.hid (hs0)
  have HS1 := Lib.hid (hs1)
  have GW := Lib.hid (gW)
  have HW := Lib.hid hW
  clear hs0 hs1 gW hW
  go_enter Try.func58, Try.ntmps58
  go_wp2_with (fail)
  rw [← HW.out]
  refine (s_oneN HN.out p a cap W hd).mono ?_
  rintro e w1 ⟨g, rfl, ho, g1⟩
  have HO := Lib.hid (ho.mono GW.out.size)
  have G1 := Lib.hid g1
  clear ho g1
  go_wp2_with (fail)
  go_loopw [5, 6] (fun v i wr => ∃ (k g : Nat), k ≤ n ∧ i = .int .i64 k ∧ v = .slice (some ⟨g, 0, none⟩) N N ∧ OwnC w.heap.size wr (some ⟨g, 0, none⟩) N N (prodS p qs tkA rows k) ∧ Ext W wr) (fun _ i _ => n - (intOf i).toNat)
  case atStart => exact ⟨0, g, Nat.zero_le _, rfl, rfl, by show OwnC _ _ _ _ _ (bladeL (2 ^ qs.length) 0); rw [← HD.out]; exact HO.out, G1.out⟩
  case round =>
    obtain ⟨k, g', hk, rfl, rfl, hown, hext⟩ := hrel
    have HOwn := Lib.hid hown
    have HExt := Lib.hid hext
    clear hown hext
    by_cases hlt : k < n
    · obtain ⟨b, off, ai, ci, rfl, hc, hri⟩ := HX.out.2 k hlt
      rw [(HG.out k (by rw [HX.out.1]; exact hlt)).1] at hc hri
      have hc' := (GW.out.trans HExt.out).cell hc
      have HRi := Lib.hid hri
      have HV := Lib.hid (show Good p N (vecL N (nthR rows k)) from vec_good (by omega) (HG.out k (by rw [HX.out.1]; exact hlt)))
      have HPS := Lib.hid (HPA.out k)
      have HCd := Lib.hid ((ext_drew _).cell hc')
      clear hri hc
      go_wp2_with (fail)
      clear hc'
      have GX := Lib.hid (GW.out.trans (HExt.out.trans (ext_drew wr)))
      have HT0 := Lib.hid ((HExt.out.trans (ext_drew wr)).cell HS0.out)
      have HT1 := Lib.hid ((HExt.out.trans (ext_drew wr)).cell HS1.out)
      refine wp_region_lex [(7, .ownG w.heap.size N (vecL N (nthR rows k))), (8, .ownG w.heap.size N (prodL p qs tkA (prodS p qs tkA rows k) (vecL N (nthR rows k))))] (by kernel_rfl) (by kernel_rfl) ?_
      (refine LexW.pure (v := ?_) rfl rfl (fun w1 he => ?_) ?_; rotate_left; ( have e1 := he.cell HT0.out; have e2 := he.cell HT1.out; have e3 := he.cell HCd.out; go_simp; rfl); simp only [Act.put, List.setIfInBounds_toArray, List.set_cons_zero, List.set_cons_succ])
      (refine LexW.pure (v := ?_) rfl rfl (fun w1 he => ?_) ?_; rotate_left; ( have e1 := he.cell HT0.out; have e2 := he.cell HT1.out; have e3 := he.cell HCd.out; go_simp; rfl); simp only [Act.put, List.setIfInBounds_toArray, List.set_cons_zero, List.set_cons_succ])
      (refine LexW.pure (v := ?_) rfl rfl (fun w1 he => ?_) ?_; rotate_left; ( have e1 := he.cell HT0.out; have e2 := he.cell HT1.out; have e3 := he.cell HCd.out; go_simp; rfl); simp only [Act.put, List.setIfInBounds_toArray, List.set_cons_zero, List.set_cons_succ])
      (refine LexW.pure (v := ?_) rfl rfl (fun w1 he => ?_) ?_; rotate_left; ( have e1 := he.cell HT0.out; have e2 := he.cell HT1.out; have e3 := he.cell HCd.out; go_simp; rfl); simp only [Act.put, List.setIfInBounds_toArray, List.set_cons_zero, List.set_cons_succ])
      (refine LexW.pure (v := ?_) rfl rfl (fun w1 he => ?_) ?_; rotate_left; ( have e1 := he.cell HT0.out; have e2 := he.cell HT1.out; have e3 := he.cell HCd.out; go_simp; rfl); simp only [Act.put, List.setIfInBounds_toArray, List.set_cons_zero, List.set_cons_succ])
      (refine LexW.pure (v := ?_) rfl rfl (fun w1 he => ?_) ?_; rotate_left; ( have e1 := he.cell HT0.out; have e2 := he.cell HT1.out; have e3 := he.cell HCd.out; go_simp; rfl); simp only [Act.put, List.setIfInBounds_toArray, List.set_cons_zero, List.set_cons_succ])
      (refine LexW.pure (v := ?_) rfl rfl (fun w1 he => ?_) ?_; rotate_left; ( have e1 := he.cell HT0.out; have e2 := he.cell HT1.out; have e3 := he.cell HCd.out; go_simp; rfl); simp only [Act.put, List.setIfInBounds_toArray, List.set_cons_zero, List.set_cons_succ])
      (refine LexW.callR (f := ?_) (args := ?_) rfl rfl (fun w1 => ?_) (fun w1 he hdep => ?_) (fun v hv => ?_); rotate_left 2; (go_simp; refine ⟨?_, ?_⟩ <;> rfl); ( refine (s_vector HN.out p a cap ai ci (nthR rows k) w1 hd (HRi.out.ext (GX.out.trans he))).mono ?_; rintro e w2 ⟨g, rfl, ho, g2⟩; exact ⟨_, rfl, g2, g, rfl, ho.mono (Nat.le_trans GX.out.size he.size)⟩); simp only [Act.put, List.setIfInBounds_toArray, List.set_cons_zero, List.set_cons_succ])
      obtain ⟨_, g22, rfl, _⟩ := hv
      (refine LexW.callR (f := ?_) (args := ?_) rfl rfl (fun w1 => ?_) (fun w1 he hdep => ?_) (fun v hv => ?_); rotate_left 2; (go_simp; refine ⟨?_, ?_⟩ <;> rfl); ( obtain ⟨_, q22, r22⟩ : (SPred.ownG w.heap.size N (vecL N (nthR rows k))).holds (.slice (some ⟨g22, 0, none⟩) N N) w1 := hdep (7, 22) (by decide +kernel); cases q22; refine (s_timesN HN.out p a cap qs _ _ N N (prodS p qs tkA rows k) (vecL N (nthR rows k)) w1 hd hp1 hp2 (HQ.out.ext (GX.out.trans he)) HQB.out (HOwn.out.rd.ext ((ext_drew _).trans he)) r22.rd HPS.out.isB HV.out.isB).mono ?_; rintro e w2 ⟨g, rfl, ho, g2⟩; exact ⟨_, rfl, g2, g, rfl, ho.mono (Nat.le_trans GX.out.size he.size)⟩); simp only [Act.put, List.setIfInBounds_toArray, List.set_cons_zero, List.set_cons_succ])
      obtain ⟨_, g23, rfl, _⟩ := hv
      (refine LexW.pure (v := ?_) rfl rfl (fun w1 he => ?_) ?_; rotate_left; ( have e1 := he.cell HT0.out; have e2 := he.cell HT1.out; have e3 := he.cell HCd.out; go_simp; rfl); simp only [Act.put, List.setIfInBounds_toArray, List.set_cons_zero, List.set_cons_succ])
      refine LexW.nil (fun w3 he hkn => ?_)
      obtain ⟨_, q23, r23⟩ : (SPred.ownG w.heap.size N (prodL p qs tkA (prodS p qs tkA rows k) (vecL N (nthR rows k)))).holds (.slice (some ⟨g23, 0, none⟩) N N) w3 := hkn (8, _) (by simp)
      cases q23
      have R23 := Lib.hid r23
      have HE := Lib.hid (GX.out.trans he)
      have X4 := Lib.hid (HExt.out.trans ((ext_drew _).trans he))
      clear he hkn r23
      go_wp2_with (fail)
      go_roundw
      case rel => exact ⟨k + 1, g23, by omega, by go_num, rfl, (by show OwnC _ _ _ _ _ (prodL p qs tkA _ _); rw [← HD.out]; exact R23.out), X4.out⟩
      case measure => simp [intOf]; omega
    · go_wp2_with (fail)
      go_ret
      obtain rfl : k = n := by omega
      exact ⟨_, rfl, HOwn.out, GW.out.trans HExt.out⟩

end Go.Proofs.Ytnabpmafcflljaa

/-
  The codes of spaces and lists of vectors; the listed function WedgeOfVectors.
  No condition.
-/
namespace Go.Proofs.Ytnabpmafcflljaa
set_option maxRecDepth 100000
open Go.RowKit

theorem codeVR_space {p : Int} {qs : List Int} {rows : List (List Int)} (h : spaceB p qs = false) : codeVR p qs rows = 1 := by simp [codeVR, codeV, h]
theorem codeVR_of {p : Int} {qs : List Int} {rows : List (List Int)} (h : spaceB p qs = true) : codeVR p qs rows = if (rows.all (vecB p qs.length) && decide (rows.length ≤ 16)) = true then 0 else 2 := by
  unfold codeVR codeV
  cases ha : rows.all (vecB p qs.length)
  · simp [h]
  · by_cases hl : rows.length ≤ 16 <;> simp [h, hl]


set_option maxHeartbeats 400000 in
theorem s_isVector (p : Int) (a : Option Addr) (d cap : Nat) (ax : Option Addr) (n cx : Nat) (xs : List Int) (w : World) (hp1 : 1 ≤ p) (hp2 : p ≤ 1000) (hl : n ≤ 4194304) (hx : RdC w ax n xs) :
    Calls Try.prog 114 #[.agg #[.int .i64 p, .slice a d cap], .slice ax n cx] w fun e w' => e = .returned (.bool (vecB p d xs)) ∧ Ext w w' := by
  by_cases hc : n = d
  · have HF := Lib.hid (show vecB p d xs = isB p xs by simp [vecB, hx.1, hc])
    have hcb : ((n : Int) == (d : Int)) = true := by simp [hc]
    clear hc
    go_enter Try.func114, Try.ntmps114
    go_wp2_with (go_at_call 129; refine (s_numbers _ _ _ _ _ _ hp1 hp2 hl (hx.ext (ext_alloc _ _))).mono ?_; rintro e w3 ⟨rfl, h3⟩)
    go_ret
    exact ⟨ret_bool HF.out.symm, (ext_alloc _ _).trans h3⟩
  · have HF := Lib.hid (show vecB p d xs = false by simp [vecB, hx.1, hc])
    have hcb : ((n : Int) == (d : Int)) = false := by simp; omega
    go_enter Try.func114, Try.ntmps114
    go_wp2_with (fail)
    go_ret
    exact ⟨ret_bool HF.out.symm, ext_alloc _ _⟩

theorem allV_false {p : Int} {d n k : Nat} {rows : List (List Int)} (hn : rows.length = n) (hk : k < n) (h : vecB p d (nthR rows k) = false) : rows.all (vecB p d) = false := by
  rw [List.all_eq_false]
  subst hn
  exact ⟨rows[k], List.getElem_mem hk, by rw [nthR_eq hk] at h; simp [h]⟩
theorem allV_true {p : Int} {d n : Nat} {rows : List (List Int)} (hn : rows.length = n) (h : ∀ j, j < n → vecB p d (nthR rows j) = true) : rows.all (vecB p d) = true := by
  rw [List.all_eq_true]
  intro x hx
  obtain ⟨i, hi, rfl⟩ := List.getElem_of_mem hx
  have := h i (by omega)
  rwa [nthR_eq hi] at this



def wedgeL (p : Int) (qs : List Int) (rows : List (List Int)) (n : Nat) : List Int := prodS p qs tkW rows n
end Go.Proofs.Ytnabpmafcflljaa

/-
  Products and norms of vectors.
  No condition.
-/
namespace Go.Proofs.Ytnabpmafcflljaa
set_option maxRecDepth 100000
open Go.RowKit

/-- The sum of the first k products. -/
def dotS (x y : List Int) : Nat → Int
  | 0 => 0
  | k + 1 => dotS x y k + nth x k * nth y k
theorem dotS_bd {p : Int} {n : Nat} {x y : List Int} (hp : p ≤ 1000) (hx : Good p n x) (hy : Good p n y) : ∀ k, k ≤ n → 0 ≤ dotS x y k ∧ dotS x y k ≤ 1000000 * k
  | 0, _ => by simp [dotS]
  | k + 1, hk => by
    have ih := dotS_bd hp hx hy k (by omega)
    have h1 := hx.2 k (by omega)
    have h2 := hy.2 k (by omega)
    have h3 := mul_bd hp h1.1 h1.2 h2.1 h2.2
    simp only [dotS, Int.natCast_add]
    omega
def dotL (p : Int) (x y : List Int) (n : Nat) : Int := dotS x y n % p
def wtN (p : Int) (qs v : List Int) (i : Nat) : Int := (nth v i * nth qs i) % p
def wtL (p : Int) (qs v : List Int) (n : Nat) : List Int := (List.range n).map (wtN p qs v)
theorem wtL_succ (p : Int) (qs v : List Int) (n : Nat) : wtL p qs v (n + 1) = wtL p qs v n ++ [wtN p qs v n] := by simp [wtL, List.range_succ]
theorem wtL_nth {p : Int} {qs v : List Int} {n i : Nat} (h : i < n) : nth (wtL p qs v n) i = wtN p qs v i := by
  unfold wtL; rw [nth_map (by simpa using h)]; simp
theorem wt_good {p : Int} {qs v : List Int} {n : Nat} (hp : 1 ≤ p) : Good p n (wtL p qs v n) := ⟨by simp [wtL], fun i hi => by
  rw [wtL_nth hi]; exact ⟨Int.emod_nonneg _ (by omega), Int.emod_lt_of_pos _ (by omega)⟩⟩
/-- The product of two vectors. -/
def pairL (p : Int) (qs v w : List Int) (n : Nat) : Int := dotL p (wtL p qs v n) w n
theorem pairL_bd {p : Int} {qs v w : List Int} {n : Nat} (hp : 1 ≤ p) : 0 ≤ pairL p qs v w n ∧ pairL p qs v w n < p := ⟨Int.emod_nonneg _ (by omega), Int.emod_lt_of_pos _ (by omega)⟩
/-- As the reference sums it. -/
def pairS (p : Int) (qs v w : List Int) : Nat → Int
  | 0 => 0
  | k + 1 => (pairS p qs v w k + nth v k * nth w k % p * nth qs k) % p
theorem dotS_congr {p : Int} {x x' y : List Int} : ∀ k, (∀ i, i < k → nth x i % p = nth x' i % p) → dotS x y k % p = dotS x' y k % p
  | 0, _ => rfl
  | k + 1, h => by
    simp only [dotS]
    rw [Int.add_emod, dotS_congr k (fun i hi => h i (by omega)), Int.mul_emod, h k (by omega), ← Int.mul_emod, ← Int.add_emod]
theorem pairS_eq {p : Int} {qs v w : List Int} {n : Nat} : ∀ k, k ≤ n → pairS p qs v w k = dotS (wtL p qs v n) w k % p
  | 0, _ => by simp [pairS, dotS]
  | k + 1, hk => by
    simp only [pairS, dotS]
    rw [pairS_eq k (by omega) (n := n), wtL_nth (by omega), wtN, Int.emod_add_emod, Int.add_emod, Int.add_emod (dotS _ _ _)]
    congr 1
    congr 1
    rw [Int.mul_emod, Int.emod_emod, ← Int.mul_emod, Int.mul_emod (_ % p), Int.emod_emod, ← Int.mul_emod]
    congr 1
    ac_rfl
theorem pairS_bd {p : Int} {qs v w : List Int} (hp : 1 ≤ p) : ∀ k, 0 ≤ pairS p qs v w k ∧ pairS p qs v w k < p
  | 0 => by simp only [pairS]; omega
  | k + 1 => ⟨Int.emod_nonneg _ (by omega), Int.emod_lt_of_pos _ (by omega)⟩

set_option maxHeartbeats 1000000 in
theorem c_dot (p : Int) (ax ay : Option Addr) (n cx cy : Nat) (x y : List Int) (w : World) (hp1 : 1 ≤ p) (hp2 : p ≤ 1000) (hn : n ≤ 1048576) (hx : RdC w ax n x) (hy : RdC w ay n y) (hgx : Good p n x) (hgy : Good p n y) :
    Calls Try.prog 133 #[.int .i64 p, .slice ax n cx, .slice ay n cy] w fun e w' => e = .returned (.int .i64 (dotL p x y n)) ∧ Ext w w' := by
  have HX := Lib.hid hx
  have HY := Lib.hid hy
  have HB := Lib.hid (fun k (hk : k ≤ n) => dotS_bd hp2 hgx hgy k hk)
  have HGX := Lib.hid hgx
  have HGY := Lib.hid hgy
  clear hx hy hgx hgy
  go_enter Try.func133, Try.ntmps133
  go_wp2_with (fail)
  go_loop [7, 12] (fun s i => ∃ (j : Nat) (z : Int), j ≤ n ∧ i = .int .i64 j ∧ s = .int .i64 z ∧ Hid (z = dotS x y j)) (fun _ i => n - (intOf i).toNat)
  case atStart => exact ⟨0, 0, Nat.zero_le _, rfl, rfl, Lib.hid rfl⟩
  case round =>
    obtain ⟨j, z, hj, rfl, rfl, HZ⟩ := hrel
    by_cases hlt : j < n
    · obtain ⟨bx, ox, rfl, hcx⟩ := HX.out.2 j hlt
      obtain ⟨by', oy, rfl, hcy⟩ := HY.out.2 j hlt
      have hbx := HGX.out.2 j hlt
      have hby := HGY.out.2 j hlt
      have hm := mul_bd hp2 hbx.1 hbx.2 hby.1 hby.2
      have hz := HB.out j hj
      rw [← HZ.out] at hz
      have hw1 : IntKind.i64.wrap (nth x j * nth y j) = nth x j * nth y j := IntWalk.i64_in _ (by omega)
      have hw2 : IntKind.i64.wrap (z + nth x j * nth y j) = z + nth x j * nth y j := IntWalk.i64_in _ (by omega)
      have HS : Hid (z + nth x j * nth y j = dotS x y (j + 1)) := Lib.hid (by simp only [dotS]; rw [HZ.out])
      clear hm hz
      go_wp2_with (fail)
      go_round
      case rel => exact ⟨j + 1, _, by omega, by go_num, rfl, HS⟩
      case measure => simp [intOf]; omega
    · obtain rfl : j = n := by omega
      have HR := Lib.hid (show z % p = dotL p x y j by unfold dotL; rw [HZ.out])
      go_wp2_with (go_at_call 86; refine (c_num _ _ _ hp1 hp2).mono ?_; rintro e w2 ⟨rfl, g2⟩; rw [HR.out])
      go_ret
      exact ⟨rfl, g2⟩

set_option maxHeartbeats 1000000 in
theorem c_weighted (p : Int) (a : Option Addr) (d cap : Nat) (qs : List Int) (av : Option Addr) (cv : Nat) (v : List Int) (w : World) (hp1 : 3 ≤ p) (hp2 : p ≤ 1000) (hd : d ≤ 1048576) (hq : RdC w a d qs) (hqb : isB p qs = true) (hv : RdC w av d v) (hg : Good p d v) :
    Calls Try.prog 77 #[.agg #[.int .i64 p, .slice a d cap], .slice av d cv] w fun e w' => ∃ g rc, e = .returned (.slice (some ⟨g, 0, none⟩) d rc) ∧ OwnC w.heap.size w' (some ⟨g, 0, none⟩) d rc (wtL p qs v d) ∧ Ext w w' := by
  have HQ := Lib.hid hq
  have HV := Lib.hid hv
  have HG := Lib.hid hg
  have HGQ := Lib.hid (good_isB hq.1 hqb)
  clear hq hv hg hqb
  obtain ⟨W, hW⟩ : ∃ W, W = w.alloc (.cells #[.int .i64 p, .slice a d cap] 30) := ⟨_, rfl⟩
  have gW : Ext w W := by rw [hW]; exact ext_alloc _ _
  have hs0 : W.cell? ⟨w.heap.size, 0, none⟩ = some (.int .i64 p) := by rw [hW]; simp
  have hs1 : W.cell? ⟨w.heap.size, 1, none⟩ = some (.slice a d cap) := by rw [hW]; simp
  have HS0 := Lib.hid (hs0)
  have HS1 := Lib.hid (hs1)
  have GW := Lib.hid (gW)
  have HW := Lib.hid hW
  clear hs0 hs1 gW hW
  go_enter Try.func77, Try.ntmps77
  go_wp2_with (fail)
  rw [← HW.out]
  go_wp2_with (fail)
  go_loopw [5, 11] (fun s i wr => ∃ (j g rc : Nat), j ≤ d ∧ i = .int .i64 j ∧ s = .slice (some ⟨g, 0, none⟩) j rc ∧ OwnC W.heap.size wr (some ⟨g, 0, none⟩) j rc (wtL p qs v j) ∧ Ext W wr) (fun _ i _ => d - (intOf i).toNat)
  case atStart => exact ⟨0, _, _, Nat.zero_le _, rfl, rfl, by have h := own_empty W; have hz : w.heap.size + 1 = W.heap.size := by rw [HW.out]; simp
                                                              rw [hz]; exact h, ext_alloc _ _⟩
  case round =>
    obtain ⟨j, g, rc, hj, rfl, rfl, hown, hext⟩ := hrel
    have HOwn := Lib.hid hown
    have HExt := Lib.hid hext
    clear hown hext
    by_cases hlt : j < d
    · obtain ⟨bv, ov, rfl, hcv⟩ := HV.out.2 j hlt
      obtain ⟨bq, oq, rfl, hcq⟩ := HQ.out.2 j hlt
      have hcv' := (GW.out.trans HExt.out).cell hcv
      have HCq := Lib.hid ((GW.out.trans (HExt.out.trans (ext_drew _))).cell hcq)
      have HT0 := Lib.hid ((HExt.out.trans (ext_drew _)).cell HS0.out)
      have HT1 := Lib.hid ((HExt.out.trans (ext_drew _)).cell HS1.out)
      have hbv := HG.out.2 j hlt
      have hbq := HGQ.out.2 j hlt
      have hm := mul_bd hp2 hbv.1 hbv.2 hbq.1 hbq.2
      have HW1 : Hid (IntKind.i64.wrap (nth v j * nth qs j) = nth v j * nth qs j) := Lib.hid (IntWalk.i64_in _ (by omega))
      clear hcv hcq hm hbv hbq
      go_wp2_with (fail)
      clear hcv'
      refine wp_region_lex_tail 12 [(11, .one (wtN p qs v j)), (2, .val (.int .i64 p)), (10, .val (.int .i64 (wtN p qs v j)))] (by kernel_rfl) (by kernel_rfl) ?_
      simp only [List.take, List.drop]
      (refine LexW.pure (v := ?_) rfl rfl (fun w1 he => ?_) ?_; rotate_left; ( have e1 := he.cell HT0.out; have e2 := he.cell HT1.out; have e3 := he.cell HCq.out; have e4 := HW1.out; go_simp; rfl); simp only [Act.put, List.setIfInBounds_toArray, List.set_cons_zero, List.set_cons_succ])
      (refine LexW.pure (v := ?_) rfl rfl (fun w1 he => ?_) ?_; rotate_left; ( have e1 := he.cell HT0.out; have e2 := he.cell HT1.out; have e3 := he.cell HCq.out; have e4 := HW1.out; go_simp; rfl); simp only [Act.put, List.setIfInBounds_toArray, List.set_cons_zero, List.set_cons_succ])
      (refine LexW.call (f := ?_) (args := ?_) rfl rfl (fun w1 => ?_) (fun w1 he hdep => ?_) ?_; rotate_left 2; (go_simp; refine ⟨?_, ?_⟩ <;> rfl); ( exact c_field p _ w1); simp only [Act.put, List.setIfInBounds_toArray, List.set_cons_zero, List.set_cons_succ])
      (refine LexW.pure (v := ?_) rfl rfl (fun w1 he => ?_) ?_; rotate_left; ( have e1 := he.cell HT0.out; have e2 := he.cell HT1.out; have e3 := he.cell HCq.out; have e4 := HW1.out; go_simp; rfl); simp only [Act.put, List.setIfInBounds_toArray, List.set_cons_zero, List.set_cons_succ])
      (refine LexW.pure (v := ?_) rfl rfl (fun w1 he => ?_) ?_; rotate_left; ( have e1 := he.cell HT0.out; have e2 := he.cell HT1.out; have e3 := he.cell HCq.out; have e4 := HW1.out; go_simp; rfl); simp only [Act.put, List.setIfInBounds_toArray, List.set_cons_zero, List.set_cons_succ])
      (refine LexW.pure (v := ?_) rfl rfl (fun w1 he => ?_) ?_; rotate_left; ( have e1 := he.cell HT0.out; have e2 := he.cell HT1.out; have e3 := he.cell HCq.out; have e4 := HW1.out; go_simp; rfl); simp only [Act.put, List.setIfInBounds_toArray, List.set_cons_zero, List.set_cons_succ])
      (refine LexW.pure (v := ?_) rfl rfl (fun w1 he => ?_) ?_; rotate_left; ( have e1 := he.cell HT0.out; have e2 := he.cell HT1.out; have e3 := he.cell HCq.out; have e4 := HW1.out; go_simp; rfl); simp only [Act.put, List.setIfInBounds_toArray, List.set_cons_zero, List.set_cons_succ])
      (refine LexW.pure (v := ?_) rfl rfl (fun w1 he => ?_) ?_; rotate_left; ( have e1 := he.cell HT0.out; have e2 := he.cell HT1.out; have e3 := he.cell HCq.out; have e4 := HW1.out; go_simp; rfl); simp only [Act.put, List.setIfInBounds_toArray, List.set_cons_zero, List.set_cons_succ])
      (refine LexW.pure (v := ?_) rfl rfl (fun w1 he => ?_) ?_; rotate_left; ( have e1 := he.cell HT0.out; have e2 := he.cell HT1.out; have e3 := he.cell HCq.out; have e4 := HW1.out; go_simp; rfl); simp only [Act.put, List.setIfInBounds_toArray, List.set_cons_zero, List.set_cons_succ])
      (refine LexW.pure (v := ?_) rfl rfl (fun w1 he => ?_) ?_; rotate_left; ( have e1 := he.cell HT0.out; have e2 := he.cell HT1.out; have e3 := he.cell HCq.out; have e4 := HW1.out; go_simp; rfl); simp only [Act.put, List.setIfInBounds_toArray, List.set_cons_zero, List.set_cons_succ])
      (refine LexW.call (f := ?_) (args := ?_) rfl rfl (fun w1 => ?_) (fun w1 he hdep => ?_) ?_; rotate_left 2; (go_simp; refine ⟨?_, ?_⟩ <;> rfl); ( exact c_num p (nth v j * nth qs j) w1 (by omega) hp2); simp only [Act.put, List.setIfInBounds_toArray, List.set_cons_zero, List.set_cons_succ])
      (refine LexW.rel rfl rfl (fun w1 he hdep => ?_) (fun v hv => ?_); ( exact ⟨.slice (some ⟨w1.heap.size, 0, none⟩) 1 1, w1.alloc (.cells #[.int .i64 (wtN p qs v j)] 2), (by go_simp), ext_alloc _ _, _, rfl, (by simp)⟩); simp only [Act.put, List.setIfInBounds_toArray, List.set_cons_zero, List.set_cons_succ])
      obtain ⟨_, g27, rfl, _⟩ := hv
      refine LexW.nil (fun w3 he hkn => ?_)
      obtain ⟨_, q27, r27⟩ : (SPred.one (wtN p qs v j)).holds (.slice (some ⟨g27, 0, none⟩) 1 1) w3 := hkn (11, _) (by simp)
      cases q27
      have X3 := Lib.hid ((ext_drew wr).trans he)
      have R27 := Lib.hid r27
      clear he hkn r27
      go_wp2_with (at_builtin; refine wpList_push rfl (.tmp 16) (.tmp 27) rfl rfl rfl (v := wtN p qs v j) (HOwn.out.ext X3.out) R27.out (by omega) (HExt.out.trans X3.out).size ?hk)
      case hk =>
        intro g' cap' w4 ho4 hg4 he4
        have HO4 := Lib.hid ho4
        have HE4 := Lib.hid (he4 W (Nat.le_refl _) (HExt.out.trans X3.out))
        clear ho4 hg4 he4
        go_wp2_with (fail)
        go_roundw
        case rel => exact ⟨j + 1, g', cap', by omega, by go_num, rfl, by rw [wtL_succ]; exact HO4.out, HE4.out⟩
        case measure => simp [intOf]; omega
    · obtain rfl : j = d := by omega
      go_wp2_with (fail)
      go_ret
      exact ⟨g, rc, rfl, HOwn.out.mono GW.out.size, GW.out.trans HExt.out⟩

set_option maxHeartbeats 1000000 in
theorem c_pair (p : Int) (a : Option Addr) (d cap : Nat) (qs : List Int) (av : Option Addr) (cv : Nat) (v : List Int) (au : Option Addr) (cu : Nat) (u : List Int) (w : World) (hp1 : 3 ≤ p) (hp2 : p ≤ 1000) (hd : d ≤ 6) (hq : RdC w a d qs) (hqb : isB p qs = true) (hv : RdC w av d v) (hgv : Good p d v) (hu : RdC w au d u) (hgu : Good p d u) :
    Calls Try.prog 102 #[.agg #[.int .i64 p, .slice a d cap], .slice av d cv, .slice au d cu] w fun e w' => e = .returned (.int .i64 (pairL p qs v u d)) ∧ Ext w w' := by
  have HQ := Lib.hid hq
  have HQB := Lib.hid hqb
  have HV := Lib.hid hv
  have HGV := Lib.hid hgv
  have HU := Lib.hid hu
  have HGU := Lib.hid hgu
  clear hq hqb hv hgv hu hgu
  obtain ⟨W, hW⟩ : ∃ W, W = w.alloc (.cells #[.int .i64 p, .slice a d cap] 30) := ⟨_, rfl⟩
  have gW : Ext w W := by rw [hW]; exact ext_alloc _ _
  have hs0 : W.cell? ⟨w.heap.size, 0, none⟩ = some (.int .i64 p) := by rw [hW]; simp
  have hs1 : W.cell? ⟨w.heap.size, 1, none⟩ = some (.slice a d cap) := by rw [hW]; simp
  have HS0 := Lib.hid ((ext_drew _).cell hs0)
  have HS1 := Lib.hid ((ext_drew _).cell hs1)
  have GW := Lib.hid (gW.trans (ext_drew _))
  have HW := Lib.hid hW
  clear hs0 hs1 gW hW
  go_enter Try.func102, Try.ntmps102
  go_wp2_with (fail)
  rw [← HW.out]
  refine wp_region_lex [(1, .val (.int .i64 p)), (4, .ownS w.heap.size d (wtL p qs v d)), (6, .val (.int .i64 (pairL p qs v u d)))] (by kernel_rfl) (by kernel_rfl) ?_
  (refine LexW.pure (v := ?_) rfl rfl (fun w1 he => ?_) ?_; rotate_left; ( have e1 := he.cell HS0.out; have e2 := he.cell HS1.out; go_simp; rfl); simp only [Act.put, List.setIfInBounds_toArray, List.set_cons_zero, List.set_cons_succ])
  (refine LexW.call (f := ?_) (args := ?_) rfl rfl (fun w1 => ?_) (fun w1 he hdep => ?_) ?_; rotate_left 2; (go_simp; refine ⟨?_, ?_⟩ <;> rfl); ( exact c_field p _ w1); simp only [Act.put, List.setIfInBounds_toArray, List.set_cons_zero, List.set_cons_succ])
  (refine LexW.pure (v := ?_) rfl rfl (fun w1 he => ?_) ?_; rotate_left; ( have e1 := he.cell HS0.out; have e2 := he.cell HS1.out; go_simp; rfl); simp only [Act.put, List.setIfInBounds_toArray, List.set_cons_zero, List.set_cons_succ])
  (refine LexW.pure (v := ?_) rfl rfl (fun w1 he => ?_) ?_; rotate_left; ( have e1 := he.cell HS0.out; have e2 := he.cell HS1.out; go_simp; rfl); simp only [Act.put, List.setIfInBounds_toArray, List.set_cons_zero, List.set_cons_succ])
  (refine LexW.callR (f := ?_) (args := ?_) rfl rfl (fun w1 => ?_) (fun w1 he hdep => ?_) (fun v hv => ?_); rotate_left 2; (go_simp; refine ⟨?_, ?_⟩ <;> rfl); ( refine (c_weighted p a d cap qs av cv v w1 hp1 hp2 (by omega) (HQ.out.ext (GW.out.trans he)) HQB.out (HV.out.ext (GW.out.trans he)) HGV.out).mono ?_; rintro e w2 ⟨g, rc, rfl, ho, g2⟩; exact ⟨_, rfl, g2, g, rc, rfl, ho.mono (Nat.le_trans GW.out.size he.size)⟩); simp only [Act.put, List.setIfInBounds_toArray, List.set_cons_zero, List.set_cons_succ])
  obtain ⟨_, g11, c11, rfl, _⟩ := hv
  (refine LexW.pure (v := ?_) rfl rfl (fun w1 he => ?_) ?_; rotate_left; ( have e1 := he.cell HS0.out; have e2 := he.cell HS1.out; go_simp; rfl); simp only [Act.put, List.setIfInBounds_toArray, List.set_cons_zero, List.set_cons_succ])
  (refine LexW.call (f := ?_) (args := ?_) rfl rfl (fun w1 => ?_) (fun w1 he hdep => ?_) ?_; rotate_left 2; (go_simp; refine ⟨?_, ?_⟩ <;> rfl); ( obtain ⟨_, _, q11, r11⟩ : (SPred.ownS w.heap.size d (wtL p qs v d)).holds (.slice (some ⟨g11, 0, none⟩) d c11) w1 := hdep (4, 11) (by decide +kernel); cases q11; exact c_dot p _ au d _ cu (wtL p qs v d) u w1 (by omega) hp2 (by omega) r11.rd (HU.out.ext (GW.out.trans he)) (wt_good (by omega)) HGU.out); simp only [Act.put, List.setIfInBounds_toArray, List.set_cons_zero, List.set_cons_succ])
  (refine LexW.pure (v := ?_) rfl rfl (fun w1 he => ?_) ?_; rotate_left; ( have e1 := he.cell HS0.out; have e2 := he.cell HS1.out; go_simp; rfl); simp only [Act.put, List.setIfInBounds_toArray, List.set_cons_zero, List.set_cons_succ])
  refine LexW.nil (fun w3 he hkn => ?_)
  have HE := Lib.hid (GW.out.trans he)
  clear he hkn 
  go_wp2_with (fail)
  go_ret
  exact ⟨rfl, HE.out⟩
set_option maxHeartbeats 400000 in
theorem c_norm (p : Int) (a : Option Addr) (d cap : Nat) (qs : List Int) (av : Option Addr) (cv : Nat) (v : List Int) (w : World) (hp1 : 3 ≤ p) (hp2 : p ≤ 1000) (hd : d ≤ 6) (hq : RdC w a d qs) (hqb : isB p qs = true) (hv : RdC w av d v) (hgv : Good p d v) :
    Calls Try.prog 76 #[.agg #[.int .i64 p, .slice a d cap], .slice av d cv] w fun e w' => e = .returned (.int .i64 (pairL p qs v v d)) ∧ Ext w w' := by
  have HQ := Lib.hid hq
  have HQB := Lib.hid hqb
  have HV := Lib.hid hv
  have HGV := Lib.hid hgv
  clear hq hqb hv hgv
  go_enter Try.func76, Try.ntmps76
  go_wp2_with (go_at_call 102; refine (c_pair p a d cap qs av cv v av cv v _ hp1 hp2 hd (HQ.out.ext (ext_alloc _ _)) HQB.out (HV.out.ext (ext_alloc _ _)) HGV.out (HV.out.ext (ext_alloc _ _)) HGV.out).mono ?_; rintro e w1 ⟨rfl, g1⟩)
  go_ret
  exact ⟨rfl, (ext_alloc _ _).trans g1⟩

set_option maxHeartbeats 2000000 in
theorem s_pair (p : Int) (a : Option Addr) (d cap : Nat) (qs : List Int) (av : Option Addr) (cv : Nat) (v : List Int) (au : Option Addr) (cu : Nat) (u : List Int) (w : World) (hp1 : 3 ≤ p) (hp2 : p ≤ 1000) (hd : d ≤ 6) (hq : RdC w a d qs) (hqb : isB p qs = true) (hv : RdC w av d v) (hgv : Good p d v) (hu : RdC w au d u) (hgu : Good p d u) :
    Calls Try.prog 66 #[.agg #[.int .i64 p, .slice a d cap], .slice av d cv, .slice au d cu] w fun e w' => e = .returned (.int .i64 (pairL p qs v u d)) ∧ Ext w w' := by
  have hpz : ¬ p = 0 := by omega
  have HQ := Lib.hid hq
  have HGQ := Lib.hid (good_isB hq.1 hqb)
  have HV := Lib.hid hv
  have HGV := Lib.hid hgv
  have HU := Lib.hid hu
  have HGU := Lib.hid hgu
  have HEnd := Lib.hid (pairS_eq (p := p) (qs := qs) (v := v) (w := u) d (Nat.le_refl d))
  have HBd := Lib.hid (fun k => pairS_bd (p := p) (qs := qs) (v := v) (w := u) (show 1 ≤ p by omega) k)
  clear hq hqb hv hgv hu hgu
  obtain ⟨W, hW⟩ : ∃ W, W = w.alloc (.cells #[.int .i64 p, .slice a d cap] 30) := ⟨_, rfl⟩
  have gW : Ext w W := by rw [hW]; exact ext_alloc _ _
  have hs0 : W.cell? ⟨w.heap.size, 0, none⟩ = some (.int .i64 p) := by rw [hW]; simp
  have hs1 : W.cell? ⟨w.heap.size, 1, none⟩ = some (.slice a d cap) := by rw [hW]; simp
  have HS0 := Lib.hid (hs0)
  have HS1 := Lib.hid (hs1)
  have GW := Lib.hid (gW)
  have HW := Lib.hid hW
  clear hs0 hs1 gW hW
  go_enter Try.func66, Try.ntmps66
  go_wp2_with (fail)
  rw [← HW.out]
  go_loopw [7, 8] (fun s i wr => ∃ (j : Nat) (z : Int), j ≤ d ∧ i = .int .i64 j ∧ s = .int .i64 z ∧ Hid (z = pairS p qs v u j) ∧ Ext W wr) (fun _ i _ => d - (intOf i).toNat)
  case atStart => exact ⟨0, 0, Nat.zero_le _, rfl, rfl, Lib.hid rfl, Ext.refl _⟩
  case round =>
    obtain ⟨j, z, hj, rfl, rfl, HZ, hext⟩ := hrel
    have HExt := Lib.hid hext
    clear hext
    by_cases hlt : j < d
    · obtain ⟨bv, ov, rfl, hcv⟩ := HV.out.2 j hlt
      obtain ⟨bu, ou, rfl, hcu⟩ := HU.out.2 j hlt
      obtain ⟨bq, oq, rfl, hcq⟩ := HQ.out.2 j hlt
      have GX := Lib.hid (GW.out.trans (HExt.out.trans (ext_drew wr)))
      have HCv := Lib.hid (GX.out.cell hcv)
      have HCu := Lib.hid (GX.out.cell hcu)
      have HCq := Lib.hid (GX.out.cell hcq)
      have HT0 := Lib.hid ((HExt.out.trans (ext_drew _)).cell HS0.out)
      have HT1 := Lib.hid ((HExt.out.trans (ext_drew _)).cell HS1.out)
      have hbv := HGV.out.2 j hlt
      have hbu := HGU.out.2 j hlt
      have hbq := HGQ.out.2 j hlt
      have hz := HBd.out j
      rw [← HZ.out] at hz
      have hm := mul_bd hp2 hbv.1 hbv.2 hbu.1 hbu.2
      obtain ⟨m1, hm1⟩ : ∃ m1, m1 = nth v j * nth u j % p := ⟨_, rfl⟩
      have hm1b : 0 ≤ m1 ∧ m1 < p := by rw [hm1]; exact ⟨Int.emod_nonneg _ (by omega), Int.emod_lt_of_pos _ (by omega)⟩
      have hm2 := mul_bd hp2 hm1b.1 hm1b.2 hbq.1 hbq.2
      obtain ⟨m2, hm2e⟩ : ∃ m2, m2 = (z + m1 * nth qs j) % p := ⟨_, rfl⟩
      have HW1 : Hid (IntKind.i64.wrap (nth v j * nth u j) = nth v j * nth u j) := Lib.hid (IntWalk.i64_in _ (by omega))
      have HW2 : Hid ((nth v j * nth u j).tmod p = m1) := Lib.hid (by rw [hm1]; exact Int.tmod_eq_emod_of_nonneg hm.1)
      have HW3 : Hid (IntKind.i64.wrap (m1 * nth qs j) = m1 * nth qs j) := Lib.hid (IntWalk.i64_in _ (by omega))
      have HW4 : Hid (IntKind.i64.wrap (z + m1 * nth qs j) = z + m1 * nth qs j) := Lib.hid (IntWalk.i64_in _ (by omega))
      have HW5 : Hid ((z + m1 * nth qs j).tmod p = m2) := Lib.hid (by rw [hm2e]; exact Int.tmod_eq_emod_of_nonneg (by omega))
      have HR : Hid (m2 = pairS p qs v u (j + 1)) := Lib.hid (by rw [hm2e, hm1, HZ.out]; rfl)
      clear hm hm1 hm1b hm2 hm2e hz hcv hcu hcq hbv hbu hbq
      go_wp2_with (fail)
      refine wp_region_lex [] (by kernel_rfl) (by kernel_rfl) ?_
      (refine LexW.pure (v := ?_) rfl rfl (fun w1 he => ?_) ?_; rotate_left; ( have e1 := he.cell HT0.out; have e2 := he.cell HT1.out; have e3 := he.cell HCv.out; have e4 := he.cell HCu.out; have e5 := he.cell HCq.out; have e6 := HW1.out; have e7 := HW2.out; have e8 := HW3.out; have e9 := HW4.out; have e10 := HW5.out; go_simp; rfl); simp only [Act.put, List.setIfInBounds_toArray, List.set_cons_zero, List.set_cons_succ])
      (refine LexW.pure (v := ?_) rfl rfl (fun w1 he => ?_) ?_; rotate_left; ( have e1 := he.cell HT0.out; have e2 := he.cell HT1.out; have e3 := he.cell HCv.out; have e4 := he.cell HCu.out; have e5 := he.cell HCq.out; have e6 := HW1.out; have e7 := HW2.out; have e8 := HW3.out; have e9 := HW4.out; have e10 := HW5.out; go_simp; rfl); simp only [Act.put, List.setIfInBounds_toArray, List.set_cons_zero, List.set_cons_succ])
      (refine LexW.pure (v := ?_) rfl rfl (fun w1 he => ?_) ?_; rotate_left; ( have e1 := he.cell HT0.out; have e2 := he.cell HT1.out; have e3 := he.cell HCv.out; have e4 := he.cell HCu.out; have e5 := he.cell HCq.out; have e6 := HW1.out; have e7 := HW2.out; have e8 := HW3.out; have e9 := HW4.out; have e10 := HW5.out; go_simp; rfl); simp only [Act.put, List.setIfInBounds_toArray, List.set_cons_zero, List.set_cons_succ])
      (refine LexW.pure (v := ?_) rfl rfl (fun w1 he => ?_) ?_; rotate_left; ( have e1 := he.cell HT0.out; have e2 := he.cell HT1.out; have e3 := he.cell HCv.out; have e4 := he.cell HCu.out; have e5 := he.cell HCq.out; have e6 := HW1.out; have e7 := HW2.out; have e8 := HW3.out; have e9 := HW4.out; have e10 := HW5.out; go_simp; rfl); simp only [Act.put, List.setIfInBounds_toArray, List.set_cons_zero, List.set_cons_succ])
      (refine LexW.pure (v := ?_) rfl rfl (fun w1 he => ?_) ?_; rotate_left; ( have e1 := he.cell HT0.out; have e2 := he.cell HT1.out; have e3 := he.cell HCv.out; have e4 := he.cell HCu.out; have e5 := he.cell HCq.out; have e6 := HW1.out; have e7 := HW2.out; have e8 := HW3.out; have e9 := HW4.out; have e10 := HW5.out; go_simp; rfl); simp only [Act.put, List.setIfInBounds_toArray, List.set_cons_zero, List.set_cons_succ])
      (refine LexW.pure (v := ?_) rfl rfl (fun w1 he => ?_) ?_; rotate_left; ( have e1 := he.cell HT0.out; have e2 := he.cell HT1.out; have e3 := he.cell HCv.out; have e4 := he.cell HCu.out; have e5 := he.cell HCq.out; have e6 := HW1.out; have e7 := HW2.out; have e8 := HW3.out; have e9 := HW4.out; have e10 := HW5.out; go_simp; rfl); simp only [Act.put, List.setIfInBounds_toArray, List.set_cons_zero, List.set_cons_succ])
      (refine LexW.pure (v := ?_) rfl rfl (fun w1 he => ?_) ?_; rotate_left; ( have e1 := he.cell HT0.out; have e2 := he.cell HT1.out; have e3 := he.cell HCv.out; have e4 := he.cell HCu.out; have e5 := he.cell HCq.out; have e6 := HW1.out; have e7 := HW2.out; have e8 := HW3.out; have e9 := HW4.out; have e10 := HW5.out; go_simp; rfl); simp only [Act.put, List.setIfInBounds_toArray, List.set_cons_zero, List.set_cons_succ])
      (refine LexW.pure (v := ?_) rfl rfl (fun w1 he => ?_) ?_; rotate_left; ( have e1 := he.cell HT0.out; have e2 := he.cell HT1.out; have e3 := he.cell HCv.out; have e4 := he.cell HCu.out; have e5 := he.cell HCq.out; have e6 := HW1.out; have e7 := HW2.out; have e8 := HW3.out; have e9 := HW4.out; have e10 := HW5.out; go_simp; rfl); simp only [Act.put, List.setIfInBounds_toArray, List.set_cons_zero, List.set_cons_succ])
      (refine LexW.pure (v := ?_) rfl rfl (fun w1 he => ?_) ?_; rotate_left; ( have e1 := he.cell HT0.out; have e2 := he.cell HT1.out; have e3 := he.cell HCv.out; have e4 := he.cell HCu.out; have e5 := he.cell HCq.out; have e6 := HW1.out; have e7 := HW2.out; have e8 := HW3.out; have e9 := HW4.out; have e10 := HW5.out; go_simp; rfl); simp only [Act.put, List.setIfInBounds_toArray, List.set_cons_zero, List.set_cons_succ])
      (refine LexW.pure (v := ?_) rfl rfl (fun w1 he => ?_) ?_; rotate_left; ( have e1 := he.cell HT0.out; have e2 := he.cell HT1.out; have e3 := he.cell HCv.out; have e4 := he.cell HCu.out; have e5 := he.cell HCq.out; have e6 := HW1.out; have e7 := HW2.out; have e8 := HW3.out; have e9 := HW4.out; have e10 := HW5.out; go_simp; rfl); simp only [Act.put, List.setIfInBounds_toArray, List.set_cons_zero, List.set_cons_succ])
      (refine LexW.pure (v := ?_) rfl rfl (fun w1 he => ?_) ?_; rotate_left; ( have e1 := he.cell HT0.out; have e2 := he.cell HT1.out; have e3 := he.cell HCv.out; have e4 := he.cell HCu.out; have e5 := he.cell HCq.out; have e6 := HW1.out; have e7 := HW2.out; have e8 := HW3.out; have e9 := HW4.out; have e10 := HW5.out; go_simp; rfl); simp only [Act.put, List.setIfInBounds_toArray, List.set_cons_zero, List.set_cons_succ])
      (refine LexW.pure (v := ?_) rfl rfl (fun w1 he => ?_) ?_; rotate_left; ( have e1 := he.cell HT0.out; have e2 := he.cell HT1.out; have e3 := he.cell HCv.out; have e4 := he.cell HCu.out; have e5 := he.cell HCq.out; have e6 := HW1.out; have e7 := HW2.out; have e8 := HW3.out; have e9 := HW4.out; have e10 := HW5.out; go_simp; rfl); simp only [Act.put, List.setIfInBounds_toArray, List.set_cons_zero, List.set_cons_succ])
      (refine LexW.pure (v := ?_) rfl rfl (fun w1 he => ?_) ?_; rotate_left; ( have e1 := he.cell HT0.out; have e2 := he.cell HT1.out; have e3 := he.cell HCv.out; have e4 := he.cell HCu.out; have e5 := he.cell HCq.out; have e6 := HW1.out; have e7 := HW2.out; have e8 := HW3.out; have e9 := HW4.out; have e10 := HW5.out; go_simp; rfl); simp only [Act.put, List.setIfInBounds_toArray, List.set_cons_zero, List.set_cons_succ])
      (refine LexW.pure (v := ?_) rfl rfl (fun w1 he => ?_) ?_; rotate_left; ( have e1 := he.cell HT0.out; have e2 := he.cell HT1.out; have e3 := he.cell HCv.out; have e4 := he.cell HCu.out; have e5 := he.cell HCq.out; have e6 := HW1.out; have e7 := HW2.out; have e8 := HW3.out; have e9 := HW4.out; have e10 := HW5.out; go_simp; rfl); simp only [Act.put, List.setIfInBounds_toArray, List.set_cons_zero, List.set_cons_succ])
      (refine LexW.pure (v := ?_) rfl rfl (fun w1 he => ?_) ?_; rotate_left; ( have e1 := he.cell HT0.out; have e2 := he.cell HT1.out; have e3 := he.cell HCv.out; have e4 := he.cell HCu.out; have e5 := he.cell HCq.out; have e6 := HW1.out; have e7 := HW2.out; have e8 := HW3.out; have e9 := HW4.out; have e10 := HW5.out; go_simp; rfl); simp only [Act.put, List.setIfInBounds_toArray, List.set_cons_zero, List.set_cons_succ])
      (refine LexW.pure (v := ?_) rfl rfl (fun w1 he => ?_) ?_; rotate_left; ( have e1 := he.cell HT0.out; have e2 := he.cell HT1.out; have e3 := he.cell HCv.out; have e4 := he.cell HCu.out; have e5 := he.cell HCq.out; have e6 := HW1.out; have e7 := HW2.out; have e8 := HW3.out; have e9 := HW4.out; have e10 := HW5.out; go_simp; rfl); simp only [Act.put, List.setIfInBounds_toArray, List.set_cons_zero, List.set_cons_succ])
      (refine LexW.pure (v := ?_) rfl rfl (fun w1 he => ?_) ?_; rotate_left; ( have e1 := he.cell HT0.out; have e2 := he.cell HT1.out; have e3 := he.cell HCv.out; have e4 := he.cell HCu.out; have e5 := he.cell HCq.out; have e6 := HW1.out; have e7 := HW2.out; have e8 := HW3.out; have e9 := HW4.out; have e10 := HW5.out; go_simp; rfl); simp only [Act.put, List.setIfInBounds_toArray, List.set_cons_zero, List.set_cons_succ])
      (refine LexW.pure (v := ?_) rfl rfl (fun w1 he => ?_) ?_; rotate_left; ( have e1 := he.cell HT0.out; have e2 := he.cell HT1.out; have e3 := he.cell HCv.out; have e4 := he.cell HCu.out; have e5 := he.cell HCq.out; have e6 := HW1.out; have e7 := HW2.out; have e8 := HW3.out; have e9 := HW4.out; have e10 := HW5.out; go_simp; rfl); simp only [Act.put, List.setIfInBounds_toArray, List.set_cons_zero, List.set_cons_succ])
      (refine LexW.pure (v := ?_) rfl rfl (fun w1 he => ?_) ?_; rotate_left; ( have e1 := he.cell HT0.out; have e2 := he.cell HT1.out; have e3 := he.cell HCv.out; have e4 := he.cell HCu.out; have e5 := he.cell HCq.out; have e6 := HW1.out; have e7 := HW2.out; have e8 := HW3.out; have e9 := HW4.out; have e10 := HW5.out; go_simp; rfl); simp only [Act.put, List.setIfInBounds_toArray, List.set_cons_zero, List.set_cons_succ])
      (refine LexW.pure (v := ?_) rfl rfl (fun w1 he => ?_) ?_; rotate_left; ( have e1 := he.cell HT0.out; have e2 := he.cell HT1.out; have e3 := he.cell HCv.out; have e4 := he.cell HCu.out; have e5 := he.cell HCq.out; have e6 := HW1.out; have e7 := HW2.out; have e8 := HW3.out; have e9 := HW4.out; have e10 := HW5.out; go_simp; rfl); simp only [Act.put, List.setIfInBounds_toArray, List.set_cons_zero, List.set_cons_succ])
      (refine LexW.pure (v := ?_) rfl rfl (fun w1 he => ?_) ?_; rotate_left; ( have e1 := he.cell HT0.out; have e2 := he.cell HT1.out; have e3 := he.cell HCv.out; have e4 := he.cell HCu.out; have e5 := he.cell HCq.out; have e6 := HW1.out; have e7 := HW2.out; have e8 := HW3.out; have e9 := HW4.out; have e10 := HW5.out; go_simp; rfl); simp only [Act.put, List.setIfInBounds_toArray, List.set_cons_zero, List.set_cons_succ])
      (refine LexW.pure (v := ?_) rfl rfl (fun w1 he => ?_) ?_; rotate_left; ( have e1 := he.cell HT0.out; have e2 := he.cell HT1.out; have e3 := he.cell HCv.out; have e4 := he.cell HCu.out; have e5 := he.cell HCq.out; have e6 := HW1.out; have e7 := HW2.out; have e8 := HW3.out; have e9 := HW4.out; have e10 := HW5.out; go_simp; rfl); simp only [Act.put, List.setIfInBounds_toArray, List.set_cons_zero, List.set_cons_succ])
      (refine LexW.pure (v := ?_) rfl rfl (fun w1 he => ?_) ?_; rotate_left; ( have e1 := he.cell HT0.out; have e2 := he.cell HT1.out; have e3 := he.cell HCv.out; have e4 := he.cell HCu.out; have e5 := he.cell HCq.out; have e6 := HW1.out; have e7 := HW2.out; have e8 := HW3.out; have e9 := HW4.out; have e10 := HW5.out; go_simp; rfl); simp only [Act.put, List.setIfInBounds_toArray, List.set_cons_zero, List.set_cons_succ])
      (refine LexW.pure (v := ?_) rfl rfl (fun w1 he => ?_) ?_; rotate_left; ( have e1 := he.cell HT0.out; have e2 := he.cell HT1.out; have e3 := he.cell HCv.out; have e4 := he.cell HCu.out; have e5 := he.cell HCq.out; have e6 := HW1.out; have e7 := HW2.out; have e8 := HW3.out; have e9 := HW4.out; have e10 := HW5.out; go_simp; rfl); simp only [Act.put, List.setIfInBounds_toArray, List.set_cons_zero, List.set_cons_succ])
      refine LexW.nil (fun w3 he hkn => ?_)
      have X3 := Lib.hid (HExt.out.trans ((ext_drew wr).trans he))
      clear he hkn
      go_wp2_with (fail)
      go_roundw
      case rel => exact ⟨j + 1, m2, by omega, by go_num, rfl, HR, X3.out⟩
      case measure => simp [intOf]; omega
    · obtain rfl : j = d := by omega
      go_wp2_with (fail)
      go_ret
      exact ⟨ret_int (by rw [HZ.out, HEnd.out]; rfl), GW.out.trans HExt.out⟩

end Go.Proofs.Ytnabpmafcflljaa
