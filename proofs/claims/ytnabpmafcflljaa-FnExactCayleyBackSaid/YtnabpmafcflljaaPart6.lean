/-
  Contracts and plain laws, part 6: IsoP, Concat, InvC, Float, AppR, SumM.
  No condition.
-/
import Derived.Test.YtnabpmafcflljaaPart3
import Derived.Test.YtnabpmafcflljaaPart5
import Derived.Test.YtnabpmafcflljaaPart0
import Derived.Lib.AppendZeros
import Derived.Test.YtnabpmafcflljaaPart2
import Derived.Test.YtnabpmafcflljaaPart4
import Derived.Maps.AppendAt
/-
  Isometries of a space and inverses of matrices, in plain numbers.
  No condition. No program in sight.
-/
namespace Go.Proofs.Ytnabpmafcflljaa
set_option maxRecDepth 100000
open Go.RowKit

theorem pairL_comm {p : Int} {qs v u : List Int} {n : Nat} : pairL p qs v u n = pairL p qs u v n := by
  unfold pairL dotL
  have h : ∀ k, k ≤ n → dotS (wtL p qs v n) u k % p = dotS (wtL p qs u n) v k % p := by
    intro k
    induction k with
    | zero => intro _; rfl
    | succ k ih =>
      intro hk
      simp only [dotS]
      rw [Int.add_emod, ih (by omega), wtL_nth (by omega), wtL_nth (by omega)]
      conv => rhs; rw [Int.add_emod]
      congr 2
      unfold wtN
      rw [Int.mul_emod, Int.emod_emod, ← Int.mul_emod]
      conv => rhs; rw [Int.mul_emod, Int.emod_emod, ← Int.mul_emod]
      congr 1
      rw [Int.mul_assoc, Int.mul_comm (nth v k), Int.mul_assoc, Int.mul_comm (nth u k), Int.mul_comm (nth u k), Int.mul_assoc, Int.mul_comm (nth v k), ← Int.mul_assoc]
  exact h n (Nat.le_refl _)

/-- The product that two columns must have. -/
def wantN (qs : List Int) (i k : Nat) : Int := if i = k then nth qs i else 0
def isoAt (p : Int) (qs : List Int) (cols : List (List Int)) (d i k : Nat) : Prop := pairL p qs (nthR cols i) (nthR cols k) d = wantN qs i k
instance (p : Int) (qs : List Int) (cols : List (List Int)) (d i k : Nat) : Decidable (isoAt p qs cols d i k) := inferInstanceAs (Decidable (_ = _))
def isoB (p : Int) (qs : List Int) (rows : List (List Int)) (d : Nat) : Bool :=
  matB p rows && decide (rows.length = d) && decide ((nthR rows 0).length = d) && decide (detL p d rows ≠ 0) && decide (∀ i, i < d → ∀ k, k < d → isoAt p qs (turnL rows d d) d i k)
theorem isoAt_comm {p : Int} {qs : List Int} {cols : List (List Int)} {d i k : Nat} : isoAt p qs cols d i k ↔ isoAt p qs cols d k i := by
  unfold isoAt wantN
  rw [pairL_comm]
  by_cases h : i = k
  · subst h; exact Iff.rfl
  · rw [if_neg h, if_neg (Ne.symm h)]
theorem isoB_yes {p : Int} {qs : List Int} {rows : List (List Int)} {d : Nat} (hm : matB p rows = true) (hn : rows.length = d) (h0 : (nthR rows 0).length = d) (hd : detL p d rows ≠ 0) (h : ∀ i, i < d → ∀ k, k < d → isoAt p qs (turnL rows d d) d i k) : isoB p qs rows d = true := by
  unfold isoB
  rw [hm, decide_eq_true hn, decide_eq_true h0, decide_eq_true hd, decide_eq_true h]; rfl
theorem isoB_yes2 {p : Int} {qs : List Int} {rows : List (List Int)} {d : Nat} (hm : matB p rows = true) (hn : rows.length = d) (h0 : (nthR rows 0).length = d) (hd : detL p d rows ≠ 0) (h : ∀ i, i < d → ∀ k, k < i + 1 → isoAt p qs (turnL rows d d) d i k) : isoB p qs rows d = true := by
  refine isoB_yes hm hn h0 hd fun i hi k hk => ?_
  by_cases hki : k < i + 1
  · exact h i hi k hki
  · exact isoAt_comm.1 (h k hk i (by omega))
theorem isoB_mat {p : Int} {qs : List Int} {rows : List (List Int)} {d : Nat} (h : matB p rows = false) : isoB p qs rows d = false := by unfold isoB; rw [h]; rfl
theorem isoB_len {p : Int} {qs : List Int} {rows : List (List Int)} {d : Nat} (h : rows.length ≠ d) : isoB p qs rows d = false := by unfold isoB; rw [decide_eq_false h]; simp
theorem isoB_wid {p : Int} {qs : List Int} {rows : List (List Int)} {d : Nat} (h : (nthR rows 0).length ≠ d) : isoB p qs rows d = false := by unfold isoB; rw [decide_eq_false h]; simp
theorem isoB_det {p : Int} {qs : List Int} {rows : List (List Int)} {d : Nat} (h : detL p d rows = 0) : isoB p qs rows d = false := by unfold isoB; rw [decide_eq_false (p := detL p d rows ≠ 0) (by simp [h])]; simp
theorem isoB_at {p : Int} {qs : List Int} {rows : List (List Int)} {d i k : Nat} (hi : i < d) (hk : k < d) (h : ¬ isoAt p qs (turnL rows d d) d i k) : isoB p qs rows d = false := by
  unfold isoB; rw [decide_eq_false (p := ∀ i, i < d → ∀ k, k < d → isoAt p qs (turnL rows d d) d i k) (fun ha => h (ha i hi k hk))]; simp
theorem isoB_of {p : Int} {qs : List Int} {rows : List (List Int)} {d : Nat} (h : isoB p qs rows d = true) : matB p rows = true ∧ rows.length = d ∧ (nthR rows 0).length = d ∧ detL p d rows ≠ 0 ∧ ∀ i, i < d → ∀ k, k < d → isoAt p qs (turnL rows d d) d i k := by
  unfold isoB at h
  simp only [Bool.and_eq_true, decide_eq_true_eq] at h
  obtain ⟨⟨⟨⟨h1, h2⟩, h3⟩, h4⟩, h5⟩ := h
  exact ⟨h1, h2, h3, h4, h5⟩
/-- A matrix all of whose rows have the length of the first one. -/
theorem mat_good {p : Int} {rows : List (List Int)} {d : Nat} (h : matB p rows = true) (h0 : (nthR rows 0).length = d) : RowsG p d rows := by
  obtain ⟨h1, _, m, _, _, hg⟩ := matB_of h
  have : d = m := by rw [← h0]; exact (hg 0 h1).1
  subst this
  exact hg
theorem frame_good {p : Int} {rows : List (List Int)} {d : Nat} (hm : matB p rows = true) (_hn : rows.length = d) (h0 : (nthR rows 0).length = d) : ∀ i, i < d → (nthR rows i).length = d := fun i hi => (mat_good hm h0 i (by omega)).1

/-! ### Inverses -/
def wideM (A : List (List Int)) (n k : Nat) : List (List Int) := (List.range k).map fun i => nthR A i ++ bladeL n i
theorem wideM_succ (A : List (List Int)) (n k : Nat) : wideM A n (k + 1) = wideM A n k ++ [nthR A k ++ bladeL n k] := by simp [wideM, List.range_succ]
theorem wideM_len (A : List (List Int)) (n k : Nat) : (wideM A n k).length = k := by simp [wideM]
theorem wideM_nth {A : List (List Int)} {n k i : Nat} (h : i < k) : nthR (wideM A n k) i = nthR A i ++ bladeL n i := by
  unfold wideM; rw [nthR_map (by simpa using h)]; simp
theorem good_append {p : Int} {n m : Nat} {x y : List Int} (hx : Good p n x) (hy : Good p m y) : Good p (n + m) (x ++ y) := by
  refine ⟨by rw [List.length_append, hx.1, hy.1], fun i hi => ?_⟩
  by_cases h : i < n
  · rw [nth_append_left (by rw [hx.1]; exact h)]; exact hx.2 i h
  · have : nth (x ++ y) i = nth y (i - n) := by
      unfold nth
      rw [List.getD_eq_getElem?_getD, List.getD_eq_getElem?_getD, List.getElem?_append_right (by rw [hx.1]; omega), hx.1]
    rw [this]; exact hy.2 _ (by omega)
theorem wideM_good {p : Int} {A : List (List Int)} {n : Nat} (hp : 3 ≤ p) (hg : RowsG p n A) (hn : A.length = n) : RowsG p (n + n) (wideM A n n) := fun i hi => by
  rw [wideM_len] at hi
  rw [wideM_nth hi]
  exact good_append (hg i (by omega)) (blade_good hp)
theorem clr_cut {p : Int} {n m k d : Nat} {U V : List (List Int)} (hnm : n ≤ m) (hk : k < n) (hl : U.length = V.length) (h : ∀ j t, t < n → nth (nthR U j) t = nth (nthR V j) t) : ∀ j t, t < n → nth (nthR (clrS p k m d U U.length) j) t = nth (nthR (clrS p k n d V V.length) j) t := by
  intro j t ht
  rw [clrS_nth _ (Nat.le_refl _), clrS_nth _ (Nat.le_refl _), hl]
  split
  · rw [plusL_nth (by omega), plusL_nth ht, plusN, plusN, h j t ht, h d t ht, h j k hk]
  · exact h j t ht
theorem up_cut {p : Int} {n m k d i : Nat} {R S : List (List Int)} (hnm : n ≤ m) (hk : k < n) (hl : R.length = S.length) (hd : d < R.length) (hi : i < R.length) (h : ∀ j t, t < n → nth (nthR R j) t = nth (nthR S j) t) : ∀ j t, t < n → nth (nthR (upG p m R d k i) j) t = nth (nthR (upG p n S d k i) j) t := by
  intro j t ht
  rw [upG_nth hd hi, upG_nth (by omega) (by omega)]
  split
  · rw [scaleL_nth (by omega), scaleL_nth ht, scaleN, scaleN, h i t ht, h i k hk]
  · split
    · exact h d t ht
    · exact h j t ht
theorem piv_cut {n k d : Nat} {R S : List (List Int)} (hk : k < n) (hl : R.length = S.length) (hd : d ≤ R.length) (h : ∀ j t, t < n → nth (nthR R j) t = nth (nthR S j) t) : pivG R k d = pivG S k d := by
  obtain ⟨h1, h2, h3, h4⟩ := pivG_spec S k d (by omega)
  refine pivG_eq h1 (by omega) (fun j hj hj2 => by rw [h j k hk]; exact h3 j hj hj2) ?_
  rcases h4 with h4 | h4
  · exact .inl (by omega)
  · exact .inr (by rw [h _ k hk]; exact h4)
/-- Elimination with wide rows does at the first places what elimination with these places alone does. -/
theorem gauss_cut {p : Int} {n m : Nat} {A W : List (List Int)} (hp : primeB p = true) (hgA : RowsG p n A) (hgW : RowsG p m W) (hnm : n ≤ m) (hl : W.length = A.length) (h : ∀ j t, t < n → nth (nthR W j) t = nth (nthR A j) t) :
    ∀ k, k ≤ n → (gaussS p m W k).2 = (gaussS p n A k).2 ∧ ∀ j t, t < n → nth (nthR (gaussS p m W k).1 j) t = nth (nthR (gaussS p n A k).1 j) t
  | 0, _ => ⟨rfl, h⟩
  | k + 1, hk => by
    obtain ⟨e1, e2⟩ := gauss_cut hp hgA hgW hnm hl h k (by omega)
    obtain ⟨_, cW, rW⟩ := gaussS_red hp hgW k (by omega)
    have lW := gaussS_len (p := p) (m := m) (rows := W) k
    have lA := gaussS_len (p := p) (m := n) (rows := A) k
    have hd := rW.dle
    have hpv := piv_cut (n := n) (k := k) (d := (gaussS p m W k).2) (by omega) (show (gaussS p m W k).1.length = (gaussS p n A k).1.length by omega) hd e2
    show (stepG p m (gaussS p m W k) k).2 = (stepG p n (gaussS p n A k) k).2 ∧ ∀ j t, t < n → nth (nthR (stepG p m (gaussS p m W k) k).1 j) t = nth (nthR (stepG p n (gaussS p n A k) k).1 j) t
    obtain ⟨p1, p2, _, _⟩ := pivG_spec (gaussS p m W k).1 k _ hd
    by_cases hno : pivG (gaussS p m W k).1 k (gaussS p m W k).2 = (gaussS p m W k).1.length
    · rw [stepG_no hno, stepG_no (by rw [← e1, ← hpv, hno]; omega)]
      exact ⟨e1, e2⟩
    · have hi : pivG (gaussS p m W k).1 k (gaussS p m W k).2 < (gaussS p m W k).1.length := by omega
      rw [stepG_yes rfl hi, stepG_yes (s := gaussS p n A k) (k := k) (i := pivG (gaussS p m W k).1 k (gaussS p m W k).2) (by rw [← e1]; exact hpv.symm) (by omega)]
      refine ⟨by show _ + 1 = _ + 1; rw [e1], ?_⟩
      have hu := up_cut (p := p) (n := n) (m := m) (k := k) (d := (gaussS p m W k).2) (i := pivG (gaussS p m W k).1 k (gaussS p m W k).2) hnm (by omega) (show (gaussS p m W k).1.length = (gaussS p n A k).1.length by omega) (by omega) hi e2
      have h9 := clr_cut (p := p) (n := n) (m := m) (k := k) (d := (gaussS p m W k).2) hnm (by omega) (by rw [upG_len, upG_len]; omega) hu
      intro j t ht
      have h8 := h9 j t ht
      rw [upG_len, upG_len] at h8
      rw [← e1]
      exact h8
/-- The rows of the reduced basis of the wide rows. -/
def invW (p : Int) (n : Nat) (A : List (List Int)) : List (List Int) := basisL p (n + n) (wideM A n n)
theorem invW_cut {p : Int} {n : Nat} {A : List (List Int)} (hg : RowsG p n A) (hn : A.length = n) : ∀ j t, t < n → nth (nthR (wideM A n n) j) t = nth (nthR A j) t := fun j t ht => by
  by_cases hj : j < n
  · rw [wideM_nth hj, nth_append_left (by rw [(hg j (by omega)).1]; exact ht)]
  · have e1 : nthR (wideM A n n) j = [] := by unfold nthR; rw [List.getD_eq_getElem?_getD, List.getElem?_eq_none (by rw [wideM_len]; omega)]; rfl
    have e2 : nthR A j = [] := by unfold nthR; rw [List.getD_eq_getElem?_getD, List.getElem?_eq_none (by omega)]; rfl
    rw [e1, e2]
theorem invW_good {p : Int} {n : Nat} {A : List (List Int)} (hp : primeB p = true) (hg : RowsG p n A) (hn : A.length = n) : RowsG p (n + n) (invW p n A) := by
  have hpb := prime_bd hp
  obtain ⟨c, hb⟩ := basis_red hp (wideM_good (by omega) hg hn)
  exact hb.good
theorem invW_yes {p : Int} {n : Nat} {A : List (List Int)} (hp : primeB p = true) (hg : RowsG p n A) (hn : A.length = n) (hd : detL p n A ≠ 0) (h0 : 0 < n) : (invW p n A).length = n ∧ leadN (nthR (invW p n A) (n - 1)) < n := by
  have hpb := prime_bd hp
  have hgW := wideM_good (p := p) (by omega) hg hn
  have hr := (det_rank hp hg hn).1 hd
  unfold rankL at hr
  obtain ⟨e1, _⟩ := gauss_cut hp hg hgW (by omega) (by rw [wideM_len, hn]) (invW_cut hg hn) n (Nat.le_refl _)
  rw [hr] at e1
  obtain ⟨_, c, hred⟩ := gaussS_red hp hgW n (by omega)
  have hst := gaussS_stop (p := p) (m := n + n) (rows := wideM A n n) (k := n) (by rw [e1, wideM_len]) n
  have hgl := gaussS_len (p := p) (m := n + n) (rows := wideM A n n) n
  rw [wideM_len] at hgl
  have hbe : invW p n A = (gaussS p (n + n) (wideM A n n) n).1 := by
    unfold invW basisL
    rw [hst, e1, List.take_of_length_le (by omega)]
  rw [hbe]
  refine ⟨hgl, ?_⟩
  have hlt := hred.clt (n - 1) (by omega)
  have h1 := hred.one (n - 1) (by omega) (n - 1) (by omega)
  rw [if_pos rfl] at h1
  have hgn := (gaussS_red hp hgW n (by omega)).1 (n - 1) (by omega)
  rw [leadN_eq (k := c (n - 1)) (by rw [hgn.1]; omega) (hred.lead _ (by omega)) (.inr (by rw [h1]; decide))]
  exact hlt
theorem mono_id {n : Nat} {c : Nat → Nat} (hm : ∀ i j, i < j → j < n → c i < c j) : ∀ i, i < n → i ≤ c i
  | 0, _ => Nat.zero_le _
  | i + 1, h => by
    have h1 := mono_id hm i (by omega)
    have h2 := hm i (i + 1) (by omega) h
    omega
theorem mono_up {n : Nat} {c : Nat → Nat} (hm : ∀ i j, i < j → j < n → c i < c j) (h0 : 0 < n) : ∀ j, j < n → c (n - 1 - j) + j ≤ c (n - 1)
  | 0, _ => by simp
  | j + 1, h => by
    have h1 := mono_up hm h0 j (by omega)
    have h2 := hm (n - 1 - (j + 1)) (n - 1 - j) (by omega) (by omega)
    omega
theorem dotN_append {p : Int} {n m : Nat} {x y z : List Int} (hx : x.length = n) (hz : z.length = n) : dotN (n + m) (x ++ y) (z ++ List.replicate m 0) % p = dotN n x z % p := by
  unfold dotN
  have h : ∀ k, k ≤ m → sumN (n + k) (fun t => nth (x ++ y) t * nth (z ++ List.replicate m 0) t) = sumN n (fun t => nth x t * nth z t) := by
    intro k
    induction k with
    | zero =>
      intro _
      exact sumN_congr fun t ht => by rw [nth_append_left (by omega), nth_append_left (by omega)]
    | succ k ih =>
      intro hk
      show sumN (n + k) _ + nth (x ++ y) (n + k) * nth (z ++ List.replicate m 0) (n + k) = _
      rw [ih (by omega)]
      have : nth (z ++ List.replicate m (0 : Int)) (n + k) = 0 := by
        unfold nth
        rw [List.getD_eq_getElem?_getD, List.getElem?_append_right (by omega), List.getElem?_replicate]
        split <;> rfl
      rw [this, Int.mul_zero, Int.add_zero]
  rw [h m (Nat.le_refl _)]
theorem invW_no {p : Int} {n : Nat} {A : List (List Int)} (hp : primeB p = true) (hg : RowsG p n A) (hn : A.length = n) (hd : detL p n A = 0) (hl : (invW p n A).length = n) : n ≤ leadN (nthR (invW p n A) (n - 1)) := by
  have hpb := prime_bd hp
  have hgW := wideM_good (p := p) (by omega) hg hn
  have hr : rankL p n A < n := by
    have h1 := gauss_rank hp hg
    have h2 : rankL p n A ≠ n := fun h => (det_rank hp hg hn).2 h hd
    have : rankL p n A ≤ n := h1.2
    omega
  obtain ⟨z, f, hz, hk, hf, hzf⟩ := ker_exists hp hg hr
  obtain ⟨c, hb⟩ := basis_red (m := n + n) hp hgW
  have hb' : Basis p (n + n) (invW p n A) c := hb
  rw [hb'.leadN (by omega)]
  refine Nat.le_of_not_lt fun hc => ?_
  have hid : ∀ i, i < n → c i = i := fun i hi => by
    have h1 := mono_id (n := n) (fun i j a b => hb'.mono i j a (by omega)) i hi
    have h2 := mono_up (n := n) (fun i j a b => hb'.mono i j a (by omega)) (by omega) (n - 1 - i) (by omega)
    rw [show n - 1 - (n - 1 - i) = i by omega] at h2
    omega
  have hkW : Kill p (n + n) (wideM A n n) (z ++ List.replicate n 0) := fun i hi => by
    rw [wideM_len] at hi
    rw [wideM_nth hi, dotN_append (hg i (by omega)).1 hz.1]
    exact hk i (by omega)
  have hkB := (kill_basis hp hgW).2 hkW
  have h1 := hkB f (by show f < (invW p n A).length; omega)
  have hsum : dotN (n + n) (nthR (invW p n A) f) (z ++ List.replicate n 0) = nth z f := by
    unfold dotN
    have hs : ∀ k, k ≤ n + n → sumN k (fun t => nth (nthR (invW p n A) f) t * nth (z ++ List.replicate n 0) t) = if f < k then nth z f else 0 := by
      intro k
      induction k with
      | zero => intro _; rfl
      | succ k ih =>
        intro hk
        show sumN k _ + nth (nthR (invW p n A) f) k * nth (z ++ List.replicate n 0) k = _
        rw [ih (by omega)]
        by_cases hkn : k < n
        · have ho := hb'.one k (by omega) f (by omega)
          rw [hid k hkn] at ho
          rw [ho, nth_append_left (by rw [hz.1]; exact hkn)]
          by_cases hfk : f = k
          · subst hfk; rw [if_neg (by omega), if_pos rfl, if_pos (by omega)]; omega
          · rw [if_neg hfk, Int.zero_mul, Int.add_zero]
            by_cases hlt : f < k
            · rw [if_pos hlt, if_pos (by omega)]
            · rw [if_neg hlt, if_neg (by omega)]
        · have e0 : nth (z ++ List.replicate n (0 : Int)) k = 0 := by
            unfold nth
            rw [List.getD_eq_getElem?_getD, List.getElem?_append_right (by rw [hz.1]; omega), List.getElem?_replicate]
            split <;> rfl
          rw [e0, Int.mul_zero, Int.add_zero, if_pos (by omega), if_pos (by omega)]
    rw [hs (n + n) (Nat.le_refl _), if_pos (by omega)]
  rw [show nthR (basisL p (n + n) (wideM A n n)) f = nthR (invW p n A) f from rfl, hsum, hzf, Int.emod_eq_of_lt (by omega) (by omega)] at h1
  cases h1
/-- The inverse: the wide rows' last halves. -/
def cutM (rows : List (List Int)) (n k : Nat) : List (List Int) := (List.range k).map fun i => (nthR rows i).drop n
theorem cutM_succ (rows : List (List Int)) (n k : Nat) : cutM rows n (k + 1) = cutM rows n k ++ [(nthR rows k).drop n] := by simp [cutM, List.range_succ]
theorem cutM_len (rows : List (List Int)) (n k : Nat) : (cutM rows n k).length = k := by simp [cutM]
theorem cutM_nth {rows : List (List Int)} {n k i : Nat} (h : i < k) : nthR (cutM rows n k) i = (nthR rows i).drop n := by
  unfold cutM; rw [nthR_map (by simpa using h)]; simp
theorem drop_nth {x : List Int} {n i : Nat} : nth (x.drop n) i = nth x (n + i) := by
  unfold nth; rw [List.getD_eq_getElem?_getD, List.getD_eq_getElem?_getD, List.getElem?_drop]
theorem drop_good {p : Int} {n m : Nat} {x : List Int} (h : Good p (n + m) x) : Good p m (x.drop n) := ⟨by rw [List.length_drop, h.1]; omega, fun i hi => by rw [drop_nth]; exact h.2 _ (by omega)⟩
def invM (p : Int) (n : Nat) (A : List (List Int)) : List (List Int) := cutM (invW p n A) n n
theorem invM_good {p : Int} {n : Nat} {A : List (List Int)} (hp : primeB p = true) (hg : RowsG p n A) (hn : A.length = n) (hl : (invW p n A).length = n) : RowsG p n (invM p n A) := fun i hi => by
  unfold invM at hi ⊢
  rw [cutM_len] at hi
  rw [cutM_nth hi]
  exact drop_good (invW_good hp hg hn i (by omega))
end Go.Proofs.Ytnabpmafcflljaa

/-
  Contract: slices.Concat of two lists of numbers.
  No condition.
-/
namespace Go.Proofs.Ytnabpmafcflljaa
set_option maxRecDepth 100000
open Go.RowKit

theorem Try.infoI2 : (Try.prog.info? 2).map (fun i => (i.zero, i.size, i.bytes)) = some (some (.int .i64 0), 1, 8) := by kernel_rfl
theorem zeroCells_size (z : Array Value) (n : Nat) (h : z.size = 1) : (Builtin.zeroCells z n).size = n := by
  induction n with
  | zero => simp [Builtin.zeroCells]
  | succ n ih => simp [Builtin.zeroCells, h] at ih ⊢
/-- An empty row with room for k numbers. -/
theorem grow_ints (w : World) (k : Nat) (h0 : 0 < k) (hk : k ≤ 4194304) :
    ∃ cap w', (Builtin.append_ #[22, 3] 22 #[.slice none 0 0, .int .i64 k]).run Try.prog w = .ok (.slice (some ⟨w.heap.size, 0, none⟩) k cap) w' ∧ k ≤ cap ∧
      OwnC w.heap.size w' (some ⟨w.heap.size, 0, none⟩) 0 cap [] ∧ Ext w w' := by
  obtain ⟨i0, hi, hz0, hz1, hz2⟩ := info_parts Try.infoI2
  have hr := Lib.run_append_nil_zeros (P := Try.prog) w 22 3 22 2 i0 (.int .i64 0) .i64 .i64 Try.underlying22 Try.underlying3 hi hz0 k h0 (by omega) (by omega) (by rw [hz2]; omega)
  have hge := grownCap_ge w k 0 2
  have hle := grownCap_le_maxLen w k 0 2 (by unfold maxLen; omega)
  refine ⟨_, _, hr, hge, ⟨rfl, ⟨rfl, .inr ⟨w.heap.size, _, _, rfl, Nat.le_refl _, heap_alloc_new w.drew _, Nat.zero_le _, hle, ?_, by simp⟩⟩⟩, (ext_drew w).alloc _⟩
  rw [Array.size_append, zeroCells_size _ _ rfl, zeroCells_size _ _ rfl]
  omega
set_option maxHeartbeats 1000000 in
theorem c_grow (k : Nat) (w : World) (h0 : 0 < k) (hk : k ≤ 4194304) :
    Calls Try.prog 151 #[.slice none 0 0, .int .i64 k] w fun e w' => ∃ cap, e = .returned (.slice (some ⟨w.heap.size, 0, none⟩) 0 cap) ∧ OwnC w.heap.size w' (some ⟨w.heap.size, 0, none⟩) 0 cap [] ∧ Ext w w' := by
  obtain ⟨cap, w', hr, hc, ho, hx⟩ := grow_ints w k h0 hk
  have hk0 : ¬ (k : Int) < 0 := by omega
  have hk1 : (0 : Int) < (k : Int) := by omega
  have hci : (0 : Int) ≤ (cap : Int) := by omega
  have HO := Lib.hid ho
  have HX := Lib.hid hx
  clear ho hx
  go_enter Try.func151, Try.ntmps151
  go_wp2_with (at_builtin; refine Lib.wpList_append_run w rfl (.tmp 20) (.tmp 21) 22 3 rfl (.slice none 0 0) (.int .i64 k) rfl rfl _ _ hr ?_)
  go_wp2_with (fail)
  go_ret
  exact ⟨cap, rfl, HO.out, HX.out⟩
set_option maxHeartbeats 4000000 in
theorem c_concat (b off cap : Nat) (ax : Option Addr) (n cx : Nat) (x : List Int) (ay : Option Addr) (m cy : Nat) (y : List Int) (w : World) (hn0 : 0 < n) (hm0 : 0 < m) (hn : n ≤ 1048576) (hm : m ≤ 1048576)
    (h0 : w.cell? ⟨b, off, none⟩ = some (.slice ax n cx)) (h1 : w.cell? ⟨b, off + 1, none⟩ = some (.slice ay m cy)) (hx : RdC w ax n x) (hy : RdC w ay m y) :
    Calls Try.prog 130 #[.slice (some ⟨b, off, none⟩) 2 cap] w fun e w' => ∃ g rc, e = .returned (.slice (some ⟨g, 0, none⟩) (n + m) rc) ∧ OwnC w.heap.size w' (some ⟨g, 0, none⟩) (n + m) rc (x ++ y) ∧ Ext w w' := by
  have HX := Lib.hid hx
  have HY := Lib.hid hy
  obtain ⟨bx, ox, rfl, _⟩ := hx.2 0 hn0
  obtain ⟨by', oy, rfl, _⟩ := hy.2 0 hm0
  have H0 := Lib.hid h0
  have H1 := Lib.hid h1
  clear hx hy h0 h1
  go_enter Try.func130, Try.ntmps130
  go_wp2_with (fail)
  go_loopw [3, 11] (fun s i wr => ∃ (k : Nat), k ≤ 2 ∧ i = .int .i64 k ∧ s = .int .i64 ((if k = 0 then 0 else if k = 1 then n else n + m : Nat) : Int) ∧ wr = w) (fun _ i _ => 2 - (intOf i).toNat)
  case atStart => exact ⟨0, by omega, rfl, rfl, rfl⟩
  case round =>
    obtain ⟨k, hk, rfl, rfl, rfl⟩ := hrel
    have hk' : k = 0 ∨ k = 1 ∨ k = 2 := by omega
    have h0 := H0.out
    have h1 := H1.out
    rcases hk' with rfl | rfl | rfl
    · go_wp2_with (fail)
      go_roundw
      case rel => exact ⟨1, by omega, by go_num, by go_num, by first | rfl | trivial⟩
      case measure => simp [intOf]
    · have hw : wrap64 ((n : Int) + (m : Int)) = ((n + m : Nat) : Int) := by unfold wrap64; omega
      have hw2 : IntKind.i64.wrap ((n : Int) + (m : Int)) = ((n + m : Nat) : Int) := by rw [IntWalk.i64_in _ (by omega)]; omega
      have hnn : ¬ ((n + m : Nat) : Int) < 0 := by omega
      go_wp2_with (fail)
      go_roundw
      case rel => exact ⟨2, by omega, by go_num, by first | rfl | go_num, by first | rfl | trivial⟩
      case measure => simp [intOf]
    · have hnn : ¬ ((n + m : Nat) : Int) < 0 := by omega
      go_wp2_with (fail)
      refine Calls.mono (c_grow (n + m) wr (by omega) (by omega)) ?_
      rintro e w1 ⟨cap1, rfl, ho1, x1⟩
      have HO1 := Lib.hid ho1
      have X1 := Lib.hid x1
      clear ho1 x1 h0 h1
      go_wp2_with (fail)
      go_loopw [6, 27] (fun s i wq => ∃ (k g rc : Nat), k ≤ 2 ∧ i = .int .i64 k ∧ s = .slice (some ⟨g, 0, none⟩) (if k = 0 then 0 else if k = 1 then n else n + m) rc ∧ Hid (OwnC wr.heap.size wq (some ⟨g, 0, none⟩) (if k = 0 then 0 else if k = 1 then n else n + m) rc (if k = 0 then [] else if k = 1 then x else x ++ y)) ∧ Hid (Ext wr wq)) (fun _ i _ => 2 - (intOf i).toNat)
      case atStart => exact ⟨0, _, _, by omega, rfl, rfl, HO1, X1⟩
      case round =>
        rename World => z
        obtain ⟨k, g, rc, hk, rfl, rfl, HO, HZ⟩ := hrel
        have hk' : k = 0 ∨ k = 1 ∨ k = 2 := by omega
        have h0 := HZ.out.cell H0.out
        have h1 := HZ.out.cell H1.out
        rcases hk' with rfl | rfl | rfl
        · have HO0 : Hid (OwnC wr.heap.size z (some ⟨g, 0, none⟩) 0 rc []) := HO
          go_wp2_with (at_builtin; refine wpList_appendAll (n := 0) (xs := []) rfl (.tmp 31) (.tmp 32) rfl rfl rfl HO0.out (HX.out.ext HZ.out) hn0 (by omega) (by omega) HZ.out.size ?hk)
          case hk =>
            intro g' cap' w3 ho3 hg3 he3
            have HO3 := Lib.hid ho3
            have HE3 := Lib.hid (he3 wr (Nat.le_refl _) HZ.out)
            clear ho3 hg3 he3
            go_wp2_with (fail)
            go_roundw
            case rel => exact ⟨1, g', cap', by omega, by go_num, rfl, HO3, HE3⟩
            case measure => simp [intOf]
        · have HO0 : Hid (OwnC wr.heap.size z (some ⟨g, 0, none⟩) n rc x) := HO
          go_wp2_with (at_builtin; refine wpList_appendAll (n := n) (xs := x) rfl (.tmp 31) (.tmp 32) rfl rfl rfl HO0.out (HY.out.ext HZ.out) hm0 (by omega) (by omega) HZ.out.size ?hk)
          case hk =>
            intro g' cap' w3 ho3 hg3 he3
            have HO3 := Lib.hid ho3
            have HE3 := Lib.hid (he3 wr (Nat.le_refl _) HZ.out)
            clear ho3 hg3 he3
            go_wp2_with (fail)
            go_roundw
            case rel => exact ⟨2, g', cap', by omega, by go_num, rfl, HO3, HE3⟩
            case measure => simp [intOf]
        · have HO0 : Hid (OwnC wr.heap.size z (some ⟨g, 0, none⟩) (n + m) rc (x ++ y)) := HO
          clear h0 h1
          go_wp2_with (fail)
          go_ret
          exact ⟨g, rc, rfl, HO0.out, HZ.out⟩
end Go.Proofs.Ytnabpmafcflljaa

/-
  Contract: the inverse of a matrix in the program.
  No condition.
-/
namespace Go.Proofs.Ytnabpmafcflljaa
set_option maxRecDepth 100000
open Go.RowKit

theorem invW_le {p : Int} {n : Nat} {A : List (List Int)} (hp : primeB p = true) (hg : RowsG p n A) (hn : A.length = n) : (invW p n A).length ≤ n := by
  have hpb := prime_bd hp
  have h := gauss_rank hp (wideM_good (p := p) (by omega) hg hn)
  rw [wideM_len] at h
  unfold invW basisL
  rw [List.length_take]
  omega
/-- The rows, the first i of them cut. -/
def cutS (R : List (List Int)) (n : Nat) : Nat → List (List Int)
  | 0 => R
  | i + 1 => (cutS R n i).set i ((nthR R i).drop n)
theorem cutS_len {R : List (List Int)} {n : Nat} : ∀ i, (cutS R n i).length = R.length
  | 0 => rfl
  | i + 1 => by unfold cutS; rw [List.length_set]; exact cutS_len i
theorem cutS_nth {R : List (List Int)} {n : Nat} : ∀ i, i ≤ R.length → ∀ j, nthR (cutS R n i) j = if j < i then (nthR R j).drop n else nthR R j
  | 0, _, j => by rw [if_neg (by omega)]; rfl
  | i + 1, hi, j => by
    unfold cutS
    rw [nthR_set (by rw [cutS_len]; omega), cutS_nth i (by omega) j]
    by_cases h : i = j
    · subst h; rw [if_pos rfl, if_pos (by omega)]
    · rw [if_neg h]
      by_cases h2 : j < i
      · rw [if_pos h2, if_pos (by omega)]
      · rw [if_neg h2, if_neg (by omega)]
theorem cutS_all {R : List (List Int)} {n : Nat} (h : R.length = n) : cutS R n n = cutM R n n := by
  refine ext_rows (by rw [cutS_len, cutM_len, h]) fun j hj => ?_
  rw [cutS_len, h] at hj
  rw [cutS_nth n (by omega), if_pos hj, cutM_nth hj]
theorem rdC_drop {w : World} {b o n m : Nat} {x : List Int} (h : RdC w (some ⟨b, o, none⟩) (n + m) x) : RdC w (some ⟨b, o + n, none⟩) m (x.drop n) := by
  refine ⟨by rw [List.length_drop, h.1]; omega, fun i hi => ?_⟩
  obtain ⟨b', o', he, hc⟩ := h.2 (n + i) (by omega)
  cases he
  exact ⟨b, o + n, rfl, by rw [drop_nth, Nat.add_assoc]; exact hc⟩

set_option maxHeartbeats 16000000 in
set_option maxRecDepth 100000 in
theorem c_invm (p : Int) (a : Option Addr) (n cap : Nat) (A : List (List Int)) (w : World) (hpr : primeB p = true) (hn0 : 0 < n) (hn : n ≤ 1000) (hx : RdR w a n A) (hg : RowsG p n A) :
    Calls Try.prog 96 #[.int .i64 p, .slice a n cap] w fun e w' => (detL p n A = 0 ∧ e = .returned (.tuple #[.slice none 0 0, .bool false]) ∧ Ext w w') ∨
      (detL p n A ≠ 0 ∧ ∃ g rc, e = .returned (.tuple #[.slice (some ⟨g, 0, none⟩) n rc, .bool true]) ∧ OwnR w.heap.size w' (some ⟨g, 0, none⟩) n rc (invM p n A) ∧ Ext w w') := by
  have hpb := prime_bd hpr
  have HX := Lib.hid hx
  have HG := Lib.hid hg
  have HPR := Lib.hid hpr
  have HLN := Lib.hid hx.1
  have HWG := Lib.hid (wideM_good (p := p) (by omega) hg hx.1)
  have HYES := Lib.hid (fun hd => invW_yes hpr hg hx.1 hd hn0)
  have HNO := Lib.hid (fun hd hl => invW_no hpr hg hx.1 hd hl)
  have HLE := Lib.hid (invW_le hpr hg hx.1)
  have HIG := Lib.hid (invW_good hpr hg hx.1)
  clear hx hg hpr
  go_enter Try.func96, Try.ntmps96
  go_wp2_with (fail)
  refine Calls.mono (c_unit n _ (by omega)) ?_
  rintro e w1 ⟨gu, cu, rfl, hu, x1⟩
  have HU := Lib.hid hu
  have X1 := Lib.hid (Ext.trans (ext_alloc w _) x1)
  clear hu x1
  go_wp2_with (fail)
  go_loopw [7, 18] (fun v i wr => ∃ (k g rc : Nat), k ≤ n ∧ i = .int .i64 k ∧ v = .slice (some ⟨g, 0, none⟩) k rc ∧ Hid (OwnW w1.heap.size wr (some ⟨g, 0, none⟩) k rc (wideM A n k)) ∧ Hid (Ext w1 wr)) (fun _ i _ => n - (intOf i).toNat)
  case atStart => exact ⟨0, _, _, Nat.zero_le _, rfl, rfl, Lib.hid (OwnW.start _ _ _), Lib.hid (Ext.refl _)⟩
  case round =>
    rename World => y
    obtain ⟨k, g, rc, hk, rfl, rfl, HO, HY⟩ := hrel
    by_cases hlt : k < n
    · obtain ⟨bm, om, ar, cr, rfl, hca, hra⟩ := HX.out.2 k hlt
      rw [(HG.out k (by rw [HLN.out]; exact hlt)).1] at hca hra
      obtain ⟨au, cku, hcu, hou⟩ := HU.out.at hlt
      rw [unitL_nth hlt, bladeL_len] at hcu hou
      have e1 := (X1.out.trans HY.out).cell hca
      have e2 := HY.out.cell hcu
      have HRA := Lib.hid (hra.ext (X1.out.trans HY.out))
      have HRU := Lib.hid (hou.rd.ext HY.out)
      clear hca hra hcu hou
      go_wp2_with (fail)
      clear e1 e2
      refine Calls.mono (c_concat y.heap.size 0 2 ar n cr (nthR A k) au n cku (bladeL n k) _ hn0 hn0 (by omega) (by omega) (by simp) (by simp) (HRA.out.ext (ext_alloc _ _)) (HRU.out.ext (ext_alloc _ _))) ?_
      rintro e z ⟨g2, c2, rfl, ho2, x2⟩
      have XZ := Lib.hid (Ext.trans (ext_alloc y _) x2)
      have HZ := Lib.hid (ho2.mono (B' := y.heap.size) (by simp))
      clear ho2 x2
      go_wp2_with (at_builtin; refine wpList_pushRW (w0 := y) rfl (.tmp 23) (.tmp 31) rfl rfl rfl HO.out (XZ.out.trans (ext_alloc _ _)) (HZ.out.ext (ext_alloc _ _)) ?hc (by omega) HY.out.size ?hk)
      case hc => simp
      case hk =>
        intro g' cap' w3 ho3 he3
        have HO3 := Lib.hid ho3
        have HE4 := Lib.hid (he3 w1 (Nat.le_refl _) ((HY.out.trans XZ.out).alloc _))
        clear ho3 he3
        go_wp2_with (fail)
        go_roundw
        case rel => exact ⟨k + 1, g', cap', by omega, by go_num, rfl, Lib.hid (by rw [wideM_succ]; exact .inr HO3.out), HE4⟩
        case measure => simp [intOf]; omega
    · obtain rfl : k = n := by omega
      go_wp2_with (fail)
      refine Calls.mono (c_basis p _ k rc (k + k) (wideM A k k) y HPR.out (by omega) (by omega) (by omega) HO.out.rd HWG.out) ?_
      rintro e y2 ⟨gb, cb, r, rfl, hb, x2⟩
      have HB : Hid (OwnR y.heap.size y2 (some ⟨gb, 0, none⟩) r cb (invW p k A)) := Lib.hid hb
      have hrl : (invW p k A).length = r := hb.1
      have HE2 := Lib.hid ((X1.out.trans HY.out).trans x2)
      have hle := HLE.out
      rw [hrl] at hle
      clear hb x2
      by_cases hrn : r < k
      · have hri : (r : Int) < (k : Int) := by omega
        have HD := Lib.hid (show detL p k A = 0 from Classical.byContradiction fun h => by have := (HYES.out h).1; omega)
        go_wp2_with (fail)
        go_ret2
        exact .inl ⟨HD.out, rfl, HE2.out⟩
      obtain rfl : r = k := by omega
      have hri : ¬ (r : Int) < (r : Int) := by omega
      have hw1 : wrap64 ((r : Int) - 1) = ((r - 1 : Nat) : Int) := by unfold wrap64; omega
      have hw2 : IntKind.i64.wrap ((r : Int) - 1) = ((r - 1 : Nat) : Int) := by rw [IntWalk.i64_in _ (by omega)]; omega
      have hlr : ((r - 1 : Nat) : Int) < (r : Int) := by omega
      have HRL := Lib.hid hrl
      obtain ⟨al, cl, hcl, hol⟩ := HB.out.at (show r - 1 < r by omega)
      have hgl := HIG.out (r - 1) (by omega)
      rw [hgl.1] at hcl hol
      have HOL := Lib.hid hol.rd
      clear hol hgl
      go_wp2_with (fail)
      refine Calls.mono (c_lead al (r + r) cl _ y2 (by omega) HOL.out) ?_
      rintro e y3 ⟨rfl, x3⟩
      obtain ⟨ld, hld⟩ : ∃ x, x = leadN (nthR (invW p r A) (r - 1)) := ⟨_, rfl⟩
      rw [← hld]
      have HLD := Lib.hid hld
      have HE3 := Lib.hid (HE2.out.trans x3)
      have HB3 := Lib.hid (HB.out.ext x3)
      clear hld x3 hcl
      by_cases hge : r ≤ ld
      · have hgi : (r : Int) ≤ (ld : Int) := by omega
        have HD := Lib.hid (show detL p r A = 0 from Classical.byContradiction fun h => by have h2 := (HYES.out h).2; rw [← HLD.out] at h2; omega)
        go_wp2_with (fail)
        go_ret2
        exact .inl ⟨HD.out, rfl, HE3.out⟩
      have hgi : ¬ (r : Int) ≤ (ld : Int) := by omega
      have HD := Lib.hid (show detL p r A ≠ 0 from fun h => by have h2 := HNO.out h HRL.out; rw [← HLD.out] at h2; omega)
      have HBW := Lib.hid (show w.heap.size ≤ y.heap.size from (X1.out.trans HY.out).size)
      have HB4 : Hid (OwnR w.heap.size y3 (some ⟨gb, 0, none⟩) r cb (invW p r A)) := Lib.hid (HB3.out.mono HBW.out)
      go_wp2_with (fail)
      go_loopw [53] (fun i wr => ∃ (i0 : Nat), i0 ≤ r ∧ i = .int .i64 i0 ∧ Hid (OwnR w.heap.size wr (some ⟨gb, 0, none⟩) r cb (cutS (invW p r A) r i0)) ∧ Hid (Ext w wr)) (fun i _ => r - (intOf i).toNat)
      case atStart => exact ⟨0, Nat.zero_le _, rfl, HB4, HE3⟩
      case round =>
        rename World => z
        obtain ⟨i, hi, rfl, HC, HZ⟩ := hrel
        by_cases hlt2 : i < r
        · obtain ⟨ai, ci, hci, hoi⟩ := HC.out.at hlt2
          have hni := cutS_nth (R := invW p r A) (n := r) i (by omega) i
          rw [if_neg (by omega)] at hni
          have hgi2 := HIG.out i (by omega)
          rw [hni, hgi2.1] at hci hoi
          obtain ⟨bi, oi, rfl, _⟩ := hoi.rd.2 0 (by omega)
          have hcap := hoi.rd
          have HOI := Lib.hid hoi.rd
          have hcc : r + r ≤ ci := by
            obtain ⟨_, h2, h3⟩ := hoi
            rcases h3 with ⟨h4, _⟩ | ⟨_, _, _, h4, _, _, h5, _⟩
            · cases h4
            · cases h4; exact h5
          have hcr : ¬ ci = r := by omega
          have hc1 : (r : Int) ≤ ((r + r : Nat) : Int) := by omega
          have hc2 : ((r + r : Nat) : Int) ≤ (ci : Int) := by omega
          clear hoi hcap hgi2
          go_wp2_with (fail)
          refine Calls.mono (c_clone bi (oi + r) r _ ((nthR (invW p r A) i).drop r) z hn0 (by omega) (rdC_drop HOI.out)) ?_
          rintro e z2 ⟨g2, c2, rfl, ho2, x2⟩
          have ow4 := HC.out.ext x2
          obtain ⟨ay, cy, hcy, _⟩ := ow4.at hlt2
          have hfy := ow4.frozen i
          have HB5 := Lib.hid (HC.out.base_of gb rfl)
          have HO2 := Lib.hid ho2
          have X2 := Lib.hid x2
          clear ow4 ho2 x2 hci
          go_wp2_with (fail)
          go_roundw
          case rel => exact ⟨i + 1, by omega, by go_num, Lib.hid (HC.out.put X2.out HZ.out.size HO2.out hlt2), Lib.hid ((HZ.out.trans X2.out).setCell HB5.out.1 _)⟩
          case measure => simp [intOf]; omega
        · obtain rfl : i = r := by omega
          have HF := Lib.hid (show OwnR w.heap.size z (some ⟨gb, 0, none⟩) i cb (invM p i A) by
            have h := HC.out
            rw [cutS_all HRL.out] at h
            exact h)
          go_wp2_with (fail)
          go_ret2
          exact .inr ⟨HD.out, _, _, rfl, HF.out, HZ.out⟩
end Go.Proofs.Ytnabpmafcflljaa

/-
  A region whose first operation is a move that may be carried out at any time: it is carried out first.
  No condition. General over every program.
-/
namespace Go.Proofs.Ytnabpmafcflljaa
set_option maxRecDepth 100000
open Go.RowKit

/-- The exit is normal. -/
def strictQ (Q : Exit → Act → World → Prop) : Exit → Act → World → Prop := fun e a w => e = .normal ∧ Q .normal a w
theorem strictQ_normal {Q : Exit → Act → World → Prop} {a : Act} {w : World} (h : Q .normal a w) : strictQ Q .normal a w := ⟨rfl, h⟩

section
variable {P : Program} {ops : Array Oper} {md : Region.Mode} {Q : Exit → Act → World → Prop}
theorem not_letsOut : ¬ LetsOut (strictQ Q) := fun ⟨_, _, h, _⟩ => by cases h
theorem wp_strict {o : Oper} {a : Act} {w : World} {K K' : Act → World → Prop} (h : ∀ a w, K a w → K' a w) (hh : o.wp P a w K (strictQ Q)) : o.wp P a w K' Q := by
  unfold Oper.wp at *
  generalize (execOp a.eval o).run P w = r at *
  cases r with
  | ok n w' =>
    cases n <;> simp only [Oper.upon] at hh ⊢ <;>
      first
        | exact h _ _ hh
        | exact Calls.mono hh (fun e w'' he => by
            cases e with
            | returned v => exact h _ _ he
            | panicked c => exact absurd he.1 (by simp)
            | outgrown => exact absurd he not_letsOut)
        | exact Rows.mono hh (fun _ _ he => h _ _ he)
  | halt x w' =>
    cases x <;> simp only [Oper.upon] at hh ⊢ <;> first | exact hh.elim | exact absurd hh.1 (by simp) | exact hh
theorem wpOp_strict {i : Nat} {a : Act} {w : World} {K K' : Act → World → Prop} (h : ∀ a w, K a w → K' a w) (hh : wpOp P ops (strictQ Q) i K a w) : wpOp P ops Q i K' a w := by
  unfold wpOp at *
  split
  · exact h _ _ (by simpa [*] using hh)
  · rename_i o ho
    simp only [ho] at hh
    split
    · rename_i hw
      simp only [hw, if_true] at hh
      rcases hh with hh | hh
      · exact .inl (wp_strict h hh)
      · exact absurd hh.2 not_letsOut
    · rename_i hw; simp only [hw] at hh; exact h _ _ hh
theorem wpAny_strict : ∀ (f : Nat) (listed : Array Bool) (a : Act) (w : World), wpAny P md ops (strictQ Q) f listed a w → wpAny P md ops Q f listed a w
  | 0, _, _, _, h => ⟨h.1, h.2.2⟩
  | f + 1, _, _, _, h => ⟨fun h0 => (h.1 h0).2, fun i hi => wpOp_strict (fun a w => wpAny_strict f _ a w) (h.2 i hi)⟩

def Region.sinkB1 (md : Region.Mode) (ops : Array Oper) (m n : Nat) : Bool :=
  (List.range n).all fun i => decide (i < m) || (List.range (n + 1)).any fun j => decide (i < j) && Region.waitsFor md ops j i
theorem tail_waits1 {m n : Nat} {listed : Array Bool} (hs : Region.sinkB1 md ops m n = true) (hc : Region.chainB md ops n = true) (hn : n < ops.size) (inv : HeadInv md ops n listed) :
    ∀ (d i : Nat), n - i = d → m ≤ i → i < n → listed.getD i true = false → ∀ t, n ≤ t → t ∉ Region.ready md ops listed := by
  intro d
  induction d using Nat.strongRecOn with
  | _ d ih =>
    intro i hd hm hi hun t ht hr
    obtain ⟨_, ot, hot, hall⟩ := mem_ready.1 hr
    have htlt : t < ops.size := (Array.getElem?_eq_some_iff.1 hot).1
    by_cases htn : t = n
    · subst htn
      have h1 := List.all_eq_true.1 hs i (List.mem_range.2 hi)
      simp only [Bool.or_eq_true, decide_eq_true_eq] at h1
      obtain ⟨j, hj, hj2⟩ := List.any_eq_true.1 (h1.resolve_left (by omega))
      simp only [Bool.and_eq_true, decide_eq_true_eq] at hj2
      obtain ⟨oj, hoj, e, he, hb, hon⟩ := Region.waitsFor_spec hj2.2
      have hjle : j ≤ t := by have := List.mem_range.1 hj; omega
      by_cases hjt : j = t
      · subst hjt
        have : oj = ot := Option.some.inj (hoj.symm.trans hot)
        subst this
        have h2 := hall e he hb
        rw [hon, getD_both hun] at h2
        cases h2
      · cases hl : listed.getD j false with
        | true =>
          have h2 := inv.closed j oj hoj hl e he hb
          rw [hon, getD_both hun] at h2
          cases h2
        | false =>
          have hjs : j < listed.size := by rw [inv.size]; omega
          exact ih (t - j) (by omega) j rfl (by omega) (by omega) (getD_in hjs hl) t (Nat.le_refl _) hr
    · have h1 := List.all_eq_true.1 hc t (List.mem_range.2 htlt)
      simp only [Bool.or_eq_true, decide_eq_true_eq] at h1
      rcases h1 with h1 | h1
      · omega
      · obtain ⟨o', ho', e, he, hb, hon⟩ := Region.waitsFor_spec h1
        have : o' = ot := Option.some.inj (ho'.symm.trans hot)
        subst this
        have h2 := hall e he hb
        rw [hon, getD_both (inv.tail (t - 1) (by omega) (by omega))] at h2
        cases h2

theorem LexR.any1 {w0 : World} {sp : Nat → Option SPred} {m n : Nat} {B : Array Bool → Bool} {Lq : Act → World → Prop} (hsel : Region.noSelect ops = true)
    (hlt : ∀ i, m ≤ i → i < n → ∀ listed, HeadInv md ops n listed → listed.getD i true = false → ∀ j ∈ Region.ready md ops listed, j < n)
    (hdone : ∀ listed, B listed = true → ∀ j ∈ Region.ready md ops listed, n ≤ j)
    (hd : Nat → Nat → Array Bool → Bool) (h0 : ∀ listed, hd 0 n listed = true → B listed = true)
    (h1 : ∀ f k listed, hd (f + 1) k listed = true → ((Region.ready md ops listed).contains k = true ∧ Region.free md ops listed k = true) ∧ hd f (k + 1) (listed.setIfInBounds k true) = true) :
    ∀ (l : List Oper) (k : Nat) (listed : Array Bool) (a : Act) (env : List (Nat × Value)), m ≤ k → (∀ j, j < l.length → l[j]? = ops[k + j]?) → k + l.length = n → HeadInv md ops n listed →
    (∃ w, Ext w0 w ∧ Known sp env w) → hd l.length k listed = true → LexR P ops w0 sp Lq l k a env →
    AnyR P ops md w0 sp n (fun listed' a' w' => B listed' = true ∧ Lq a' w') l.length listed a env
  | [], k, listed, a, env, _, _, hk0, _, _, hB, h => fun w he hk => ⟨h0 _ (by obtain rfl : k = n := (by simpa using hk0); exact hB), h w he hk⟩
  | o :: l, k, listed, a, env, hmk, hl, hk, inv, hsat, hB, h => by
    have ho : ops[k]? = some o := by simpa using (hl 0 (by simp)).symm
    obtain ⟨⟨hr, hf⟩, hB'⟩ := h1 _ _ _ (by simpa using hB)
    have hkn : k < n := by simp only [List.length_cons] at hk; omega
    have hr' : k ∈ Region.ready md ops listed := by simpa using hr
    exact AnyR.first ho (Region.noSelect_spec hsel) (hlt k hmk hkn) (fun listed' a' w' hL => hdone _ hL.1) l.length listed a env inv (Region.free_spec ho hf) hr' hsat h.1
      fun v hv => LexR.any1 hsel hlt hdone hd h0 h1 l (k + 1) _ _ _ (by omega) (fun j hj => by have := hl (j + 1) (by simp; omega); simpa [Nat.add_assoc, Nat.add_comm 1 j] using this) (by simp only [List.length_cons] at hk; omega) (inv.set hr' hkn)
        (hv.sat hsat) hB' (h.2 v hv)
end

def Region.tail1B (ops : Array Oper) (n N : Nat) : Bool :=
  Region.noSelect ops && decide (n < ops.size) && decide (1 ≤ n) && Region.sinkB1 .any ops 1 n && Region.chainB .any ops n && ((Region.ready .any ops (Array.replicate ops.size false)).contains 0 && Region.free .any ops (Array.replicate ops.size false) 0) &&
    Region.lexHead .any ops (ops.size - n) (n - 1) 1 ((Array.replicate ops.size false).setIfInBounds 0 true) && ssaB ops && dstB ops N

/-- The first operation is a move; the operations from number n on go one after another behind all others but it. -/
theorem wp_region_lex_tail1 {P : Program} {id : Nat} {Q : Exit → Act → World → Prop} {a : Act} {w : World} {o0 : Oper} {l : List Oper} (n : Nat) (sps : List (Nat × SPred)) (v0 : Value) (hm : P.follows .mixedOrders = true)
    (hB : Region.tail1B (o0 :: l).toArray n a.tmps.size = true) (hsp : spOf sps 0 = none) (hw : Region.wanted o0 (yielded (o0 :: l).toArray a.tmps) = true) (hy : ∀ w, (execOp a.eval o0).run P w = .ok (.value v0) w)
    (h : LexW P (o0 :: l).toArray w.drew (spOf sps) (fun a' w' => wpList P (o0 :: l).toArray (strictQ Q) ((o0 :: l).drop n) a' w') (((o0 :: l).take n).drop 1) 1 (a.put o0.dst v0) [(0, v0)]) : (Code.region id (o0 :: l).toArray true).wp P Q a w := by
  simp only [Region.tail1B, Bool.and_eq_true, decide_eq_true_eq] at hB
  obtain ⟨⟨⟨⟨⟨⟨⟨⟨hsel, hn⟩, hn1⟩, hs⟩, hc⟩, hr0, hf0⟩, hlex⟩, hssa⟩, hdst⟩ := hB
  obtain ⟨ops, hops⟩ : ∃ ops, ops = (o0 :: l).toArray := ⟨_, rfl⟩
  have h0 : ops[0]? = some o0 := by rw [hops]; simp
  rw [← hops] at hn hsel hs hc hr0 hf0 hlex hssa hdst hw h ⊢
  have hsize : ops.size = l.length + 1 := by rw [hops]; simp
  obtain ⟨L, hL⟩ : ∃ L, L = o0 :: l := ⟨_, rfl⟩
  have hLl : L.length = ops.size := by rw [hL, hsize, List.length_cons]
  rw [← hL] at h
  have hget : ∀ j, L[j]? = ops[j]? := fun j => by rw [hL, hops, List.getElem?_toArray]
  have htl : ((L.take n).drop 1).length = n - 1 := by simp; omega
  have hdl : (L.drop n).length = ops.size - n := by simp; omega
  have inv0 : HeadInv .any ops n (Array.replicate ops.size false) := by rw [hops]; exact headInv0 _ n
  have inv1 := inv0.set (by simpa using hr0) (show 0 < n by omega)
  have linv : LexInv ops a.tmps.size 1 (a.put o0.dst v0) [(0, v0)] := (lexInv0 (ops := ops) a.tmps.size a rfl).step h0 hdst v0
  have hk1 : Known (spOf sps) [(0, v0)] w.drew := fun p hp => by
    simp only [List.mem_singleton] at hp
    subst hp
    simp only [hsp, holdsO]
  have hR := LexW.lexR hssa hdst _ 1 _ _ (fun j hj => by
    rw [htl] at hj
    rw [List.getElem?_drop, List.getElem?_take_of_lt (by omega), hget]) linv h
  have H := LexR.any1 (md := .any) (m := 1) (n := n) (B := fun listed => Region.seqB .any ops (ops.size - n) n listed) hsel
    (fun i hi1 hin listed inv hun j hj => by
      rcases Nat.lt_or_ge j n with h | h
      · exact h
      · exact absurd hj (tail_waits1 hs hc hn inv _ i rfl hi1 hin hun j h))
    (fun listed hb => seqB_ready hb)
    (fun f k listed => Region.lexHead .any ops (ops.size - n) f k listed) (fun listed hh => by simpa [Region.lexHead] using hh)
    (fun f k listed hh => by simpa [Region.lexHead] using hh) ((L.take n).drop 1) 1 _ _ [(0, v0)] (Nat.le_refl _) (fun j hj => by
      rw [htl] at hj
      rw [List.getElem?_drop, List.getElem?_take_of_lt (by omega), hget]) (by rw [htl]; omega) inv1 ⟨w.drew, Ext.refl _, hk1⟩ (by rw [htl]; exact hlex) hR
  refine wp_region_any hm ?_
  have S := AnyR.sound (Q := strictQ Q) (g := ops.size - n) (fun listed a' w' hL' => by
    have := wpAny_of_seq (md := .any) (Q' := strictQ Q) (L.drop n) n listed a' w' (fun j => by rw [List.getElem?_drop, hget]) (by rw [hdl]; exact hL'.1) hL'.2
    rwa [hdl] at this) _ _ _ _ w.drew (Ext.refl _) hk1 H
  rw [htl, show n - 1 + (ops.size - n) = ops.size - 1 by omega] at S
  have T := wpAny_take (md := .any) (Q := strictQ Q) (fuel := ops.size - 1) (listed := Array.replicate ops.size false) h0 hsel hf0 hr0 (fun c a w hq => absurd hq.1 (by simp)) (.inl ⟨hw, hy⟩) S
  rw [show ops.size - 1 + 1 = ops.size by omega] at T
  exact wpAny_strict _ _ _ _ T

end Go.Proofs.Ytnabpmafcflljaa

/-
  append of rows to rows; sums of matrices.
  No condition.
-/
namespace Go.Proofs.Ytnabpmafcflljaa
set_option maxRecDepth 100000
open Go.RowKit

/-- append of rows of the call's own. -/
theorem run_appendRows {B : Nat} {w0 w : World} {ra : Option Addr} {n cap : Nat} {rows : List (List Int)} {g2 m c2 : Nat} {rows2 : List (List Int)} (hown : OwnR B w0 ra n cap rows) (he : Ext w0 w) (hx : OwnR w0.heap.size w (some ⟨g2, 0, none⟩) m c2 rows2) (hm : 0 < m) (hn : n ≤ 4194304) (hml : m ≤ 4194304) (hB : B ≤ w0.heap.size) (ty : TypeId) :
    ∃ g' cap' w', (Builtin.append_ #[25, 25] ty #[.slice ra n cap, .slice (some ⟨g2, 0, none⟩) m c2]).run Try.prog w = .ok (.slice (some ⟨g', 0, none⟩) (n + m) cap') w' ∧
      OwnR B w' (some ⟨g', 0, none⟩) (n + m) cap' (rows ++ rows2) ∧ (∀ W : World, W.heap.size ≤ B → Ext W w → Ext W w') := by
  obtain ⟨i0, hi, hz0, hz1, hz2⟩ := info_parts Try.infoR
  have hown0 := hown
  obtain ⟨h1, vs, h2, hap, h4⟩ := hown
  obtain ⟨x1, us, x2, xap, x4⟩ := hx
  have h2' := ownsRow_ext h2 he
  have hvl : vs.length = n := by have := h2.1; omega
  have hul : us.length = m := by have := x2.1; omega
  have hcell : ∀ j u, us[j]? = some u → w.cell? ⟨g2, j, none⟩ = some u := fun j u hj => by
    have hjl : j < m := by
      rcases Nat.lt_or_ge j m with h | h
      · exact h
      · rw [List.getElem?_eq_none (by omega)] at hj; cases hj
    rcases x2.2 with ⟨_, h3⟩ | ⟨g, c, cur, hv, hb, hh, hc1, hc2, hc3, hc4⟩
    · omega
    · simp only [Value.slice.injEq] at hv
      obtain ⟨hv1, _, _⟩ := hv
      cases hv1
      rw [← hc4, List.getElem?_take_of_lt (by omega), Array.getElem?_toList] at hj
      simp only [World.cell?, hh]
      simpa using hj
  obtain ⟨v', w', hr, h5, h6, _⟩ := run_append_own (P := Try.prog) w B 25 ty 22 i0 (.slice none 0 0) 1 24 Try.underlying25 hi hz0 hz1 hz2 rfl (by decide) (.slice ra n cap) n vs h2'
    ⟨g2, 0, none⟩ m c2 us (by omega) (fun j u hj => by
      have := hcell j u hj
      by_cases hj0 : j = 0
      · subst hj0; simpa [Addr.add] using this
      · simpa [Addr.add, hj0] using this) (fun u hu => by
        obtain ⟨j, hj, rfl⟩ := List.getElem_of_mem hu
        obtain ⟨ai, ci, h7, _⟩ := x4 j (by omega)
        rw [List.getElem?_eq_getElem hj] at h7
        rw [Option.some.inj h7]; rfl) (by unfold maxLen; omega) (by omega) (Nat.le_trans hB he.size)
  have form : ∃ g cap, v' = .slice (some ⟨g, 0, none⟩) (n + m) cap := by
    rcases h5.2 with ⟨_, h3⟩ | ⟨g, c, cur, hv, _⟩
    · omega
    · exact ⟨g, c, hv⟩
  obtain ⟨g', cap', rfl⟩ := form
  refine ⟨g', cap', w', hr, ⟨by simp [h1, x1], vs ++ us, h5, ?_, fun i hin => ?_⟩, fun W hW hE => hE.grown h6 fun k hk => Nat.le_trans hW (hown0.blk k hk)⟩
  · intro i k g1 n1 c1 n2 c2 hik hi hk
    have old : ∀ l n3 c3, l < n → vs[l]? = some (Value.slice (some ⟨g1, 0, none⟩) n3 c3) → g1 < w0.heap.size := fun l n3 c3 hl e => by
      obtain ⟨ai, ci, h5, h6⟩ := h4 l hl
      rw [h5] at e
      simp only [Option.some.injEq, Value.slice.injEq] at e
      exact (h6.base_of g1 e.1).2
    have new : ∀ l n3 c3, us[l]? = some (Value.slice (some ⟨g1, 0, none⟩) n3 c3) → w0.heap.size ≤ g1 := fun l n3 c3 e => by
      have hl : l < m := by
        rcases Nat.lt_or_ge l m with h | h
        · exact h
        · rw [List.getElem?_eq_none (by omega)] at e; cases e
      obtain ⟨ai, ci, h5, h6⟩ := x4 l hl
      rw [h5] at e
      simp only [Option.some.injEq, Value.slice.injEq] at e
      exact (h6.base_of g1 e.1).1
    by_cases li : i < n
    · rw [List.getElem?_append_left (by omega)] at hi
      by_cases lk : k < n
      · rw [List.getElem?_append_left (by omega)] at hk
        exact hap i k g1 _ _ _ _ hik hi hk
      · rw [List.getElem?_append_right (by omega)] at hk
        have := new _ _ _ hk; have := old i _ _ li hi; omega
    · rw [List.getElem?_append_right (by omega)] at hi
      by_cases lk : k < n
      · rw [List.getElem?_append_left (by omega)] at hk
        have := new _ _ _ hi; have := old k _ _ lk hk; omega
      · rw [List.getElem?_append_right (by omega)] at hk
        exact xap _ _ g1 _ _ _ _ (by omega) hi hk
  · by_cases hlt : i < n
    · obtain ⟨ai, ci, h7, h8⟩ := h4 i hlt
      have e : nthR (rows ++ rows2) i = nthR rows i := by simp [nthR, List.getElem?_append_left (show i < rows.length by omega)]
      rw [e]
      exact ⟨ai, ci, by rw [List.getElem?_append_left (by omega)]; exact h7, (h8.ext he).grown h6 (own_apart h2' (h8.ext he))⟩
    · obtain ⟨ai, ci, h7, h8⟩ := x4 (i - n) (by omega)
      have e : nthR (rows ++ rows2) i = nthR rows2 (i - n) := by
        unfold nthR
        rw [List.getD_eq_getElem?_getD, List.getD_eq_getElem?_getD, List.getElem?_append_right (by omega), h1]
      rw [e]
      exact ⟨ai, ci, by rw [List.getElem?_append_right (by omega), hvl]; exact h7, (h8.mono hB).grown h6 (own_apart h2' h8)⟩

theorem append_emptyN (w : World) (b t : Addr) (m c : Nat) (us : List Value) (ty : TypeId) (hul : us.length = m) (hn : ∀ j u, us[j]? = some u → w.cell? (t.add j) = some u) (hm : 0 < m) (hml : m ≤ 4194304) :
    (Builtin.append_ #[25, 25] ty #[.slice (some b) 0 0, .slice (some t) m c]).run Try.prog w =
    (Builtin.append_ #[25, 25] ty #[.slice none 0 0, .slice (some t) m c]).run Try.prog w := by
  obtain ⟨i0, hi, hz0, hz1, hz2⟩ := info_parts Try.infoR
  have e : Builtin.nextslicecap (0 + m) 0 * i0.bytes ≤ 281474976710656 := by
    rw [hz2]; unfold Builtin.nextslicecap; rw [if_pos (by omega)]; omega
  rw [run_append_grow (P := Try.prog) w 25 ty 22 i0 (.slice none 0 0) Try.underlying25 hi hz0 b 0 0 [] (by simp) (fun j u hj => by simp at hj) t m c us (by simp [hz1, hul]) hn (by omega) (by omega) e,
    run_append_nil (P := Try.prog) w 25 ty 22 i0 (.slice none 0 0) Try.underlying25 hi hz0 t m c us (by simp [hz1, hul]) hn (by omega) (by omega) (by rw [hz2]; omega)]
  simp

/-- The cells of owned rows. -/
theorem ownR_cells {B : Nat} {w : World} {g m c : Nat} {rows : List (List Int)} (h : OwnR B w (some ⟨g, 0, none⟩) m c rows) (hm : 0 < m) : ∃ us : List Value, us.length = m ∧ ∀ j u, us[j]? = some u → w.cell? ((⟨g, 0, none⟩ : Addr).add j) = some u := by
  obtain ⟨x1, us, x2, xap, x4⟩ := h
  have hul : us.length = m := by have := x2.1; omega
  refine ⟨us, hul, fun j u hj => ?_⟩
  have hjl : j < m := by
    rcases Nat.lt_or_ge j m with h | h
    · exact h
    · rw [List.getElem?_eq_none (by omega)] at hj; cases hj
  have hc : w.cell? ⟨g, j, none⟩ = some u := by
    rcases x2.2 with ⟨_, h3⟩ | ⟨g, c, cur, hv, hb, hh, hc1, hc2, hc3, hc4⟩
    · omega
    · simp only [Value.slice.injEq] at hv
      obtain ⟨hv1, _, _⟩ := hv
      cases hv1
      rw [← hc4, List.getElem?_take_of_lt (by omega), Array.getElem?_toList] at hj
      simp only [World.cell?, hh]
      simpa using hj
  by_cases hj0 : j = 0
  · subst hj0; simpa [Addr.add] using hc
  · simpa [Addr.add, hj0] using hc

theorem run_appendRowsW {B : Nat} {w0 w : World} {ra : Option Addr} {n cap : Nat} {rows : List (List Int)} {g2 m c2 : Nat} {rows2 : List (List Int)} (hown : OwnW B w0 ra n cap rows) (he : Ext w0 w) (hx : OwnR w0.heap.size w (some ⟨g2, 0, none⟩) m c2 rows2) (hm : 0 < m) (hn : n ≤ 4194304) (hml : m ≤ 4194304) (hB : B ≤ w0.heap.size) (ty : TypeId) :
    ∃ g' cap' w', (Builtin.append_ #[25, 25] ty #[.slice ra n cap, .slice (some ⟨g2, 0, none⟩) m c2]).run Try.prog w = .ok (.slice (some ⟨g', 0, none⟩) (n + m) cap') w' ∧
      OwnR B w' (some ⟨g', 0, none⟩) (n + m) cap' (rows ++ rows2) ∧ (∀ W : World, W.heap.size ≤ B → Ext W w → Ext W w') := by
  rcases hown with ⟨rfl, rfl, rfl, g0, rfl⟩ | hown
  · obtain ⟨us, hul, hcs⟩ := ownR_cells hx hm
    obtain ⟨g', cap', w', h1, h2, h4⟩ := run_appendRows (OwnR.nil B w0) he hx hm hn hml hB ty
    exact ⟨g', cap', w', by rw [append_emptyN w _ _ m c2 us ty hul hcs hm hml]; exact h1, h2, h4⟩
  · exact run_appendRows hown he hx hm hn hml hB ty

theorem wpList_appendRowsW {ops : Array Oper} {rest : List Oper} {o : Oper} {a : Act} {Q : Exit → Act → World → Prop} {w0 w : World} (hgd : o.guard = none) (s x : Operand)
    (ho : o.op = .call { callee := .builtin .append, args := #[s, x], argTypes := #[25, 25] })
    {B : Nat} {ra : Option Addr} {n cap : Nat} {rows : List (List Int)} {g2 m c2 : Nat} {rows2 : List (List Int)} (hs : a.eval s = .slice ra n cap) (hx : a.eval x = .slice (some ⟨g2, 0, none⟩) m c2)
    (hown : OwnW B w0 ra n cap rows) (he : Ext w0 w) (hxs : OwnR w0.heap.size w (some ⟨g2, 0, none⟩) m c2 rows2) (hm : 0 < m) (hn : n ≤ 4194304) (hml : m ≤ 4194304) (hB : B ≤ w0.heap.size)
    (h : ∀ g' cap' w', OwnR B w' (some ⟨g', 0, none⟩) (n + m) cap' (rows ++ rows2) → (∀ W : World, W.heap.size ≤ B → Ext W w → Ext W w') →
      wpList Try.prog ops Q rest (a.put o.dst (.slice (some ⟨g', 0, none⟩) (n + m) cap')) w') : wpList Try.prog ops Q (o :: rest) a w := by
  refine wpList_plain hgd fun K hK => ?_
  obtain ⟨g', cap', w', hr, h1, h3⟩ := run_appendRowsW hown he hxs hm hn hml hB o.type
  unfold Oper.wp execOp
  simp only [ho, resolve, invoke, builtin, Sem.run_bind, Sem.run_pure, Result.andThen_ok, List.map_toArray, List.map_cons, List.map_nil, hs, hx, hr]
  exact hK _ _ (h g' cap' w' h1 h3)

theorem run_pushR_at {B : Nat} {w0 w : World} {ra : Option Addr} {n cap : Nat} {rows : List (List Int)} {b : Option Addr} {m c : Nat} {xs : List Int} {g : Nat} (hown : OwnR B w0 ra n cap rows) (he : Ext w0 w) (hc : w.cell? ⟨g, 0, none⟩ = some (.slice b m c)) (hx : OwnC w0.heap.size w b m c xs) (hn : n ≤ 4194304) (hB : B ≤ w0.heap.size) (ty : TypeId) :
    ∃ g' cap' w', (Builtin.append_ #[25, 25] ty #[.slice ra n cap, .slice (some ⟨g, 0, none⟩) 1 1]).run Try.prog w = .ok (.slice (some ⟨g', 0, none⟩) (n + 1) cap') w' ∧
      OwnR B w' (some ⟨g', 0, none⟩) (n + 1) cap' (rows ++ [xs]) ∧ w.grownBy w' (Value.slice ra n cap).ownBlock ∧ (g' = w.heap.size ∨ (Value.slice ra n cap).ownBlock = some g') ∧ (∀ W : World, W.heap.size ≤ B → Ext W w → Ext W w') := by
  obtain ⟨i0, hi, hz0, hz1, hz2⟩ := info_parts Try.infoR
  have hown0 := hown
  obtain ⟨h1, vs, h2, hap, h4⟩ := hown
  have h2' := ownsRow_ext h2 he
  have hvl : vs.length = n := by have := h2.1; omega
  obtain ⟨v', w', hr, h5, h6, _, hbk⟩ := run_append_own_at (P := Try.prog) w B 25 ty 22 i0 (.slice none 0 0) 1 24 Try.underlying25 hi hz0 hz1 hz2 rfl (by decide) (.slice ra n cap) n vs h2'
    ⟨g, 0, none⟩ 1 1 [.slice b m c] rfl (fun j u hj => by
      cases j with
      | zero => simp only [List.getElem?_cons_zero, Option.some.injEq] at hj; subst hj; simpa [Addr.add] using hc
      | succ j => simp at hj) (fun u hu => by simp only [List.mem_singleton] at hu; subst hu; rfl) (by unfold maxLen; omega) (by omega) (Nat.le_trans hB he.size)
  have form : ∃ g cap, v' = .slice (some ⟨g, 0, none⟩) (n + 1) cap := by
    rcases h5.2 with ⟨_, h3⟩ | ⟨g, c, cur, hv, _⟩
    · omega
    · exact ⟨g, c, hv⟩
  obtain ⟨g', cap', rfl⟩ := form
  refine ⟨g', cap', w', hr, ⟨by simp [h1], vs ++ [.slice b m c], h5, ?_, fun i hin => ?_⟩, h6, hbk.elim (fun h => .inr h.symm) (fun h => .inl (Option.some.inj h)), fun W hW hE => hE.grown h6 fun k hk => Nat.le_trans hW (hown0.blk k hk)⟩
  · intro i k g1 n1 c1 n2 c2 hik hi hk
    have old : ∀ l n3 c3, l < n → vs[l]? = some (.slice (some ⟨g1, 0, none⟩) n3 c3) → g1 < w0.heap.size := fun l n3 c3 hl e => by
      obtain ⟨ai, ci, h5, h6⟩ := h4 l hl
      rw [h5] at e
      simp only [Option.some.injEq, Value.slice.injEq] at e
      exact (h6.base_of g1 e.1).2
    have new : (some (Value.slice b m c)) = some (.slice (some ⟨g1, 0, none⟩) n1 c1) ∨ (some (Value.slice b m c)) = some (.slice (some ⟨g1, 0, none⟩) n2 c2) → w0.heap.size ≤ g1 := fun e => by
      rcases e with e | e
      all_goals
        simp only [Option.some.injEq, Value.slice.injEq] at e
        exact (hx.base_of g1 e.1).1
    rcases Nat.lt_trichotomy i n with li | li | li
    · rw [List.getElem?_append_left (by omega)] at hi
      rcases Nat.lt_trichotomy k n with lk | lk | lk
      · rw [List.getElem?_append_left (by omega)] at hk
        exact hap i k g1 _ _ _ _ hik hi hk
      · rw [lk, ← hvl, List.getElem?_concat_length] at hk
        have := new (.inr hk); have := old i _ _ li hi; omega
      · rw [List.getElem?_eq_none (by simp; omega)] at hk; cases hk
    · rw [li, ← hvl, List.getElem?_concat_length] at hi
      rcases Nat.lt_trichotomy k n with lk | lk | lk
      · rw [List.getElem?_append_left (by omega)] at hk
        have := new (.inl hi); have := old k _ _ lk hk; omega
      · omega
      · rw [List.getElem?_eq_none (by simp; omega)] at hk; cases hk
    · rw [List.getElem?_eq_none (by simp; omega)] at hi; cases hi
  · by_cases hlt : i < n
    · obtain ⟨ai, ci, h7, h8⟩ := h4 i hlt
      have e : nthR (rows ++ [xs]) i = nthR rows i := by simp [nthR, List.getElem?_append_left (show i < rows.length by omega)]
      rw [e]
      exact ⟨ai, ci, by rw [List.getElem?_append_left (by omega)]; exact h7, (h8.ext he).grown h6 (own_apart h2' (h8.ext he))⟩
    · obtain rfl : i = n := by omega
      have e : nthR (rows ++ [xs]) i = xs := by simp [nthR, ← h1]
      rw [e, hx.1]
      exact ⟨b, c, by rw [← hvl]; simp, (hx.mono hB).grown h6 (own_apart h2' hx)⟩

theorem wpList_pushR_at {ops : Array Oper} {rest : List Oper} {o : Oper} {a : Act} {Q : Exit → Act → World → Prop} {w0 w : World} (hgd : o.guard = none) (s x : Operand)
    (ho : o.op = .call { callee := .builtin .append, args := #[s, x], argTypes := #[25, 25] })
    {B : Nat} {ra : Option Addr} {n cap : Nat} {rows : List (List Int)} {b : Option Addr} {m c : Nat} {xs : List Int} {g : Nat} (hs : a.eval s = .slice ra n cap) (hx : a.eval x = .slice (some ⟨g, 0, none⟩) 1 1)
    (hown : OwnR B w0 ra n cap rows) (he : Ext w0 w) (hxs : OwnC w0.heap.size w b m c xs) (hc : w.cell? ⟨g, 0, none⟩ = some (.slice b m c)) (hn : n ≤ 4194304) (hB : B ≤ w0.heap.size)
    (h : ∀ g' cap' w', OwnR B w' (some ⟨g', 0, none⟩) (n + 1) cap' (rows ++ [xs]) → w.grownBy w' (Value.slice ra n cap).ownBlock → (g' = w.heap.size ∨ (Value.slice ra n cap).ownBlock = some g') → (∀ W : World, W.heap.size ≤ B → Ext W w → Ext W w') →
      wpList Try.prog ops Q rest (a.put o.dst (.slice (some ⟨g', 0, none⟩) (n + 1) cap')) w') : wpList Try.prog ops Q (o :: rest) a w := by
  refine wpList_plain hgd fun K hK => ?_
  obtain ⟨g', cap', w', hr, h1, h2, h2b, h3⟩ := run_pushR_at hown he hc hxs hn hB o.type
  unfold Oper.wp execOp
  simp only [ho, resolve, invoke, builtin, Sem.run_bind, Sem.run_pure, Result.andThen_ok, List.map_toArray, List.map_cons, List.map_nil, hs, hx, hr]
  exact hK _ _ (h g' cap' w' h1 h2 h2b h3)

/-- Owned rows stay, where another list of rows is grown. -/
theorem OwnR.grown2 {B B2 : Nat} {w w' : World} {a ra : Option Addr} {n cap m c : Nat} {rows rows2 : List (List Int)} (h : OwnR B w a n cap rows) (h2 : OwnR B2 w ra m c rows2) (hg : w.grownBy w' (Value.slice ra m c).ownBlock) (hne : ∀ g, a = some ⟨g, 0, none⟩ → (Value.slice ra m c).ownBlock ≠ some g) : OwnR B w' a n cap rows := by
  have hlt := h.base_of
  obtain ⟨h1, vs, hv, hap, h4⟩ := h
  obtain ⟨_, us, hu, _⟩ := h2
  refine ⟨h1, vs, ⟨hv.1, ?_⟩, hap, fun i hi => ?_⟩
  · rcases hv.2 with h3 | ⟨g, c, cur, hv, hb, hh, h4⟩
    · exact .inl h3
    · refine .inr ⟨g, c, cur, hv, hb, ?_, h4⟩
      simp only [Value.slice.injEq] at hv
      rw [hg.block g (hlt g hv.1).2 (fun e => hne g hv.1 e.symm)]; exact hh
  · obtain ⟨ai, ci, h5, h6⟩ := h4 i hi
    exact ⟨ai, ci, h5, h6.grown hg (own_apart hu h6)⟩

/-! ### Sums of matrices -/
def sumM (p : Int) (A B : List (List Int)) (k : Int) (m n : Nat) : List (List Int) := (List.range n).map fun i => plusL p (nthR A i) (nthR B i) k m
theorem sumM_succ (p : Int) (A B : List (List Int)) (k : Int) (m n : Nat) : sumM p A B k m (n + 1) = sumM p A B k m n ++ [plusL p (nthR A n) (nthR B n) k m] := by simp [sumM, List.range_succ]
theorem sumM_len (p : Int) (A B : List (List Int)) (k : Int) (m n : Nat) : (sumM p A B k m n).length = n := by simp [sumM]
theorem sumM_nth {p : Int} {A B : List (List Int)} {k : Int} {m n i : Nat} (h : i < n) : nthR (sumM p A B k m n) i = plusL p (nthR A i) (nthR B i) k m := by
  unfold sumM; rw [nthR_map (by simpa using h)]; simp
theorem sumM_good {p : Int} {A B : List (List Int)} {k : Int} {m n : Nat} (hp : 1 ≤ p) : RowsG p m (sumM p A B k m n) := fun i hi => by
  rw [sumM_len] at hi
  rw [sumM_nth hi]
  exact plus_good hp

end Go.Proofs.Ytnabpmafcflljaa

/-
  Sums of matrices in the program.
  No condition.
-/
namespace Go.Proofs.Ytnabpmafcflljaa
set_option maxRecDepth 100000
open Go.RowKit

set_option maxHeartbeats 4000000 in
set_option maxRecDepth 100000 in
theorem c_sum (p : Int) (aa ab : Option Addr) (m n ca cb : Nat) (A B : List (List Int)) (kk : Int) (w : World) (hp1 : 3 ≤ p) (hp2 : p ≤ 1000) (hkk : -1000 ≤ kk ∧ kk ≤ 1000) (hm : m ≤ 4194303) (hn : n ≤ 4194303) (hA : RdR w aa n A) (hB : RdR w ab n B) (hGA : RowsG p m A) (hGB : RowsG p m B) :
    Calls Try.prog 47 #[.int .i64 p, .slice aa n ca, .slice ab n cb, .int .i64 kk] w fun e w' => ∃ g rc, e = .returned (.slice (some ⟨g, 0, none⟩) n rc) ∧ OwnR w.heap.size w' (some ⟨g, 0, none⟩) n rc (sumM p A B kk m n) ∧ Ext w w' := by
  have HA := Lib.hid hA
  have HB := Lib.hid hB
  have HGA := Lib.hid hGA
  have HGB := Lib.hid hGB
  clear hA hB hGA hGB
  go_enter Try.func47, Try.ntmps47
  go_wp2_with (fail)
  go_loopw [9, 14] (fun s i wr => ∃ (k g rc : Nat), k ≤ n ∧ i = .int .i64 k ∧ s = .slice (some ⟨g, 0, none⟩) k rc ∧ OwnR w.heap.size wr (some ⟨g, 0, none⟩) k rc (sumM p A B kk m k) ∧ Ext w wr) (fun _ i _ => n - (intOf i).toNat)
  case atStart => exact ⟨0, _, _, Nat.zero_le _, rfl, rfl, ownR_empty w, ext_alloc _ _⟩
  case round =>
    obtain ⟨k, g, rc, hk, rfl, rfl, hown, hext⟩ := hrel
    have HOwn := Lib.hid hown
    have HExt := Lib.hid hext
    clear hown hext
    by_cases hlt : k < n
    · have hltA : k < A.length := by have := HA.out.1; omega
      have hltB : k < B.length := by have := HB.out.1; omega
      obtain ⟨ba, oa, ai, ci, hab, hc, hri⟩ := HA.out.2 k hlt
      cases hab
      obtain ⟨bb, ob, bi, di, hbb, hd, hrj⟩ := HB.out.2 k hlt
      cases hbb
      rw [(HGA.out k hltA).1] at hc hri
      rw [(HGB.out k hltB).1] at hd hrj
      have HCa := Lib.hid ((HExt.out.trans (ext_drew wr)).cell hc)
      have HCb := Lib.hid ((HExt.out.trans (ext_drew wr)).cell hd)
      have HRa := Lib.hid (hri.ext (HExt.out.trans (ext_drew wr)))
      have HRb := Lib.hid (hrj.ext (HExt.out.trans (ext_drew wr)))
      clear hc hri hd hrj
      go_wp2_with (fail)
      refine wp_region_lex_tail1 12 [(11, .ownS wr.heap.size m (plusL p (nthR A k) (nthR B k) kk m))] (.slice (some ⟨g, 0, none⟩) k rc) (by kernel_rfl) (by kernel_rfl) rfl rfl (fun w1 => by go_simp) ?_
      simp only [List.take, List.drop]
      simp only [Act.put, List.setIfInBounds_toArray, List.set_cons_zero, List.set_cons_succ]
      (refine LexW.pure (v := ?_) rfl rfl (fun w1 he => ?_) ?_; rotate_left; ( have e1 := he.cell HCa.out; have e2 := he.cell HCb.out; go_simp; rfl); simp only [Act.put, List.setIfInBounds_toArray, List.set_cons_zero, List.set_cons_succ])
      (refine LexW.pure (v := ?_) rfl rfl (fun w1 he => ?_) ?_; rotate_left; ( have e1 := he.cell HCa.out; have e2 := he.cell HCb.out; go_simp; rfl); simp only [Act.put, List.setIfInBounds_toArray, List.set_cons_zero, List.set_cons_succ])
      (refine LexW.pure (v := ?_) rfl rfl (fun w1 he => ?_) ?_; rotate_left; ( have e1 := he.cell HCa.out; have e2 := he.cell HCb.out; go_simp; rfl); simp only [Act.put, List.setIfInBounds_toArray, List.set_cons_zero, List.set_cons_succ])
      (refine LexW.pure (v := ?_) rfl rfl (fun w1 he => ?_) ?_; rotate_left; ( have e1 := he.cell HCa.out; have e2 := he.cell HCb.out; go_simp; rfl); simp only [Act.put, List.setIfInBounds_toArray, List.set_cons_zero, List.set_cons_succ])
      (refine LexW.pure (v := ?_) rfl rfl (fun w1 he => ?_) ?_; rotate_left; ( have e1 := he.cell HCa.out; have e2 := he.cell HCb.out; go_simp; rfl); simp only [Act.put, List.setIfInBounds_toArray, List.set_cons_zero, List.set_cons_succ])
      (refine LexW.pure (v := ?_) rfl rfl (fun w1 he => ?_) ?_; rotate_left; ( have e1 := he.cell HCa.out; have e2 := he.cell HCb.out; go_simp; rfl); simp only [Act.put, List.setIfInBounds_toArray, List.set_cons_zero, List.set_cons_succ])
      (refine LexW.pure (v := ?_) rfl rfl (fun w1 he => ?_) ?_; rotate_left; ( have e1 := he.cell HCa.out; have e2 := he.cell HCb.out; go_simp; rfl); simp only [Act.put, List.setIfInBounds_toArray, List.set_cons_zero, List.set_cons_succ])
      (refine LexW.pure (v := ?_) rfl rfl (fun w1 he => ?_) ?_; rotate_left; ( have e1 := he.cell HCa.out; have e2 := he.cell HCb.out; go_simp; rfl); simp only [Act.put, List.setIfInBounds_toArray, List.set_cons_zero, List.set_cons_succ])
      (refine LexW.pure (v := ?_) rfl rfl (fun w1 he => ?_) ?_; rotate_left; ( have e1 := he.cell HCa.out; have e2 := he.cell HCb.out; go_simp; rfl); simp only [Act.put, List.setIfInBounds_toArray, List.set_cons_zero, List.set_cons_succ])
      (refine LexW.pure (v := ?_) rfl rfl (fun w1 he => ?_) ?_; rotate_left; ( have e1 := he.cell HCa.out; have e2 := he.cell HCb.out; go_simp; rfl); simp only [Act.put, List.setIfInBounds_toArray, List.set_cons_zero, List.set_cons_succ])
      (refine LexW.callR (f := ?_) (args := ?_) rfl rfl (fun w1 => ?_) (fun w1 he hdep => ?_) (fun v hv => ?_); rotate_left 2; (go_simp; refine ⟨?_, ?_⟩ <;> rfl); ( refine (c_plus p _ _ m _ _ (nthR A k) (nthR B k) kk w1 hp1 hp2 hkk (by omega) (HRa.out.ext he) (HRb.out.ext he) (HGA.out k hltA) (HGB.out k hltB)).mono ?_; rintro e w2 ⟨g, rc, rfl, ho, g2⟩; exact ⟨_, rfl, g2, g, rc, rfl, ho.mono (Nat.le_trans (ext_drew wr).size he.size)⟩); simp only [Act.put, List.setIfInBounds_toArray, List.set_cons_zero, List.set_cons_succ])
      obtain ⟨_, g28, c28, rfl, _⟩ := hv
      refine LexW.nil (fun w3 he hkn => ?_)
      obtain ⟨_, _, q28, r28⟩ : (SPred.ownS wr.heap.size m (plusL p (nthR A k) (nthR B k) kk m)).holds (.slice (some ⟨g28, 0, none⟩) m c28) w3 := hkn (11, _) (by simp)
      cases q28
      have R28 := Lib.hid r28
      have HE := Lib.hid ((ext_drew wr).trans he)
      clear he hkn r28
      go_wp2_with (at_builtin; refine wpList_pushR (w0 := wr) rfl (.tmp 17) (.tmp 29) rfl rfl rfl HOwn.out (HE.out.trans (ext_alloc _ _)) (R28.out.ext (ext_alloc _ _)) ?hc (by omega) HExt.out.size ?hk)
      case hc => exact cell_new _ _ rfl _ _
      case hk =>
        intro g5 c5 w5 ho5 hg5 he5
        have HO5 := Lib.hid ho5
        have HE5 := Lib.hid (he5 w (Nat.le_refl _) ((HExt.out.trans HE.out).alloc _))
        clear ho5 hg5 he5
        go_wp2_with (fail)
        refine strictQ_normal ?_
        go_wp2_with (fail)
        go_roundw
        case rel => exact ⟨k + 1, g5, c5, by omega, by go_num, rfl, by rw [sumM_succ]; exact HO5.out, HE5.out⟩
        case measure => simp [intOf]; omega
    · obtain rfl : n = k := by omega
      go_wp2_with (fail)
      go_ret
      exact ⟨_, _, rfl, HOwn.out, HExt.out⟩

end Go.Proofs.Ytnabpmafcflljaa
