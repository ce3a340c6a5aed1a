/-
  Contracts and plain laws, part 6: IsoP, Brk, DblL, PureS.
  No condition.
-/
import Derived.Test.YthflmmgolegonaaPart5
import Derived.Test.YthflmmgolegonaaPart3
import Derived.Test.YthflmmgolegonaaPart4
import Derived.Test.YthflmmgolegonaaPart2
import Derived.Test.YthflmmgolegonaaPart1
/-
  Isometries of a space and inverses of matrices, in plain numbers.
  No condition. No program in sight.
-/
namespace Go.Proofs.Ythflmmgolegonaa
set_option maxRecDepth 100000
open Go.RowKit

theorem pairL_comm {p : Int} {qs v u : List Int} {n : Nat} : pairL p qs v u n = pairL p qs u v n := by
  unfold pairL dotL
  have h : ∀ k, k ≤ n → dotS (wtL p qs v n) u k % p = dotS (wtL p qs u n) v k % p := by
    intro k
    induction k with
    | zero => intro _; rfl
    | succ k ih =>
      intro hk
      simp only [dotS]
      rw [Int.add_emod, ih (by omega), wtL_nth (by omega), wtL_nth (by omega)]
      conv => rhs; rw [Int.add_emod]
      congr 2
      unfold wtN
      rw [Int.mul_emod, Int.emod_emod, ← Int.mul_emod]
      conv => rhs; rw [Int.mul_emod, Int.emod_emod, ← Int.mul_emod]
      congr 1
      rw [Int.mul_assoc, Int.mul_comm (nth v k), Int.mul_assoc, Int.mul_comm (nth u k), Int.mul_comm (nth u k), Int.mul_assoc, Int.mul_comm (nth v k), ← Int.mul_assoc]
  exact h n (Nat.le_refl _)

/-- The product that two columns must have. -/
def wantN (qs : List Int) (i k : Nat) : Int := if i = k then nth qs i else 0
def isoAt (p : Int) (qs : List Int) (cols : List (List Int)) (d i k : Nat) : Prop := pairL p qs (nthR cols i) (nthR cols k) d = wantN qs i k
instance (p : Int) (qs : List Int) (cols : List (List Int)) (d i k : Nat) : Decidable (isoAt p qs cols d i k) := inferInstanceAs (Decidable (_ = _))
def isoB (p : Int) (qs : List Int) (rows : List (List Int)) (d : Nat) : Bool :=
  matB p rows && decide (rows.length = d) && decide ((nthR rows 0).length = d) && decide (detL p d rows ≠ 0) && decide (∀ i, i < d → ∀ k, k < d → isoAt p qs (turnL rows d d) d i k)
theorem isoAt_comm {p : Int} {qs : List Int} {cols : List (List Int)} {d i k : Nat} : isoAt p qs cols d i k ↔ isoAt p qs cols d k i := by
  unfold isoAt wantN
  rw [pairL_comm]
  by_cases h : i = k
  · subst h; exact Iff.rfl
  · rw [if_neg h, if_neg (Ne.symm h)]
theorem isoB_yes {p : Int} {qs : List Int} {rows : List (List Int)} {d : Nat} (hm : matB p rows = true) (hn : rows.length = d) (h0 : (nthR rows 0).length = d) (hd : detL p d rows ≠ 0) (h : ∀ i, i < d → ∀ k, k < d → isoAt p qs (turnL rows d d) d i k) : isoB p qs rows d = true := by
  unfold isoB
  rw [hm, decide_eq_true hn, decide_eq_true h0, decide_eq_true hd, decide_eq_true h]; rfl
theorem isoB_yes2 {p : Int} {qs : List Int} {rows : List (List Int)} {d : Nat} (hm : matB p rows = true) (hn : rows.length = d) (h0 : (nthR rows 0).length = d) (hd : detL p d rows ≠ 0) (h : ∀ i, i < d → ∀ k, k < i + 1 → isoAt p qs (turnL rows d d) d i k) : isoB p qs rows d = true := by
  refine isoB_yes hm hn h0 hd fun i hi k hk => ?_
  by_cases hki : k < i + 1
  · exact h i hi k hki
  · exact isoAt_comm.1 (h k hk i (by omega))
theorem isoB_mat {p : Int} {qs : List Int} {rows : List (List Int)} {d : Nat} (h : matB p rows = false) : isoB p qs rows d = false := by unfold isoB; rw [h]; rfl
theorem isoB_len {p : Int} {qs : List Int} {rows : List (List Int)} {d : Nat} (h : rows.length ≠ d) : isoB p qs rows d = false := by unfold isoB; rw [decide_eq_false h]; simp
theorem isoB_wid {p : Int} {qs : List Int} {rows : List (List Int)} {d : Nat} (h : (nthR rows 0).length ≠ d) : isoB p qs rows d = false := by unfold isoB; rw [decide_eq_false h]; simp
theorem isoB_det {p : Int} {qs : List Int} {rows : List (List Int)} {d : Nat} (h : detL p d rows = 0) : isoB p qs rows d = false := by unfold isoB; rw [decide_eq_false (p := detL p d rows ≠ 0) (by simp [h])]; simp
theorem isoB_at {p : Int} {qs : List Int} {rows : List (List Int)} {d i k : Nat} (hi : i < d) (hk : k < d) (h : ¬ isoAt p qs (turnL rows d d) d i k) : isoB p qs rows d = false := by
  unfold isoB; rw [decide_eq_false (p := ∀ i, i < d → ∀ k, k < d → isoAt p qs (turnL rows d d) d i k) (fun ha => h (ha i hi k hk))]; simp
theorem isoB_of {p : Int} {qs : List Int} {rows : List (List Int)} {d : Nat} (h : isoB p qs rows d = true) : matB p rows = true ∧ rows.length = d ∧ (nthR rows 0).length = d ∧ detL p d rows ≠ 0 ∧ ∀ i, i < d → ∀ k, k < d → isoAt p qs (turnL rows d d) d i k := by
  unfold isoB at h
  simp only [Bool.and_eq_true, decide_eq_true_eq] at h
  obtain ⟨⟨⟨⟨h1, h2⟩, h3⟩, h4⟩, h5⟩ := h
  exact ⟨h1, h2, h3, h4, h5⟩
/-- A matrix all of whose rows have the length of the first one. -/
theorem mat_good {p : Int} {rows : List (List Int)} {d : Nat} (h : matB p rows = true) (h0 : (nthR rows 0).length = d) : RowsG p d rows := by
  obtain ⟨h1, _, m, _, _, hg⟩ := matB_of h
  have : d = m := by rw [← h0]; exact (hg 0 h1).1
  subst this
  exact hg
theorem frame_good {p : Int} {rows : List (List Int)} {d : Nat} (hm : matB p rows = true) (_hn : rows.length = d) (h0 : (nthR rows 0).length = d) : ∀ i, i < d → (nthR rows i).length = d := fun i hi => (mat_good hm h0 i (by omega)).1

/-! ### Inverses -/
def wideM (A : List (List Int)) (n k : Nat) : List (List Int) := (List.range k).map fun i => nthR A i ++ bladeL n i
theorem wideM_succ (A : List (List Int)) (n k : Nat) : wideM A n (k + 1) = wideM A n k ++ [nthR A k ++ bladeL n k] := by simp [wideM, List.range_succ]
theorem wideM_len (A : List (List Int)) (n k : Nat) : (wideM A n k).length = k := by simp [wideM]
theorem wideM_nth {A : List (List Int)} {n k i : Nat} (h : i < k) : nthR (wideM A n k) i = nthR A i ++ bladeL n i := by
  unfold wideM; rw [nthR_map (by simpa using h)]; simp
theorem good_append {p : Int} {n m : Nat} {x y : List Int} (hx : Good p n x) (hy : Good p m y) : Good p (n + m) (x ++ y) := by
  refine ⟨by rw [List.length_append, hx.1, hy.1], fun i hi => ?_⟩
  by_cases h : i < n
  · rw [nth_append_left (by rw [hx.1]; exact h)]; exact hx.2 i h
  · have : nth (x ++ y) i = nth y (i - n) := by
      unfold nth
      rw [List.getD_eq_getElem?_getD, List.getD_eq_getElem?_getD, List.getElem?_append_right (by rw [hx.1]; omega), hx.1]
    rw [this]; exact hy.2 _ (by omega)
theorem wideM_good {p : Int} {A : List (List Int)} {n : Nat} (hp : 3 ≤ p) (hg : RowsG p n A) (hn : A.length = n) : RowsG p (n + n) (wideM A n n) := fun i hi => by
  rw [wideM_len] at hi
  rw [wideM_nth hi]
  exact good_append (hg i (by omega)) (blade_good hp)
theorem clr_cut {p : Int} {n m k d : Nat} {U V : List (List Int)} (hnm : n ≤ m) (hk : k < n) (hl : U.length = V.length) (h : ∀ j t, t < n → nth (nthR U j) t = nth (nthR V j) t) : ∀ j t, t < n → nth (nthR (clrS p k m d U U.length) j) t = nth (nthR (clrS p k n d V V.length) j) t := by
  intro j t ht
  rw [clrS_nth _ (Nat.le_refl _), clrS_nth _ (Nat.le_refl _), hl]
  split
  · rw [plusL_nth (by omega), plusL_nth ht, plusN, plusN, h j t ht, h d t ht, h j k hk]
  · exact h j t ht
theorem up_cut {p : Int} {n m k d i : Nat} {R S : List (List Int)} (hnm : n ≤ m) (hk : k < n) (hl : R.length = S.length) (hd : d < R.length) (hi : i < R.length) (h : ∀ j t, t < n → nth (nthR R j) t = nth (nthR S j) t) : ∀ j t, t < n → nth (nthR (upG p m R d k i) j) t = nth (nthR (upG p n S d k i) j) t := by
  intro j t ht
  rw [upG_nth hd hi, upG_nth (by omega) (by omega)]
  split
  · rw [scaleL_nth (by omega), scaleL_nth ht, scaleN, scaleN, h i t ht, h i k hk]
  · split
    · exact h d t ht
    · exact h j t ht
theorem piv_cut {n k d : Nat} {R S : List (List Int)} (hk : k < n) (hl : R.length = S.length) (hd : d ≤ R.length) (h : ∀ j t, t < n → nth (nthR R j) t = nth (nthR S j) t) : pivG R k d = pivG S k d := by
  obtain ⟨h1, h2, h3, h4⟩ := pivG_spec S k d (by omega)
  refine pivG_eq h1 (by omega) (fun j hj hj2 => by rw [h j k hk]; exact h3 j hj hj2) ?_
  rcases h4 with h4 | h4
  · exact .inl (by omega)
  · exact .inr (by rw [h _ k hk]; exact h4)
/-- Elimination with wide rows does at the first places what elimination with these places alone does. -/
theorem gauss_cut {p : Int} {n m : Nat} {A W : List (List Int)} (hp : primeB p = true) (hgA : RowsG p n A) (hgW : RowsG p m W) (hnm : n ≤ m) (hl : W.length = A.length) (h : ∀ j t, t < n → nth (nthR W j) t = nth (nthR A j) t) :
    ∀ k, k ≤ n → (gaussS p m W k).2 = (gaussS p n A k).2 ∧ ∀ j t, t < n → nth (nthR (gaussS p m W k).1 j) t = nth (nthR (gaussS p n A k).1 j) t
  | 0, _ => ⟨rfl, h⟩
  | k + 1, hk => by
    obtain ⟨e1, e2⟩ := gauss_cut hp hgA hgW hnm hl h k (by omega)
    obtain ⟨_, cW, rW⟩ := gaussS_red hp hgW k (by omega)
    have lW := gaussS_len (p := p) (m := m) (rows := W) k
    have lA := gaussS_len (p := p) (m := n) (rows := A) k
    have hd := rW.dle
    have hpv := piv_cut (n := n) (k := k) (d := (gaussS p m W k).2) (by omega) (show (gaussS p m W k).1.length = (gaussS p n A k).1.length by omega) hd e2
    show (stepG p m (gaussS p m W k) k).2 = (stepG p n (gaussS p n A k) k).2 ∧ ∀ j t, t < n → nth (nthR (stepG p m (gaussS p m W k) k).1 j) t = nth (nthR (stepG p n (gaussS p n A k) k).1 j) t
    obtain ⟨p1, p2, _, _⟩ := pivG_spec (gaussS p m W k).1 k _ hd
    by_cases hno : pivG (gaussS p m W k).1 k (gaussS p m W k).2 = (gaussS p m W k).1.length
    · rw [stepG_no hno, stepG_no (by rw [← e1, ← hpv, hno]; omega)]
      exact ⟨e1, e2⟩
    · have hi : pivG (gaussS p m W k).1 k (gaussS p m W k).2 < (gaussS p m W k).1.length := by omega
      rw [stepG_yes rfl hi, stepG_yes (s := gaussS p n A k) (k := k) (i := pivG (gaussS p m W k).1 k (gaussS p m W k).2) (by rw [← e1]; exact hpv.symm) (by omega)]
      refine ⟨by show _ + 1 = _ + 1; rw [e1], ?_⟩
      have hu := up_cut (p := p) (n := n) (m := m) (k := k) (d := (gaussS p m W k).2) (i := pivG (gaussS p m W k).1 k (gaussS p m W k).2) hnm (by omega) (show (gaussS p m W k).1.length = (gaussS p n A k).1.length by omega) (by omega) hi e2
      have h9 := clr_cut (p := p) (n := n) (m := m) (k := k) (d := (gaussS p m W k).2) hnm (by omega) (by rw [upG_len, upG_len]; omega) hu
      intro j t ht
      have h8 := h9 j t ht
      rw [upG_len, upG_len] at h8
      rw [← e1]
      exact h8
/-- The rows of the reduced basis of the wide rows. -/
def invW (p : Int) (n : Nat) (A : List (List Int)) : List (List Int) := basisL p (n + n) (wideM A n n)
theorem invW_cut {p : Int} {n : Nat} {A : List (List Int)} (hg : RowsG p n A) (hn : A.length = n) : ∀ j t, t < n → nth (nthR (wideM A n n) j) t = nth (nthR A j) t := fun j t ht => by
  by_cases hj : j < n
  · rw [wideM_nth hj, nth_append_left (by rw [(hg j (by omega)).1]; exact ht)]
  · have e1 : nthR (wideM A n n) j = [] := by unfold nthR; rw [List.getD_eq_getElem?_getD, List.getElem?_eq_none (by rw [wideM_len]; omega)]; rfl
    have e2 : nthR A j = [] := by unfold nthR; rw [List.getD_eq_getElem?_getD, List.getElem?_eq_none (by omega)]; rfl
    rw [e1, e2]
theorem invW_good {p : Int} {n : Nat} {A : List (List Int)} (hp : primeB p = true) (hg : RowsG p n A) (hn : A.length = n) : RowsG p (n + n) (invW p n A) := by
  have hpb := prime_bd hp
  obtain ⟨c, hb⟩ := basis_red hp (wideM_good (by omega) hg hn)
  exact hb.good
theorem invW_yes {p : Int} {n : Nat} {A : List (List Int)} (hp : primeB p = true) (hg : RowsG p n A) (hn : A.length = n) (hd : detL p n A ≠ 0) (h0 : 0 < n) : (invW p n A).length = n ∧ leadN (nthR (invW p n A) (n - 1)) < n := by
  have hpb := prime_bd hp
  have hgW := wideM_good (p := p) (by omega) hg hn
  have hr := (det_rank hp hg hn).1 hd
  unfold rankL at hr
  obtain ⟨e1, _⟩ := gauss_cut hp hg hgW (by omega) (by rw [wideM_len, hn]) (invW_cut hg hn) n (Nat.le_refl _)
  rw [hr] at e1
  obtain ⟨_, c, hred⟩ := gaussS_red hp hgW n (by omega)
  have hst := gaussS_stop (p := p) (m := n + n) (rows := wideM A n n) (k := n) (by rw [e1, wideM_len]) n
  have hgl := gaussS_len (p := p) (m := n + n) (rows := wideM A n n) n
  rw [wideM_len] at hgl
  have hbe : invW p n A = (gaussS p (n + n) (wideM A n n) n).1 := by
    unfold invW basisL
    rw [hst, e1, List.take_of_length_le (by omega)]
  rw [hbe]
  refine ⟨hgl, ?_⟩
  have hlt := hred.clt (n - 1) (by omega)
  have h1 := hred.one (n - 1) (by omega) (n - 1) (by omega)
  rw [if_pos rfl] at h1
  have hgn := (gaussS_red hp hgW n (by omega)).1 (n - 1) (by omega)
  rw [leadN_eq (k := c (n - 1)) (by rw [hgn.1]; omega) (hred.lead _ (by omega)) (.inr (by rw [h1]; decide))]
  exact hlt
theorem mono_id {n : Nat} {c : Nat → Nat} (hm : ∀ i j, i < j → j < n → c i < c j) : ∀ i, i < n → i ≤ c i
  | 0, _ => Nat.zero_le _
  | i + 1, h => by
    have h1 := mono_id hm i (by omega)
    have h2 := hm i (i + 1) (by omega) h
    omega
theorem mono_up {n : Nat} {c : Nat → Nat} (hm : ∀ i j, i < j → j < n → c i < c j) (h0 : 0 < n) : ∀ j, j < n → c (n - 1 - j) + j ≤ c (n - 1)
  | 0, _ => by simp
  | j + 1, h => by
    have h1 := mono_up hm h0 j (by omega)
    have h2 := hm (n - 1 - (j + 1)) (n - 1 - j) (by omega) (by omega)
    omega
theorem dotN_append {p : Int} {n m : Nat} {x y z : List Int} (hx : x.length = n) (hz : z.length = n) : dotN (n + m) (x ++ y) (z ++ List.replicate m 0) % p = dotN n x z % p := by
  unfold dotN
  have h : ∀ k, k ≤ m → sumN (n + k) (fun t => nth (x ++ y) t * nth (z ++ List.replicate m 0) t) = sumN n (fun t => nth x t * nth z t) := by
    intro k
    induction k with
    | zero =>
      intro _
      exact sumN_congr fun t ht => by rw [nth_append_left (by omega), nth_append_left (by omega)]
    | succ k ih =>
      intro hk
      show sumN (n + k) _ + nth (x ++ y) (n + k) * nth (z ++ List.replicate m 0) (n + k) = _
      rw [ih (by omega)]
      have : nth (z ++ List.replicate m (0 : Int)) (n + k) = 0 := by
        unfold nth
        rw [List.getD_eq_getElem?_getD, List.getElem?_append_right (by omega), List.getElem?_replicate]
        split <;> rfl
      rw [this, Int.mul_zero, Int.add_zero]
  rw [h m (Nat.le_refl _)]
theorem invW_no {p : Int} {n : Nat} {A : List (List Int)} (hp : primeB p = true) (hg : RowsG p n A) (hn : A.length = n) (hd : detL p n A = 0) (hl : (invW p n A).length = n) : n ≤ leadN (nthR (invW p n A) (n - 1)) := by
  have hpb := prime_bd hp
  have hgW := wideM_good (p := p) (by omega) hg hn
  have hr : rankL p n A < n := by
    have h1 := gauss_rank hp hg
    have h2 : rankL p n A ≠ n := fun h => (det_rank hp hg hn).2 h hd
    have : rankL p n A ≤ n := h1.2
    omega
  obtain ⟨z, f, hz, hk, hf, hzf⟩ := ker_exists hp hg hr
  obtain ⟨c, hb⟩ := basis_red (m := n + n) hp hgW
  have hb' : Basis p (n + n) (invW p n A) c := hb
  rw [hb'.leadN (by omega)]
  refine Nat.le_of_not_lt fun hc => ?_
  have hid : ∀ i, i < n → c i = i := fun i hi => by
    have h1 := mono_id (n := n) (fun i j a b => hb'.mono i j a (by omega)) i hi
    have h2 := mono_up (n := n) (fun i j a b => hb'.mono i j a (by omega)) (by omega) (n - 1 - i) (by omega)
    rw [show n - 1 - (n - 1 - i) = i by omega] at h2
    omega
  have hkW : Kill p (n + n) (wideM A n n) (z ++ List.replicate n 0) := fun i hi => by
    rw [wideM_len] at hi
    rw [wideM_nth hi, dotN_append (hg i (by omega)).1 hz.1]
    exact hk i (by omega)
  have hkB := (kill_basis hp hgW).2 hkW
  have h1 := hkB f (by show f < (invW p n A).length; omega)
  have hsum : dotN (n + n) (nthR (invW p n A) f) (z ++ List.replicate n 0) = nth z f := by
    unfold dotN
    have hs : ∀ k, k ≤ n + n → sumN k (fun t => nth (nthR (invW p n A) f) t * nth (z ++ List.replicate n 0) t) = if f < k then nth z f else 0 := by
      intro k
      induction k with
      | zero => intro _; rfl
      | succ k ih =>
        intro hk
        show sumN k _ + nth (nthR (invW p n A) f) k * nth (z ++ List.replicate n 0) k = _
        rw [ih (by omega)]
        by_cases hkn : k < n
        · have ho := hb'.one k (by omega) f (by omega)
          rw [hid k hkn] at ho
          rw [ho, nth_append_left (by rw [hz.1]; exact hkn)]
          by_cases hfk : f = k
          · subst hfk; rw [if_neg (by omega), if_pos rfl, if_pos (by omega)]; omega
          · rw [if_neg hfk, Int.zero_mul, Int.add_zero]
            by_cases hlt : f < k
            · rw [if_pos hlt, if_pos (by omega)]
            · rw [if_neg hlt, if_neg (by omega)]
        · have e0 : nth (z ++ List.replicate n (0 : Int)) k = 0 := by
            unfold nth
            rw [List.getD_eq_getElem?_getD, List.getElem?_append_right (by rw [hz.1]; omega), List.getElem?_replicate]
            split <;> rfl
          rw [e0, Int.mul_zero, Int.add_zero, if_pos (by omega), if_pos (by omega)]
    rw [hs (n + n) (Nat.le_refl _), if_pos (by omega)]
  rw [show nthR (basisL p (n + n) (wideM A n n)) f = nthR (invW p n A) f from rfl, hsum, hzf, Int.emod_eq_of_lt (by omega) (by omega)] at h1
  cases h1
/-- The inverse: the wide rows' last halves. -/
def cutM (rows : List (List Int)) (n k : Nat) : List (List Int) := (List.range k).map fun i => (nthR rows i).drop n
theorem cutM_succ (rows : List (List Int)) (n k : Nat) : cutM rows n (k + 1) = cutM rows n k ++ [(nthR rows k).drop n] := by simp [cutM, List.range_succ]
theorem cutM_len (rows : List (List Int)) (n k : Nat) : (cutM rows n k).length = k := by simp [cutM]
theorem cutM_nth {rows : List (List Int)} {n k i : Nat} (h : i < k) : nthR (cutM rows n k) i = (nthR rows i).drop n := by
  unfold cutM; rw [nthR_map (by simpa using h)]; simp
theorem drop_nth {x : List Int} {n i : Nat} : nth (x.drop n) i = nth x (n + i) := by
  unfold nth; rw [List.getD_eq_getElem?_getD, List.getD_eq_getElem?_getD, List.getElem?_drop]
theorem drop_good {p : Int} {n m : Nat} {x : List Int} (h : Good p (n + m) x) : Good p m (x.drop n) := ⟨by rw [List.length_drop, h.1]; omega, fun i hi => by rw [drop_nth]; exact h.2 _ (by omega)⟩
def invM (p : Int) (n : Nat) (A : List (List Int)) : List (List Int) := cutM (invW p n A) n n
theorem invM_good {p : Int} {n : Nat} {A : List (List Int)} (hp : primeB p = true) (hg : RowsG p n A) (hn : A.length = n) (hl : (invW p n A).length = n) : RowsG p n (invM p n A) := fun i hi => by
  unfold invM at hi ⊢
  rw [cutM_len] at hi
  rw [cutM_nth hi]
  exact drop_good (invW_good hp hg hn i (by omega))
end Go.Proofs.Ythflmmgolegonaa

/-
  Brackets of matrices, in the program and in the reference.
  No condition.
-/
namespace Go.Proofs.Ythflmmgolegonaa
set_option maxRecDepth 100000
open Go.RowKit

def brkM (p : Int) (a b : List (List Int)) (n : Nat) : List (List Int) := sumM p (mulL p a b n n n) (mulL p b a n n n) (-1) n n
theorem mulM_goodB {p : Int} {a b : List (List Int)} {n : Nat} (hp : 1 ≤ p) : RowsG p n (mulL p a b n n n) := fun i hi => mul_good hp i (by rw [mulL_len] at hi; exact hi)
theorem dotS_comm (x y : List Int) : ∀ n, dotS x y n = dotS y x n
  | 0 => rfl
  | n + 1 => by unfold dotS; rw [dotS_comm x y n, Int.mul_comm]
theorem dotL_comm {p : Int} {x y : List Int} {n : Nat} : dotL p x y n = dotL p y x n := by unfold dotL; rw [dotS_comm]
def bcolsM (p : Int) (a b : List (List Int)) (n k : Nat) : List (List Int) := (List.range k).map fun j => appL p a (colL b j n) n n
theorem bcolsM_succ (p : Int) (a b : List (List Int)) (n k : Nat) : bcolsM p a b n (k + 1) = bcolsM p a b n k ++ [appL p a (colL b k n) n n] := by simp [bcolsM, List.range_succ]
theorem bcolsM_len (p : Int) (a b : List (List Int)) (n k : Nat) : (bcolsM p a b n k).length = k := by simp [bcolsM]
theorem bcolsM_nth {p : Int} {a b : List (List Int)} {n k i : Nat} (h : i < k) : nthR (bcolsM p a b n k) i = appL p a (colL b i n) n n := by
  unfold bcolsM; rw [nthR_map (by simpa using h)]; simp
theorem bcolsM_mul {p : Int} {a b : List (List Int)} {n : Nat} : turnL (bcolsM p a b n n) n n = mulL p a b n n n := by
  refine ext_rows (by rw [turnL_len, mulL_len]) fun i hi => ?_
  rw [turnL_len] at hi
  rw [turnL_nth hi, mulL_nth hi]
  refine ext_nth (by rw [colL_len, appL_len]) fun j hj => ?_
  rw [colL_len] at hj
  rw [colL_nth hj, bcolsM_nth hj, appL_nth hi, appL_nth hj, turnL_nth hj, dotL_comm]

set_option maxHeartbeats 1000000 in
theorem c_bracket (p : Int) (aa : Option Addr) (n ca : Nat) (A : List (List Int)) (ab : Option Addr) (cb : Nat) (B : List (List Int)) (w : World) (hp1 : 3 ≤ p) (hp2 : p ≤ 1000) (hn0 : 0 < n) (hn : n ≤ 64) (hA : RdR w aa n A) (hB : RdR w ab n B) (hGA : RowsG p n A) (hGB : RowsG p n B) :
    Calls Try.prog 34 #[.int .i64 p, .slice aa n ca, .slice ab n cb] w fun e w' => ∃ g rc, e = .returned (.slice (some ⟨g, 0, none⟩) n rc) ∧ OwnR w.heap.size w' (some ⟨g, 0, none⟩) n rc (brkM p A B n) ∧ Ext w w' := by
  have HA := Lib.hid hA
  have HB := Lib.hid hB
  have HGA := Lib.hid (show ∀ i, i < n → Good p n (nthR A i) from fun i hi => hGA i (by rw [hA.1]; exact hi))
  have HGB := Lib.hid (show ∀ i, i < n → Good p n (nthR B i) from fun i hi => hGB i (by rw [hB.1]; exact hi))
  clear hA hB hGA hGB
  go_enter Try.func34, Try.ntmps34
  go_wp2_with (fail)
  refine Calls.mono (c_mtimes p aa n ca A ab n cb B n w (by omega) hp2 (by omega) hn0 (by omega) (by omega) HA.out HGA.out HB.out HGB.out) ?_
  rintro e w1 ⟨g1, c1, rfl, o1, x1⟩
  have O1 := Lib.hid (o1 hn0)
  have X1 := Lib.hid x1
  clear o1 x1
  go_wp2_with (fail)
  refine Calls.mono (c_mtimes p ab n cb B aa n ca A n _ (by omega) hp2 (by omega) hn0 (by omega) (by omega) (HB.out.ext X1.out) HGB.out (HA.out.ext X1.out) HGA.out) ?_
  rintro e w2 ⟨g2, c2, rfl, o2, x2⟩
  have O2 := Lib.hid (o2 hn0)
  have X2 := Lib.hid x2
  clear o2 x2
  go_wp2_with (fail)
  refine Calls.mono (c_sum p _ _ n n c1 c2 (mulL p A B n n n) (mulL p B A n n n) (-1) _ hp1 hp2 (by omega) (by omega) (by omega) (O1.out.rd.ext X2.out) O2.out.rd (mulM_goodB (by omega)) (mulM_goodB (by omega))) ?_
  rintro e w3 ⟨g3, c3, rfl, o3, x3⟩
  have O3 := Lib.hid (o3.mono (X1.out.trans X2.out).size)
  have X3 := Lib.hid ((X1.out.trans X2.out).trans x3)
  clear o3 x3
  go_wp2_with (fail)
  go_ret
  exact ⟨_, _, rfl, O3.out, X3.out⟩

set_option maxHeartbeats 2000000 in
theorem s_column14 (a : Option Addr) (n cap m k : Nat) (rows : List (List Int)) (w : World) (hn : n ≤ 64) (hk : k < m) (hrl : ∀ i, i < n → (nthR rows i).length = m) (hx : RdR w a n rows) :
    Calls Try.prog 69 #[.slice a n cap, .int .i64 k] w fun e w' => ∃ g rc, e = .returned (.slice (some ⟨g, 0, none⟩) n rc) ∧ OwnC w.heap.size w' (some ⟨g, 0, none⟩) n rc (colL rows k n) ∧ Ext w w' := by
  have HX := Lib.hid hx
  have HRL := Lib.hid hrl
  clear hx hrl
  go_enter Try.func69, Try.ntmps69
  go_wp2_with (fail)
  go_loopw [5, 6] (fun v i wr => ∃ (j g rc : Nat), j ≤ n ∧ i = .int .i64 j ∧ v = .slice (some ⟨g, 0, none⟩) j rc ∧ Hid (OwnC w.heap.size wr (some ⟨g, 0, none⟩) j rc (colL rows k j)) ∧ Hid (Ext w wr)) (fun _ i _ => n - (intOf i).toNat)
  case atStart => exact ⟨0, _, _, Nat.zero_le _, rfl, rfl, Lib.hid (own_empty w), Lib.hid (ext_alloc _ _)⟩
  case round =>
    obtain ⟨j, g, rc, hj, rfl, rfl, HO, HE⟩ := hrel
    rename World => wr
    by_cases hlt : j < n
    · obtain ⟨b, off, ai, ci, rfl, hc, hri⟩ := HX.out.2 j hlt
      rw [HRL.out j hlt] at hc hri
      obtain ⟨bi, oi, rfl, hcb⟩ := hri.2 k hk
      have hc' := HE.out.cell hc
      have hcb' := HE.out.cell hcb
      obtain ⟨u, hu⟩ : ∃ u, u = nth (nthR rows j) k := ⟨_, rfl⟩
      rw [← hu] at hcb'
      have HS : Hid (colL rows k (j + 1) = colL rows k j ++ [u]) := Lib.hid (by rw [colL_succ, hu])
      clear hc hri hcb hu
      go_wp2_with (at_builtin; refine wpList_push rfl (.tmp 14) (.tmp 22) rfl rfl rfl (v := u) (HO.out.ext (ext_alloc _ _)) ?hc (by omega) ?hB ?hk)
      case hc => simp
      case hB => have := HE.out.size'; simp; omega
      case hk =>
        intro g' cap' w3 ho3 hg3 he3
        have HO3 := Lib.hid ho3
        have HE3 := Lib.hid (he3 w (Nat.le_refl _) (HE.out.alloc _))
        clear ho3 hg3 he3 hc' hcb'
        go_wp2_with (fail)
        go_roundw
        case rel => exact ⟨j + 1, g', cap', by omega, by go_num, rfl, Lib.hid (by rw [HS.out]; exact HO3.out), HE3⟩
        case measure => simp [intOf]; omega
    · obtain rfl : j = n := by omega
      go_wp2_with (fail)
      go_ret
      exact ⟨_, _, rfl, HO.out, HE.out⟩

set_option maxHeartbeats 4000000 in
set_option maxRecDepth 100000 in
theorem s_apply14 (p : Int) (a : Option Addr) (n cap m : Nat) (rows : List (List Int)) (av : Option Addr) (cv : Nat) (v : List Int) (w : World) (hp1 : 3 ≤ p) (hp2 : p ≤ 1000) (hm : m ≤ 64) (hn : n ≤ 64) (hx : RdR w a n rows) (hg : ∀ i, i < n → Good p m (nthR rows i)) (hv : RdC w av m v) (hgv : Good p m v) :
    Calls Try.prog 68 #[.int .i64 p, .slice a n cap, .slice av m cv] w fun e w' => ∃ g rc, e = .returned (.slice (some ⟨g, 0, none⟩) n rc) ∧ OwnC w.heap.size w' (some ⟨g, 0, none⟩) n rc (appL p rows v m n) ∧ Ext w w' := by
  have HX := Lib.hid hx
  have HG := Lib.hid hg
  have HV := Lib.hid hv
  have HGV := Lib.hid hgv
  clear hx hg hv hgv
  go_enter Try.func68, Try.ntmps68
  go_wp2_with (fail)
  go_loopw [7, 8] (fun v1 i wr => ∃ (k g rc : Nat), k ≤ n ∧ i = .int .i64 k ∧ v1 = .slice (some ⟨g, 0, none⟩) k rc ∧ Hid (OwnC w.heap.size wr (some ⟨g, 0, none⟩) k rc (appL p rows v m k)) ∧ Hid (Ext w wr)) (fun _ i _ => n - (intOf i).toNat)
  case atStart => exact ⟨0, _, _, Nat.zero_le _, rfl, rfl, Lib.hid (own_empty w), Lib.hid (ext_alloc _ _)⟩
  case round =>
    rename World => y
    obtain ⟨k, g, rc, hk, rfl, rfl, HO, HE⟩ := hrel
    by_cases hlt : k < n
    · obtain ⟨b, off, ai, ci, rfl, hc, hri⟩ := HX.out.2 k hlt
      have HGk := Lib.hid (HG.out k hlt)
      rw [HGk.out.1] at hc hri
      have HC := Lib.hid (HE.out.cell hc)
      have HRi := Lib.hid (hri.ext HE.out)
      have HVy := Lib.hid (HV.out.ext HE.out)
      clear hc hri
      go_wp2_with (fail)
      go_loopw [9, 10] (fun s j wz => ∃ (j0 : Nat) (S : Int), j0 ≤ m ∧ j = .int .i64 j0 ∧ s = .int .i64 S ∧ Hid (S = dotS (nthR rows k) v j0) ∧ Hid (Ext y wz)) (fun _ j _ => m - (intOf j).toNat)
      case atStart => exact ⟨0, 0, Nat.zero_le _, rfl, rfl, Lib.hid rfl, Lib.hid (Ext.refl _)⟩
      case round =>
        rename World => z
        obtain ⟨j, S, hj, rfl, rfl, HS, HZ⟩ := hrel
        by_cases hlj : j < m
        · obtain ⟨bi, oi, hai, hc1⟩ := HRi.out.2 j hlj
          obtain ⟨bv, ov, hav, hc2⟩ := HVy.out.2 j hlj
          subst hai hav
          have C0 := Lib.hid ((HZ.out.trans (ext_drew z)).cell HC.out)
          have C1 := Lib.hid ((HZ.out.trans (ext_drew z)).cell hc1)
          have C2 := Lib.hid ((HZ.out.trans (ext_drew z)).cell hc2)
          have hb1 := HGk.out.2 j hlj
          have hb2 := HGV.out.2 j hlj
          have hsb := dotS_bd hp2 HGk.out HGV.out j (by omega)
          rw [← HS.out] at hsb
          obtain ⟨u, hu⟩ : ∃ u, u = nth (nthR rows k) j := ⟨_, rfl⟩
          obtain ⟨t, ht⟩ : ∃ t, t = nth v j := ⟨_, rfl⟩
          rw [← hu] at C1 hb1
          rw [← ht] at C2 hb2
          have hmb : 0 ≤ u * t ∧ u * t ≤ 1000000 := ⟨Int.mul_nonneg hb1.1 hb2.1, Int.le_trans (Int.mul_le_mul (show u ≤ 1000 by omega) (show t ≤ 1000 by omega) hb2.1 (by omega)) (by omega)⟩
          obtain ⟨M, hM⟩ : ∃ M, M = u * t := ⟨_, rfl⟩
          rw [← hM] at hmb
          obtain ⟨S2, hS2⟩ : ∃ s, s = S + M := ⟨_, rfl⟩
          have W1 : Hid (IntKind.i64.wrap (u * t) = M) := Lib.hid (by rw [← hM]; exact IntWalk.i64_in _ (by omega))
          have W2 : Hid (IntKind.i64.wrap (S + M) = S2) := Lib.hid (by rw [hS2]; exact IntWalk.i64_in _ (by omega))
          have HS2 : Hid (S2 = dotS (nthR rows k) v (j + 1)) := Lib.hid (by rw [hS2, HS.out, hM, hu, ht]; rfl)
          clear hc1 hc2 hb1 hb2 hsb hmb hu ht hM hS2
          go_wp2_with (fail)
          refine wp_region_lex [] (by kernel_rfl) (by kernel_rfl) ?_
          repeat' first | (refine LexW.pure (v := ?_) rfl rfl (fun w1 he => ?_) ?_; rotate_left; ( have e0 := he.cell C0.out; have e1 := he.cell C1.out; have e2 := he.cell C2.out; have e3 := W1.out; have e4 := W2.out; go_simp; rfl); simp only [Act.put, List.setIfInBounds_toArray, List.set_cons_zero, List.set_cons_succ])
          refine LexW.nil (fun w3 he hkn => ?_)
          have X3 := Lib.hid (HZ.out.trans ((ext_drew z).trans he))
          clear he hkn
          go_wp2_with (fail)
          go_roundw
          case rel => exact ⟨j + 1, S2, by omega, by go_num, rfl, HS2, X3⟩
          case measure => simp [intOf]; omega
        · obtain rfl : j = m := by omega
          obtain ⟨Z, hZ⟩ : ∃ Z, Z = S % p := ⟨_, rfl⟩
          have HAS : Hid (appL p rows v j (k + 1) = appL p rows v j k ++ [Z]) := Lib.hid (by rw [appL_succ, dotL, ← HS.out, hZ])
          have HMd : Hid (∀ w1, Calls Try.prog 86 #[.int .i64 p, .int .i64 S] w1 fun e w' => e = .returned (.int .i64 Z) ∧ Ext w1 w') := Lib.hid (fun w1 => by rw [hZ]; exact s_mod p S w1 (by omega) (by omega))
          clear hZ
          go_wp2_with (fail)
          refine Calls.mono (HMd.out _) ?_
          rintro e w4 ⟨rfl, x4⟩
          have X4 := Lib.hid (HZ.out.trans x4)
          clear x4
          go_wp2_with (at_builtin; refine wpList_push rfl (.tmp 38) (.tmp 42) rfl rfl rfl (v := Z) (HO.out.ext (X4.out.trans (ext_alloc _ _))) ?hc (by omega) ?hB ?hk)
          case hc => simp
          case hB => have := (HE.out.trans X4.out).size'; simp; omega
          case hk =>
            intro g' cap' w5 ho5 hg5 he5
            have HO5 := Lib.hid ho5
            have HE5 := Lib.hid (he5 w (Nat.le_refl _) ((HE.out.trans X4.out).alloc _))
            clear ho5 hg5 he5
            go_wp2_with (fail)
            go_roundw
            case rel => exact ⟨k + 1, g', cap', by omega, by go_num, rfl, Lib.hid (by rw [HAS.out]; exact HO5.out), HE5⟩
            case measure => simp [intOf]; omega
    · obtain rfl : k = n := by omega
      go_wp2_with (fail)
      go_ret
      exact ⟨_, _, rfl, HO.out, HE.out⟩

set_option maxHeartbeats 4000000 in
set_option maxRecDepth 100000 in
theorem s_columns11 (a : Option Addr) (n cap : Nat) (cols : List (List Int)) (w : World) (hn : n ≤ 64) (hrl : ∀ i, i < n → (nthR cols i).length = n) (hx : RdR w a n cols) :
    Calls Try.prog 70 #[.slice a n cap] w fun e w' => ∃ g rc, e = .returned (.slice (some ⟨g, 0, none⟩) n rc) ∧ OwnR w.heap.size w' (some ⟨g, 0, none⟩) n rc (turnL cols n n) ∧ Ext w w' := by
  have HX := Lib.hid hx
  have HRL := Lib.hid hrl
  clear hx hrl
  go_enter Try.func70, Try.ntmps70
  go_wp2_with (fail)
  go_loopw [3, 4] (fun v i wr => ∃ (k g rc : Nat), k ≤ n ∧ i = .int .i64 k ∧ v = .slice (some ⟨g, 0, none⟩) k rc ∧ Hid (OwnR w.heap.size wr (some ⟨g, 0, none⟩) k rc (turnL cols n k)) ∧ Hid (Ext w wr)) (fun _ i _ => n - (intOf i).toNat)
  case atStart => exact ⟨0, _, _, Nat.zero_le _, rfl, rfl, Lib.hid (ownR_empty w), Lib.hid (ext_alloc _ _)⟩
  case round =>
    rename World => y
    obtain ⟨k, g, rc, hk, rfl, rfl, HO, HE⟩ := hrel
    by_cases hlt : k < n
    · go_wp2_with (fail)
      go_loopw [5, 6] (fun v i wz => ∃ (j g1 rc1 : Nat), j ≤ n ∧ i = .int .i64 j ∧ v = .slice (some ⟨g1, 0, none⟩) j rc1 ∧ Hid (OwnC y.heap.size wz (some ⟨g1, 0, none⟩) j rc1 (colL cols k j)) ∧ Hid (Ext y wz)) (fun _ i _ => n - (intOf i).toNat)
      case atStart => exact ⟨0, _, _, Nat.zero_le _, rfl, rfl, Lib.hid (own_empty y), Lib.hid (ext_alloc _ _)⟩
      case round =>
        rename World => z
        obtain ⟨j, g1, rc1, hj, rfl, rfl, HR, HZ⟩ := hrel
        by_cases hlj : j < n
        · obtain ⟨b, off, ai, ci, hab, hc, hri⟩ := HX.out.2 j hlj
          subst hab
          rw [HRL.out j hlj] at hc hri
          obtain ⟨bi, oi, hai, hcb⟩ := hri.2 k hlt
          subst hai
          have hc' := (HE.out.trans HZ.out).cell hc
          have hcb' := (HE.out.trans HZ.out).cell hcb
          obtain ⟨u, hu⟩ : ∃ u, u = nth (nthR cols j) k := ⟨_, rfl⟩
          rw [← hu] at hcb'
          have HS : Hid (colL cols k (j + 1) = colL cols k j ++ [u]) := Lib.hid (by rw [colL_succ, hu])
          clear hc hri hcb hu
          go_wp2_with (at_builtin; refine wpList_push rfl (.tmp 21) (.tmp 29) rfl rfl rfl (v := u) (HR.out.ext (ext_alloc _ _)) ?hc (by omega) ?hB ?hk)
          case hc => simp
          case hB => have := HZ.out.size'; simp; omega
          case hk =>
            intro g' cap' w3 ho3 hg3 he3
            have HO3 := Lib.hid ho3
            have HE3 := Lib.hid (he3 y (Nat.le_refl _) (HZ.out.alloc _))
            clear ho3 hg3 he3 hc' hcb'
            go_wp2_with (fail)
            go_roundw
            case rel => exact ⟨j + 1, g', cap', by omega, by go_num, rfl, Lib.hid (by rw [HS.out]; exact HO3.out), HE3⟩
            case measure => simp [intOf]; omega
        · obtain rfl : j = n := by omega
          go_wp2_with (at_builtin; refine wpList_pushR (w0 := y) rfl (.tmp 31) (.tmp 33) rfl rfl rfl HO.out (HZ.out.trans (ext_alloc _ _)) (HR.out.ext (ext_alloc _ _)) ?hc (by omega) HE.out.size ?hk)
          case hc => exact cell_new _ _ rfl _ _
          case hk =>
            intro g5 c5 w5 ho5 hg5 he5
            have HO5 := Lib.hid ho5
            have HE5 := Lib.hid (he5 w (Nat.le_refl _) ((HE.out.trans HZ.out).alloc _))
            clear ho5 hg5 he5
            go_wp2_with (fail)
            go_roundw
            case rel => exact ⟨k + 1, g5, c5, by omega, by go_num, rfl, Lib.hid (by rw [turnL_succ]; exact HO5.out), HE5⟩
            case measure => simp [intOf]; omega
    · obtain rfl : k = n := by omega
      go_wp2_with (fail)
      go_ret
      exact ⟨_, _, rfl, HO.out, HE.out⟩

set_option maxHeartbeats 4000000 in
set_option maxRecDepth 100000 in
theorem s_times14 (p : Int) (aa : Option Addr) (n ca : Nat) (A : List (List Int)) (ab : Option Addr) (cb : Nat) (B : List (List Int)) (w : World) (hp1 : 3 ≤ p) (hp2 : p ≤ 1000) (hn : n ≤ 64) (hA : RdR w aa n A) (hB : RdR w ab n B) (hGA : RowsG p n A) (hGB : RowsG p n B) :
    Calls Try.prog 47 #[.int .i64 p, .slice aa n ca, .slice ab n cb] w fun e w' => ∃ g rc, e = .returned (.slice (some ⟨g, 0, none⟩) n rc) ∧ OwnR w.heap.size w' (some ⟨g, 0, none⟩) n rc (mulL p A B n n n) ∧ Ext w w' := by
  have HA := Lib.hid hA
  have HB := Lib.hid hB
  have HGA := Lib.hid (show ∀ i, i < n → Good p n (nthR A i) from fun i hi => hGA i (by rw [hA.1]; exact hi))
  have HGB := Lib.hid (show ∀ i, i < n → Good p n (nthR B i) from fun i hi => hGB i (by rw [hB.1]; exact hi))
  have HGC := Lib.hid (show ∀ k, k < n → Good p n (colL B k n) from fun k hk => ⟨colL_len .., fun t ht => by rw [colL_nth ht]; exact (hGB t (by rw [hB.1]; exact ht)).2 k hk⟩)
  clear hA hB hGA hGB
  go_enter Try.func47, Try.ntmps47
  go_wp2_with (fail)
  go_loopw [7, 8] (fun v i wr => ∃ (k g rc : Nat), k ≤ n ∧ i = .int .i64 k ∧ v = .slice (some ⟨g, 0, none⟩) k rc ∧ Hid (OwnR w.heap.size wr (some ⟨g, 0, none⟩) k rc (bcolsM p A B n k)) ∧ Hid (Ext w wr)) (fun _ i _ => n - (intOf i).toNat)
  case atStart => exact ⟨0, _, _, Nat.zero_le _, rfl, rfl, Lib.hid (ownR_empty w), Lib.hid (ext_alloc _ _)⟩
  case round =>
    rename World => y
    obtain ⟨k, g, rc, hk, rfl, rfl, HO, HE⟩ := hrel
    by_cases hlt : k < n
    · have HGk := Lib.hid (HGC.out k hlt)
      go_wp2_with (fail)
      refine Calls.mono (s_column14 ab n cb n k B _ (by omega) hlt (fun i hi => (HGB.out i hi).1) (HB.out.ext HE.out)) ?_
      rintro e w1 ⟨g1, c1, rfl, o1, x1⟩
      have O1 := Lib.hid o1
      have X1 := Lib.hid x1
      clear o1 x1
      go_wp2_with (fail)
      refine Calls.mono (s_apply14 p aa n ca n A _ c1 (colL B k n) _ hp1 hp2 (by omega) (by omega) (HA.out.ext (HE.out.trans X1.out)) HGA.out O1.out.rd HGk.out) ?_
      rintro e w2 ⟨g2, c2, rfl, o2, x2⟩
      have O2 := Lib.hid (o2.mono X1.out.size)
      have X2 := Lib.hid (X1.out.trans x2)
      clear o2 x2
      go_wp2_with (at_builtin; refine wpList_pushR (w0 := y) rfl (.tmp 16) (.tmp 23) rfl rfl rfl HO.out (X2.out.trans (ext_alloc _ _)) (O2.out.ext (ext_alloc _ _)) ?hc (by omega) HE.out.size ?hk)
      case hc => exact cell_new _ _ rfl _ _
      case hk =>
        intro g5 c5 w5 ho5 hg5 he5
        have HO5 := Lib.hid ho5
        have HE5 := Lib.hid (he5 w (Nat.le_refl _) ((HE.out.trans X2.out).alloc _))
        clear ho5 hg5 he5
        go_wp2_with (fail)
        go_roundw
        case rel => exact ⟨k + 1, g5, c5, by omega, by go_num, rfl, Lib.hid (by rw [bcolsM_succ]; exact HO5.out), HE5⟩
        case measure => simp [intOf]; omega
    · obtain rfl : k = n := by omega
      go_wp2_with (fail)
      refine Calls.mono (s_columns11 _ k rc (bcolsM p A B k k) _ (by omega) (fun i hi => by rw [bcolsM_nth hi, appL_len]) HO.out.rd) ?_
      rintro e w6 ⟨g6, c6, rfl, o6, x6⟩
      rw [bcolsM_mul] at o6
      have O6 := Lib.hid (o6.mono HE.out.size)
      have X6 := Lib.hid (HE.out.trans x6)
      clear o6 x6
      go_wp2_with (fail)
      go_ret
      exact ⟨_, _, rfl, O6.out, X6.out⟩

set_option maxHeartbeats 4000000 in
set_option maxRecDepth 100000 in
theorem s_bracket (p : Int) (aa : Option Addr) (n ca : Nat) (A : List (List Int)) (ab : Option Addr) (cb : Nat) (B : List (List Int)) (w : World) (hp1 : 3 ≤ p) (hp2 : p ≤ 1000) (hn0 : 0 < n) (hn : n ≤ 64) (hA : RdR w aa n A) (hB : RdR w ab n B) (hGA : RowsG p n A) (hGB : RowsG p n B) :
    Calls Try.prog 31 #[.int .i64 p, .slice aa n ca, .slice ab n cb] w fun e w' => ∃ g rc, e = .returned (.slice (some ⟨g, 0, none⟩) n rc) ∧ OwnR w.heap.size w' (some ⟨g, 0, none⟩) n rc (brkM p A B n) ∧ Ext w w' := by
  have HA := Lib.hid hA
  have HB := Lib.hid hB
  have HGA := Lib.hid hGA
  have HGB := Lib.hid hGB
  clear hA hB hGA hGB
  go_enter Try.func31, Try.ntmps31
  go_wp2_with (fail)
  refine Calls.mono (s_times14 p aa n ca A ab cb B w hp1 hp2 hn HA.out HB.out HGA.out HGB.out) ?_
  rintro e w1 ⟨gx, cx, rfl, o1, x1⟩
  have O1 := Lib.hid o1
  have X1 := Lib.hid x1
  clear o1 x1
  go_wp2_with (fail)
  refine Calls.mono (s_times14 p ab n cb B aa ca A _ hp1 hp2 hn (HB.out.ext X1.out) (HA.out.ext X1.out) HGB.out HGA.out) ?_
  rintro e w2 ⟨gy, cy, rfl, o2, x2⟩
  have HXr := Lib.hid (O1.out.ext x2)
  have HYr := Lib.hid o2
  have X2 := Lib.hid (X1.out.trans x2)
  obtain ⟨X, hX⟩ : ∃ X, X = mulL p A B n n n := ⟨_, rfl⟩
  obtain ⟨Y, hY⟩ : ∃ Y, Y = mulL p B A n n n := ⟨_, rfl⟩
  have HGX : Hid (∀ i, i < n → Good p n (nthR X i)) := Lib.hid (fun i hi => by rw [hX]; exact mul_good (by omega) i hi)
  have HGY : Hid (∀ i, i < n → Good p n (nthR Y i)) := Lib.hid (fun i hi => by rw [hY]; exact mul_good (by omega) i hi)
  have HBK : Hid (brkM p A B n = sumM p X Y (-1) n n) := Lib.hid (by rw [hX, hY]; rfl)
  rw [← hX] at HXr
  rw [← hY] at HYr
  clear o2 x2 hX hY O1
  go_wp2_with (fail)
  go_loopw [9, 10] (fun s i wr => ∃ (k g rc : Nat), k ≤ n ∧ i = .int .i64 k ∧ s = .slice (some ⟨g, 0, none⟩) k rc ∧ Hid (OwnR w2.heap.size wr (some ⟨g, 0, none⟩) k rc (sumM p X Y (-1) n k)) ∧ Hid (Ext w2 wr)) (fun _ i _ => n - (intOf i).toNat)
  case atStart => exact ⟨0, _, _, Nat.zero_le _, rfl, rfl, Lib.hid (ownR_empty w2), Lib.hid (ext_alloc _ _)⟩
  case round =>
    rename World => wr
    obtain ⟨k, g, rc, hk, rfl, rfl, HOwn, HExt⟩ := hrel
    by_cases hlt : k < n
    · obtain ⟨ai, ci, hc, hri⟩ := HXr.out.at hlt
      obtain ⟨bi, di, hd, hrj⟩ := HYr.out.at hlt
      rw [(HGX.out k hlt).1] at hc hri
      rw [(HGY.out k hlt).1] at hd hrj
      have HCa := Lib.hid ((HExt.out.trans (ext_drew wr)).cell hc)
      have HCb := Lib.hid ((HExt.out.trans (ext_drew wr)).cell hd)
      have HRa := Lib.hid (hri.rd.ext (HExt.out.trans (ext_drew wr)))
      have HRb := Lib.hid (hrj.rd.ext (HExt.out.trans (ext_drew wr)))
      have HGa := Lib.hid (HGX.out k hlt)
      have HGb := Lib.hid (HGY.out k hlt)
      clear hc hri hd hrj
      go_wp2_with (fail)
      refine wp_region_lex_tail1 11 [(10, .ownS wr.heap.size n (plusL p (nthR X k) (nthR Y k) (-1) n))] (.slice (some ⟨g, 0, none⟩) k rc) (by kernel_rfl) (by kernel_rfl) rfl rfl (fun w1 => by go_simp) ?_
      simp only [List.take, List.drop]
      simp only [Act.put, List.setIfInBounds_toArray, List.set_cons_zero, List.set_cons_succ]
      (refine LexW.pure (v := ?_) rfl rfl (fun w1 he => ?_) ?_; rotate_left; ( have e1 := he.cell HCa.out; have e2 := he.cell HCb.out; go_simp; rfl); simp only [Act.put, List.setIfInBounds_toArray, List.set_cons_zero, List.set_cons_succ])
      (refine LexW.pure (v := ?_) rfl rfl (fun w1 he => ?_) ?_; rotate_left; ( have e1 := he.cell HCa.out; have e2 := he.cell HCb.out; go_simp; rfl); simp only [Act.put, List.setIfInBounds_toArray, List.set_cons_zero, List.set_cons_succ])
      (refine LexW.pure (v := ?_) rfl rfl (fun w1 he => ?_) ?_; rotate_left; ( have e1 := he.cell HCa.out; have e2 := he.cell HCb.out; go_simp; rfl); simp only [Act.put, List.setIfInBounds_toArray, List.set_cons_zero, List.set_cons_succ])
      (refine LexW.pure (v := ?_) rfl rfl (fun w1 he => ?_) ?_; rotate_left; ( have e1 := he.cell HCa.out; have e2 := he.cell HCb.out; go_simp; rfl); simp only [Act.put, List.setIfInBounds_toArray, List.set_cons_zero, List.set_cons_succ])
      (refine LexW.pure (v := ?_) rfl rfl (fun w1 he => ?_) ?_; rotate_left; ( have e1 := he.cell HCa.out; have e2 := he.cell HCb.out; go_simp; rfl); simp only [Act.put, List.setIfInBounds_toArray, List.set_cons_zero, List.set_cons_succ])
      (refine LexW.pure (v := ?_) rfl rfl (fun w1 he => ?_) ?_; rotate_left; ( have e1 := he.cell HCa.out; have e2 := he.cell HCb.out; go_simp; rfl); simp only [Act.put, List.setIfInBounds_toArray, List.set_cons_zero, List.set_cons_succ])
      (refine LexW.pure (v := ?_) rfl rfl (fun w1 he => ?_) ?_; rotate_left; ( have e1 := he.cell HCa.out; have e2 := he.cell HCb.out; go_simp; rfl); simp only [Act.put, List.setIfInBounds_toArray, List.set_cons_zero, List.set_cons_succ])
      (refine LexW.pure (v := ?_) rfl rfl (fun w1 he => ?_) ?_; rotate_left; ( have e1 := he.cell HCa.out; have e2 := he.cell HCb.out; go_simp; rfl); simp only [Act.put, List.setIfInBounds_toArray, List.set_cons_zero, List.set_cons_succ])
      (refine LexW.pure (v := ?_) rfl rfl (fun w1 he => ?_) ?_; rotate_left; ( have e1 := he.cell HCa.out; have e2 := he.cell HCb.out; go_simp; rfl); simp only [Act.put, List.setIfInBounds_toArray, List.set_cons_zero, List.set_cons_succ])
      (refine LexW.callR (f := ?_) (args := ?_) rfl rfl (fun w1 => ?_) (fun w1 he hdep => ?_) (fun v hv => ?_); rotate_left 2; (go_simp; refine ⟨?_, ?_⟩ <;> rfl); ( refine (s_minus11 p _ _ n _ _ (nthR X k) (nthR Y k) w1 hp1 hp2 (by omega) (HRa.out.ext he) (HRb.out.ext he) (fun i hi => by have := HGa.out.2 i hi; omega) HGb.out).mono ?_; rintro e w2 ⟨g, rc, rfl, ho, g2⟩; exact ⟨_, rfl, g2, g, rc, rfl, ho.mono (Nat.le_trans (ext_drew wr).size he.size)⟩); simp only [Act.put, List.setIfInBounds_toArray, List.set_cons_zero, List.set_cons_succ])
      obtain ⟨_, g28, c28, rfl, _⟩ := hv
      refine LexW.nil (fun w3 he hkn => ?_)
      obtain ⟨_, _, q28, r28⟩ : (SPred.ownS wr.heap.size n (plusL p (nthR X k) (nthR Y k) (-1) n)).holds (.slice (some ⟨g28, 0, none⟩) n c28) w3 := hkn (10, _) (by simp)
      cases q28
      have R28 := Lib.hid r28
      have HE := Lib.hid ((ext_drew wr).trans he)
      clear he hkn r28
      go_wp2_with (at_builtin; refine wpList_pushR (w0 := wr) rfl (.tmp 26) (.tmp 37) rfl rfl rfl HOwn.out (HE.out.trans (ext_alloc _ _)) (R28.out.ext (ext_alloc _ _)) ?hc (by omega) HExt.out.size ?hk)
      case hc => exact cell_new _ _ rfl _ _
      case hk =>
        intro g5 c5 w5 ho5 hg5 he5
        have HO5 := Lib.hid ho5
        have HE5 := Lib.hid (he5 w2 (Nat.le_refl _) ((HExt.out.trans HE.out).alloc _))
        clear ho5 hg5 he5
        go_wp2_with (fail)
        refine strictQ_normal ?_
        go_wp2_with (fail)
        go_roundw
        case rel => exact ⟨k + 1, g5, c5, by omega, by go_num, rfl, Lib.hid (by rw [sumM_succ]; exact HO5.out), HE5⟩
        case measure => simp [intOf]; omega
    · obtain rfl : k = n := by omega
      go_wp2_with (fail)
      go_ret
      exact ⟨_, _, rfl, by rw [HBK.out]; exact HOwn.out.mono X2.out.size, X2.out.trans HExt.out⟩
end Go.Proofs.Ythflmmgolegonaa

/-
  Left and right matrices of elements of doublings, in the program and in the reference.
  No condition.
-/
namespace Go.Proofs.Ythflmmgolegonaa
set_option maxRecDepth 100000
open Go.RowKit

theorem OwnW.ext9 {B : Nat} {w w' : World} {a : Option Addr} {n cap : Nat} {rows : List (List Int)} (h : OwnW B w a n cap rows) (he : Ext w w') : OwnW B w' a n cap rows := h.elim .inl (fun h => .inr (h.ext he))
/-- The product with an element of the basis. -/
def dcol (p : Int) (st : List Int) (n N : Nat) (x : List Int) (left : Bool) (i : Nat) : List Int := if left then dblL p st n x (bladeL N i) else dblL p st n (bladeL N i) x
def dcolsM (p : Int) (st : List Int) (n N : Nat) (x : List Int) (left : Bool) (k : Nat) : List (List Int) := (List.range k).map fun i => dcol p st n N x left i
theorem dcolsM_succ (p : Int) (st : List Int) (n N : Nat) (x : List Int) (left : Bool) (k : Nat) : dcolsM p st n N x left (k + 1) = dcolsM p st n N x left k ++ [dcol p st n N x left k] := by simp [dcolsM, List.range_succ]
theorem dcolsM_len (p : Int) (st : List Int) (n N : Nat) (x : List Int) (left : Bool) (k : Nat) : (dcolsM p st n N x left k).length = k := by simp [dcolsM]
theorem dcolsM_nth {p : Int} {st : List Int} {n N : Nat} {x : List Int} {left : Bool} {k i : Nat} (h : i < k) : nthR (dcolsM p st n N x left k) i = dcol p st n N x left i := by
  unfold dcolsM; rw [nthR_map (by simpa using h)]; simp
theorem dcol_good {p : Int} {st : List Int} {n N : Nat} {x : List Int} {left : Bool} {i : Nat} (hp : 1 ≤ p) (hN : N = 2 ^ n) : Good p N (dcol p st n N x left i) := by
  unfold dcol; subst hN; split <;> exact dbl_good hp _ _ _
def dmatL (p : Int) (st : List Int) (n N : Nat) (x : List Int) (left : Bool) : List (List Int) := turnL (dcolsM p st n N x left N) N N
theorem dmat_good {p : Int} {st : List Int} {n N : Nat} {x : List Int} {left : Bool} (hp : 1 ≤ p) (hN : N = 2 ^ n) : RowsG p N (dmatL p st n N x left) := fun i hi => by
  unfold dmatL at hi ⊢
  rw [turnL_len] at hi
  rw [turnL_nth hi]
  refine ⟨colL_len .., fun j hj => ?_⟩
  rw [colL_nth hj, dcolsM_nth hj]
  exact (dcol_good hp hN).2 i hi
theorem dmat_len (p : Int) (st : List Int) (n N : Nat) (x : List Int) (left : Bool) : (dmatL p st n N x left).length = N := turnL_len ..

set_option maxHeartbeats 4000000 in
theorem c_dleft {N n : Nat} (p : Int) (a : Option Addr) (cap : Nat) (st : List Int) (ax : Option Addr) (cx : Nat) (x : List Int) (w : World) (hN : N = 2 ^ n) (hn : n ≤ 4) (hp1 : 3 ≤ p) (hp2 : p ≤ 900) (hcs : n ≤ cap) (hcx : N ≤ cx) (hs : RdC w a n st) (hgs : Good p n st) (hx : RdC w ax N x) (hgx : Good p N x) :
    Calls Try.prog 39 #[.agg #[.int .i64 p, .slice a n cap], .slice ax N cx] w fun e w' => ∃ g rc, e = .returned (.slice (some ⟨g, 0, none⟩) N rc) ∧ OwnR w.heap.size w' (some ⟨g, 0, none⟩) N rc (dmatL p st n N x true) ∧ Ext w w' := by
  have hN64 : N ≤ 64 := by rw [hN]; exact pow_le64 (by omega)
  have hN1 : 0 < N := by rw [hN]; exact pow_pos' n
  have HN := Lib.hid hN
  have HX := Lib.hid hx
  have HQ := Lib.hid hs
  have HQG := Lib.hid hgs
  have HGX := Lib.hid hgx
  clear hN hx hs hgs hgx
  obtain ⟨W, hW⟩ : ∃ W, W = w.alloc (.cells #[.int .i64 p, .slice a n cap] 30) := ⟨_, rfl⟩
  have gW : Ext w W := by rw [hW]; exact ext_alloc _ _
  have HS0 := Lib.hid (show W.cell? ⟨w.heap.size, 0, none⟩ = some (.int .i64 p) by rw [hW]; simp)
  have HS1 := Lib.hid (show W.cell? ⟨w.heap.size, 1, none⟩ = some (.slice a n cap) by rw [hW]; simp)
  have GW := Lib.hid gW
  have HW := Lib.hid hW
  clear gW hW
  go_enter Try.func39, Try.ntmps39
  go_wp2_with (fail)
  rw [← HW.out]
  have hs0 := (ext_alloc W (.cells #[] 22)).cell HS0.out
  have hs1 := (ext_alloc W (.cells #[] 22)).cell HS1.out
  go_wp2_with (fail)
  refine (c_dsize p a n cap N _ (by omega) HN.out).mono ?_
  rintro e w0 ⟨rfl, h0⟩
  have G0 := Lib.hid ((ext_alloc W (.cells #[] 22)).trans h0)
  clear h0 hs0 hs1
  go_wp2_with (fail)
  refine (c_unit N _ (by omega)).mono ?_
  rintro e w1 ⟨gu, ru, rfl, hu, h1⟩
  have HU := Lib.hid hu
  have G1 := Lib.hid (G0.out.trans h1)
  clear hu h1 G0
  go_wp2_with (fail)
  go_loopw [5, 13] (fun v i wr => ∃ (k g rc : Nat), k ≤ N ∧ i = .int .i64 k ∧ v = .slice (some ⟨g, 0, none⟩) k rc ∧ OwnW w1.heap.size wr (some ⟨g, 0, none⟩) k rc (dcolsM p st n N x true k) ∧ Ext w1 wr) (fun _ i _ => N - (intOf i).toNat)
  case atStart => exact ⟨0, _, _, Nat.zero_le _, rfl, rfl, OwnW.start _ _ _, Ext.refl _⟩
  case round =>
    obtain ⟨k, g, rc, hk, rfl, rfl, hown, hext⟩ := hrel
    have HOwn := Lib.hid hown
    have HExt := Lib.hid hext
    clear hown hext
    by_cases hlt : k < N
    · obtain ⟨ak, ck, hck, hok⟩ := HU.out.at hlt
      rw [unitL_nth hlt, bladeL_len] at hck hok
      have hck' := HExt.out.cell hck
      have hck0 : N ≤ ck := hok.capLe hN1
      have hs0 := (G1.out.trans HExt.out).cell HS0.out
      have hs1 := (G1.out.trans HExt.out).cell HS1.out
      have HRk := Lib.hid hok.rd
      have HGB := Lib.hid (show Good p N (bladeL N k) from blade_good hp1)
      clear hck hok
      go_wp2_with (fail)
      clear hs0 hs1 hck'
      refine (c_dtimes p a n cap st N ax cx x ak ck (bladeL N k) wr hp1 hp2 hn HN.out hcs hcx hck0 (HQ.out.ext (GW.out.trans (G1.out.trans HExt.out))) HQG.out (HX.out.ext (GW.out.trans (G1.out.trans HExt.out))) HGX.out (HRk.out.ext HExt.out) HGB.out).mono ?_
      rintro e w4 ⟨g4, c4, rfl, ho4, x4⟩
      have HO4 := Lib.hid ho4
      have X4 := Lib.hid x4
      clear ho4 x4
      go_wp2_with (at_builtin; refine wpList_pushRW (w0 := wr) rfl (.tmp 17) (.tmp 22) rfl rfl rfl HOwn.out (X4.out.trans (ext_alloc _ _)) (HO4.out.ext (ext_alloc _ _)) ?hc (by omega) HExt.out.size ?hk)
      case hc => exact cell_new _ _ rfl _ _
      case hk =>
        intro g' cap' w3 ho3 he3
        have HO3 := Lib.hid ho3
        have HE4 := Lib.hid (he3 w1 (Nat.le_refl _) ((HExt.out.trans X4.out).alloc _))
        clear ho3 he3
        go_wp2_with (fail)
        go_roundw
        case rel => exact ⟨k + 1, g', cap', by omega, by go_num, rfl, by rw [dcolsM_succ]; exact .inr HO3.out, HE4.out⟩
        case measure => simp [intOf]; omega
    · obtain rfl : k = N := by omega
      go_wp2_with (fail)
      refine (c_transpose _ k rc k _ wr hN1 (by omega) (by omega) (fun i hi => by rw [dcolsM_nth hi]; exact (dcol_good (by omega) HN.out).1) HOwn.out.rd).mono ?_
      rintro e w5 ⟨g5, r5, rfl, ho5, x5⟩
      have HO5 := Lib.hid (ho5.mono (B' := w.heap.size) (GW.out.trans (G1.out.trans HExt.out)).size)
      have X5 := Lib.hid ((GW.out.trans (G1.out.trans HExt.out)).trans x5)
      clear ho5 x5
      go_wp2_with (fail)
      go_ret
      exact ⟨_, _, rfl, HO5.out, X5.out⟩

set_option maxHeartbeats 4000000 in
theorem c_dright {N n : Nat} (p : Int) (a : Option Addr) (cap : Nat) (st : List Int) (ax : Option Addr) (cx : Nat) (x : List Int) (w : World) (hN : N = 2 ^ n) (hn : n ≤ 4) (hp1 : 3 ≤ p) (hp2 : p ≤ 900) (hcs : n ≤ cap) (hcx : N ≤ cx) (hs : RdC w a n st) (hgs : Good p n st) (hx : RdC w ax N x) (hgx : Good p N x) :
    Calls Try.prog 40 #[.agg #[.int .i64 p, .slice a n cap], .slice ax N cx] w fun e w' => ∃ g rc, e = .returned (.slice (some ⟨g, 0, none⟩) N rc) ∧ OwnR w.heap.size w' (some ⟨g, 0, none⟩) N rc (dmatL p st n N x false) ∧ Ext w w' := by
  have hN64 : N ≤ 64 := by rw [hN]; exact pow_le64 (by omega)
  have hN1 : 0 < N := by rw [hN]; exact pow_pos' n
  have HN := Lib.hid hN
  have HX := Lib.hid hx
  have HQ := Lib.hid hs
  have HQG := Lib.hid hgs
  have HGX := Lib.hid hgx
  clear hN hx hs hgs hgx
  obtain ⟨W, hW⟩ : ∃ W, W = w.alloc (.cells #[.int .i64 p, .slice a n cap] 30) := ⟨_, rfl⟩
  have gW : Ext w W := by rw [hW]; exact ext_alloc _ _
  have HS0 := Lib.hid (show W.cell? ⟨w.heap.size, 0, none⟩ = some (.int .i64 p) by rw [hW]; simp)
  have HS1 := Lib.hid (show W.cell? ⟨w.heap.size, 1, none⟩ = some (.slice a n cap) by rw [hW]; simp)
  have GW := Lib.hid gW
  have HW := Lib.hid hW
  clear gW hW
  go_enter Try.func40, Try.ntmps40
  go_wp2_with (fail)
  rw [← HW.out]
  have hs0 := (ext_alloc W (.cells #[] 22)).cell HS0.out
  have hs1 := (ext_alloc W (.cells #[] 22)).cell HS1.out
  go_wp2_with (fail)
  refine (c_dsize p a n cap N _ (by omega) HN.out).mono ?_
  rintro e w0 ⟨rfl, h0⟩
  have G0 := Lib.hid ((ext_alloc W (.cells #[] 22)).trans h0)
  clear h0 hs0 hs1
  go_wp2_with (fail)
  refine (c_unit N _ (by omega)).mono ?_
  rintro e w1 ⟨gu, ru, rfl, hu, h1⟩
  have HU := Lib.hid hu
  have G1 := Lib.hid (G0.out.trans h1)
  clear hu h1 G0
  go_wp2_with (fail)
  go_loopw [5, 13] (fun v i wr => ∃ (k g rc : Nat), k ≤ N ∧ i = .int .i64 k ∧ v = .slice (some ⟨g, 0, none⟩) k rc ∧ OwnW w1.heap.size wr (some ⟨g, 0, none⟩) k rc (dcolsM p st n N x false k) ∧ Ext w1 wr) (fun _ i _ => N - (intOf i).toNat)
  case atStart => exact ⟨0, _, _, Nat.zero_le _, rfl, rfl, OwnW.start _ _ _, Ext.refl _⟩
  case round =>
    obtain ⟨k, g, rc, hk, rfl, rfl, hown, hext⟩ := hrel
    have HOwn := Lib.hid hown
    have HExt := Lib.hid hext
    clear hown hext
    by_cases hlt : k < N
    · obtain ⟨ak, ck, hck, hok⟩ := HU.out.at hlt
      rw [unitL_nth hlt, bladeL_len] at hck hok
      have hck' := HExt.out.cell hck
      have hck0 : N ≤ ck := hok.capLe hN1
      have hs0 := (G1.out.trans HExt.out).cell HS0.out
      have hs1 := (G1.out.trans HExt.out).cell HS1.out
      have HRk := Lib.hid hok.rd
      have HGB := Lib.hid (show Good p N (bladeL N k) from blade_good hp1)
      clear hck hok
      go_wp2_with (fail)
      clear hs0 hs1 hck'
      refine (c_dtimes p a n cap st N ak ck (bladeL N k) ax cx x wr hp1 hp2 hn HN.out hcs hck0 hcx (HQ.out.ext (GW.out.trans (G1.out.trans HExt.out))) HQG.out (HRk.out.ext HExt.out) HGB.out (HX.out.ext (GW.out.trans (G1.out.trans HExt.out))) HGX.out).mono ?_
      rintro e w4 ⟨g4, c4, rfl, ho4, x4⟩
      have HO4 := Lib.hid ho4
      have X4 := Lib.hid x4
      clear ho4 x4
      go_wp2_with (at_builtin; refine wpList_pushRW (w0 := wr) rfl (.tmp 17) (.tmp 22) rfl rfl rfl HOwn.out (X4.out.trans (ext_alloc _ _)) (HO4.out.ext (ext_alloc _ _)) ?hc (by omega) HExt.out.size ?hk)
      case hc => exact cell_new _ _ rfl _ _
      case hk =>
        intro g' cap' w3 ho3 he3
        have HO3 := Lib.hid ho3
        have HE4 := Lib.hid (he3 w1 (Nat.le_refl _) ((HExt.out.trans X4.out).alloc _))
        clear ho3 he3
        go_wp2_with (fail)
        go_roundw
        case rel => exact ⟨k + 1, g', cap', by omega, by go_num, rfl, by rw [dcolsM_succ]; exact .inr HO3.out, HE4.out⟩
        case measure => simp [intOf]; omega
    · obtain rfl : k = N := by omega
      go_wp2_with (fail)
      refine (c_transpose _ k rc k _ wr hN1 (by omega) (by omega) (fun i hi => by rw [dcolsM_nth hi]; exact (dcol_good (by omega) HN.out).1) HOwn.out.rd).mono ?_
      rintro e w5 ⟨g5, r5, rfl, ho5, x5⟩
      have HO5 := Lib.hid (ho5.mono (B' := w.heap.size) (GW.out.trans (G1.out.trans HExt.out)).size)
      have X5 := Lib.hid ((GW.out.trans (G1.out.trans HExt.out)).trans x5)
      clear ho5 x5
      go_wp2_with (fail)
      go_ret
      exact ⟨_, _, rfl, HO5.out, X5.out⟩

set_option maxHeartbeats 1000000 in
theorem s_one11 {N n : Nat} (p : Int) (a : Option Addr) (cap : Nat) (i : Nat) (w : World) (hN : N = 2 ^ n) (hn : n ≤ 6) (hi : i < N) :
    Calls Try.prog 82 #[.agg #[.int .i64 p, .slice a n cap], .int .i64 i] w fun e w' => ∃ g, e = .returned (.slice (some ⟨g, 0, none⟩) N N) ∧ OwnC w.heap.size w' (some ⟨g, 0, none⟩) N N (bladeL N i) ∧ Ext w w' := by
  have hN64 : N ≤ 64 := by rw [hN]; exact pow_le64 hn
  have HN := Lib.hid hN
  clear hN
  go_enter Try.func82, Try.ntmps82
  go_wp2_with (fail)
  refine Calls.mono (s_size11 p a n cap N _ hn HN.out) ?_
  rintro e w1 ⟨rfl, g1⟩
  have G1 := Lib.hid ((ext_alloc w (.cells #[.int .i64 p, .slice a n cap] 30)).trans g1)
  clear g1
  obtain ⟨w2, hmk, ho2, gg2⟩ := make_ints w1 N (by omega)
  have HO2 := Lib.hid ho2
  have G2 := Lib.hid gg2
  have hcz := ho2.cell (j := i) hi
  have hfz := ho2.frozen i
  have hiN : (i : Int) < (N : Int) := by omega
  clear ho2 gg2
  go_wp2_with (fail)
  go_ret
  refine ⟨_, rfl, (HO2.out.store hi 1).mono G1.out.size, (G1.out.trans G2.out).setCell G1.out.size _⟩

set_option maxHeartbeats 4000000 in
theorem s_dleft {N n : Nat} (p : Int) (a : Option Addr) (cap : Nat) (st : List Int) (ax : Option Addr) (cx : Nat) (x : List Int) (w : World) (hN : N = 2 ^ n) (hn : n ≤ 4) (hp1 : 3 ≤ p) (hp2 : p ≤ 900) (hcs : n ≤ cap) (hcx : N ≤ cx) (hs : RdC w a n st) (hgs : Good p n st) (hx : RdC w ax N x) (hgx : Good p N x) :
    Calls Try.prog 56 #[.agg #[.int .i64 p, .slice a n cap], .slice ax N cx] w fun e w' => ∃ g rc, e = .returned (.slice (some ⟨g, 0, none⟩) N rc) ∧ OwnR w.heap.size w' (some ⟨g, 0, none⟩) N rc (dmatL p st n N x true) ∧ Ext w w' := by
  have hN64 : N ≤ 64 := by rw [hN]; exact pow_le64 (by omega)
  have hN1 : 0 < N := by rw [hN]; exact pow_pos' n
  have HN := Lib.hid hN
  have HX := Lib.hid hx
  have HQ := Lib.hid hs
  have HQG := Lib.hid hgs
  have HGX := Lib.hid hgx
  clear hN hx hs hgs hgx
  obtain ⟨W, hW⟩ : ∃ W, W = w.alloc (.cells #[.int .i64 p, .slice a n cap] 30) := ⟨_, rfl⟩
  have gW : Ext w W := by rw [hW]; exact ext_alloc _ _
  have HS0 := Lib.hid (show W.cell? ⟨w.heap.size, 0, none⟩ = some (.int .i64 p) by rw [hW]; simp)
  have HS1 := Lib.hid (show W.cell? ⟨w.heap.size, 1, none⟩ = some (.slice a n cap) by rw [hW]; simp)
  have GW := Lib.hid gW
  have HW := Lib.hid hW
  have HZ := Lib.hid (show W.heap.size = w.heap.size + 1 by rw [hW]; simp)
  clear gW hW
  go_enter Try.func56, Try.ntmps56
  go_wp2_with (fail)
  rw [← HW.out, ← HZ.out]
  go_loopw [5, 6] (fun v i wr => ∃ (k g rc : Nat), k ≤ N ∧ i = .int .i64 k ∧ v = .slice (some ⟨g, 0, none⟩) k rc ∧ OwnW W.heap.size wr (some ⟨g, 0, none⟩) k rc (dcolsM p st n N x true k) ∧ Ext W wr) (fun _ i _ => N - (intOf i).toNat)
  case atStart => exact ⟨0, _, _, Nat.zero_le _, rfl, rfl, OwnW.start _ _ _, ext_alloc _ _⟩
  case round =>
    obtain ⟨k, g, rc, hk, rfl, rfl, hown, hext⟩ := hrel
    rename World => wr
    have HOwn := Lib.hid hown
    have HExt := Lib.hid hext
    clear hown hext
    have hs0 := HExt.out.cell HS0.out
    have hs1 := HExt.out.cell HS1.out
    go_wp2_with (fail)
    refine Calls.mono (s_size11 p a n cap N wr (by omega) HN.out) ?_
    rintro e wq ⟨rfl, gq⟩
    have HExq := Lib.hid (HExt.out.trans gq)
    have HOwq := Lib.hid (OwnW.ext9 HOwn.out gq)
    clear gq hs0 hs1
    by_cases hlt : k < N
    · have hltN : (k : Int) < (N : Int) := by omega
      have HGB := Lib.hid (show Good p N (bladeL N k) from blade_good hp1)
      have HS0q := Lib.hid ((HExq.out.trans (ext_drew _)).cell HS0.out)
      have HS1q := Lib.hid ((HExq.out.trans (ext_drew _)).cell HS1.out)
      have HQ1 := Lib.hid (HQ.out.ext (GW.out.trans (HExq.out.trans (ext_drew _))))
      have HX1 := Lib.hid (HX.out.ext (GW.out.trans (HExq.out.trans (ext_drew _))))
      have GQ := Lib.hid (HExq.out.trans (ext_drew _))
      go_wp2_with (fail)
      refine wp_region_lex_tail1 7 [(5, .ownG wq.heap.size N (bladeL N k)), (6, .ownS wq.heap.size N (dblL p st n x (bladeL N k)))] (.slice (some ⟨g, 0, none⟩) k rc) (by kernel_rfl) (by kernel_rfl) rfl rfl (fun w1 => by go_simp) ?_
      simp only [List.take, List.drop]
      simp only [Act.put, List.setIfInBounds_toArray, List.set_cons_zero, List.set_cons_succ]
      (refine LexW.pure (v := ?_) rfl rfl (fun w1 he => ?_) ?_; rotate_left; ( have e1 := he.cell HS0q.out; have e2 := he.cell HS1q.out; go_simp; rfl); simp only [Act.put, List.setIfInBounds_toArray, List.set_cons_zero, List.set_cons_succ])
      (refine LexW.pure (v := ?_) rfl rfl (fun w1 he => ?_) ?_; rotate_left; ( have e1 := he.cell HS0q.out; have e2 := he.cell HS1q.out; go_simp; rfl); simp only [Act.put, List.setIfInBounds_toArray, List.set_cons_zero, List.set_cons_succ])
      (refine LexW.pure (v := ?_) rfl rfl (fun w1 he => ?_) ?_; rotate_left; ( have e1 := he.cell HS0q.out; have e2 := he.cell HS1q.out; go_simp; rfl); simp only [Act.put, List.setIfInBounds_toArray, List.set_cons_zero, List.set_cons_succ])
      (refine LexW.pure (v := ?_) rfl rfl (fun w1 he => ?_) ?_; rotate_left; ( have e1 := he.cell HS0q.out; have e2 := he.cell HS1q.out; go_simp; rfl); simp only [Act.put, List.setIfInBounds_toArray, List.set_cons_zero, List.set_cons_succ])
      (refine LexW.callR (f := ?_) (args := ?_) rfl rfl (fun w1 => ?_) (fun w1 he hdep => ?_) (fun v hv => ?_); rotate_left 2; (go_simp; refine ⟨?_, ?_⟩ <;> rfl); ( refine (s_one11 p a cap k w1 HN.out (by omega) hlt).mono ?_; rintro e w2 ⟨g, rfl, ho, g2⟩; exact ⟨_, rfl, g2, g, rfl, ho.mono (Nat.le_trans (ext_drew wq).size he.size)⟩); simp only [Act.put, List.setIfInBounds_toArray, List.set_cons_zero, List.set_cons_succ])
      obtain ⟨_, g19, rfl, _⟩ := hv
      (refine LexW.callR (f := ?_) (args := ?_) rfl rfl (fun w1 => ?_) (fun w1 he hdep => ?_) (fun v hv => ?_); rotate_left 2; (go_simp; refine ⟨?_, ?_⟩ <;> rfl); ( obtain ⟨_, q19, r19⟩ : (SPred.ownG wq.heap.size N (bladeL N k)).holds (.slice (some ⟨g19, 0, none⟩) N N) w1 := hdep (5, 19) (by decide +kernel); cases q19; refine (s_times11 p a n cap st N ax cx x _ _ (bladeL N k) w1 hp1 hp2 hn HN.out hcs hcx (Nat.le_refl _) (HQ1.out.ext he) HQG.out (HX1.out.ext he) HGX.out r19.rd HGB.out).mono ?_; rintro e w2 ⟨g, rc, rfl, ho, g2⟩; exact ⟨_, rfl, g2, g, rc, rfl, ho.mono (Nat.le_trans (ext_drew wq).size he.size)⟩); simp only [Act.put, List.setIfInBounds_toArray, List.set_cons_zero, List.set_cons_succ])
      obtain ⟨_, g20, c20, rfl, _⟩ := hv
      refine LexW.nil (fun w3 he hkn => ?_)
      obtain ⟨_, _, q20, r20⟩ : (SPred.ownS wq.heap.size N (dblL p st n x (bladeL N k))).holds (.slice (some ⟨g20, 0, none⟩) N c20) w3 := hkn (6, _) (by simp)
      cases q20
      have R20 := Lib.hid r20
      have HE := Lib.hid ((ext_drew wq).trans he)
      clear he hkn r20
      rename World => w4
      go_wp2_with (at_builtin; refine wpList_pushRW (w0 := wq) rfl (.tmp 14) (.tmp 21) rfl rfl rfl HOwq.out (HE.out.trans (ext_alloc _ _)) (R20.out.ext (ext_alloc _ _)) ?hc (by omega) HExq.out.size ?hk)
      case hc => exact cell_new _ _ rfl _ _
      case hk =>
        intro g' cap' w3 ho3 he3
        have HO3 := Lib.hid ho3
        have HE4 := Lib.hid (he3 W (Nat.le_refl _) ((HExq.out.trans HE.out).alloc _))
        clear ho3 he3
        go_wp2_with (fail)
        refine strictQ_normal ?_
        go_wp2_with (fail)
        go_roundw
        case rel => exact ⟨k + 1, g', cap', by omega, by go_num, rfl, by rw [dcolsM_succ]; exact .inr HO3.out, HE4.out⟩
        case measure => simp [intOf]; omega
    · obtain rfl : k = N := by omega
      have hltN : ¬ (k : Int) < (k : Int) := by omega
      go_wp2_with (fail)
      refine (s_columns11 _ k rc _ wq (by omega) (fun i hi => by rw [dcolsM_nth hi]; exact (dcol_good (by omega) HN.out).1) HOwq.out.rd).mono ?_
      rintro e w5 ⟨g5, r5, rfl, ho5, x5⟩
      have HO5 := Lib.hid (ho5.mono (B' := w.heap.size) (GW.out.trans HExq.out).size)
      have X5 := Lib.hid ((GW.out.trans HExq.out).trans x5)
      clear ho5 x5
      go_wp2_with (fail)
      go_ret
      exact ⟨_, _, rfl, HO5.out, X5.out⟩

set_option maxHeartbeats 4000000 in
theorem s_dright {N n : Nat} (p : Int) (a : Option Addr) (cap : Nat) (st : List Int) (ax : Option Addr) (cx : Nat) (x : List Int) (w : World) (hN : N = 2 ^ n) (hn : n ≤ 4) (hp1 : 3 ≤ p) (hp2 : p ≤ 900) (hcs : n ≤ cap) (hcx : N ≤ cx) (hs : RdC w a n st) (hgs : Good p n st) (hx : RdC w ax N x) (hgx : Good p N x) :
    Calls Try.prog 57 #[.agg #[.int .i64 p, .slice a n cap], .slice ax N cx] w fun e w' => ∃ g rc, e = .returned (.slice (some ⟨g, 0, none⟩) N rc) ∧ OwnR w.heap.size w' (some ⟨g, 0, none⟩) N rc (dmatL p st n N x false) ∧ Ext w w' := by
  have hN64 : N ≤ 64 := by rw [hN]; exact pow_le64 (by omega)
  have hN1 : 0 < N := by rw [hN]; exact pow_pos' n
  have HN := Lib.hid hN
  have HX := Lib.hid hx
  have HQ := Lib.hid hs
  have HQG := Lib.hid hgs
  have HGX := Lib.hid hgx
  clear hN hx hs hgs hgx
  obtain ⟨W, hW⟩ : ∃ W, W = w.alloc (.cells #[.int .i64 p, .slice a n cap] 30) := ⟨_, rfl⟩
  have gW : Ext w W := by rw [hW]; exact ext_alloc _ _
  have HS0 := Lib.hid (show W.cell? ⟨w.heap.size, 0, none⟩ = some (.int .i64 p) by rw [hW]; simp)
  have HS1 := Lib.hid (show W.cell? ⟨w.heap.size, 1, none⟩ = some (.slice a n cap) by rw [hW]; simp)
  have GW := Lib.hid gW
  have HW := Lib.hid hW
  have HZ := Lib.hid (show W.heap.size = w.heap.size + 1 by rw [hW]; simp)
  clear gW hW
  go_enter Try.func57, Try.ntmps57
  go_wp2_with (fail)
  rw [← HW.out, ← HZ.out]
  go_loopw [5, 6] (fun v i wr => ∃ (k g rc : Nat), k ≤ N ∧ i = .int .i64 k ∧ v = .slice (some ⟨g, 0, none⟩) k rc ∧ OwnW W.heap.size wr (some ⟨g, 0, none⟩) k rc (dcolsM p st n N x false k) ∧ Ext W wr) (fun _ i _ => N - (intOf i).toNat)
  case atStart => exact ⟨0, _, _, Nat.zero_le _, rfl, rfl, OwnW.start _ _ _, ext_alloc _ _⟩
  case round =>
    obtain ⟨k, g, rc, hk, rfl, rfl, hown, hext⟩ := hrel
    rename World => wr
    have HOwn := Lib.hid hown
    have HExt := Lib.hid hext
    clear hown hext
    have hs0 := HExt.out.cell HS0.out
    have hs1 := HExt.out.cell HS1.out
    go_wp2_with (fail)
    refine Calls.mono (s_size11 p a n cap N wr (by omega) HN.out) ?_
    rintro e wq ⟨rfl, gq⟩
    have HExq := Lib.hid (HExt.out.trans gq)
    have HOwq := Lib.hid (OwnW.ext9 HOwn.out gq)
    clear gq hs0 hs1
    by_cases hlt : k < N
    · have hltN : (k : Int) < (N : Int) := by omega
      have HGB := Lib.hid (show Good p N (bladeL N k) from blade_good hp1)
      have HS0q := Lib.hid ((HExq.out.trans (ext_drew _)).cell HS0.out)
      have HS1q := Lib.hid ((HExq.out.trans (ext_drew _)).cell HS1.out)
      have HQ1 := Lib.hid (HQ.out.ext (GW.out.trans (HExq.out.trans (ext_drew _))))
      have HX1 := Lib.hid (HX.out.ext (GW.out.trans (HExq.out.trans (ext_drew _))))
      have GQ := Lib.hid (HExq.out.trans (ext_drew _))
      go_wp2_with (fail)
      refine wp_region_lex_tail1 7 [(4, .ownG wq.heap.size N (bladeL N k)), (6, .ownS wq.heap.size N (dblL p st n (bladeL N k) x))] (.slice (some ⟨g, 0, none⟩) k rc) (by kernel_rfl) (by kernel_rfl) rfl rfl (fun w1 => by go_simp) ?_
      simp only [List.take, List.drop]
      simp only [Act.put, List.setIfInBounds_toArray, List.set_cons_zero, List.set_cons_succ]
      (refine LexW.pure (v := ?_) rfl rfl (fun w1 he => ?_) ?_; rotate_left; ( have e1 := he.cell HS0q.out; have e2 := he.cell HS1q.out; go_simp; rfl); simp only [Act.put, List.setIfInBounds_toArray, List.set_cons_zero, List.set_cons_succ])
      (refine LexW.pure (v := ?_) rfl rfl (fun w1 he => ?_) ?_; rotate_left; ( have e1 := he.cell HS0q.out; have e2 := he.cell HS1q.out; go_simp; rfl); simp only [Act.put, List.setIfInBounds_toArray, List.set_cons_zero, List.set_cons_succ])
      (refine LexW.pure (v := ?_) rfl rfl (fun w1 he => ?_) ?_; rotate_left; ( have e1 := he.cell HS0q.out; have e2 := he.cell HS1q.out; go_simp; rfl); simp only [Act.put, List.setIfInBounds_toArray, List.set_cons_zero, List.set_cons_succ])
      (refine LexW.callR (f := ?_) (args := ?_) rfl rfl (fun w1 => ?_) (fun w1 he hdep => ?_) (fun v hv => ?_); rotate_left 2; (go_simp; refine ⟨?_, ?_⟩ <;> rfl); ( refine (s_one11 p a cap k w1 HN.out (by omega) hlt).mono ?_; rintro e w2 ⟨g, rfl, ho, g2⟩; exact ⟨_, rfl, g2, g, rfl, ho.mono (Nat.le_trans (ext_drew wq).size he.size)⟩); simp only [Act.put, List.setIfInBounds_toArray, List.set_cons_zero, List.set_cons_succ])
      obtain ⟨_, g18, rfl, _⟩ := hv
      (refine LexW.pure (v := ?_) rfl rfl (fun w1 he => ?_) ?_; rotate_left; ( have e1 := he.cell HS0q.out; have e2 := he.cell HS1q.out; go_simp; rfl); simp only [Act.put, List.setIfInBounds_toArray, List.set_cons_zero, List.set_cons_succ])
      (refine LexW.callR (f := ?_) (args := ?_) rfl rfl (fun w1 => ?_) (fun w1 he hdep => ?_) (fun v hv => ?_); rotate_left 2; (go_simp; refine ⟨?_, ?_⟩ <;> rfl); ( obtain ⟨_, q18, r18⟩ : (SPred.ownG wq.heap.size N (bladeL N k)).holds (.slice (some ⟨g18, 0, none⟩) N N) w1 := hdep (4, 18) (by decide +kernel); cases q18; refine (s_times11 p a n cap st N _ _ (bladeL N k) ax cx x w1 hp1 hp2 hn HN.out hcs (Nat.le_refl _) hcx (HQ1.out.ext he) HQG.out r18.rd HGB.out (HX1.out.ext he) HGX.out).mono ?_; rintro e w2 ⟨g, rc, rfl, ho, g2⟩; exact ⟨_, rfl, g2, g, rc, rfl, ho.mono (Nat.le_trans (ext_drew wq).size he.size)⟩); simp only [Act.put, List.setIfInBounds_toArray, List.set_cons_zero, List.set_cons_succ])
      obtain ⟨_, g20, c20, rfl, _⟩ := hv
      refine LexW.nil (fun w3 he hkn => ?_)
      obtain ⟨_, _, q20, r20⟩ : (SPred.ownS wq.heap.size N (dblL p st n (bladeL N k) x)).holds (.slice (some ⟨g20, 0, none⟩) N c20) w3 := hkn (6, _) (by simp)
      cases q20
      have R20 := Lib.hid r20
      have HE := Lib.hid ((ext_drew wq).trans he)
      clear he hkn r20
      rename World => w4
      go_wp2_with (at_builtin; refine wpList_pushRW (w0 := wq) rfl (.tmp 14) (.tmp 21) rfl rfl rfl HOwq.out (HE.out.trans (ext_alloc _ _)) (R20.out.ext (ext_alloc _ _)) ?hc (by omega) HExq.out.size ?hk)
      case hc => exact cell_new _ _ rfl _ _
      case hk =>
        intro g' cap' w3 ho3 he3
        have HO3 := Lib.hid ho3
        have HE4 := Lib.hid (he3 W (Nat.le_refl _) ((HExq.out.trans HE.out).alloc _))
        clear ho3 he3
        go_wp2_with (fail)
        refine strictQ_normal ?_
        go_wp2_with (fail)
        go_roundw
        case rel => exact ⟨k + 1, g', cap', by omega, by go_num, rfl, by rw [dcolsM_succ]; exact .inr HO3.out, HE4.out⟩
        case measure => simp [intOf]; omega
    · obtain rfl : k = N := by omega
      have hltN : ¬ (k : Int) < (k : Int) := by omega
      go_wp2_with (fail)
      refine (s_columns11 _ k rc _ wq (by omega) (fun i hi => by rw [dcolsM_nth hi]; exact (dcol_good (by omega) HN.out).1) HOwq.out.rd).mono ?_
      rintro e w5 ⟨g5, r5, rfl, ho5, x5⟩
      have HO5 := Lib.hid (ho5.mono (B' := w.heap.size) (GW.out.trans HExq.out).size)
      have X5 := Lib.hid ((GW.out.trans HExq.out).trans x5)
      clear ho5 x5
      go_wp2_with (fail)
      go_ret
      exact ⟨_, _, rfl, HO5.out, X5.out⟩

end Go.Proofs.Ythflmmgolegonaa

/-
  Triples of matrices; PureTriple in the reference.
  No condition.
-/
namespace Go.Proofs.Ythflmmgolegonaa
set_option maxRecDepth 100000
open Go.RowKit

theorem code3_el {p : Int} {st : List Int} {es : List (List Int)} (h : codeD p st = 0) : code3 p st es [] = codeE p st es := by
  obtain ⟨h1, _⟩ := codeD_zero h
  unfold code3 codeE
  rw [if_pos h, if_pos h1]
  simp
theorem code3_D {p : Int} {st : List Int} {es : List (List Int)} {ms : List (List (List Int))} (h : codeD p st ≠ 0) : code3 p st es ms = codeD p st := by unfold code3; rw [if_neg h]
theorem code3_el0 {p : Int} {st x : List Int} (h : code3 p st [x] [] = 0) : doubB p st = true ∧ st.length ≤ 3 ∧ Good p (2 ^ st.length) x := by
  by_cases hD : codeD p st = 0
  · rw [code3_el hD] at h
    obtain ⟨h1, h2⟩ := codeE_zero h
    refine ⟨h1, (codeD_zero hD).2, multi_good ?_⟩
    simpa using h2
  · rw [code3_D hD] at h; exact absurd h hD
/-- The code of PureTriple. -/
def codePu (p : Int) (st x : List Int) : Int := if code3 p st [x] [] = 0 then (if nth x 0 = 0 then 0 else 5) else code3 p st [x] []
theorem codePu_zero {p : Int} {st x : List Int} (h : codePu p st x = 0) : code3 p st [x] [] = 0 ∧ nth x 0 = 0 := by
  unfold codePu at h
  split at h
  · rename_i h1
    split at h
    · rename_i h2; exact ⟨h1, h2⟩
    · cases h
  · rename_i h1; exact absurd h h1
theorem codePu_five {p : Int} {st x : List Int} (h : code3 p st [x] [] = 0) (h0 : nth x 0 ≠ 0) : codePu p st x = 5 := by unfold codePu; rw [if_pos h, if_neg h0]
theorem codePu_bad {p : Int} {st x : List Int} (h : code3 p st [x] [] ≠ 0) : codePu p st x = code3 p st [x] [] := by unfold codePu; rw [if_neg h]
/-- All numbers of rows taken negative. -/
def negM (p : Int) (S : List (List Int)) (N k : Nat) : List (List Int) := (List.range k).map fun i => scaleL p (nthR S i) (-1) N
theorem negM_succ (p : Int) (S : List (List Int)) (N k : Nat) : negM p S N (k + 1) = negM p S N k ++ [scaleL p (nthR S k) (-1) N] := by simp [negM, List.range_succ]
theorem negM_len (p : Int) (S : List (List Int)) (N k : Nat) : (negM p S N k).length = k := by simp [negM]
theorem negM_nth {p : Int} {S : List (List Int)} {N k i : Nat} (h : i < k) : nthR (negM p S N k) i = scaleL p (nthR S i) (-1) N := by
  unfold negM; rw [nthR_map (by simpa using h)]; simp
theorem neg_two {p : Int} {S : List (List Int)} {N : Nat} : sumM p S S (p - 2) N N = negM p S N N := by
  refine ext_rows (by rw [sumM_len, negM_len]) fun i hi => ?_
  rw [sumM_len] at hi
  rw [sumM_nth hi, negM_nth hi]
  refine ext_nth (by rw [plusL_len, scaleL_len']) fun j hj => ?_
  rw [plusL_len] at hj
  rw [plusL_nth hj, scaleL_nth' hj, plusN]
  have e : nth (nthR S i) j + (p - 2) * nth (nthR S i) j = nth (nthR S i) j * -1 + p * nth (nthR S i) j := by grind
  rw [e, Int.add_mul_emod_self_left]; rfl
def pureA (p : Int) (st : List Int) (d N : Nat) (x : List Int) : List (List Int) := dmatL p st d N x true
def pureB (p : Int) (st : List Int) (d N : Nat) (x : List Int) : List (List Int) := dmatL p st d N x false
def pureS (p : Int) (st : List Int) (d N : Nat) (x : List Int) : List (List Int) := sumM p (pureA p st d N x) (pureB p st d N x) 1 N N
def pureC (p : Int) (st : List Int) (d N : Nat) (x : List Int) : List (List Int) := negM p (pureS p st d N x) N N

/-! ### A block of three values -/
structure TrAt (w : World) (O : Nat) (u0 u1 u2 : Value) : Prop where
  c0 : w.cell? ⟨O, 0, none⟩ = some u0
  c1 : w.cell? ⟨O, 1, none⟩ = some u1
  c2 : w.cell? ⟨O, 2, none⟩ = some u2
  f0 : w.frozen? ⟨O, 0, none⟩ = false
  f1 : w.frozen? ⟨O, 1, none⟩ = false
  f2 : w.frozen? ⟨O, 2, none⟩ = false
theorem TrAt.block {w w' : World} {O : Nat} {u0 u1 u2 : Value} (h : TrAt w O u0 u1 u2) (hb : w'.heap[O]? = w.heap[O]?) : TrAt w' O u0 u1 u2 :=
  ⟨by rw [World.cell?_of_block (w := w) hb]; exact h.c0, by rw [World.cell?_of_block (w := w) hb]; exact h.c1, by rw [World.cell?_of_block (w := w) hb]; exact h.c2, by rw [World.frozen?_of_block (w := w) hb]; exact h.f0, by rw [World.frozen?_of_block (w := w) hb]; exact h.f1, by rw [World.frozen?_of_block (w := w) hb]; exact h.f2⟩
theorem TrAt.lt {w : World} {O : Nat} {u0 u1 u2 : Value} (h : TrAt w O u0 u1 u2) : O < w.heap.size := lt_of_cell h.c0
theorem TrAt.ext {w w' : World} {O : Nat} {u0 u1 u2 : Value} (h : TrAt w O u0 u1 u2) (he : Ext w w') : TrAt w' O u0 u1 u2 := h.block (he.block O h.lt)
theorem TrAt.wrote {lo hi : Nat} {w w' : World} {O : Nat} {u0 u1 u2 : Value} (h : TrAt w O u0 u1 u2) (hx : WroteIn lo hi w w') (hd : O < lo ∨ hi ≤ O) : TrAt w' O u0 u1 u2 := h.block (hx.block O h.lt hd)
theorem TrAt.set2 {w : World} {O : Nat} {u0 u1 u2 : Value} (h : TrAt w O u0 u1 u2) (u : Value) : TrAt (w.setCell ⟨O, 2, none⟩ u) O u0 u1 u := by
  obtain ⟨h0, h1, h2, h3, h4, h5⟩ := h
  exact ⟨by go_simp, by go_simp, by go_simp, by go_simp, by go_simp, by go_simp⟩
theorem trAt_new (w : World) (u0 u1 u2 : Value) (T : TypeId) : TrAt (w.alloc (.cells #[u0, u1, u2] T)) w.heap.size u0 u1 u2 := ⟨by simp, by simp, by simp, by simp, by simp, by simp⟩
theorem WroteIn.setCell {w : World} {O i : Nat} {u : Value} : WroteIn O (O + 1) w (w.setCell ⟨O, i, none⟩ u) :=
  by
  have h := (Below.refl O w).setCell (p := ⟨O, i, none⟩) (Nat.le_refl _) u
  exact ⟨h.size, h.os, h.tape, h.output, fun k _ hd => Below.heap_setCell _ _ _ _ (by simp; omega)⟩
theorem WroteIn.set3 {w : World} {O : Nat} {u0 u1 u2 : Value} : WroteIn O (O + 1) w (((w.setCell ⟨O, 0, none⟩ u0).setCell ⟨O, 1, none⟩ u1).setCell ⟨O, 2, none⟩ u2) :=
  (WroteIn.setCell.trans WroteIn.setCell).trans WroteIn.setCell
theorem WroteIn.rowsR {B O : Nat} {w w' : World} {b : Option Addr} {n cap : Nat} {rows : List (List Int)} (h : WroteIn O (O + 1) w w') (ho : OwnR B w b n cap rows) (hd : O < B) : OwnR B w' b n cap rows :=
  (h.ownR ho.high (.inr hd)).low
/-- Three matrices of the call's own. -/
def TripO (lo : Nat) (w : World) (n : Nat) (A B C : List (List Int)) (v : Value) : Prop := ∃ a1 c1 a2 c2 a3 c3, v = .agg #[.slice a1 n c1, .slice a2 n c2, .slice a3 n c3] ∧ OwnR lo w a1 n c1 A ∧ OwnR lo w a2 n c2 B ∧ OwnR lo w a3 n c3 C

set_option maxHeartbeats 4000000 in
set_option maxRecDepth 100000 in
theorem s_elements14 (p : Int) (a : Option Addr) (d cap : Nat) (st : List Int) (al : Option Addr) (n cl : Nat) (es : List (List Int)) (w : World) (hd : d ≤ 4194304) (hl : n ≤ 4194303) (hr : ∀ i, i < n → (nthR es i).length ≤ 4194303) (hq : RdC w a d st) (hx : RdR w al n es) :
    Calls Try.prog 36 #[.agg #[.int .i64 p, .slice a d cap], .slice al n cl] w fun e w' => e = .returned (.int .i64 (code3 p st es [])) ∧ Ext w w' := by
  have HR := Lib.hid hr
  clear hr
  obtain ⟨W, hW⟩ : ∃ W, W = w.alloc (.cells #[.int .i64 p, .slice a d cap] 30) := ⟨_, rfl⟩
  have E : Hid (Ext w W) := Lib.hid (by rw [hW]; exact ext_alloc _ _)
  have C0 : Hid (W.cell? ⟨w.heap.size, 0, none⟩ = some (.int .i64 p)) := Lib.hid (by rw [hW]; simp)
  have C1 : Hid (W.cell? ⟨w.heap.size, 1, none⟩ = some (.slice a d cap)) := Lib.hid (by rw [hW]; simp)
  have HZ : Hid (W.heap.size = w.heap.size + 1) := Lib.hid (by rw [hW]; simp)
  have HW := Lib.hid hW
  clear hW
  have HQ := Lib.hid (hq.ext E.out)
  have HX := Lib.hid (hx.ext E.out)
  clear hq hx
  go_enter Try.func36, Try.ntmps36
  have x00 := C0.out
  have x01 := C1.out
  go_wp2_with (fail)
  clear x00 x01
  rw [← HW.out]
  clear HW
  refine Calls.mono (s_code14 p a d cap st W hd HQ.out) ?_
  rintro e v1 ⟨rfl, gg⟩
  replace E := Lib.hid (E.out.trans gg)
  replace HQ := Lib.hid (HQ.out.ext gg)
  replace HX := Lib.hid (HX.out.ext gg)
  replace C0 := Lib.hid (gg.cell (p := ⟨w.heap.size, 0, none⟩) C0.out)
  replace C1 := Lib.hid (gg.cell (p := ⟨w.heap.size, 1, none⟩) C1.out)
  clear gg
  obtain ⟨C, hC⟩ : ∃ C, C = codeD p st := ⟨_, rfl⟩
  rw [← hC]
  have HC := Lib.hid hC
  clear hC
  by_cases hc : C ≠ 0
  · have hcb : (C != 0) = true := by simp [hc]
    have HK := Lib.hid (show code3 p st es [] = C by rw [HC.out]; exact code3_D (by rw [← HC.out]; exact hc))
    clear hc
    have x00 := C0.out
    have x01 := C1.out
    go_wp2_with (fail)
    clear x00 x01
    go_ret
    exact ⟨ret_int HK.out.symm, E.out⟩
  replace hc : C = 0 := by simpa using hc
  subst hc
  have HK := Lib.hid (code3_el (es := es) HC.out.symm)
  have x00 := C0.out
  have x01 := C1.out
  go_wp2_with (fail)
  clear x00 x01
  refine Calls.mono (s_code11 p a d cap st al n cl es v1 hd hl HR.out HQ.out HX.out) ?_
  rintro e v2 ⟨rfl, gg⟩
  replace E := Lib.hid (E.out.trans gg)
  replace HQ := Lib.hid (HQ.out.ext gg)
  replace HX := Lib.hid (HX.out.ext gg)
  replace C0 := Lib.hid (gg.cell (p := ⟨w.heap.size, 0, none⟩) C0.out)
  replace C1 := Lib.hid (gg.cell (p := ⟨w.heap.size, 1, none⟩) C1.out)
  clear gg
  have x00 := C0.out
  have x01 := C1.out
  go_wp2_with (fail)
  clear x00 x01
  go_ret
  exact ⟨ret_int HK.out.symm, E.out⟩
set_option maxHeartbeats 4000000 in
set_option maxRecDepth 100000 in
theorem s_sum15 (p : Int) (aa ab : Option Addr) (m n ca cb : Nat) (A B : List (List Int)) (kk : Int) (w : World) (hp1 : 3 ≤ p) (hp2 : p ≤ 1000) (hkk : -1000 ≤ kk ∧ kk ≤ 1000) (hm : m ≤ 4194303) (hn : n ≤ 4194303) (hA : RdR w aa n A) (hB : RdR w ab n B) (hGA : RowsG p m A) (hGB : RowsG p m B) :
    Calls Try.prog 58 #[.int .i64 p, .slice aa n ca, .int .i64 kk, .slice ab n cb] w fun e w' => ∃ g rc, e = .returned (.slice (some ⟨g, 0, none⟩) n rc) ∧ OwnR w.heap.size w' (some ⟨g, 0, none⟩) n rc (sumM p A B kk m n) ∧ Ext w w' := by
  have HA := Lib.hid hA
  have HB := Lib.hid hB
  have HGA := Lib.hid hGA
  have HGB := Lib.hid hGB
  clear hA hB hGA hGB
  go_enter Try.func58, Try.ntmps58
  go_wp2_with (fail)
  go_loopw [9, 10] (fun s i wr => ∃ (k g rc : Nat), k ≤ n ∧ i = .int .i64 k ∧ s = .slice (some ⟨g, 0, none⟩) k rc ∧ OwnR w.heap.size wr (some ⟨g, 0, none⟩) k rc (sumM p A B kk m k) ∧ Ext w wr) (fun _ i _ => n - (intOf i).toNat)
  case atStart => exact ⟨0, _, _, Nat.zero_le _, rfl, rfl, ownR_empty w, ext_alloc _ _⟩
  case round =>
    obtain ⟨k, g, rc, hk, rfl, rfl, hown, hext⟩ := hrel
    have HOwn := Lib.hid hown
    have HExt := Lib.hid hext
    clear hown hext
    by_cases hlt : k < n
    · have hltA : k < A.length := by have := HA.out.1; omega
      have hltB : k < B.length := by have := HB.out.1; omega
      obtain ⟨ba, oa, ai, ci, hab, hc, hri⟩ := HA.out.2 k hlt
      cases hab
      obtain ⟨bb, ob, bi, di, hbb, hd, hrj⟩ := HB.out.2 k hlt
      cases hbb
      rw [(HGA.out k hltA).1] at hc hri
      rw [(HGB.out k hltB).1] at hd hrj
      have HCa := Lib.hid ((HExt.out.trans (ext_drew wr)).cell hc)
      have HCb := Lib.hid ((HExt.out.trans (ext_drew wr)).cell hd)
      have HRa := Lib.hid (hri.ext (HExt.out.trans (ext_drew wr)))
      have HRb := Lib.hid (hrj.ext (HExt.out.trans (ext_drew wr)))
      clear hc hri hd hrj
      go_wp2_with (fail)
      refine wp_region_lex_tail1 14 [(12, .ownS wr.heap.size m (scaleL p (nthR B k) kk m)), (13, .ownS wr.heap.size m (plusL p (nthR A k) (nthR B k) kk m))] (.slice (some ⟨g, 0, none⟩) k rc) (by kernel_rfl) (by kernel_rfl) rfl rfl (fun w1 => by go_simp) ?_
      simp only [List.take, List.drop]
      simp only [Act.put, List.setIfInBounds_toArray, List.set_cons_zero, List.set_cons_succ]
      (refine LexW.pure (v := ?_) rfl rfl (fun w1 he => ?_) ?_; rotate_left; ( have e1 := he.cell HCa.out; have e2 := he.cell HCb.out; go_simp; rfl); simp only [Act.put, List.setIfInBounds_toArray, List.set_cons_zero, List.set_cons_succ])
      (refine LexW.pure (v := ?_) rfl rfl (fun w1 he => ?_) ?_; rotate_left; ( have e1 := he.cell HCa.out; have e2 := he.cell HCb.out; go_simp; rfl); simp only [Act.put, List.setIfInBounds_toArray, List.set_cons_zero, List.set_cons_succ])
      (refine LexW.pure (v := ?_) rfl rfl (fun w1 he => ?_) ?_; rotate_left; ( have e1 := he.cell HCa.out; have e2 := he.cell HCb.out; go_simp; rfl); simp only [Act.put, List.setIfInBounds_toArray, List.set_cons_zero, List.set_cons_succ])
      (refine LexW.pure (v := ?_) rfl rfl (fun w1 he => ?_) ?_; rotate_left; ( have e1 := he.cell HCa.out; have e2 := he.cell HCb.out; go_simp; rfl); simp only [Act.put, List.setIfInBounds_toArray, List.set_cons_zero, List.set_cons_succ])
      (refine LexW.pure (v := ?_) rfl rfl (fun w1 he => ?_) ?_; rotate_left; ( have e1 := he.cell HCa.out; have e2 := he.cell HCb.out; go_simp; rfl); simp only [Act.put, List.setIfInBounds_toArray, List.set_cons_zero, List.set_cons_succ])
      (refine LexW.pure (v := ?_) rfl rfl (fun w1 he => ?_) ?_; rotate_left; ( have e1 := he.cell HCa.out; have e2 := he.cell HCb.out; go_simp; rfl); simp only [Act.put, List.setIfInBounds_toArray, List.set_cons_zero, List.set_cons_succ])
      (refine LexW.pure (v := ?_) rfl rfl (fun w1 he => ?_) ?_; rotate_left; ( have e1 := he.cell HCa.out; have e2 := he.cell HCb.out; go_simp; rfl); simp only [Act.put, List.setIfInBounds_toArray, List.set_cons_zero, List.set_cons_succ])
      (refine LexW.pure (v := ?_) rfl rfl (fun w1 he => ?_) ?_; rotate_left; ( have e1 := he.cell HCa.out; have e2 := he.cell HCb.out; go_simp; rfl); simp only [Act.put, List.setIfInBounds_toArray, List.set_cons_zero, List.set_cons_succ])
      (refine LexW.pure (v := ?_) rfl rfl (fun w1 he => ?_) ?_; rotate_left; ( have e1 := he.cell HCa.out; have e2 := he.cell HCb.out; go_simp; rfl); simp only [Act.put, List.setIfInBounds_toArray, List.set_cons_zero, List.set_cons_succ])
      (refine LexW.pure (v := ?_) rfl rfl (fun w1 he => ?_) ?_; rotate_left; ( have e1 := he.cell HCa.out; have e2 := he.cell HCb.out; go_simp; rfl); simp only [Act.put, List.setIfInBounds_toArray, List.set_cons_zero, List.set_cons_succ])
      (refine LexW.pure (v := ?_) rfl rfl (fun w1 he => ?_) ?_; rotate_left; ( have e1 := he.cell HCa.out; have e2 := he.cell HCb.out; go_simp; rfl); simp only [Act.put, List.setIfInBounds_toArray, List.set_cons_zero, List.set_cons_succ])
      (refine LexW.callR (f := ?_) (args := ?_) rfl rfl (fun w1 => ?_) (fun w1 he hdep => ?_) (fun v hv => ?_); rotate_left 2; (go_simp; refine ⟨?_, ?_⟩ <;> rfl); ( refine (s_scale11 p _ m _ (nthR B k) kk w1 hp1 hp2 hkk (by omega) (HRb.out.ext he) (HGB.out k hltB)).mono ?_; rintro e w2 ⟨g, rc, rfl, ho, g2⟩; exact ⟨_, rfl, g2, g, rc, rfl, ho.mono (Nat.le_trans (ext_drew wr).size he.size)⟩); simp only [Act.put, List.setIfInBounds_toArray, List.set_cons_zero, List.set_cons_succ])
      obtain ⟨_, g30, c30, rfl, _⟩ := hv
      (refine LexW.callR (f := ?_) (args := ?_) rfl rfl (fun w1 => ?_) (fun w1 he hdep => ?_) (fun v hv => ?_); rotate_left 2; (go_simp; refine ⟨?_, ?_⟩ <;> rfl); ( obtain ⟨_, _, q30, r30⟩ : (SPred.ownS wr.heap.size m (scaleL p (nthR B k) kk m)).holds (.slice (some ⟨g30, 0, none⟩) m c30) w1 := hdep (12, 30) (by decide +kernel); cases q30; refine (s_add11 p _ _ m _ _ (nthR A k) (scaleL p (nthR B k) kk m) w1 hp1 hp2 (by omega) (HRa.out.ext he) r30.rd (fun i hi => by have := (HGA.out k hltA).2 i hi; omega) (scale_goodN (by omega))).mono ?_; rintro e w2 ⟨g, rc, rfl, ho, g2⟩; rw [plus_scale1] at ho; exact ⟨_, rfl, g2, g, rc, rfl, ho.mono (Nat.le_trans (ext_drew wr).size he.size)⟩); simp only [Act.put, List.setIfInBounds_toArray, List.set_cons_zero, List.set_cons_succ])
      obtain ⟨_, g28, c28, rfl, _⟩ := hv
      refine LexW.nil (fun w3 he hkn => ?_)
      obtain ⟨_, _, q28, r28⟩ : (SPred.ownS wr.heap.size m (plusL p (nthR A k) (nthR B k) kk m)).holds (.slice (some ⟨g28, 0, none⟩) m c28) w3 := hkn (13, _) (by simp)
      cases q28
      have R28 := Lib.hid r28
      have HE := Lib.hid ((ext_drew wr).trans he)
      clear he hkn r28
      go_wp2_with (at_builtin; refine wpList_pushR (w0 := wr) rfl (.tmp 18) (.tmp 32) rfl rfl rfl HOwn.out (HE.out.trans (ext_alloc _ _)) (R28.out.ext (ext_alloc _ _)) ?hc (by omega) HExt.out.size ?hk)
      case hc => exact cell_new _ _ rfl _ _
      case hk =>
        intro g5 c5 w5 ho5 hg5 he5
        have HO5 := Lib.hid ho5
        have HE5 := Lib.hid (he5 w (Nat.le_refl _) ((HExt.out.trans HE.out).alloc _))
        clear ho5 hg5 he5
        go_wp2_with (fail)
        refine strictQ_normal ?_
        go_wp2_with (fail)
        go_roundw
        case rel => exact ⟨k + 1, g5, c5, by omega, by go_num, rfl, by rw [sumM_succ]; exact HO5.out, HE5.out⟩
        case measure => simp [intOf]; omega
    · obtain rfl : n = k := by omega
      go_wp2_with (fail)
      go_ret
      exact ⟨_, _, rfl, HOwn.out, HExt.out⟩
set_option maxHeartbeats 4000000 in
set_option maxRecDepth 100000 in
theorem s_pure {N d : Nat} (p : Int) (a : Option Addr) (cap : Nat) (st : List Int) (ax : Option Addr) (cx : Nat) (x : List Int) (w : World) (hN : N = 2 ^ d) (hd : d ≤ 4) (hp1 : 3 ≤ p) (hp2 : p ≤ 900) (hcs : d ≤ cap) (hcx : N ≤ cx) (hs : RdC w a d st) (hgs : Good p d st) (hx : RdC w ax N x) (hgx : Good p N x) :
    Calls Try.prog 37 #[.agg #[.int .i64 p, .slice a d cap], .slice ax N cx] w fun e w' => ∃ V, e = .returned V ∧ TripO w.heap.size w' N (pureA p st d N x) (pureB p st d N x) (pureC p st d N x) V ∧ Ext w w' := by
  have hN6 : N ≤ 64 := by rw [hN]; exact pow_le64 (by omega)
  have HGS := Lib.hid hgs
  have HGX := Lib.hid hgx
  have HN := Lib.hid hN
  obtain ⟨O, hO⟩ : ∃ O, O = w.heap.size := ⟨_, rfl⟩
  obtain ⟨U, hU⟩ : ∃ W, W = w.alloc (.cells #[.int .i64 p, .slice a d cap] 30) := ⟨_, rfl⟩
  obtain ⟨W, hW⟩ : ∃ W, W = U.alloc (.cells #[.slice none 0 0, .slice none 0 0, .slice none 0 0] 38) := ⟨_, rfl⟩
  have hUz : U.heap.size = O + 1 := by rw [hU, hO]; simp
  have hWz : W.heap.size = O + 2 := by rw [hW]; simp; omega
  have E := Lib.hid (show Ext w W by rw [hW, hU]; exact (ext_alloc _ _).alloc _)
  have C0 := Lib.hid (show W.cell? ⟨O, 0, none⟩ = some (.int .i64 p) by rw [hW, hU, hO]; simp)
  have C1 := Lib.hid (show W.cell? ⟨O, 1, none⟩ = some (.slice a d cap) by rw [hW, hU, hO]; simp)
  have TR := Lib.hid (show TrAt W (O + 1) (.slice none 0 0) (.slice none 0 0) (.slice none 0 0) by have h := trAt_new U (.slice none 0 0) (.slice none 0 0) (.slice none 0 0) 38; rw [hUz, ← hW] at h; exact h)
  have HQ := Lib.hid (hs.ext E.out)
  have HX := Lib.hid (hx.ext E.out)
  have HW := Lib.hid hW
  have HU := Lib.hid hU
  have HO := Lib.hid hO
  have HWZ := Lib.hid hWz
  clear hs hx hgs hgx hN hU hW hUz hWz hO
  go_enter Try.func37, Try.ntmps37
  go_wp2_with (fail)
  rw [← HU.out, ← HO.out]
  rw [← HW.out]
  clear HW HU
  have TR0 := TR
  replace E := Lib.hid (E.out.trans (ext_drew W))
  replace HQ := Lib.hid (HQ.out.ext (ext_drew W))
  replace HX := Lib.hid (HX.out.ext (ext_drew W))
  replace TR := Lib.hid (TR.out.ext (ext_drew W))
  replace C0 := Lib.hid ((ext_drew W).cell (p := ⟨O, 0, none⟩) C0.out)
  replace C1 := Lib.hid ((ext_drew W).cell (p := ⟨O, 1, none⟩) C1.out)
  refine wp_region_lex [(2, .ownR (O + 2) N (dmatL p st d N x true)), (5, .ownR (O + 2) N (dmatL p st d N x false))] (by kernel_rfl) (by kernel_rfl) ?_
  (refine LexW.pure (v := ?_) rfl rfl (fun w1 he => ?_) ?_; rotate_left; ( have x00 := (he.cell (p := ⟨O, 0, none⟩) C0.out); have x01 := (he.cell (p := ⟨O, 1, none⟩) C1.out); go_simp; rfl); simp only [Act.put, List.setIfInBounds_toArray, List.set_cons_zero, List.set_cons_succ])
  (refine LexW.pure (v := ?_) rfl rfl (fun w1 he => ?_) ?_; rotate_left; ( have x00 := (he.cell (p := ⟨O, 0, none⟩) C0.out); have x01 := (he.cell (p := ⟨O, 1, none⟩) C1.out); go_simp; rfl); simp only [Act.put, List.setIfInBounds_toArray, List.set_cons_zero, List.set_cons_succ])
  (refine LexW.callR (f := ?_) (args := ?_) rfl rfl (fun w1 => ?_) (fun w1 he hdep => ?_) (fun v hv => ?_); rotate_left 2; (go_simp; refine ⟨?_, ?_⟩ <;> rfl); ( refine (s_dleft p a cap st ax cx x w1 HN.out hd hp1 hp2 hcs hcx (HQ.out.ext he) HGS.out (HX.out.ext he) HGX.out).mono ?_; rintro e w2 ⟨g, rc, rfl, ho, g2⟩; exact ⟨_, rfl, g2, g, rc, rfl, ho.mono (Nat.le_trans (Nat.le_of_eq HWZ.out.symm) he.size)⟩); simp only [Act.put, List.setIfInBounds_toArray, List.set_cons_zero, List.set_cons_succ])
  obtain ⟨_, g10, c10, rfl, _⟩ := hv
  (refine LexW.pure (v := ?_) rfl rfl (fun w1 he => ?_) ?_; rotate_left; ( have x00 := (he.cell (p := ⟨O, 0, none⟩) C0.out); have x01 := (he.cell (p := ⟨O, 1, none⟩) C1.out); go_simp; rfl); simp only [Act.put, List.setIfInBounds_toArray, List.set_cons_zero, List.set_cons_succ])
  (refine LexW.pure (v := ?_) rfl rfl (fun w1 he => ?_) ?_; rotate_left; ( have x00 := (he.cell (p := ⟨O, 0, none⟩) C0.out); have x01 := (he.cell (p := ⟨O, 1, none⟩) C1.out); go_simp; rfl); simp only [Act.put, List.setIfInBounds_toArray, List.set_cons_zero, List.set_cons_succ])
  (refine LexW.callR (f := ?_) (args := ?_) rfl rfl (fun w1 => ?_) (fun w1 he hdep => ?_) (fun v hv => ?_); rotate_left 2; (go_simp; refine ⟨?_, ?_⟩ <;> rfl); ( refine (s_dright p a cap st ax cx x w1 HN.out hd hp1 hp2 hcs hcx (HQ.out.ext he) HGS.out (HX.out.ext he) HGX.out).mono ?_; rintro e w2 ⟨g, rc, rfl, ho, g2⟩; exact ⟨_, rfl, g2, g, rc, rfl, ho.mono (Nat.le_trans (Nat.le_of_eq HWZ.out.symm) he.size)⟩); simp only [Act.put, List.setIfInBounds_toArray, List.set_cons_zero, List.set_cons_succ])
  obtain ⟨_, g13, c13, rfl, _⟩ := hv
  (refine LexW.pure (v := ?_) rfl rfl (fun w1 he => ?_) ?_; rotate_left; ( have x00 := (he.cell (p := ⟨O, 0, none⟩) C0.out); have x01 := (he.cell (p := ⟨O, 1, none⟩) C1.out); go_simp; rfl); simp only [Act.put, List.setIfInBounds_toArray, List.set_cons_zero, List.set_cons_succ])
  (refine LexW.pure (v := ?_) rfl rfl (fun w1 he => ?_) ?_; rotate_left; ( have x00 := (he.cell (p := ⟨O, 0, none⟩) C0.out); have x01 := (he.cell (p := ⟨O, 1, none⟩) C1.out); go_simp; rfl); simp only [Act.put, List.setIfInBounds_toArray, List.set_cons_zero, List.set_cons_succ])
  refine LexW.nil (fun w3 he hkn => ?_)
  obtain ⟨_, _, q10, r10⟩ : (SPred.ownR (O + 2) N (dmatL p st d N x true)).holds (.slice (some ⟨g10, 0, none⟩) N c10) w3 := hkn (2, _) (by simp)
  cases q10
  have R10 := Lib.hid r10
  obtain ⟨_, _, q13, r13⟩ : (SPred.ownR (O + 2) N (dmatL p st d N x false)).holds (.slice (some ⟨g13, 0, none⟩) N c13) w3 := hkn (5, _) (by simp)
  cases q13
  have R13 := Lib.hid r13
  have HE := Lib.hid he
  clear he hkn r10 r13
  rename World => v1
  replace E := Lib.hid (E.out.trans HE.out)
  replace HQ := Lib.hid (HQ.out.ext HE.out)
  replace HX := Lib.hid (HX.out.ext HE.out)
  replace TR := Lib.hid (TR.out.ext HE.out)
  replace C0 := Lib.hid (HE.out.cell (p := ⟨O, 0, none⟩) C0.out)
  replace C1 := Lib.hid (HE.out.cell (p := ⟨O, 1, none⟩) C1.out)
  clear HE
  clear TR0
  have HGA := Lib.hid (show RowsG p N (pureA p st d N x) from dmat_good (by omega) HN.out)
  have HGB := Lib.hid (show RowsG p N (pureB p st d N x) from dmat_good (by omega) HN.out)
  have HGC := Lib.hid (show RowsG p N (pureS p st d N x) from sumM_good (by omega))
  have x00 := C0.out
  have x01 := C1.out
  go_wp2_with (fail)
  clear x00 x01
  refine Calls.mono (s_sum15 p _ _ N N c10 c13 (pureA p st d N x) (pureB p st d N x) 1 v1 hp1 (by omega) (by omega) (by omega) (by omega) R10.out.rd R13.out.rd HGA.out HGB.out) ?_
  rintro e v2 ⟨gS, kS, rfl, ho, gg⟩
  have RS := Lib.hid (ho.mono (show O + 2 ≤ _ from TR.out.lt))
  clear ho
  replace E := Lib.hid (E.out.trans gg)
  replace HQ := Lib.hid (HQ.out.ext gg)
  replace HX := Lib.hid (HX.out.ext gg)
  replace TR := Lib.hid (TR.out.ext gg)
  replace R10 := Lib.hid (R10.out.ext gg)
  replace R13 := Lib.hid (R13.out.ext gg)
  replace C0 := Lib.hid (gg.cell (p := ⟨O, 0, none⟩) C0.out)
  replace C1 := Lib.hid (gg.cell (p := ⟨O, 1, none⟩) C1.out)
  clear gg
  have hw2 : IntKind.i64.wrap (p - 2) = p - 2 := IntWalk.i64_in _ (by omega)
  have x00 := C0.out
  have x01 := C1.out
  go_wp2_with (fail)
  clear x00 x01
  refine Calls.mono (s_sum15 p _ _ N N kS kS (pureS p st d N x) (pureS p st d N x) (p - 2) v2 hp1 (by omega) (by omega) (by omega) (by omega) RS.out.rd RS.out.rd HGC.out HGC.out) ?_
  rintro e v3 ⟨gT, kT, rfl, ho, gg⟩
  have RT := Lib.hid (show OwnR (O + 2) v3 (some ⟨gT, 0, none⟩) N kT (pureC p st d N x) by rw [neg_two] at ho; exact ho.mono (show O + 2 ≤ _ from TR.out.lt))
  clear ho
  replace E := Lib.hid (E.out.trans gg)
  replace HQ := Lib.hid (HQ.out.ext gg)
  replace HX := Lib.hid (HX.out.ext gg)
  replace TR := Lib.hid (TR.out.ext gg)
  replace R10 := Lib.hid (R10.out.ext gg)
  replace R13 := Lib.hid (R13.out.ext gg)
  replace RS := Lib.hid (RS.out.ext gg)
  replace C0 := Lib.hid (gg.cell (p := ⟨O, 0, none⟩) C0.out)
  replace C1 := Lib.hid (gg.cell (p := ⟨O, 1, none⟩) C1.out)
  clear gg
  have r0 := TR.out.c0
  have r1 := TR.out.c1
  have r2 := TR.out.c2
  have f0 := TR.out.f0
  have f1 := TR.out.f1
  have f2 := TR.out.f2
  have HOL := Lib.hid (show w.heap.size ≤ O + 1 by have := HO.out; omega)
  have x00 := C0.out
  have x01 := C1.out
  go_wp2_with (fail)
  clear x00 x01
  refine bodyPost_ret (v := .agg #[.slice (some ⟨g10, 0, none⟩) N c10, .slice (some ⟨g13, 0, none⟩) N c13, .slice (some ⟨gT, 0, none⟩) N kT]) (by simp [results, Try.results37, go_sem, r0, r1, r2]) rfl ⟨_, rfl, ⟨_, _, _, _, _, _, rfl, ?_, ?_, ?_⟩, ?_⟩
  · exact (WroteIn.set3.rowsR R10.out (by omega)).mono (by have := HO.out; omega)
  · exact (WroteIn.set3.rowsR R13.out (by omega)).mono (by have := HO.out; omega)
  · exact (WroteIn.set3.rowsR RT.out (by omega)).mono (by have := HO.out; omega)
  · exact WroteIn.set3.ext E.out HOL.out
set_option maxHeartbeats 4000000 in
set_option maxRecDepth 100000 in
theorem s_PureTriple_bad (p : Int) (a : Option Addr) (d : Nat) (st : List Int) (ax : Option Addr) (n : Nat) (x : List Int) (w : World) (hd : d ≤ 4194303) (hn : n ≤ 4194303) (hq : RdC w a d st) (hx : RdC w ax n x) (hc : codePu p st x ≠ 0) :
    Calls Try.prog 17 #[.agg #[.int .i64 p, .slice a d d], .slice ax n n] w fun e w' => ∃ V, e = .returned (.tuple #[V, .int .i64 (codePu p st x)]) ∧ TripO w.heap.size w' 0 [] [] [] V ∧ Ext w w' := by
  have HXL := Lib.hid hx.1
  obtain ⟨O, hO⟩ : ∃ O, O = w.heap.size := ⟨_, rfl⟩
  obtain ⟨U, hU⟩ : ∃ W, W = w.alloc (.cells #[.int .i64 p, .slice a d d] 30) := ⟨_, rfl⟩
  obtain ⟨W, hW⟩ : ∃ W, W = U.alloc (.cells #[.slice none 0 0, .slice none 0 0, .slice none 0 0] 38) := ⟨_, rfl⟩
  have hUz : U.heap.size = O + 1 := by rw [hU, hO]; simp
  have hWz : W.heap.size = O + 2 := by rw [hW]; simp; omega
  have E := Lib.hid (show Ext w W by rw [hW, hU]; exact (ext_alloc _ _).alloc _)
  have C0 := Lib.hid (show W.cell? ⟨O, 0, none⟩ = some (.int .i64 p) by rw [hW, hU, hO]; simp)
  have C1 := Lib.hid (show W.cell? ⟨O, 1, none⟩ = some (.slice a d d) by rw [hW, hU, hO]; simp)
  have TR := Lib.hid (show TrAt W (O + 1) (.slice none 0 0) (.slice none 0 0) (.slice none 0 0) by have h := trAt_new U (.slice none 0 0) (.slice none 0 0) (.slice none 0 0) 38; rw [hUz, ← hW] at h; exact h)
  have HQ := Lib.hid (hq.ext E.out)
  have HX := Lib.hid (hx.ext E.out)
  have HW := Lib.hid hW
  have HU := Lib.hid hU
  have HO := Lib.hid hO
  have HWZ := Lib.hid hWz
  clear hq hx hU hW hUz hWz hO
  obtain ⟨K, hK⟩ : ∃ K, K = code3 p st [x] [] := ⟨_, rfl⟩
  have HK := Lib.hid hK
  have HCP := Lib.hid hc
  clear hK hc
  go_enter Try.func17, Try.ntmps17
  go_wp2_with (fail)
  rw [← HU.out, ← HO.out]
  rw [← HW.out]
  obtain ⟨V, hV⟩ : ∃ z, z = W.alloc (.cells #[.slice ax n n] 22) := ⟨_, rfl⟩
  have gg : Ext W V := by rw [hV]; exact ext_alloc _ _
  have HRX := Lib.hid (show RdR V (some ⟨O + 1 + 1, 0, none⟩) 1 [x] by
    have hz9 : W.heap.size = O + 1 + 1 := HWZ.out
    rw [hV, ← hz9]; exact rdR_one (a := ax) (n := n) (cap := n) (by simp) (HX.out.ext (ext_alloc _ _)))
  rw [← hV]
  clear hV HW HU
  replace E := Lib.hid (E.out.trans gg)
  replace HQ := Lib.hid (HQ.out.ext gg)
  replace HX := Lib.hid (HX.out.ext gg)
  replace TR := Lib.hid (TR.out.ext gg)
  replace C0 := Lib.hid (gg.cell (p := ⟨O, 0, none⟩) C0.out)
  replace C1 := Lib.hid (gg.cell (p := ⟨O, 1, none⟩) C1.out)
  clear gg
  refine Calls.mono (s_elements14 p a d d st _ 1 1 [x] V (by omega) (by omega) (len_one (by rw [HXL.out]; exact hn)) HQ.out HRX.out) ?_
  rintro e v1 ⟨rfl, gg⟩
  replace E := Lib.hid (E.out.trans gg)
  replace HQ := Lib.hid (HQ.out.ext gg)
  replace HX := Lib.hid (HX.out.ext gg)
  replace TR := Lib.hid (TR.out.ext gg)
  replace C0 := Lib.hid (gg.cell (p := ⟨O, 0, none⟩) C0.out)
  replace C1 := Lib.hid (gg.cell (p := ⟨O, 1, none⟩) C1.out)
  clear gg
  clear HRX
  rw [← HK.out]
  by_cases hk : K ≠ 0
  · have hkb : (K != 0) = true := by simp [hk]
    have HKE := Lib.hid (show K = codePu p st x by rw [HK.out]; exact (codePu_bad (by rw [← HK.out]; exact hk)).symm)
    clear hk
    have r0 := TR.out.c0
    have r1 := TR.out.c1
    have r2 := TR.out.c2
    have f0 := TR.out.f0
    have f1 := TR.out.f1
    have f2 := TR.out.f2
    have HOL := Lib.hid (show w.heap.size ≤ O + 1 by have := HO.out; omega)
    have x00 := C0.out
    have x01 := C1.out
    go_wp2_with (fail)
    clear x00 x01
    refine bodyPost_ret (v := .tuple #[.agg #[.slice none 0 0, .slice none 0 0, .slice none 0 0], .int .i64 (K)]) (by simp [results, Try.results17, go_sem, r0, r1, r2]) rfl ⟨_, by rw [HKE.out], ⟨none, 0, none, 0, none, 0, rfl, OwnR.nil _ _, OwnR.nil _ _, OwnR.nil _ _⟩, WroteIn.set3.ext E.out HOL.out⟩
  replace hk : K = 0 := by simpa using hk
  have hkS : code3 p st [x] [] = 0 := by rw [← HK.out]; exact hk
  subst hk
  obtain ⟨h1, h2, h3⟩ := code3_el0 hkS
  have hx0 : nth x 0 ≠ 0 := fun e0 => HCP.out (by unfold codePu; rw [if_pos hkS, if_pos e0])
  have HKE := Lib.hid (codePu_five hkS hx0)
  have hn0 : 0 < n := by rw [← HXL.out, h3.1]; exact pow_pos' _
  have hx0b : (nth x 0 != 0) = true := by simp [hx0]
  obtain ⟨bx, ox, hax, hcx⟩ := HX.out.2 0 hn0
  have hcx' := hcx
  rw [Nat.add_zero] at hcx'
  clear hcx h1 h2 h3 hkS
  subst hax
  have hn0i : (0 : Int) < (n : Int) := by omega
  have r0 := TR.out.c0
  have r1 := TR.out.c1
  have r2 := TR.out.c2
  have f0 := TR.out.f0
  have f1 := TR.out.f1
  have f2 := TR.out.f2
  have HOL := Lib.hid (show w.heap.size ≤ O + 1 by have := HO.out; omega)
  have x00 := C0.out
  have x01 := C1.out
  go_wp2_with (fail)
  clear x00 x01
  refine bodyPost_ret (v := .tuple #[.agg #[.slice none 0 0, .slice none 0 0, .slice none 0 0], .int .i64 (5)]) (by simp [results, Try.results17, go_sem, r0, r1, r2]) rfl ⟨_, by rw [HKE.out], ⟨none, 0, none, 0, none, 0, rfl, OwnR.nil _ _, OwnR.nil _ _, OwnR.nil _ _⟩, WroteIn.set3.ext E.out HOL.out⟩
set_option maxHeartbeats 4000000 in
set_option maxRecDepth 100000 in
theorem s_PureTriple_ok (p : Int) (a : Option Addr) (d : Nat) (st : List Int) (ax : Option Addr) (n : Nat) (x : List Int) (w : World) (hd : d ≤ 4194303) (hn : n ≤ 4194303) (hq : RdC w a d st) (hx : RdC w ax n x) (hc : codePu p st x = 0) :
    Calls Try.prog 17 #[.agg #[.int .i64 p, .slice a d d], .slice ax n n] w fun e w' => ∃ V, e = .returned (.tuple #[V, .int .i64 0]) ∧ TripO w.heap.size w' (2 ^ d) (pureA p st d (2 ^ d) x) (pureB p st d (2 ^ d) x) (pureC p st d (2 ^ d) x) V ∧ Ext w w' := by
  have HXL := Lib.hid hx.1
  obtain ⟨O, hO⟩ : ∃ O, O = w.heap.size := ⟨_, rfl⟩
  obtain ⟨U, hU⟩ : ∃ W, W = w.alloc (.cells #[.int .i64 p, .slice a d d] 30) := ⟨_, rfl⟩
  obtain ⟨W, hW⟩ : ∃ W, W = U.alloc (.cells #[.slice none 0 0, .slice none 0 0, .slice none 0 0] 38) := ⟨_, rfl⟩
  have hUz : U.heap.size = O + 1 := by rw [hU, hO]; simp
  have hWz : W.heap.size = O + 2 := by rw [hW]; simp; omega
  have E := Lib.hid (show Ext w W by rw [hW, hU]; exact (ext_alloc _ _).alloc _)
  have C0 := Lib.hid (show W.cell? ⟨O, 0, none⟩ = some (.int .i64 p) by rw [hW, hU, hO]; simp)
  have C1 := Lib.hid (show W.cell? ⟨O, 1, none⟩ = some (.slice a d d) by rw [hW, hU, hO]; simp)
  have TR := Lib.hid (show TrAt W (O + 1) (.slice none 0 0) (.slice none 0 0) (.slice none 0 0) by have h := trAt_new U (.slice none 0 0) (.slice none 0 0) (.slice none 0 0) 38; rw [hUz, ← hW] at h; exact h)
  have HQ := Lib.hid (hq.ext E.out)
  have HX := Lib.hid (hx.ext E.out)
  have HW := Lib.hid hW
  have HU := Lib.hid hU
  have HO := Lib.hid hO
  have HWZ := Lib.hid hWz
  clear hq hx hU hW hUz hWz hO
  obtain ⟨hk, hx0⟩ := codePu_zero hc
  obtain ⟨h1, h2, h3⟩ := code3_el0 hk
  have hpb := prime_bd (doub_of h1).1
  rw [HQ.out.1] at h2 h3
  have HGS := Lib.hid (show Good p d st from good_isB HQ.out.1 (doub_of h1).2.2.1)
  have HK := Lib.hid hk
  have hn0 : 0 < n := by rw [← HXL.out, h3.1]; exact pow_pos' _
  obtain ⟨N, hN⟩ : ∃ N, N = 2 ^ d := ⟨_, rfl⟩
  rw [← hN]
  have HN := Lib.hid hN
  rw [← hN] at h3
  obtain rfl : n = N := HXL.out.symm.trans h3.1
  have HGX := Lib.hid h3
  have HX0 := Lib.hid hx0
  clear hc hk hx0 h1 h3 hN
  go_enter Try.func17, Try.ntmps17
  go_wp2_with (fail)
  rw [← HU.out, ← HO.out]
  rw [← HW.out]
  obtain ⟨V, hV⟩ : ∃ z, z = W.alloc (.cells #[.slice ax n n] 22) := ⟨_, rfl⟩
  have gg : Ext W V := by rw [hV]; exact ext_alloc _ _
  have HRX := Lib.hid (show RdR V (some ⟨O + 1 + 1, 0, none⟩) 1 [x] by
    have hz9 : W.heap.size = O + 1 + 1 := HWZ.out
    rw [hV, ← hz9]; exact rdR_one (a := ax) (n := n) (cap := n) (by simp) (HX.out.ext (ext_alloc _ _)))
  rw [← hV]
  clear hV HW HU
  replace E := Lib.hid (E.out.trans gg)
  replace HQ := Lib.hid (HQ.out.ext gg)
  replace HX := Lib.hid (HX.out.ext gg)
  replace TR := Lib.hid (TR.out.ext gg)
  replace C0 := Lib.hid (gg.cell (p := ⟨O, 0, none⟩) C0.out)
  replace C1 := Lib.hid (gg.cell (p := ⟨O, 1, none⟩) C1.out)
  clear gg
  refine Calls.mono (s_elements14 p a d d st _ 1 1 [x] V (by omega) (by omega) (len_one (by rw [HXL.out]; exact hn)) HQ.out HRX.out) ?_
  rintro e v1 ⟨rfl, gg⟩
  replace E := Lib.hid (E.out.trans gg)
  replace HQ := Lib.hid (HQ.out.ext gg)
  replace HX := Lib.hid (HX.out.ext gg)
  replace TR := Lib.hid (TR.out.ext gg)
  replace C0 := Lib.hid (gg.cell (p := ⟨O, 0, none⟩) C0.out)
  replace C1 := Lib.hid (gg.cell (p := ⟨O, 1, none⟩) C1.out)
  clear gg
  clear HRX
  rw [HK.out]
  obtain ⟨bx, ox, hax, hcx⟩ := HX.out.2 0 hn0
  have hcx' := hcx
  rw [Nat.add_zero] at hcx'
  rw [HX0.out] at hcx'
  clear hcx
  subst hax
  have hn0i : (0 : Int) < (n : Int) := by omega
  have x00 := C0.out
  have x01 := C1.out
  go_wp2_with (fail)
  clear x00 x01
  clear hcx'
  refine Calls.mono (s_pure p a d st _ n x v1 HN.out (by omega) (by omega) (by omega) (by omega) (Nat.le_refl _) HQ.out HGS.out HX.out HGX.out) ?_
  rintro e v2 ⟨V9, rfl, ho, gg⟩
  obtain ⟨a1, c1, a2, c2, a3, c3, rfl, o1, o2, o3⟩ := ho
  have HLT := TR.out.lt
  have R1 := Lib.hid (o1.mono (show O + 2 ≤ _ from HLT))
  have R2 := Lib.hid (o2.mono (show O + 2 ≤ _ from HLT))
  have R3 := Lib.hid (o3.mono (show O + 2 ≤ _ from HLT))
  clear o1 o2 o3 HLT
  replace E := Lib.hid (E.out.trans gg)
  replace HQ := Lib.hid (HQ.out.ext gg)
  replace HX := Lib.hid (HX.out.ext gg)
  replace TR := Lib.hid (TR.out.ext gg)
  replace C0 := Lib.hid (gg.cell (p := ⟨O, 0, none⟩) C0.out)
  replace C1 := Lib.hid (gg.cell (p := ⟨O, 1, none⟩) C1.out)
  clear gg
  have r0 := TR.out.c0
  have r1 := TR.out.c1
  have r2 := TR.out.c2
  have f0 := TR.out.f0
  have f1 := TR.out.f1
  have f2 := TR.out.f2
  have HOL := Lib.hid (show w.heap.size ≤ O + 1 by have := HO.out; omega)
  have x00 := C0.out
  have x01 := C1.out
  go_wp2_with (fail)
  clear x00 x01
  refine bodyPost_ret (v := .tuple #[.agg #[.slice a1 n c1, .slice a2 n c2, .slice a3 n c3], .int .i64 0]) (by simp [results, Try.results17, go_sem, r0, r1, r2]) rfl ⟨_, rfl, ⟨_, _, _, _, _, _, rfl, ?_, ?_, ?_⟩, WroteIn.set3.ext E.out HOL.out⟩
  · exact (WroteIn.set3.rowsR R1.out (by omega)).mono (by have := HO.out; omega)
  · exact (WroteIn.set3.rowsR R2.out (by omega)).mono (by have := HO.out; omega)
  · exact (WroteIn.set3.rowsR R3.out (by omega)).mono (by have := HO.out; omega)
end Go.Proofs.Ythflmmgolegonaa
