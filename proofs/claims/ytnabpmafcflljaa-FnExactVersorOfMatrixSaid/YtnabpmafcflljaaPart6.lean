/-
  Contracts and plain laws, part 6: IsoP, ReflP, ReflW, ReflM, DecP, Float, AppR.
  No condition.
-/
import Derived.Test.YtnabpmafcflljaaPart3
import Derived.Test.YtnabpmafcflljaaPart5
import Derived.Test.YtnabpmafcflljaaPart2
import Derived.Test.YtnabpmafcflljaaPart4
import Derived.Test.YtnabpmafcflljaaPart0
import Derived.Maps.AppendAt
/-
  Isometries of a space and inverses of matrices, in plain numbers.
  No condition. No program in sight.
-/
namespace Go.Proofs.Ytnabpmafcflljaa
set_option maxRecDepth 100000
open Go.RowKit

theorem pairL_comm {p : Int} {qs v u : List Int} {n : Nat} : pairL p qs v u n = pairL p qs u v n := by
  unfold pairL dotL
  have h : ∀ k, k ≤ n → dotS (wtL p qs v n) u k % p = dotS (wtL p qs u n) v k % p := by
    intro k
    induction k with
    | zero => intro _; rfl
    | succ k ih =>
      intro hk
      simp only [dotS]
      rw [Int.add_emod, ih (by omega), wtL_nth (by omega), wtL_nth (by omega)]
      conv => rhs; rw [Int.add_emod]
      congr 2
      unfold wtN
      rw [Int.mul_emod, Int.emod_emod, ← Int.mul_emod]
      conv => rhs; rw [Int.mul_emod, Int.emod_emod, ← Int.mul_emod]
      congr 1
      rw [Int.mul_assoc, Int.mul_comm (nth v k), Int.mul_assoc, Int.mul_comm (nth u k), Int.mul_comm (nth u k), Int.mul_assoc, Int.mul_comm (nth v k), ← Int.mul_assoc]
  exact h n (Nat.le_refl _)

/-- The product that two columns must have. -/
def wantN (qs : List Int) (i k : Nat) : Int := if i = k then nth qs i else 0
def isoAt (p : Int) (qs : List Int) (cols : List (List Int)) (d i k : Nat) : Prop := pairL p qs (nthR cols i) (nthR cols k) d = wantN qs i k
instance (p : Int) (qs : List Int) (cols : List (List Int)) (d i k : Nat) : Decidable (isoAt p qs cols d i k) := inferInstanceAs (Decidable (_ = _))
def isoB (p : Int) (qs : List Int) (rows : List (List Int)) (d : Nat) : Bool :=
  matB p rows && decide (rows.length = d) && decide ((nthR rows 0).length = d) && decide (detL p d rows ≠ 0) && decide (∀ i, i < d → ∀ k, k < d → isoAt p qs (turnL rows d d) d i k)
theorem isoAt_comm {p : Int} {qs : List Int} {cols : List (List Int)} {d i k : Nat} : isoAt p qs cols d i k ↔ isoAt p qs cols d k i := by
  unfold isoAt wantN
  rw [pairL_comm]
  by_cases h : i = k
  · subst h; exact Iff.rfl
  · rw [if_neg h, if_neg (Ne.symm h)]
theorem isoB_yes {p : Int} {qs : List Int} {rows : List (List Int)} {d : Nat} (hm : matB p rows = true) (hn : rows.length = d) (h0 : (nthR rows 0).length = d) (hd : detL p d rows ≠ 0) (h : ∀ i, i < d → ∀ k, k < d → isoAt p qs (turnL rows d d) d i k) : isoB p qs rows d = true := by
  unfold isoB
  rw [hm, decide_eq_true hn, decide_eq_true h0, decide_eq_true hd, decide_eq_true h]; rfl
theorem isoB_yes2 {p : Int} {qs : List Int} {rows : List (List Int)} {d : Nat} (hm : matB p rows = true) (hn : rows.length = d) (h0 : (nthR rows 0).length = d) (hd : detL p d rows ≠ 0) (h : ∀ i, i < d → ∀ k, k < i + 1 → isoAt p qs (turnL rows d d) d i k) : isoB p qs rows d = true := by
  refine isoB_yes hm hn h0 hd fun i hi k hk => ?_
  by_cases hki : k < i + 1
  · exact h i hi k hki
  · exact isoAt_comm.1 (h k hk i (by omega))
theorem isoB_mat {p : Int} {qs : List Int} {rows : List (List Int)} {d : Nat} (h : matB p rows = false) : isoB p qs rows d = false := by unfold isoB; rw [h]; rfl
theorem isoB_len {p : Int} {qs : List Int} {rows : List (List Int)} {d : Nat} (h : rows.length ≠ d) : isoB p qs rows d = false := by unfold isoB; rw [decide_eq_false h]; simp
theorem isoB_wid {p : Int} {qs : List Int} {rows : List (List Int)} {d : Nat} (h : (nthR rows 0).length ≠ d) : isoB p qs rows d = false := by unfold isoB; rw [decide_eq_false h]; simp
theorem isoB_det {p : Int} {qs : List Int} {rows : List (List Int)} {d : Nat} (h : detL p d rows = 0) : isoB p qs rows d = false := by unfold isoB; rw [decide_eq_false (p := detL p d rows ≠ 0) (by simp [h])]; simp
theorem isoB_at {p : Int} {qs : List Int} {rows : List (List Int)} {d i k : Nat} (hi : i < d) (hk : k < d) (h : ¬ isoAt p qs (turnL rows d d) d i k) : isoB p qs rows d = false := by
  unfold isoB; rw [decide_eq_false (p := ∀ i, i < d → ∀ k, k < d → isoAt p qs (turnL rows d d) d i k) (fun ha => h (ha i hi k hk))]; simp
theorem isoB_of {p : Int} {qs : List Int} {rows : List (List Int)} {d : Nat} (h : isoB p qs rows d = true) : matB p rows = true ∧ rows.length = d ∧ (nthR rows 0).length = d ∧ detL p d rows ≠ 0 ∧ ∀ i, i < d → ∀ k, k < d → isoAt p qs (turnL rows d d) d i k := by
  unfold isoB at h
  simp only [Bool.and_eq_true, decide_eq_true_eq] at h
  obtain ⟨⟨⟨⟨h1, h2⟩, h3⟩, h4⟩, h5⟩ := h
  exact ⟨h1, h2, h3, h4, h5⟩
/-- A matrix all of whose rows have the length of the first one. -/
theorem mat_good {p : Int} {rows : List (List Int)} {d : Nat} (h : matB p rows = true) (h0 : (nthR rows 0).length = d) : RowsG p d rows := by
  obtain ⟨h1, _, m, _, _, hg⟩ := matB_of h
  have : d = m := by rw [← h0]; exact (hg 0 h1).1
  subst this
  exact hg
theorem frame_good {p : Int} {rows : List (List Int)} {d : Nat} (hm : matB p rows = true) (_hn : rows.length = d) (h0 : (nthR rows 0).length = d) : ∀ i, i < d → (nthR rows i).length = d := fun i hi => (mat_good hm h0 i (by omega)).1

/-! ### Inverses -/
def wideM (A : List (List Int)) (n k : Nat) : List (List Int) := (List.range k).map fun i => nthR A i ++ bladeL n i
theorem wideM_succ (A : List (List Int)) (n k : Nat) : wideM A n (k + 1) = wideM A n k ++ [nthR A k ++ bladeL n k] := by simp [wideM, List.range_succ]
theorem wideM_len (A : List (List Int)) (n k : Nat) : (wideM A n k).length = k := by simp [wideM]
theorem wideM_nth {A : List (List Int)} {n k i : Nat} (h : i < k) : nthR (wideM A n k) i = nthR A i ++ bladeL n i := by
  unfold wideM; rw [nthR_map (by simpa using h)]; simp
theorem good_append {p : Int} {n m : Nat} {x y : List Int} (hx : Good p n x) (hy : Good p m y) : Good p (n + m) (x ++ y) := by
  refine ⟨by rw [List.length_append, hx.1, hy.1], fun i hi => ?_⟩
  by_cases h : i < n
  · rw [nth_append_left (by rw [hx.1]; exact h)]; exact hx.2 i h
  · have : nth (x ++ y) i = nth y (i - n) := by
      unfold nth
      rw [List.getD_eq_getElem?_getD, List.getD_eq_getElem?_getD, List.getElem?_append_right (by rw [hx.1]; omega), hx.1]
    rw [this]; exact hy.2 _ (by omega)
theorem wideM_good {p : Int} {A : List (List Int)} {n : Nat} (hp : 3 ≤ p) (hg : RowsG p n A) (hn : A.length = n) : RowsG p (n + n) (wideM A n n) := fun i hi => by
  rw [wideM_len] at hi
  rw [wideM_nth hi]
  exact good_append (hg i (by omega)) (blade_good hp)
theorem clr_cut {p : Int} {n m k d : Nat} {U V : List (List Int)} (hnm : n ≤ m) (hk : k < n) (hl : U.length = V.length) (h : ∀ j t, t < n → nth (nthR U j) t = nth (nthR V j) t) : ∀ j t, t < n → nth (nthR (clrS p k m d U U.length) j) t = nth (nthR (clrS p k n d V V.length) j) t := by
  intro j t ht
  rw [clrS_nth _ (Nat.le_refl _), clrS_nth _ (Nat.le_refl _), hl]
  split
  · rw [plusL_nth (by omega), plusL_nth ht, plusN, plusN, h j t ht, h d t ht, h j k hk]
  · exact h j t ht
theorem up_cut {p : Int} {n m k d i : Nat} {R S : List (List Int)} (hnm : n ≤ m) (hk : k < n) (hl : R.length = S.length) (hd : d < R.length) (hi : i < R.length) (h : ∀ j t, t < n → nth (nthR R j) t = nth (nthR S j) t) : ∀ j t, t < n → nth (nthR (upG p m R d k i) j) t = nth (nthR (upG p n S d k i) j) t := by
  intro j t ht
  rw [upG_nth hd hi, upG_nth (by omega) (by omega)]
  split
  · rw [scaleL_nth (by omega), scaleL_nth ht, scaleN, scaleN, h i t ht, h i k hk]
  · split
    · exact h d t ht
    · exact h j t ht
theorem piv_cut {n k d : Nat} {R S : List (List Int)} (hk : k < n) (hl : R.length = S.length) (hd : d ≤ R.length) (h : ∀ j t, t < n → nth (nthR R j) t = nth (nthR S j) t) : pivG R k d = pivG S k d := by
  obtain ⟨h1, h2, h3, h4⟩ := pivG_spec S k d (by omega)
  refine pivG_eq h1 (by omega) (fun j hj hj2 => by rw [h j k hk]; exact h3 j hj hj2) ?_
  rcases h4 with h4 | h4
  · exact .inl (by omega)
  · exact .inr (by rw [h _ k hk]; exact h4)
/-- Elimination with wide rows does at the first places what elimination with these places alone does. -/
theorem gauss_cut {p : Int} {n m : Nat} {A W : List (List Int)} (hp : primeB p = true) (hgA : RowsG p n A) (hgW : RowsG p m W) (hnm : n ≤ m) (hl : W.length = A.length) (h : ∀ j t, t < n → nth (nthR W j) t = nth (nthR A j) t) :
    ∀ k, k ≤ n → (gaussS p m W k).2 = (gaussS p n A k).2 ∧ ∀ j t, t < n → nth (nthR (gaussS p m W k).1 j) t = nth (nthR (gaussS p n A k).1 j) t
  | 0, _ => ⟨rfl, h⟩
  | k + 1, hk => by
    obtain ⟨e1, e2⟩ := gauss_cut hp hgA hgW hnm hl h k (by omega)
    obtain ⟨_, cW, rW⟩ := gaussS_red hp hgW k (by omega)
    have lW := gaussS_len (p := p) (m := m) (rows := W) k
    have lA := gaussS_len (p := p) (m := n) (rows := A) k
    have hd := rW.dle
    have hpv := piv_cut (n := n) (k := k) (d := (gaussS p m W k).2) (by omega) (show (gaussS p m W k).1.length = (gaussS p n A k).1.length by omega) hd e2
    show (stepG p m (gaussS p m W k) k).2 = (stepG p n (gaussS p n A k) k).2 ∧ ∀ j t, t < n → nth (nthR (stepG p m (gaussS p m W k) k).1 j) t = nth (nthR (stepG p n (gaussS p n A k) k).1 j) t
    obtain ⟨p1, p2, _, _⟩ := pivG_spec (gaussS p m W k).1 k _ hd
    by_cases hno : pivG (gaussS p m W k).1 k (gaussS p m W k).2 = (gaussS p m W k).1.length
    · rw [stepG_no hno, stepG_no (by rw [← e1, ← hpv, hno]; omega)]
      exact ⟨e1, e2⟩
    · have hi : pivG (gaussS p m W k).1 k (gaussS p m W k).2 < (gaussS p m W k).1.length := by omega
      rw [stepG_yes rfl hi, stepG_yes (s := gaussS p n A k) (k := k) (i := pivG (gaussS p m W k).1 k (gaussS p m W k).2) (by rw [← e1]; exact hpv.symm) (by omega)]
      refine ⟨by show _ + 1 = _ + 1; rw [e1], ?_⟩
      have hu := up_cut (p := p) (n := n) (m := m) (k := k) (d := (gaussS p m W k).2) (i := pivG (gaussS p m W k).1 k (gaussS p m W k).2) hnm (by omega) (show (gaussS p m W k).1.length = (gaussS p n A k).1.length by omega) (by omega) hi e2
      have h9 := clr_cut (p := p) (n := n) (m := m) (k := k) (d := (gaussS p m W k).2) hnm (by omega) (by rw [upG_len, upG_len]; omega) hu
      intro j t ht
      have h8 := h9 j t ht
      rw [upG_len, upG_len] at h8
      rw [← e1]
      exact h8
/-- The rows of the reduced basis of the wide rows. -/
def invW (p : Int) (n : Nat) (A : List (List Int)) : List (List Int) := basisL p (n + n) (wideM A n n)
theorem invW_cut {p : Int} {n : Nat} {A : List (List Int)} (hg : RowsG p n A) (hn : A.length = n) : ∀ j t, t < n → nth (nthR (wideM A n n) j) t = nth (nthR A j) t := fun j t ht => by
  by_cases hj : j < n
  · rw [wideM_nth hj, nth_append_left (by rw [(hg j (by omega)).1]; exact ht)]
  · have e1 : nthR (wideM A n n) j = [] := by unfold nthR; rw [List.getD_eq_getElem?_getD, List.getElem?_eq_none (by rw [wideM_len]; omega)]; rfl
    have e2 : nthR A j = [] := by unfold nthR; rw [List.getD_eq_getElem?_getD, List.getElem?_eq_none (by omega)]; rfl
    rw [e1, e2]
theorem invW_good {p : Int} {n : Nat} {A : List (List Int)} (hp : primeB p = true) (hg : RowsG p n A) (hn : A.length = n) : RowsG p (n + n) (invW p n A) := by
  have hpb := prime_bd hp
  obtain ⟨c, hb⟩ := basis_red hp (wideM_good (by omega) hg hn)
  exact hb.good
theorem invW_yes {p : Int} {n : Nat} {A : List (List Int)} (hp : primeB p = true) (hg : RowsG p n A) (hn : A.length = n) (hd : detL p n A ≠ 0) (h0 : 0 < n) : (invW p n A).length = n ∧ leadN (nthR (invW p n A) (n - 1)) < n := by
  have hpb := prime_bd hp
  have hgW := wideM_good (p := p) (by omega) hg hn
  have hr := (det_rank hp hg hn).1 hd
  unfold rankL at hr
  obtain ⟨e1, _⟩ := gauss_cut hp hg hgW (by omega) (by rw [wideM_len, hn]) (invW_cut hg hn) n (Nat.le_refl _)
  rw [hr] at e1
  obtain ⟨_, c, hred⟩ := gaussS_red hp hgW n (by omega)
  have hst := gaussS_stop (p := p) (m := n + n) (rows := wideM A n n) (k := n) (by rw [e1, wideM_len]) n
  have hgl := gaussS_len (p := p) (m := n + n) (rows := wideM A n n) n
  rw [wideM_len] at hgl
  have hbe : invW p n A = (gaussS p (n + n) (wideM A n n) n).1 := by
    unfold invW basisL
    rw [hst, e1, List.take_of_length_le (by omega)]
  rw [hbe]
  refine ⟨hgl, ?_⟩
  have hlt := hred.clt (n - 1) (by omega)
  have h1 := hred.one (n - 1) (by omega) (n - 1) (by omega)
  rw [if_pos rfl] at h1
  have hgn := (gaussS_red hp hgW n (by omega)).1 (n - 1) (by omega)
  rw [leadN_eq (k := c (n - 1)) (by rw [hgn.1]; omega) (hred.lead _ (by omega)) (.inr (by rw [h1]; decide))]
  exact hlt
theorem mono_id {n : Nat} {c : Nat → Nat} (hm : ∀ i j, i < j → j < n → c i < c j) : ∀ i, i < n → i ≤ c i
  | 0, _ => Nat.zero_le _
  | i + 1, h => by
    have h1 := mono_id hm i (by omega)
    have h2 := hm i (i + 1) (by omega) h
    omega
theorem mono_up {n : Nat} {c : Nat → Nat} (hm : ∀ i j, i < j → j < n → c i < c j) (h0 : 0 < n) : ∀ j, j < n → c (n - 1 - j) + j ≤ c (n - 1)
  | 0, _ => by simp
  | j + 1, h => by
    have h1 := mono_up hm h0 j (by omega)
    have h2 := hm (n - 1 - (j + 1)) (n - 1 - j) (by omega) (by omega)
    omega
theorem dotN_append {p : Int} {n m : Nat} {x y z : List Int} (hx : x.length = n) (hz : z.length = n) : dotN (n + m) (x ++ y) (z ++ List.replicate m 0) % p = dotN n x z % p := by
  unfold dotN
  have h : ∀ k, k ≤ m → sumN (n + k) (fun t => nth (x ++ y) t * nth (z ++ List.replicate m 0) t) = sumN n (fun t => nth x t * nth z t) := by
    intro k
    induction k with
    | zero =>
      intro _
      exact sumN_congr fun t ht => by rw [nth_append_left (by omega), nth_append_left (by omega)]
    | succ k ih =>
      intro hk
      show sumN (n + k) _ + nth (x ++ y) (n + k) * nth (z ++ List.replicate m 0) (n + k) = _
      rw [ih (by omega)]
      have : nth (z ++ List.replicate m (0 : Int)) (n + k) = 0 := by
        unfold nth
        rw [List.getD_eq_getElem?_getD, List.getElem?_append_right (by omega), List.getElem?_replicate]
        split <;> rfl
      rw [this, Int.mul_zero, Int.add_zero]
  rw [h m (Nat.le_refl _)]
theorem invW_no {p : Int} {n : Nat} {A : List (List Int)} (hp : primeB p = true) (hg : RowsG p n A) (hn : A.length = n) (hd : detL p n A = 0) (hl : (invW p n A).length = n) : n ≤ leadN (nthR (invW p n A) (n - 1)) := by
  have hpb := prime_bd hp
  have hgW := wideM_good (p := p) (by omega) hg hn
  have hr : rankL p n A < n := by
    have h1 := gauss_rank hp hg
    have h2 : rankL p n A ≠ n := fun h => (det_rank hp hg hn).2 h hd
    have : rankL p n A ≤ n := h1.2
    omega
  obtain ⟨z, f, hz, hk, hf, hzf⟩ := ker_exists hp hg hr
  obtain ⟨c, hb⟩ := basis_red (m := n + n) hp hgW
  have hb' : Basis p (n + n) (invW p n A) c := hb
  rw [hb'.leadN (by omega)]
  refine Nat.le_of_not_lt fun hc => ?_
  have hid : ∀ i, i < n → c i = i := fun i hi => by
    have h1 := mono_id (n := n) (fun i j a b => hb'.mono i j a (by omega)) i hi
    have h2 := mono_up (n := n) (fun i j a b => hb'.mono i j a (by omega)) (by omega) (n - 1 - i) (by omega)
    rw [show n - 1 - (n - 1 - i) = i by omega] at h2
    omega
  have hkW : Kill p (n + n) (wideM A n n) (z ++ List.replicate n 0) := fun i hi => by
    rw [wideM_len] at hi
    rw [wideM_nth hi, dotN_append (hg i (by omega)).1 hz.1]
    exact hk i (by omega)
  have hkB := (kill_basis hp hgW).2 hkW
  have h1 := hkB f (by show f < (invW p n A).length; omega)
  have hsum : dotN (n + n) (nthR (invW p n A) f) (z ++ List.replicate n 0) = nth z f := by
    unfold dotN
    have hs : ∀ k, k ≤ n + n → sumN k (fun t => nth (nthR (invW p n A) f) t * nth (z ++ List.replicate n 0) t) = if f < k then nth z f else 0 := by
      intro k
      induction k with
      | zero => intro _; rfl
      | succ k ih =>
        intro hk
        show sumN k _ + nth (nthR (invW p n A) f) k * nth (z ++ List.replicate n 0) k = _
        rw [ih (by omega)]
        by_cases hkn : k < n
        · have ho := hb'.one k (by omega) f (by omega)
          rw [hid k hkn] at ho
          rw [ho, nth_append_left (by rw [hz.1]; exact hkn)]
          by_cases hfk : f = k
          · subst hfk; rw [if_neg (by omega), if_pos rfl, if_pos (by omega)]; omega
          · rw [if_neg hfk, Int.zero_mul, Int.add_zero]
            by_cases hlt : f < k
            · rw [if_pos hlt, if_pos (by omega)]
            · rw [if_neg hlt, if_neg (by omega)]
        · have e0 : nth (z ++ List.replicate n (0 : Int)) k = 0 := by
            unfold nth
            rw [List.getD_eq_getElem?_getD, List.getElem?_append_right (by rw [hz.1]; omega), List.getElem?_replicate]
            split <;> rfl
          rw [e0, Int.mul_zero, Int.add_zero, if_pos (by omega), if_pos (by omega)]
    rw [hs (n + n) (Nat.le_refl _), if_pos (by omega)]
  rw [show nthR (basisL p (n + n) (wideM A n n)) f = nthR (invW p n A) f from rfl, hsum, hzf, Int.emod_eq_of_lt (by omega) (by omega)] at h1
  cases h1
/-- The inverse: the wide rows' last halves. -/
def cutM (rows : List (List Int)) (n k : Nat) : List (List Int) := (List.range k).map fun i => (nthR rows i).drop n
theorem cutM_succ (rows : List (List Int)) (n k : Nat) : cutM rows n (k + 1) = cutM rows n k ++ [(nthR rows k).drop n] := by simp [cutM, List.range_succ]
theorem cutM_len (rows : List (List Int)) (n k : Nat) : (cutM rows n k).length = k := by simp [cutM]
theorem cutM_nth {rows : List (List Int)} {n k i : Nat} (h : i < k) : nthR (cutM rows n k) i = (nthR rows i).drop n := by
  unfold cutM; rw [nthR_map (by simpa using h)]; simp
theorem drop_nth {x : List Int} {n i : Nat} : nth (x.drop n) i = nth x (n + i) := by
  unfold nth; rw [List.getD_eq_getElem?_getD, List.getD_eq_getElem?_getD, List.getElem?_drop]
theorem drop_good {p : Int} {n m : Nat} {x : List Int} (h : Good p (n + m) x) : Good p m (x.drop n) := ⟨by rw [List.length_drop, h.1]; omega, fun i hi => by rw [drop_nth]; exact h.2 _ (by omega)⟩
def invM (p : Int) (n : Nat) (A : List (List Int)) : List (List Int) := cutM (invW p n A) n n
theorem invM_good {p : Int} {n : Nat} {A : List (List Int)} (hp : primeB p = true) (hg : RowsG p n A) (hn : A.length = n) (hl : (invW p n A).length = n) : RowsG p n (invM p n A) := fun i hi => by
  unfold invM at hi ⊢
  rw [cutM_len] at hi
  rw [cutM_nth hi]
  exact drop_good (invW_good hp hg hn i (by omega))
end Go.Proofs.Ytnabpmafcflljaa

/-
  Reflections keep the products of the columns, in plain numbers.
  No condition. No program in sight.
-/
namespace Go.Proofs.Ytnabpmafcflljaa
set_option maxRecDepth 100000
open Go.RowKit

/-- The product of two vectors, not reduced. -/
def quadS (n : Nat) (qs v w : List Int) : Int := sumN n fun t => nth v t * nth qs t * nth w t
theorem dot_sumN (x y : List Int) : ∀ n, dotS x y n = sumN n fun i => nth x i * nth y i
  | 0 => rfl
  | n + 1 => by simp only [dotS, sumN]; rw [dot_sumN x y n]
theorem pair_quad {p : Int} {qs v w : List Int} {n : Nat} : pairL p qs v w n = quadS n qs v w % p := by
  unfold pairL dotL quadS
  rw [dot_sumN]
  exact sumN_emod fun i hi => by rw [wtL_nth hi, wtN, Int.mul_emod, Int.emod_emod, ← Int.mul_emod]
theorem quad_comm (n : Nat) (qs v w : List Int) : quadS n qs v w = quadS n qs w v := by
  unfold quadS; exact sumN_congr fun i _ => by grind
theorem mul3_emod {p a a' b c c' : Int} (h : a % p = a' % p) (h2 : c % p = c' % p) : a * b * c % p = a' * b * c' % p := by
  rw [Int.mul_emod, Int.mul_emod a, h, h2, ← Int.mul_emod a', ← Int.mul_emod]
theorem quad_expand (n : Nat) (qs u x y : List Int) (A B : Int) : sumN n (fun t => (nth x t - A * nth u t) * nth qs t * (nth y t - B * nth u t)) = quadS n qs x y - B * quadS n qs x u - A * quadS n qs u y + A * B * quadS n qs u u := by
  have h : ∀ t, (nth x t - A * nth u t) * nth qs t * (nth y t - B * nth u t) = (nth x t * nth qs t * nth y t + (-B) * (nth x t * nth qs t * nth u t)) + ((-A) * (nth u t * nth qs t * nth y t) + (A * B) * (nth u t * nth qs t * nth u t)) := fun t => by grind
  rw [sumN_congr fun t _ => h t, sumN_add, sumN_add, sumN_add, sumN_mul, sumN_mul, sumN_mul]
  unfold quadS
  grind
theorem refl_keep {p c : Int} {n : Nat} {qs u x y x' y' : List Int} (hc : c * quadS n qs u u % p = 2 % p) (hx : ∀ t, t < n → nth x' t % p = (nth x t - c * quadS n qs u x * nth u t) % p) (hy : ∀ t, t < n → nth y' t % p = (nth y t - c * quadS n qs u y * nth u t) % p) : quadS n qs x' y' % p = quadS n qs x y % p := by
  have h1 : quadS n qs x' y' % p = sumN n (fun t => (nth x t - c * quadS n qs u x * nth u t) * nth qs t * (nth y t - c * quadS n qs u y * nth u t)) % p := by
    unfold quadS
    exact sumN_emod fun t ht => mul3_emod (hx t ht) (hy t ht)
  obtain ⟨z, hz⟩ : ∃ z, c * quadS n qs u u - 2 = p * z := Int.dvd_of_emod_eq_zero (by rw [Int.sub_emod, hc, Int.sub_self, Int.zero_emod])
  rw [h1, quad_expand, quad_comm n qs x u, show quadS n qs x y - c * quadS n qs u y * quadS n qs u x - c * quadS n qs u x * quadS n qs u y + c * quadS n qs u x * (c * quadS n qs u y) * quadS n qs u u = quadS n qs x y + p * (z * (c * quadS n qs u x * quadS n qs u y)) by
    have : c * quadS n qs u u = 2 + p * z := by omega
    grind, Int.add_mul_emod_self_left]

/-- The factor of a reflection, the reflected vector, the matrix of a reflection. -/
def reflK (p : Int) (qs u v : List Int) (d : Nat) : Int := -2 * pairL p qs u v d * invN p (pairL p qs u u d)
def reflL (p : Int) (qs u v : List Int) (d : Nat) : List Int := plusL p v u (reflK p qs u v d) d
def reflC (p : Int) (qs u : List Int) (d k : Nat) : List (List Int) := (List.range k).map fun i => reflL p qs u (bladeL d i) d
theorem reflC_succ (p : Int) (qs u : List Int) (d k : Nat) : reflC p qs u d (k + 1) = reflC p qs u d k ++ [reflL p qs u (bladeL d k) d] := by simp [reflC, List.range_succ]
theorem reflC_len (p : Int) (qs u : List Int) (d k : Nat) : (reflC p qs u d k).length = k := by simp [reflC]
theorem reflC_nth {p : Int} {qs u : List Int} {d k i : Nat} (h : i < k) : nthR (reflC p qs u d k) i = reflL p qs u (bladeL d i) d := by
  unfold reflC; rw [nthR_map (by simpa using h)]; simp
theorem reflC_good {p : Int} {qs u : List Int} {d k : Nat} (hp : 1 ≤ p) : RowsG p d (reflC p qs u d k) := fun i hi => by
  rw [reflC_len] at hi
  rw [reflC_nth hi]; exact plus_good hp
def reflM (p : Int) (qs u : List Int) (d : Nat) : List (List Int) := turnL (reflC p qs u d d) d d
theorem reflM_len (p : Int) (qs u : List Int) (d : Nat) : (reflM p qs u d).length = d := turnL_len ..
theorem reflM_good {p : Int} {qs u : List Int} {d : Nat} (hp : 1 ≤ p) : RowsG p d (reflM p qs u d) := turn_good (fun j hj => reflC_good hp j hj) (reflC_len ..).symm

/-- The products of the columns are those of the basis. -/
def isoM (p : Int) (qs : List Int) (m : List (List Int)) (d : Nat) : Prop := ∀ i, i < d → ∀ k, k < d → pairL p qs (colL m i d) (colL m k d) d = wantN qs i k
theorem isoM_of {p : Int} {qs : List Int} {rows : List (List Int)} {d : Nat} (h : isoB p qs rows d = true) : isoM p qs rows d := fun i hi k hk => by
  have := (isoB_of h).2.2.2.2 i hi k hk
  unfold isoAt at this
  rwa [turnL_nth hi, turnL_nth hk] at this
theorem quad_blade {n : Nat} {qs u : List Int} {j : Nat} (hj : j < n) : quadS n qs u (bladeL n j) = nth u j * nth qs j := by
  unfold quadS
  rw [sumN_single hj fun i hi hne => by rw [bladeL_nth hj hi, if_neg (by omega), Int.mul_zero], bladeL_nth hj hj, if_pos rfl, Int.mul_one]
theorem reflM_at {p : Int} {qs u : List Int} {d t j : Nat} (ht : t < d) (hj : j < d) : nth (nthR (reflM p qs u d) t) j % p = ((if j = t then 1 else 0) - 2 * invN p (pairL p qs u u d) * (nth u j * nth qs j) * nth u t) % p := by
  unfold reflM
  rw [turnL_nth ht, colL_nth hj, reflC_nth hj]
  unfold reflL
  rw [plusL_nth ht, plusN, Int.emod_emod, bladeL_nth hj ht, reflK, pair_quad (v := u) (w := bladeL d j), quad_blade hj]
  rw [show (-2 * (nth u j * nth qs j % p) * invN p (pairL p qs u u d) * nth u t) = (nth u j * nth qs j % p) * (-2 * invN p (pairL p qs u u d) * nth u t) by grind]
  rw [Int.add_emod, Int.mul_emod, Int.emod_emod, ← Int.mul_emod, ← Int.add_emod]
  congr 1
  grind
theorem mul_col {p : Int} {qs u : List Int} {m : List (List Int)} {d i t : Nat} (hi : i < d) (ht : t < d) : nth (colL (mulL p (reflM p qs u d) m d d d) i d) t % p = (nth (colL m i d) t - 2 * invN p (pairL p qs u u d) * quadS d qs u (colL m i d) * nth u t) % p := by
  rw [colL_nth ht, mulL_nth ht, appL_nth hi, turnL_nth hi]
  unfold dotL
  rw [Int.emod_emod, dot_sumN]
  have h : sumN d (fun j => nth (colL m i d) j * nth (nthR (reflM p qs u d) t) j) % p = sumN d (fun j => nth (colL m i d) j * (if j = t then 1 else 0) + (-(2 * invN p (pairL p qs u u d) * nth u t)) * (nth u j * nth qs j * nth (colL m i d) j)) % p :=
    sumN_emod fun j hj => by
      rw [Int.mul_emod, reflM_at ht hj, ← Int.mul_emod]
      congr 1
      grind
  rw [h, sumN_add, sumN_mul, sumN_single ht fun j hj hne => by rw [if_neg (by omega), Int.mul_zero], if_pos rfl]
  unfold quadS
  congr 1
  grind
theorem refl_iso {p : Int} {qs u : List Int} {m : List (List Int)} {d : Nat} (hp : primeB p = true) (hu : pairL p qs u u d ≠ 0) (h : isoM p qs m d) : isoM p qs (mulL p (reflM p qs u d) m d d d) d := fun i hi k hk => by
  have hpb := prime_bd hp
  have hb := pairL_bd (p := p) (qs := qs) (v := u) (w := u) (n := d) (by omega)
  have hc : 2 * invN p (pairL p qs u u d) * quadS d qs u u % p = 2 % p := by
    have h1 := (inv_spec hp (a := pairL p qs u u d) (by omega) hb.2).2.1
    rw [pair_quad, Int.mul_emod, Int.emod_emod, ← Int.mul_emod] at h1
    rw [← pair_quad] at h1
    rw [show 2 * invN p (pairL p qs u u d) * quadS d qs u u = 2 * (quadS d qs u u * invN p (pairL p qs u u d)) by grind, Int.mul_emod, h1, Int.mul_one, Int.emod_emod]
  rw [← h i hi k hk, pair_quad, pair_quad]
  exact refl_keep hc (fun t ht => mul_col hi ht) (fun t ht => mul_col hk ht)
/-- Where the difference has no norm, the sum has one. -/
theorem more_ne {p : Int} {qs w : List Int} {d i : Nat} (hp : primeB p = true) (hi : i < d) (hq : nth qs i % p ≠ 0) (hw : pairL p qs w w d = nth qs i) (hz : pairL p qs (plusL p w (bladeL d i) (-1) d) (plusL p w (bladeL d i) (-1) d) d = 0) : pairL p qs (plusL p w (bladeL d i) 1 d) (plusL p w (bladeL d i) 1 d) d ≠ 0 := by
  intro h1
  have hpb := prime_bd hp
  have ex : ∀ k : Int, pairL p qs (plusL p w (bladeL d i) k d) (plusL p w (bladeL d i) k d) d = (quadS d qs w w - (-k) * quadS d qs w (bladeL d i) - (-k) * quadS d qs (bladeL d i) w + (-k) * (-k) * quadS d qs (bladeL d i) (bladeL d i)) % p := fun k => by
    rw [pair_quad, ← quad_expand]
    unfold quadS
    exact sumN_emod fun t ht => by
      have e : nth (plusL p w (bladeL d i) k d) t % p = (nth w t - -k * nth (bladeL d i) t) % p := by
        rw [plusL_nth ht, plusN, Int.emod_emod]; congr 1; grind
      exact mul3_emod e e
  rw [ex] at h1 hz
  rw [pair_quad] at hw
  have hbb : quadS d qs (bladeL d i) (bladeL d i) = nth qs i := by rw [quad_blade hi, bladeL_nth hi hi, if_pos rfl, Int.one_mul]
  rw [hbb] at h1 hz
  obtain ⟨a, ha⟩ := Int.dvd_of_emod_eq_zero h1
  obtain ⟨b, hb⟩ := Int.dvd_of_emod_eq_zero hz
  have hs : 2 * (quadS d qs w w + nth qs i) = p * (a + b) := by grind
  have h4 : 4 * nth qs i % p = 0 := by
    have e := Int.emod_add_mul_ediv (quadS d qs w w) p
    rw [hw] at e
    have : 4 * nth qs i = p * (a + b - 2 * (quadS d qs w w / p)) := by grind
    rw [this]; exact Int.mul_emod_right ..
  have h5 := (mul_zero_of hp (x := 4 % p) (y := nth qs i % p) (Int.emod_nonneg _ (by omega)) (Int.emod_lt_of_pos _ (by omega)) (Int.emod_nonneg _ (by omega)) (Int.emod_lt_of_pos _ (by omega))).1 (by rw [← Int.mul_emod]; exact h4)
  rcases h5 with h5 | h5
  · have h6 := Int.le_of_dvd (by omega) (Int.dvd_of_emod_eq_zero h5)
    have h7 : p = 3 ∨ p = 4 := by omega
    rcases h7 with rfl | rfl
    · omega
    · revert hp; decide
  · exact hq h5
end Go.Proofs.Ytnabpmafcflljaa

/-
  Reflections of vectors, in the program and in the reference.
  No condition.
-/
namespace Go.Proofs.Ytnabpmafcflljaa
set_option maxRecDepth 100000
open Go.RowKit

set_option maxHeartbeats 8000000 in
set_option maxRecDepth 100000 in
theorem c_reflected (p : Int) (a : Option Addr) (d cap : Nat) (qs : List Int) (au : Option Addr) (cu : Nat) (u : List Int) (av : Option Addr) (cv : Nat) (v : List Int) (w : World) (hp1 : 3 ≤ p) (hp2 : p ≤ 13) (hd : d ≤ 6) (hq : RdC w a d qs) (hqb : isB p qs = true) (hu : RdC w au d u) (hgu : Good p d u) (hv : RdC w av d v) (hgv : Good p d v) :
    Calls Try.prog 143 #[.agg #[.int .i64 p, .slice a d cap], .slice au d cu, .slice av d cv] w fun e w' => ∃ g rc, e = .returned (.slice (some ⟨g, 0, none⟩) d rc) ∧ OwnC w.heap.size w' (some ⟨g, 0, none⟩) d rc (reflL p qs u v d) ∧ Ext w w' := by
  have HQ := Lib.hid hq
  have HQB := Lib.hid hqb
  have HU := Lib.hid hu
  have HGU := Lib.hid hgu
  have HV := Lib.hid hv
  have HGV := Lib.hid hgv
  obtain ⟨pv, hpv⟩ : ∃ x, x = pairL p qs u v d := ⟨_, rfl⟩
  obtain ⟨nu, hnu⟩ : ∃ x, x = pairL p qs u u d := ⟨_, rfl⟩
  obtain ⟨iv, hiv⟩ : ∃ x, x = invN p nu := ⟨_, rfl⟩
  have hpb2 : 0 ≤ pv ∧ pv < p := by rw [hpv]; exact pairL_bd (by omega)
  have hnb : 0 ≤ nu ∧ nu < p := by rw [hnu]; exact pairL_bd (by omega)
  have hib : 0 ≤ iv ∧ iv < p := by rw [hiv]; exact invN_bd (by omega)
  have hpi : 0 ≤ pv * iv ∧ pv * iv ≤ 144 := ⟨Int.mul_nonneg hpb2.1 hib.1, Int.le_trans (Int.mul_le_mul (show pv ≤ 12 by omega) (show iv ≤ 12 by omega) hib.1 (by omega)) (by omega)⟩
  obtain ⟨m1, hm1⟩ : ∃ x, x = -2 * pv := ⟨_, rfl⟩
  obtain ⟨m2, hm2⟩ : ∃ x, x = m1 * iv := ⟨_, rfl⟩
  have hm2b : m2 = -2 * (pv * iv) := by rw [hm2, hm1, Int.mul_assoc]
  have HM1 := Lib.hid (show IntKind.i64.wrap (-2 * pv) = m1 by rw [hm1]; exact IntWalk.i64_in _ (by omega))
  have HM2 := Lib.hid (show IntKind.i64.wrap (m1 * iv) = m2 by rw [← hm2]; exact IntWalk.i64_in _ (by omega))
  have HK := Lib.hid (show m2 = reflK p qs u v d by rw [hm2, hm1, hpv, hiv, hnu]; rfl)
  have hm2c : -1000 ≤ m2 ∧ m2 ≤ 1000 := by omega
  have HPV := Lib.hid hpv
  have HNU := Lib.hid hnu
  have HIV := Lib.hid hiv
  clear hq hqb hu hgu hv hgv hpv hnu hiv hpi hm1 hm2 hm2b
  go_enter Try.func143, Try.ntmps143
  go_wp2_with (fail)
  have HS0 := Lib.hid ((ext_drew _).cell (show (w.alloc (.cells #[.int .i64 p, .slice a d cap] 30)).cell? ⟨w.heap.size, 0, none⟩ = some (.int .i64 p) by simp))
  have HS1 := Lib.hid ((ext_drew _).cell (show (w.alloc (.cells #[.int .i64 p, .slice a d cap] 30)).cell? ⟨w.heap.size, 1, none⟩ = some (.slice a d cap) by simp))
  have GW := Lib.hid ((ext_alloc w (.cells #[.int .i64 p, .slice a d cap] 30)).trans (ext_drew _))
  refine wp_region_lex [(1, .val (.int .i64 p)), (7, .val (.int .i64 pv)), (10, .val (.int .i64 p)), (13, .val (.int .i64 nu)), (14, .val (.int .i64 iv)), (16, .ownS w.heap.size d (plusL p v u m2 d))] (by kernel_rfl) (by kernel_rfl) ?_
  (refine LexW.pure (v := ?_) rfl rfl (fun w1 he => ?_) ?_; rotate_left; ( have e1 := he.cell HS0.out; have e2 := he.cell HS1.out; have m1e := HM1.out; have m2e := HM2.out; go_simp; rfl); simp only [Act.put, List.setIfInBounds_toArray, List.set_cons_zero, List.set_cons_succ])
  (refine LexW.call (f := ?_) (args := ?_) rfl rfl (fun w1 => ?_) (fun w1 he hdep => ?_) ?_; rotate_left 2; (go_simp; refine ⟨?_, ?_⟩ <;> rfl); ( exact c_field p _ w1); simp only [Act.put, List.setIfInBounds_toArray, List.set_cons_zero, List.set_cons_succ])
  (refine LexW.pure (v := ?_) rfl rfl (fun w1 he => ?_) ?_; rotate_left; ( have e1 := he.cell HS0.out; have e2 := he.cell HS1.out; have m1e := HM1.out; have m2e := HM2.out; go_simp; rfl); simp only [Act.put, List.setIfInBounds_toArray, List.set_cons_zero, List.set_cons_succ])
  (refine LexW.pure (v := ?_) rfl rfl (fun w1 he => ?_) ?_; rotate_left; ( have e1 := he.cell HS0.out; have e2 := he.cell HS1.out; have m1e := HM1.out; have m2e := HM2.out; go_simp; rfl); simp only [Act.put, List.setIfInBounds_toArray, List.set_cons_zero, List.set_cons_succ])
  (refine LexW.pure (v := ?_) rfl rfl (fun w1 he => ?_) ?_; rotate_left; ( have e1 := he.cell HS0.out; have e2 := he.cell HS1.out; have m1e := HM1.out; have m2e := HM2.out; go_simp; rfl); simp only [Act.put, List.setIfInBounds_toArray, List.set_cons_zero, List.set_cons_succ])
  (refine LexW.pure (v := ?_) rfl rfl (fun w1 he => ?_) ?_; rotate_left; ( have e1 := he.cell HS0.out; have e2 := he.cell HS1.out; have m1e := HM1.out; have m2e := HM2.out; go_simp; rfl); simp only [Act.put, List.setIfInBounds_toArray, List.set_cons_zero, List.set_cons_succ])
  (refine LexW.pure (v := ?_) rfl rfl (fun w1 he => ?_) ?_; rotate_left; ( have e1 := he.cell HS0.out; have e2 := he.cell HS1.out; have m1e := HM1.out; have m2e := HM2.out; go_simp; rfl); simp only [Act.put, List.setIfInBounds_toArray, List.set_cons_zero, List.set_cons_succ])
  (refine LexW.call (f := ?_) (args := ?_) rfl rfl (fun w1 => ?_) (fun w1 he hdep => ?_) ?_; rotate_left 2; (go_simp; refine ⟨?_, ?_⟩ <;> rfl); ( rw [HPV.out]; exact c_pair p a d cap qs au cu u av cv v w1 (by omega) (by omega) hd (HQ.out.ext (GW.out.trans he)) HQB.out (HU.out.ext (GW.out.trans he)) HGU.out (HV.out.ext (GW.out.trans he)) HGV.out); simp only [Act.put, List.setIfInBounds_toArray, List.set_cons_zero, List.set_cons_succ])
  (refine LexW.pure (v := ?_) rfl rfl (fun w1 he => ?_) ?_; rotate_left; ( have e1 := he.cell HS0.out; have e2 := he.cell HS1.out; have m1e := HM1.out; have m2e := HM2.out; go_simp; rfl); simp only [Act.put, List.setIfInBounds_toArray, List.set_cons_zero, List.set_cons_succ])
  (refine LexW.pure (v := ?_) rfl rfl (fun w1 he => ?_) ?_; rotate_left; ( have e1 := he.cell HS0.out; have e2 := he.cell HS1.out; have m1e := HM1.out; have m2e := HM2.out; go_simp; rfl); simp only [Act.put, List.setIfInBounds_toArray, List.set_cons_zero, List.set_cons_succ])
  (refine LexW.call (f := ?_) (args := ?_) rfl rfl (fun w1 => ?_) (fun w1 he hdep => ?_) ?_; rotate_left 2; (go_simp; refine ⟨?_, ?_⟩ <;> rfl); ( exact c_field p _ w1); simp only [Act.put, List.setIfInBounds_toArray, List.set_cons_zero, List.set_cons_succ])
  (refine LexW.pure (v := ?_) rfl rfl (fun w1 he => ?_) ?_; rotate_left; ( have e1 := he.cell HS0.out; have e2 := he.cell HS1.out; have m1e := HM1.out; have m2e := HM2.out; go_simp; rfl); simp only [Act.put, List.setIfInBounds_toArray, List.set_cons_zero, List.set_cons_succ])
  (refine LexW.pure (v := ?_) rfl rfl (fun w1 he => ?_) ?_; rotate_left; ( have e1 := he.cell HS0.out; have e2 := he.cell HS1.out; have m1e := HM1.out; have m2e := HM2.out; go_simp; rfl); simp only [Act.put, List.setIfInBounds_toArray, List.set_cons_zero, List.set_cons_succ])
  (refine LexW.call (f := ?_) (args := ?_) rfl rfl (fun w1 => ?_) (fun w1 he hdep => ?_) ?_; rotate_left 2; (go_simp; refine ⟨?_, ?_⟩ <;> rfl); ( rw [HNU.out]; exact c_norm p a d cap qs au cu u w1 (by omega) (by omega) hd (HQ.out.ext (GW.out.trans he)) HQB.out (HU.out.ext (GW.out.trans he)) HGU.out); simp only [Act.put, List.setIfInBounds_toArray, List.set_cons_zero, List.set_cons_succ])
  (refine LexW.call (f := ?_) (args := ?_) rfl rfl (fun w1 => ?_) (fun w1 he hdep => ?_) ?_; rotate_left 2; (go_simp; refine ⟨?_, ?_⟩ <;> rfl); ( rw [HIV.out]; exact c_inv p nu w1 (by omega) (by omega) (by omega) (by omega)); simp only [Act.put, List.setIfInBounds_toArray, List.set_cons_zero, List.set_cons_succ])
  (refine LexW.pure (v := ?_) rfl rfl (fun w1 he => ?_) ?_; rotate_left; ( have e1 := he.cell HS0.out; have e2 := he.cell HS1.out; have m1e := HM1.out; have m2e := HM2.out; go_simp; rfl); simp only [Act.put, List.setIfInBounds_toArray, List.set_cons_zero, List.set_cons_succ])
  (refine LexW.callR (f := ?_) (args := ?_) rfl rfl (fun w1 => ?_) (fun w1 he hdep => ?_) (fun v hv => ?_); rotate_left 2; (go_simp; refine ⟨?_, ?_⟩ <;> rfl); ( refine (c_plus p _ _ d _ _ v u m2 w1 (by omega) (by omega) (by omega) (by omega) (HV.out.ext (GW.out.trans he)) (HU.out.ext (GW.out.trans he)) HGV.out HGU.out).mono ?_; rintro e w2 ⟨g, rc, rfl, ho, g2⟩; exact ⟨_, rfl, g2, g, rc, rfl, ho.mono (Nat.le_trans GW.out.size he.size)⟩); simp only [Act.put, List.setIfInBounds_toArray, List.set_cons_zero, List.set_cons_succ])
  obtain ⟨_, g23, c23, rfl, _⟩ := hv
  (refine LexW.pure (v := ?_) rfl rfl (fun w1 he => ?_) ?_; rotate_left; ( have e1 := he.cell HS0.out; have e2 := he.cell HS1.out; have m1e := HM1.out; have m2e := HM2.out; go_simp; rfl); simp only [Act.put, List.setIfInBounds_toArray, List.set_cons_zero, List.set_cons_succ])
  refine LexW.nil (fun w3 he hkn => ?_)
  obtain ⟨_, _, q23, r23⟩ : (SPred.ownS w.heap.size d (plusL p v u m2 d)).holds (.slice (some ⟨g23, 0, none⟩) d c23) w3 := hkn (16, _) (by simp)
  cases q23
  have R23 := Lib.hid r23
  have HE := Lib.hid (GW.out.trans he)
  clear he hkn r23
  go_wp2_with (fail)
  go_ret
  exact ⟨_, _, rfl, by rw [reflL, ← HK.out]; exact R23.out, HE.out⟩
set_option maxHeartbeats 8000000 in
set_option maxRecDepth 100000 in
theorem s_reflect (p : Int) (a : Option Addr) (d cap : Nat) (qs : List Int) (au : Option Addr) (cu : Nat) (u : List Int) (av : Option Addr) (cv : Nat) (v : List Int) (w : World) (hpr : primeB p = true) (hd : d ≤ 6) (hq : RdC w a d qs) (hqb : isB p qs = true) (hu : RdC w au d u) (hgu : Good p d u) (hv : RdC w av d v) (hgv : Good p d v) (hne : pairL p qs u u d ≠ 0) :
    Calls Try.prog 136 #[.agg #[.int .i64 p, .slice a d cap], .slice au d cu, .slice av d cv] w fun e w' => ∃ g rc, e = .returned (.slice (some ⟨g, 0, none⟩) d rc) ∧ OwnC w.heap.size w' (some ⟨g, 0, none⟩) d rc (reflL p qs u v d) ∧ Ext w w' := by
  have hpb := prime_bd hpr
  have hpz : ¬ p = 0 := by omega
  have HQ := Lib.hid hq
  have HQB := Lib.hid hqb
  have HU := Lib.hid hu
  have HGU := Lib.hid hgu
  have HV := Lib.hid hv
  have HGV := Lib.hid hgv
  obtain ⟨pv, hpv⟩ : ∃ x, x = pairL p qs u v d := ⟨_, rfl⟩
  obtain ⟨nu, hnu⟩ : ∃ x, x = pairL p qs u u d := ⟨_, rfl⟩
  obtain ⟨iv, hiv⟩ : ∃ x, x = invN p nu := ⟨_, rfl⟩
  have hpb2 : 0 ≤ pv ∧ pv < p := by rw [hpv]; exact pairL_bd (by omega)
  have hnb : 0 ≤ nu ∧ nu < p := by rw [hnu]; exact pairL_bd (by omega)
  have hib : 0 ≤ iv ∧ iv < p := by rw [hiv]; exact invN_bd (by omega)
  have hpi : 0 ≤ pv * iv ∧ pv * iv ≤ 144 := ⟨Int.mul_nonneg hpb2.1 hib.1, Int.le_trans (Int.mul_le_mul (show pv ≤ 12 by omega) (show iv ≤ 12 by omega) hib.1 (by omega)) (by omega)⟩
  have hnz : 0 < nu := by rw [← hnu] at hne; omega
  obtain ⟨m1, hm1⟩ : ∃ x, x = 2 * pv := ⟨_, rfl⟩
  obtain ⟨t1, ht1⟩ : ∃ x, x = m1 % p := ⟨_, rfl⟩
  have ht1b : 0 ≤ t1 ∧ t1 < p := by rw [ht1]; exact ⟨Int.emod_nonneg _ (by omega), Int.emod_lt_of_pos _ (by omega)⟩
  have hti : 0 ≤ t1 * iv ∧ t1 * iv ≤ 144 := ⟨Int.mul_nonneg ht1b.1 hib.1, Int.le_trans (Int.mul_le_mul (show t1 ≤ 12 by omega) (show iv ≤ 12 by omega) hib.1 (by omega)) (by omega)⟩
  obtain ⟨m2, hm2⟩ : ∃ x, x = t1 * iv := ⟨_, rfl⟩
  obtain ⟨f1, hf1⟩ : ∃ x, x = m2 % p := ⟨_, rfl⟩
  have hf1b : 0 ≤ f1 ∧ f1 < p := by rw [hf1]; exact ⟨Int.emod_nonneg _ (by omega), Int.emod_lt_of_pos _ (by omega)⟩
  obtain ⟨m3, hm3⟩ : ∃ x, x = p - f1 := ⟨_, rfl⟩
  obtain ⟨f2, hf2⟩ : ∃ x, x = m3 % p := ⟨_, rfl⟩
  have hf2b : 0 ≤ f2 ∧ f2 < p := by rw [hf2]; exact ⟨Int.emod_nonneg _ (by omega), Int.emod_lt_of_pos _ (by omega)⟩
  have HM1 := Lib.hid (show IntKind.i64.wrap (2 * pv) = m1 by rw [hm1]; exact IntWalk.i64_in _ (by omega))
  have HT1 := Lib.hid (show m1.tmod p = t1 by rw [ht1]; exact Int.tmod_eq_emod_of_nonneg (by omega))
  have HM2 := Lib.hid (show IntKind.i64.wrap (t1 * iv) = m2 by rw [hm2]; exact IntWalk.i64_in _ (by omega))
  have HT2 := Lib.hid (show m2.tmod p = f1 by rw [hf1]; exact Int.tmod_eq_emod_of_nonneg (by omega))
  have HM3 := Lib.hid (show IntKind.i64.wrap (p - f1) = m3 by rw [hm3]; exact IntWalk.i64_in _ (by omega))
  have HT3 := Lib.hid (show m3.tmod p = f2 by rw [hf2]; exact Int.tmod_eq_emod_of_nonneg (by omega))
  have HK := Lib.hid (show plusL p v u f2 d = reflL p qs u v d from plus_mod (by
    rw [hf2, Int.emod_emod, hm3, hf1, hm2, ht1, hm1, reflK, ← hpv, ← hnu, ← hiv]
    rw [Int.sub_emod, Int.emod_self, Int.emod_emod, Int.mul_emod (2 * pv % p), Int.emod_emod, ← Int.mul_emod, ← Int.emod_self (a := p), ← Int.sub_emod, show p - 2 * pv * iv = -2 * pv * iv + p by grind, Int.add_emod_right]))
  have HPV := Lib.hid hpv
  have HNU := Lib.hid hnu
  have HIV := Lib.hid hiv
  have HPR := Lib.hid hpr
  clear hq hqb hu hgu hv hgv hpv hnu hiv hpi hm1 hm2 hm3 ht1 hf1 hf2 hti hne hpr
  go_enter Try.func136, Try.ntmps136
  go_wp2_with (fail)
  have HS0 := Lib.hid ((ext_drew _).cell (show (w.alloc (.cells #[.int .i64 p, .slice a d cap] 30)).cell? ⟨w.heap.size, 0, none⟩ = some (.int .i64 p) by simp))
  have HS1 := Lib.hid ((ext_drew _).cell (show (w.alloc (.cells #[.int .i64 p, .slice a d cap] 30)).cell? ⟨w.heap.size, 1, none⟩ = some (.slice a d cap) by simp))
  have GW := Lib.hid ((ext_alloc w (.cells #[.int .i64 p, .slice a d cap] 30)).trans (ext_drew _))
  refine wp_region_lex [(3, .val (.int .i64 pv)), (13, .val (.int .i64 nu)), (14, .val (.int .i64 iv))] (by kernel_rfl) (by kernel_rfl) ?_
  (refine LexW.pure (v := ?_) rfl rfl (fun w1 he => ?_) ?_; rotate_left; ( have e1 := he.cell HS0.out; have e2 := he.cell HS1.out; have m1e := HM1.out; have m2e := HM2.out; have t1e := HT1.out; have t2e := HT2.out; go_simp; rfl); simp only [Act.put, List.setIfInBounds_toArray, List.set_cons_zero, List.set_cons_succ])
  (refine LexW.pure (v := ?_) rfl rfl (fun w1 he => ?_) ?_; rotate_left; ( have e1 := he.cell HS0.out; have e2 := he.cell HS1.out; have m1e := HM1.out; have m2e := HM2.out; have t1e := HT1.out; have t2e := HT2.out; go_simp; rfl); simp only [Act.put, List.setIfInBounds_toArray, List.set_cons_zero, List.set_cons_succ])
  (refine LexW.pure (v := ?_) rfl rfl (fun w1 he => ?_) ?_; rotate_left; ( have e1 := he.cell HS0.out; have e2 := he.cell HS1.out; have m1e := HM1.out; have m2e := HM2.out; have t1e := HT1.out; have t2e := HT2.out; go_simp; rfl); simp only [Act.put, List.setIfInBounds_toArray, List.set_cons_zero, List.set_cons_succ])
  (refine LexW.call (f := ?_) (args := ?_) rfl rfl (fun w1 => ?_) (fun w1 he hdep => ?_) ?_; rotate_left 2; (go_simp; refine ⟨?_, ?_⟩ <;> rfl); ( rw [HPV.out]; exact s_pair p a d cap qs au cu u av cv v w1 (by omega) (by omega) hd (HQ.out.ext (GW.out.trans he)) HQB.out (HU.out.ext (GW.out.trans he)) HGU.out (HV.out.ext (GW.out.trans he)) HGV.out); simp only [Act.put, List.setIfInBounds_toArray, List.set_cons_zero, List.set_cons_succ])
  (refine LexW.pure (v := ?_) rfl rfl (fun w1 he => ?_) ?_; rotate_left; ( have e1 := he.cell HS0.out; have e2 := he.cell HS1.out; have m1e := HM1.out; have m2e := HM2.out; have t1e := HT1.out; have t2e := HT2.out; go_simp; rfl); simp only [Act.put, List.setIfInBounds_toArray, List.set_cons_zero, List.set_cons_succ])
  (refine LexW.pure (v := ?_) rfl rfl (fun w1 he => ?_) ?_; rotate_left; ( have e1 := he.cell HS0.out; have e2 := he.cell HS1.out; have m1e := HM1.out; have m2e := HM2.out; have t1e := HT1.out; have t2e := HT2.out; go_simp; rfl); simp only [Act.put, List.setIfInBounds_toArray, List.set_cons_zero, List.set_cons_succ])
  (refine LexW.pure (v := ?_) rfl rfl (fun w1 he => ?_) ?_; rotate_left; ( have e1 := he.cell HS0.out; have e2 := he.cell HS1.out; have m1e := HM1.out; have m2e := HM2.out; have t1e := HT1.out; have t2e := HT2.out; go_simp; rfl); simp only [Act.put, List.setIfInBounds_toArray, List.set_cons_zero, List.set_cons_succ])
  (refine LexW.pure (v := ?_) rfl rfl (fun w1 he => ?_) ?_; rotate_left; ( have e1 := he.cell HS0.out; have e2 := he.cell HS1.out; have m1e := HM1.out; have m2e := HM2.out; have t1e := HT1.out; have t2e := HT2.out; go_simp; rfl); simp only [Act.put, List.setIfInBounds_toArray, List.set_cons_zero, List.set_cons_succ])
  (refine LexW.pure (v := ?_) rfl rfl (fun w1 he => ?_) ?_; rotate_left; ( have e1 := he.cell HS0.out; have e2 := he.cell HS1.out; have m1e := HM1.out; have m2e := HM2.out; have t1e := HT1.out; have t2e := HT2.out; go_simp; rfl); simp only [Act.put, List.setIfInBounds_toArray, List.set_cons_zero, List.set_cons_succ])
  (refine LexW.pure (v := ?_) rfl rfl (fun w1 he => ?_) ?_; rotate_left; ( have e1 := he.cell HS0.out; have e2 := he.cell HS1.out; have m1e := HM1.out; have m2e := HM2.out; have t1e := HT1.out; have t2e := HT2.out; go_simp; rfl); simp only [Act.put, List.setIfInBounds_toArray, List.set_cons_zero, List.set_cons_succ])
  (refine LexW.pure (v := ?_) rfl rfl (fun w1 he => ?_) ?_; rotate_left; ( have e1 := he.cell HS0.out; have e2 := he.cell HS1.out; have m1e := HM1.out; have m2e := HM2.out; have t1e := HT1.out; have t2e := HT2.out; go_simp; rfl); simp only [Act.put, List.setIfInBounds_toArray, List.set_cons_zero, List.set_cons_succ])
  (refine LexW.pure (v := ?_) rfl rfl (fun w1 he => ?_) ?_; rotate_left; ( have e1 := he.cell HS0.out; have e2 := he.cell HS1.out; have m1e := HM1.out; have m2e := HM2.out; have t1e := HT1.out; have t2e := HT2.out; go_simp; rfl); simp only [Act.put, List.setIfInBounds_toArray, List.set_cons_zero, List.set_cons_succ])
  (refine LexW.pure (v := ?_) rfl rfl (fun w1 he => ?_) ?_; rotate_left; ( have e1 := he.cell HS0.out; have e2 := he.cell HS1.out; have m1e := HM1.out; have m2e := HM2.out; have t1e := HT1.out; have t2e := HT2.out; go_simp; rfl); simp only [Act.put, List.setIfInBounds_toArray, List.set_cons_zero, List.set_cons_succ])
  (refine LexW.call (f := ?_) (args := ?_) rfl rfl (fun w1 => ?_) (fun w1 he hdep => ?_) ?_; rotate_left 2; (go_simp; refine ⟨?_, ?_⟩ <;> rfl); ( rw [HNU.out]; exact s_pair p a d cap qs au cu u au cu u w1 (by omega) (by omega) hd (HQ.out.ext (GW.out.trans he)) HQB.out (HU.out.ext (GW.out.trans he)) HGU.out (HU.out.ext (GW.out.trans he)) HGU.out); simp only [Act.put, List.setIfInBounds_toArray, List.set_cons_zero, List.set_cons_succ])
  (refine LexW.call (f := ?_) (args := ?_) rfl rfl (fun w1 => ?_) (fun w1 he hdep => ?_) ?_; rotate_left 2; (go_simp; refine ⟨?_, ?_⟩ <;> rfl); ( rw [HIV.out]; exact s_inv p nu w1 HPR.out (by omega) (by omega)); simp only [Act.put, List.setIfInBounds_toArray, List.set_cons_zero, List.set_cons_succ])
  (refine LexW.pure (v := ?_) rfl rfl (fun w1 he => ?_) ?_; rotate_left; ( have e1 := he.cell HS0.out; have e2 := he.cell HS1.out; have m1e := HM1.out; have m2e := HM2.out; have t1e := HT1.out; have t2e := HT2.out; go_simp; rfl); simp only [Act.put, List.setIfInBounds_toArray, List.set_cons_zero, List.set_cons_succ])
  (refine LexW.pure (v := ?_) rfl rfl (fun w1 he => ?_) ?_; rotate_left; ( have e1 := he.cell HS0.out; have e2 := he.cell HS1.out; have m1e := HM1.out; have m2e := HM2.out; have t1e := HT1.out; have t2e := HT2.out; go_simp; rfl); simp only [Act.put, List.setIfInBounds_toArray, List.set_cons_zero, List.set_cons_succ])
  (refine LexW.pure (v := ?_) rfl rfl (fun w1 he => ?_) ?_; rotate_left; ( have e1 := he.cell HS0.out; have e2 := he.cell HS1.out; have m1e := HM1.out; have m2e := HM2.out; have t1e := HT1.out; have t2e := HT2.out; go_simp; rfl); simp only [Act.put, List.setIfInBounds_toArray, List.set_cons_zero, List.set_cons_succ])
  (refine LexW.pure (v := ?_) rfl rfl (fun w1 he => ?_) ?_; rotate_left; ( have e1 := he.cell HS0.out; have e2 := he.cell HS1.out; have m1e := HM1.out; have m2e := HM2.out; have t1e := HT1.out; have t2e := HT2.out; go_simp; rfl); simp only [Act.put, List.setIfInBounds_toArray, List.set_cons_zero, List.set_cons_succ])
  (refine LexW.pure (v := ?_) rfl rfl (fun w1 he => ?_) ?_; rotate_left; ( have e1 := he.cell HS0.out; have e2 := he.cell HS1.out; have m1e := HM1.out; have m2e := HM2.out; have t1e := HT1.out; have t2e := HT2.out; go_simp; rfl); simp only [Act.put, List.setIfInBounds_toArray, List.set_cons_zero, List.set_cons_succ])
  refine LexW.nil (fun w3 he hkn => ?_)
  have HE := Lib.hid (GW.out.trans he)
  have he' := he
  clear he hkn 
  replace HS0 := Lib.hid ((ext_drew _).cell (he'.cell HS0.out))
  replace HS1 := Lib.hid ((ext_drew _).cell (he'.cell HS1.out))
  have GW2 := Lib.hid (HE.out.trans (ext_drew _))
  clear he'
  go_wp2_with (fail)
  refine wp_region_lex [(11, .ownS w.heap.size d (plusL p v u f2 d))] (by kernel_rfl) (by kernel_rfl) ?_
  (refine LexW.pure (v := ?_) rfl rfl (fun w1 he => ?_) ?_; rotate_left; ( have e1 := he.cell HS0.out; have e2 := he.cell HS1.out; have m3e := HM3.out; have t3e := HT3.out; go_simp; rfl); simp only [Act.put, List.setIfInBounds_toArray, List.set_cons_zero, List.set_cons_succ])
  (refine LexW.pure (v := ?_) rfl rfl (fun w1 he => ?_) ?_; rotate_left; ( have e1 := he.cell HS0.out; have e2 := he.cell HS1.out; have m3e := HM3.out; have t3e := HT3.out; go_simp; rfl); simp only [Act.put, List.setIfInBounds_toArray, List.set_cons_zero, List.set_cons_succ])
  (refine LexW.pure (v := ?_) rfl rfl (fun w1 he => ?_) ?_; rotate_left; ( have e1 := he.cell HS0.out; have e2 := he.cell HS1.out; have m3e := HM3.out; have t3e := HT3.out; go_simp; rfl); simp only [Act.put, List.setIfInBounds_toArray, List.set_cons_zero, List.set_cons_succ])
  (refine LexW.pure (v := ?_) rfl rfl (fun w1 he => ?_) ?_; rotate_left; ( have e1 := he.cell HS0.out; have e2 := he.cell HS1.out; have m3e := HM3.out; have t3e := HT3.out; go_simp; rfl); simp only [Act.put, List.setIfInBounds_toArray, List.set_cons_zero, List.set_cons_succ])
  (refine LexW.pure (v := ?_) rfl rfl (fun w1 he => ?_) ?_; rotate_left; ( have e1 := he.cell HS0.out; have e2 := he.cell HS1.out; have m3e := HM3.out; have t3e := HT3.out; go_simp; rfl); simp only [Act.put, List.setIfInBounds_toArray, List.set_cons_zero, List.set_cons_succ])
  (refine LexW.pure (v := ?_) rfl rfl (fun w1 he => ?_) ?_; rotate_left; ( have e1 := he.cell HS0.out; have e2 := he.cell HS1.out; have m3e := HM3.out; have t3e := HT3.out; go_simp; rfl); simp only [Act.put, List.setIfInBounds_toArray, List.set_cons_zero, List.set_cons_succ])
  (refine LexW.pure (v := ?_) rfl rfl (fun w1 he => ?_) ?_; rotate_left; ( have e1 := he.cell HS0.out; have e2 := he.cell HS1.out; have m3e := HM3.out; have t3e := HT3.out; go_simp; rfl); simp only [Act.put, List.setIfInBounds_toArray, List.set_cons_zero, List.set_cons_succ])
  (refine LexW.pure (v := ?_) rfl rfl (fun w1 he => ?_) ?_; rotate_left; ( have e1 := he.cell HS0.out; have e2 := he.cell HS1.out; have m3e := HM3.out; have t3e := HT3.out; go_simp; rfl); simp only [Act.put, List.setIfInBounds_toArray, List.set_cons_zero, List.set_cons_succ])
  (refine LexW.pure (v := ?_) rfl rfl (fun w1 he => ?_) ?_; rotate_left; ( have e1 := he.cell HS0.out; have e2 := he.cell HS1.out; have m3e := HM3.out; have t3e := HT3.out; go_simp; rfl); simp only [Act.put, List.setIfInBounds_toArray, List.set_cons_zero, List.set_cons_succ])
  (refine LexW.pure (v := ?_) rfl rfl (fun w1 he => ?_) ?_; rotate_left; ( have e1 := he.cell HS0.out; have e2 := he.cell HS1.out; have m3e := HM3.out; have t3e := HT3.out; go_simp; rfl); simp only [Act.put, List.setIfInBounds_toArray, List.set_cons_zero, List.set_cons_succ])
  (refine LexW.pure (v := ?_) rfl rfl (fun w1 he => ?_) ?_; rotate_left; ( have e1 := he.cell HS0.out; have e2 := he.cell HS1.out; have m3e := HM3.out; have t3e := HT3.out; go_simp; rfl); simp only [Act.put, List.setIfInBounds_toArray, List.set_cons_zero, List.set_cons_succ])
  (refine LexW.callR (f := ?_) (args := ?_) rfl rfl (fun w1 => ?_) (fun w1 he hdep => ?_) (fun v hv => ?_); rotate_left 2; (go_simp; refine ⟨?_, ?_⟩ <;> rfl); ( refine (s_plus p _ _ d _ _ v u f2 w1 (by omega) (by omega) (by omega) (by omega) (HV.out.ext (GW2.out.trans he)) (HU.out.ext (GW2.out.trans he)) HGV.out HGU.out).mono ?_; rintro e w2 ⟨g, rc, rfl, ho, g2⟩; exact ⟨_, rfl, g2, g, rc, rfl, ho.mono (Nat.le_trans GW2.out.size he.size)⟩); simp only [Act.put, List.setIfInBounds_toArray, List.set_cons_zero, List.set_cons_succ])
  obtain ⟨_, g38, c38, rfl, _⟩ := hv
  (refine LexW.pure (v := ?_) rfl rfl (fun w1 he => ?_) ?_; rotate_left; ( have e1 := he.cell HS0.out; have e2 := he.cell HS1.out; have m3e := HM3.out; have t3e := HT3.out; go_simp; rfl); simp only [Act.put, List.setIfInBounds_toArray, List.set_cons_zero, List.set_cons_succ])
  refine LexW.nil (fun w3 he hkn => ?_)
  obtain ⟨_, _, q38, r38⟩ : (SPred.ownS w.heap.size d (plusL p v u f2 d)).holds (.slice (some ⟨g38, 0, none⟩) d c38) w3 := hkn (11, _) (by simp)
  cases q38
  have R38 := Lib.hid r38
  have HE := Lib.hid (GW2.out.trans he)
  clear he hkn r38
  go_wp2_with (fail)
  go_ret
  exact ⟨_, _, rfl, by rw [← HK.out]; exact R38.out, HE.out⟩
end Go.Proofs.Ytnabpmafcflljaa

/-
  Matrices of reflections, in the program and in the reference.
  No condition.
-/
namespace Go.Proofs.Ytnabpmafcflljaa
set_option maxRecDepth 100000
open Go.RowKit

def byL (R : Nat → List Int) (k : Nat) : List (List Int) := (List.range k).map R
theorem byL_succ (R : Nat → List Int) (k : Nat) : byL R (k + 1) = byL R k ++ [R k] := by simp [byL, List.range_succ]
theorem byL_nth {R : Nat → List Int} {k i : Nat} (h : i < k) : nthR (byL R k) i = R i := by
  unfold byL; rw [nthR_map (by simpa using h)]; simp

set_option maxHeartbeats 2000000 in
theorem c_matrixBy (p : Int) (a : Option Addr) (d cap : Nat) (F : Nat) (caps : Array Value) (R : Nat → List Int) (w : World) (hd0 : 0 < d) (hd : d ≤ 1048576) (hRl : ∀ i, i < d → (R i).length = d) (hcf : ∀ args w, (callFunc F args).run Try.prog w = .ok (.enter F args) w)
    (hf : ∀ i, i < d → ∀ ai ci w1, Ext w w1 → RdC w1 ai d (bladeL d i) → Calls Try.prog F (#[.slice ai d ci] ++ caps) w1 fun e w2 => ∃ g rc, e = .returned (.slice (some ⟨g, 0, none⟩) d rc) ∧ OwnC w1.heap.size w2 (some ⟨g, 0, none⟩) d rc (R i) ∧ Ext w1 w2) :
    Calls Try.prog 141 #[.agg #[.int .i64 p, .slice a d cap], .func (.func F) #[] caps] w fun e w' => ∃ g rc, e = .returned (.slice (some ⟨g, 0, none⟩) d rc) ∧ OwnR w.heap.size w' (some ⟨g, 0, none⟩) d rc (turnL (byL R d) d d) ∧ Ext w w' := by
  have HRL := Lib.hid hRl
  have HF := Lib.hid hf
  clear hf hRl
  obtain ⟨W, hW⟩ : ∃ W, W = w.alloc (.cells #[.int .i64 p, .slice a d cap] 30) := ⟨_, rfl⟩
  have gW : Ext w W := by rw [hW]; exact ext_alloc _ _
  have hs0 : W.cell? ⟨w.heap.size, 0, none⟩ = some (.int .i64 p) := by rw [hW]; simp
  have hs1 : W.cell? ⟨w.heap.size, 1, none⟩ = some (.slice a d cap) := by rw [hW]; simp
  have HS0 := Lib.hid (hs0)
  have HS1 := Lib.hid (hs1)
  have GW := Lib.hid (gW)
  have HW := Lib.hid hW
  clear hs0 hs1 gW hW
  go_enter Try.func141, Try.ntmps141
  go_wp2_with (fail)
  rw [← HW.out]
  have hs0 := (ext_alloc W (.cells #[] 22)).cell HS0.out
  have hs1 := (ext_alloc W (.cells #[] 22)).cell HS1.out
  go_wp2_with (fail)
  refine (c_dim _ _ _ _ _).mono ?_
  rintro e w0 ⟨rfl, h0⟩
  go_wp2_with (fail)
  refine (c_unit d _ (by omega)).mono ?_
  rintro e w1 ⟨gu, ru, rfl, hu, h1⟩
  have HU := Lib.hid hu
  have G1 := Lib.hid (((ext_alloc W (.cells #[] 22)).trans h0).trans h1)
  clear hu h0 h1 hs0 hs1
  go_wp2_with (fail)
  go_loopw [5, 7, 13] (fun v _ i wr => ∃ (k g rc : Nat), k ≤ d ∧ i = .int .i64 k ∧ v = .slice (some ⟨g, 0, none⟩) k rc ∧ OwnW w1.heap.size wr (some ⟨g, 0, none⟩) k rc (byL R k) ∧ Ext w1 wr) (fun _ _ i _ => d - (intOf i).toNat)
  case atStart => exact ⟨0, _, _, Nat.zero_le _, rfl, rfl, OwnW.start _ _ _, Ext.refl _⟩
  case round =>
    obtain ⟨k, g, rc, hk, rfl, rfl, hown, hext⟩ := hrel
    have HOwn := Lib.hid hown
    have HExt := Lib.hid hext
    clear hown hext
    by_cases hlt : k < d
    · obtain ⟨ak, ck, hck, hok⟩ := HU.out.at hlt
      rw [unitL_nth hlt, bladeL_len] at hck hok
      have hck' := HExt.out.cell hck
      have HFk := Lib.hid (HF.out k hlt ak ck wr (GW.out.trans (G1.out.trans HExt.out)) (hok.rd.ext HExt.out))
      clear hck hok
      go_wp2_with (with_reducible refine (HFk.out).mono ?_)
      rintro e w4 ⟨g4, c4, rfl, ho4, x4⟩
      have HO4 := Lib.hid ho4
      have X4 := Lib.hid x4
      clear ho4 x4 hck' HFk
      go_wp2_with (at_builtin; refine wpList_pushRW (w0 := wr) rfl (.tmp 17) (.tmp 21) rfl rfl rfl HOwn.out (X4.out.trans (ext_alloc _ _)) (HO4.out.ext (ext_alloc _ _)) ?hc (by omega) HExt.out.size ?hk)
      case hc => exact cell_new _ _ rfl _ _
      case hk =>
        intro g' cap' w3 ho3 he3
        have HO3 := Lib.hid ho3
        have HE4 := Lib.hid (he3 w1 (Nat.le_refl _) ((HExt.out.trans X4.out).alloc _))
        clear ho3 he3
        go_wp2_with (fail)
        go_roundw
        case rel => exact ⟨k + 1, g', cap', by omega, by go_num, rfl, by rw [byL_succ]; exact .inr HO3.out, HE4.out⟩
        case measure => simp [intOf]; omega
    · obtain rfl : k = d := by omega
      go_wp2_with (fail)
      refine (c_transpose _ k rc k _ wr hd0 (by omega) (by omega) (fun i hi => by rw [byL_nth hi]; exact HRL.out i hi) HOwn.out.rd).mono ?_
      rintro e w5 ⟨g5, r5, rfl, ho5, x5⟩
      have HO5 := Lib.hid (ho5.mono (B' := w.heap.size) (GW.out.trans (G1.out.trans HExt.out)).size)
      have X5 := Lib.hid ((GW.out.trans (G1.out.trans HExt.out)).trans x5)
      clear ho5 x5
      go_wp2_with (fail)
      go_ret
      exact ⟨_, _, rfl, HO5.out, X5.out⟩

set_option maxHeartbeats 400000 in
theorem c_reflFun (p : Int) (a : Option Addr) (d cap : Nat) (qs : List Int) (au : Option Addr) (cu : Nat) (u : List Int) (av : Option Addr) (cv : Nat) (v : List Int) (q r : Nat) (w : World) (hp1 : 3 ≤ p) (hp2 : p ≤ 13) (hd : d ≤ 6) (hq : RdC w a d qs) (hqb : isB p qs = true) (hu : RdC w au d u) (hgu : Good p d u) (hv : RdC w av d v) (hgv : Good p d v) (hq0 : w.cell? ⟨q, 0, none⟩ = some (.int .i64 p)) (hq1 : w.cell? ⟨q, 1, none⟩ = some (.slice a d cap)) (hr0 : w.cell? ⟨r, 0, none⟩ = some (.slice au d cu)) :
    Calls Try.prog 142 #[.slice av d cv, .pointer (some ⟨q, 0, none⟩), .pointer (some ⟨r, 0, none⟩)] w fun e w' => ∃ g rc, e = .returned (.slice (some ⟨g, 0, none⟩) d rc) ∧ OwnC w.heap.size w' (some ⟨g, 0, none⟩) d rc (reflL p qs u v d) ∧ Ext w w' := by
  have HQ := Lib.hid hq
  have HQB := Lib.hid hqb
  have HU := Lib.hid hu
  have HGU := Lib.hid hgu
  have HV := Lib.hid hv
  have HGV := Lib.hid hgv
  clear hq hqb hu hgu hv hgv
  go_enter Try.func142, Try.ntmps142
  go_wp2_with (fail)
  refine Calls.mono (c_reflected p a d cap qs au cu u av cv v w hp1 hp2 hd HQ.out HQB.out HU.out HGU.out HV.out HGV.out) ?_
  rintro e w1 ⟨g1, c1, rfl, ho1, x1⟩
  have HO := Lib.hid ho1
  have HX := Lib.hid x1
  clear ho1 x1
  go_wp2_with (fail)
  go_ret
  exact ⟨_, _, rfl, HO.out, HX.out⟩
set_option maxHeartbeats 2000000 in
theorem c_reflection (p : Int) (a : Option Addr) (d cap : Nat) (qs : List Int) (au : Option Addr) (cu : Nat) (u : List Int) (w : World) (hp1 : 3 ≤ p) (hp2 : p ≤ 13) (hd0 : 0 < d) (hd : d ≤ 6) (hq : RdC w a d qs) (hqb : isB p qs = true) (hu : RdC w au d u) (hgu : Good p d u) :
    Calls Try.prog 113 #[.agg #[.int .i64 p, .slice a d cap], .slice au d cu] w fun e w' => ∃ g rc, e = .returned (.slice (some ⟨g, 0, none⟩) d rc) ∧ OwnR w.heap.size w' (some ⟨g, 0, none⟩) d rc (reflM p qs u d) ∧ Ext w w' := by
  have HQ := Lib.hid hq
  have HQB := Lib.hid hqb
  have HU := Lib.hid hu
  have HGU := Lib.hid hgu
  clear hq hqb hu hgu
  go_enter Try.func113, Try.ntmps113
  go_wp2_with (fail)
  obtain ⟨W1, hW1⟩ : ∃ W, W = w.alloc (.cells #[.int .i64 p, .slice a d cap] 30) := ⟨_, rfl⟩
  obtain ⟨W2, hW2⟩ : ∃ W, W = W1.alloc (.cells #[.slice au d cu] 22) := ⟨_, rfl⟩
  have g1 : Ext w W1 := by rw [hW1]; exact ext_alloc _ _
  have g2 : Ext W1 W2 := by rw [hW2]; exact ext_alloc _ _
  have GW := Lib.hid (g1.trans g2)
  have hz : W1.heap.size = w.heap.size + 1 := by rw [hW1]; simp
  have S0 := Lib.hid (g2.cell (show W1.cell? ⟨w.heap.size, 0, none⟩ = some (.int .i64 p) by rw [hW1]; simp))
  have S1 := Lib.hid (g2.cell (show W1.cell? ⟨w.heap.size, 1, none⟩ = some (.slice a d cap) by rw [hW1]; simp))
  have S2 := Lib.hid (show W2.cell? ⟨w.heap.size + 1, 0, none⟩ = some (.slice au d cu) by rw [hW2, ← hz]; simp)
  rw [← hW1, ← hW2]
  have s0 := S0.out
  have s1 := S1.out
  clear g1 g2 hW1 hW2 hz
  go_wp2_with (fail)
  clear s0 s1
  refine Calls.mono (c_matrixBy p a d cap _ _ (fun i => reflL p qs u (bladeL d i) d) W2 hd0 (by omega) (fun i _ => plusL_len ..) ?_ ?_) ?_
  · intro args w; rfl
  · intro i _ ai ci w1 x1 hb
    exact c_reflFun p a d cap qs au cu u ai ci (bladeL d i) _ _ w1 hp1 hp2 hd (HQ.out.ext (GW.out.trans x1)) HQB.out (HU.out.ext (GW.out.trans x1)) HGU.out hb (blade_good hp1) (x1.cell S0.out) (x1.cell S1.out) (x1.cell S2.out)
  rintro e w3 ⟨g3, c3, rfl, ho3, x3⟩
  have HO := Lib.hid (ho3.mono GW.out.size)
  have HX := Lib.hid (GW.out.trans x3)
  clear ho3 x3
  go_wp2_with (fail)
  go_ret
  exact ⟨_, _, rfl, HO.out, HX.out⟩

set_option maxHeartbeats 2000000 in
theorem s_reflection (p : Int) (a : Option Addr) (d cap : Nat) (qs : List Int) (au : Option Addr) (cu : Nat) (u : List Int) (w : World) (hpr : primeB p = true) (hd0 : 0 < d) (hd : d ≤ 6) (hq : RdC w a d qs) (hqb : isB p qs = true) (hu : RdC w au d u) (hgu : Good p d u) (hne : pairL p qs u u d ≠ 0) :
    Calls Try.prog 108 #[.agg #[.int .i64 p, .slice a d cap], .slice au d cu] w fun e w' => ∃ g rc, e = .returned (.slice (some ⟨g, 0, none⟩) d rc) ∧ OwnR w.heap.size w' (some ⟨g, 0, none⟩) d rc (reflM p qs u d) ∧ Ext w w' := by
  have hpb := prime_bd hpr
  have hp1 : 3 ≤ p := hpb.1
  have HQ := Lib.hid hq
  have HQB := Lib.hid hqb
  have HU := Lib.hid hu
  have HGU := Lib.hid hgu
  have HNE := Lib.hid hne
  have HPR := Lib.hid hpr
  clear hq hqb hu hgu hne hpr
  obtain ⟨W, hW⟩ : ∃ W, W = w.alloc (.cells #[.int .i64 p, .slice a d cap] 30) := ⟨_, rfl⟩
  have gW : Ext w W := by rw [hW]; exact ext_alloc _ _
  have hs0 : W.cell? ⟨w.heap.size, 0, none⟩ = some (.int .i64 p) := by rw [hW]; simp
  have hs1 : W.cell? ⟨w.heap.size, 1, none⟩ = some (.slice a d cap) := by rw [hW]; simp
  have HS0 := Lib.hid (hs0)
  have HS1 := Lib.hid (hs1)
  have GW := Lib.hid (gW)
  have HW := Lib.hid hW
  clear hs0 hs1 gW hW
  go_enter Try.func108, Try.ntmps108
  go_wp2_with (fail)
  rw [← HW.out]
  go_wp2_with (fail)
  go_loopw [5, 6] (fun v i wr => ∃ (k g rc : Nat), k ≤ d ∧ i = .int .i64 k ∧ v = .slice (some ⟨g, 0, none⟩) k rc ∧ OwnW W.heap.size wr (some ⟨g, 0, none⟩) k rc (reflC p qs u d k) ∧ Ext W wr) (fun _ i _ => d - (intOf i).toNat)
  case atStart => exact ⟨0, _, _, Nat.zero_le _, rfl, rfl, OwnW.start _ _ _, ext_alloc _ _⟩
  case round =>
    obtain ⟨k, g, rc, hk, rfl, rfl, hown, hext⟩ := hrel
    have HOwn := Lib.hid hown
    have HExt := Lib.hid hext
    have hs0 := hext.cell HS0.out
    have hs1 := hext.cell HS1.out
    clear hown hext
    by_cases hlt : k < d
    · have HGB := Lib.hid (show Good p d (bladeL d k) from blade_good hp1)
      obtain ⟨w0, hmk, hown0, hext0⟩ := make_ints wr d (by omega)
      obtain ⟨g0, hg0⟩ : ∃ g, g = wr.heap.size := ⟨_, rfl⟩
      rw [← hg0] at hmk hown0
      have hge : wr.heap.size ≤ g0 := by omega
      have HO0 := Lib.hid hown0
      have HE0 := Lib.hid hext0
      have hcg := hown0.cell hlt
      have hfz := hown0.frozen k
      have hs0c := hext0.cell hs0
      have hs1c := hext0.cell hs1
      have hl0 : w.heap.size < g0 := by have hb0 : w.heap.size < W.heap.size := lt_of_cell HS0.out; have := HExt.out.size'; omega
      clear hown0 hext0 hg0
      go_wp2_with (fail)
      clear hs0 hs1 hs0c hs1c hcg hfz hmk
      refine (s_reflect p a d cap qs au cu u (some ⟨g0, 0, none⟩) d (bladeL d k) _ HPR.out hd (HQ.out.ext ((GW.out.trans HExt.out).trans (HE0.out.setCell hge _))) HQB.out (HU.out.ext ((GW.out.trans HExt.out).trans (HE0.out.setCell hge _))) HGU.out (HO0.out.store hlt 1).rd HGB.out HNE.out).mono ?_
      rintro e w4 ⟨g4, c4, rfl, ho4, x4⟩
      have HO4 := Lib.hid (ho4.mono (B' := wr.heap.size) (HE0.out.setCell hge _).size)
      have X4 := Lib.hid ((HE0.out.setCell hge (.int .i64 1)).trans x4)
      clear ho4 x4
      go_wp2_with (at_builtin; refine wpList_pushRW (w0 := wr) rfl (.tmp 23) (.tmp 28) rfl rfl rfl HOwn.out (X4.out.trans (ext_alloc _ _)) (HO4.out.ext (ext_alloc _ _)) ?hc (by omega) HExt.out.size ?hk)
      case hc => exact cell_new _ _ rfl _ _
      case hk =>
        intro g' cap' w5 ho5 he5
        have HO5 := Lib.hid ho5
        have HE5 := Lib.hid (he5 W (Nat.le_refl _) ((HExt.out.trans X4.out).alloc _))
        clear ho5 he5
        go_wp2_with (fail)
        go_roundw
        case rel => exact ⟨k + 1, g', cap', by omega, by go_num, rfl, by rw [reflC_succ]; exact .inr HO5.out, HE5.out⟩
        case measure => simp [intOf]; omega
    · obtain rfl : k = d := by omega
      go_wp2_with (fail)
      clear hs0 hs1
      refine (s_turn _ k rc k _ wr hd0 (by omega) (by omega) (fun i hi => (reflC_good (by omega) i (by rw [reflC_len]; exact hi)).1) HOwn.out.rd).mono ?_
      rintro e w5 ⟨g5, r5, rfl, ho5, x5⟩
      have HO5 := Lib.hid (ho5.mono (B' := w.heap.size) (GW.out.trans HExt.out).size)
      have X5 := Lib.hid ((GW.out.trans HExt.out).trans x5)
      clear ho5 x5
      go_wp2_with (fail)
      go_ret
      exact ⟨_, _, rfl, HO5.out, X5.out⟩
end Go.Proofs.Ytnabpmafcflljaa

/-
  The decomposition of an isometry into reflections, in plain numbers.
  No condition. No program in sight.
-/
namespace Go.Proofs.Ytnabpmafcflljaa
set_option maxRecDepth 100000
open Go.RowKit

def lessV (p : Int) (m : List (List Int)) (d i : Nat) : List Int := plusL p (colL m i d) (bladeL d i) (-1) d
def moreV (p : Int) (m : List (List Int)) (d i : Nat) : List Int := plusL p (colL m i d) (bladeL d i) 1 d
/-- One step of the decomposition: the vectors found, and the matrix that is left. -/
def decS (p : Int) (qs : List Int) (d i : Nat) (s : List (List Int) × List (List Int)) : List (List Int) × List (List Int) :=
  if colL s.2 i d = bladeL d i then s
  else if pairL p qs (lessV p s.2 d i) (lessV p s.2 d i) d ≠ 0 then (s.1 ++ [lessV p s.2 d i], mulL p (reflM p qs (lessV p s.2 d i) d) s.2 d d d)
  else (s.1 ++ [moreV p s.2 d i, bladeL d i], mulL p (reflM p qs (bladeL d i) d) (mulL p (reflM p qs (moreV p s.2 d i) d) s.2 d d d) d d d)
def decT (p : Int) (qs : List Int) (m : List (List Int)) (d : Nat) : Nat → List (List Int) × List (List Int)
  | 0 => ([], m)
  | i + 1 => decS p qs d i (decT p qs m d i)
def decL (p : Int) (qs : List Int) (m : List (List Int)) (d : Nat) : List (List Int) := (decT p qs m d d).1

theorem rows_app {p : Int} {m : Nat} {A B : List (List Int)} (hA : RowsG p m A) (hB : RowsG p m B) : RowsG p m (A ++ B) := fun i hi => by
  unfold nthR
  rw [List.length_append] at hi
  rw [List.getD_eq_getElem?_getD]
  by_cases h : i < A.length
  · rw [List.getElem?_append_left h, ← List.getD_eq_getElem?_getD]; exact hA i h
  · rw [List.getElem?_append_right (by omega), ← List.getD_eq_getElem?_getD]; exact hB _ (by omega)
theorem rows_one {p : Int} {d : Nat} {v : List Int} (hv : Good p d v) : RowsG p d [v] := fun i hi => by
  have : i = 0 := by simpa using hi
  subst this; exact hv
theorem mulM_good {p : Int} {a b : List (List Int)} {n m k : Nat} (hp : 1 ≤ p) : RowsG p k (mulL p a b n m k) := fun i hi => mul_good hp i (by rw [mulL_len] at hi; exact hi)
theorem col_good {p : Int} {m : List (List Int)} {d i : Nat} (hm : RowsG p d m) (hl : m.length = d) (hi : i < d) : Good p d (colL m i d) := ⟨colL_len .., fun t ht => by
  rw [colL_nth ht]; exact (hm t (by omega)).2 i hi⟩
theorem less_zero {p : Int} {m : List (List Int)} {d i : Nat} (hp : 3 ≤ p) (hm : RowsG p d m) (hl : m.length = d) (hi : i < d) : (∀ t, t < d → nth (lessV p m d i) t = 0) ↔ colL m i d = bladeL d i := by
  have hg := col_good hm hl hi
  have hb := blade_good (p := p) (N := d) (m := i) hp
  constructor
  · intro h
    refine ext_nth (by rw [hg.1, hb.1]) fun t ht => ?_
    rw [hg.1] at ht
    have h1 := h t ht
    rw [lessV, plusL_nth ht, plusN] at h1
    have h2 := hg.2 t ht
    have h3 := hb.2 t ht
    by_cases hc : nth (colL m i d) t < nth (bladeL d i) t
    · rw [show nth (colL m i d) t + -1 * nth (bladeL d i) t = (nth (colL m i d) t - nth (bladeL d i) t + p) + p * (-1) by omega, Int.add_mul_emod_self_left, Int.emod_eq_of_lt (by omega) (by omega)] at h1
      omega
    · rw [Int.emod_eq_of_lt (by omega) (by omega)] at h1
      omega
  · intro h t ht
    rw [lessV, plusL_nth ht, plusN, h, show nth (bladeL d i) t + -1 * nth (bladeL d i) t = 0 by omega]; rfl
/-- What every step keeps. -/
def decOk (p : Int) (qs : List Int) (d i : Nat) (s : List (List Int) × List (List Int)) : Prop := RowsG p d s.1 ∧ s.1.length ≤ 2 * i ∧ RowsG p d s.2 ∧ s.2.length = d ∧ isoM p qs s.2 d
theorem decS_ok {p : Int} {qs : List Int} {d i : Nat} {s : List (List Int) × List (List Int)} (hp : primeB p = true) (hq : nth qs i % p ≠ 0) (_hqb : 0 ≤ nth qs i ∧ nth qs i < p) (hi : i < d) (h : decOk p qs d i s) : decOk p qs d (i + 1) (decS p qs d i s) ∧ (¬ colL s.2 i d = bladeL d i → pairL p qs (lessV p s.2 d i) (lessV p s.2 d i) d = 0 → pairL p qs (moreV p s.2 d i) (moreV p s.2 d i) d ≠ 0) ∧ pairL p qs (bladeL d i) (bladeL d i) d ≠ 0 := by
  have hpb := prime_bd hp
  obtain ⟨h1, h2, h3, h4, h5⟩ := h
  have hw : pairL p qs (colL s.2 i d) (colL s.2 i d) d = nth qs i := by rw [h5 i hi i hi, wantN, if_pos rfl]
  have hmo : ¬ colL s.2 i d = bladeL d i → pairL p qs (lessV p s.2 d i) (lessV p s.2 d i) d = 0 → pairL p qs (moreV p s.2 d i) (moreV p s.2 d i) d ≠ 0 := fun _ hz => more_ne hp hi hq hw hz
  have hbl : pairL p qs (bladeL d i) (bladeL d i) d ≠ 0 := by
    rw [pair_quad, quad_blade hi, bladeL_nth hi hi, if_pos rfl, Int.one_mul]; exact hq
  refine ⟨?_, hmo, hbl⟩
  unfold decS
  split
  · exact ⟨h1, by omega, h3, h4, h5⟩
  · rename_i hne
    split
    · rename_i hz
      exact ⟨rows_app h1 (rows_one (plus_good (by omega))), by simp; omega, mulM_good (by omega), mulL_len .., refl_iso hp hz h5⟩
    · rename_i hz
      refine ⟨rows_app h1 ?_, by simp; try omega, mulM_good (by omega), mulL_len .., refl_iso hp hbl (refl_iso hp (hmo hne (Classical.not_not.1 hz)) h5)⟩
      exact rows_app (A := [moreV p s.2 d i]) (B := [bladeL d i]) (rows_one (plus_good (by omega))) (rows_one (blade_good (by omega)))
theorem decT_ok {p : Int} {qs : List Int} {m : List (List Int)} {d : Nat} (hp : primeB p = true) (hq : ∀ i, i < d → nth qs i % p ≠ 0 ∧ 0 ≤ nth qs i ∧ nth qs i < p) (hm : RowsG p d m) (hl : m.length = d) (h : isoM p qs m d) : ∀ i, i ≤ d → decOk p qs d i (decT p qs m d i)
  | 0, _ => ⟨fun i hi => absurd hi (Nat.not_lt_zero _), Nat.le_refl _, hm, hl, h⟩
  | i + 1, hi => (decS_ok hp (hq i (by omega)).1 (hq i (by omega)).2 (by omega) (decT_ok hp hq hm hl h i (by omega))).1
end Go.Proofs.Ytnabpmafcflljaa

/-
  A region whose first operation is a move that may be carried out at any time: it is carried out first.
  No condition. General over every program.
-/
namespace Go.Proofs.Ytnabpmafcflljaa
set_option maxRecDepth 100000
open Go.RowKit

/-- The exit is normal. -/
def strictQ (Q : Exit → Act → World → Prop) : Exit → Act → World → Prop := fun e a w => e = .normal ∧ Q .normal a w
theorem strictQ_normal {Q : Exit → Act → World → Prop} {a : Act} {w : World} (h : Q .normal a w) : strictQ Q .normal a w := ⟨rfl, h⟩

section
variable {P : Program} {ops : Array Oper} {md : Region.Mode} {Q : Exit → Act → World → Prop}
theorem not_letsOut : ¬ LetsOut (strictQ Q) := fun ⟨_, _, h, _⟩ => by cases h
theorem wp_strict {o : Oper} {a : Act} {w : World} {K K' : Act → World → Prop} (h : ∀ a w, K a w → K' a w) (hh : o.wp P a w K (strictQ Q)) : o.wp P a w K' Q := by
  unfold Oper.wp at *
  generalize (execOp a.eval o).run P w = r at *
  cases r with
  | ok n w' =>
    cases n <;> simp only [Oper.upon] at hh ⊢ <;>
      first
        | exact h _ _ hh
        | exact Calls.mono hh (fun e w'' he => by
            cases e with
            | returned v => exact h _ _ he
            | panicked c => exact absurd he.1 (by simp)
            | outgrown => exact absurd he not_letsOut)
        | exact Rows.mono hh (fun _ _ he => h _ _ he)
  | halt x w' =>
    cases x <;> simp only [Oper.upon] at hh ⊢ <;> first | exact hh.elim | exact absurd hh.1 (by simp) | exact hh
theorem wpOp_strict {i : Nat} {a : Act} {w : World} {K K' : Act → World → Prop} (h : ∀ a w, K a w → K' a w) (hh : wpOp P ops (strictQ Q) i K a w) : wpOp P ops Q i K' a w := by
  unfold wpOp at *
  split
  · exact h _ _ (by simpa [*] using hh)
  · rename_i o ho
    simp only [ho] at hh
    split
    · rename_i hw
      simp only [hw, if_true] at hh
      rcases hh with hh | hh
      · exact .inl (wp_strict h hh)
      · exact absurd hh.2 not_letsOut
    · rename_i hw; simp only [hw] at hh; exact h _ _ hh
theorem wpAny_strict : ∀ (f : Nat) (listed : Array Bool) (a : Act) (w : World), wpAny P md ops (strictQ Q) f listed a w → wpAny P md ops Q f listed a w
  | 0, _, _, _, h => ⟨h.1, h.2.2⟩
  | f + 1, _, _, _, h => ⟨fun h0 => (h.1 h0).2, fun i hi => wpOp_strict (fun a w => wpAny_strict f _ a w) (h.2 i hi)⟩

def Region.sinkB1 (md : Region.Mode) (ops : Array Oper) (m n : Nat) : Bool :=
  (List.range n).all fun i => decide (i < m) || (List.range (n + 1)).any fun j => decide (i < j) && Region.waitsFor md ops j i
theorem tail_waits1 {m n : Nat} {listed : Array Bool} (hs : Region.sinkB1 md ops m n = true) (hc : Region.chainB md ops n = true) (hn : n < ops.size) (inv : HeadInv md ops n listed) :
    ∀ (d i : Nat), n - i = d → m ≤ i → i < n → listed.getD i true = false → ∀ t, n ≤ t → t ∉ Region.ready md ops listed := by
  intro d
  induction d using Nat.strongRecOn with
  | _ d ih =>
    intro i hd hm hi hun t ht hr
    obtain ⟨_, ot, hot, hall⟩ := mem_ready.1 hr
    have htlt : t < ops.size := (Array.getElem?_eq_some_iff.1 hot).1
    by_cases htn : t = n
    · subst htn
      have h1 := List.all_eq_true.1 hs i (List.mem_range.2 hi)
      simp only [Bool.or_eq_true, decide_eq_true_eq] at h1
      obtain ⟨j, hj, hj2⟩ := List.any_eq_true.1 (h1.resolve_left (by omega))
      simp only [Bool.and_eq_true, decide_eq_true_eq] at hj2
      obtain ⟨oj, hoj, e, he, hb, hon⟩ := Region.waitsFor_spec hj2.2
      have hjle : j ≤ t := by have := List.mem_range.1 hj; omega
      by_cases hjt : j = t
      · subst hjt
        have : oj = ot := Option.some.inj (hoj.symm.trans hot)
        subst this
        have h2 := hall e he hb
        rw [hon, getD_both hun] at h2
        cases h2
      · cases hl : listed.getD j false with
        | true =>
          have h2 := inv.closed j oj hoj hl e he hb
          rw [hon, getD_both hun] at h2
          cases h2
        | false =>
          have hjs : j < listed.size := by rw [inv.size]; omega
          exact ih (t - j) (by omega) j rfl (by omega) (by omega) (getD_in hjs hl) t (Nat.le_refl _) hr
    · have h1 := List.all_eq_true.1 hc t (List.mem_range.2 htlt)
      simp only [Bool.or_eq_true, decide_eq_true_eq] at h1
      rcases h1 with h1 | h1
      · omega
      · obtain ⟨o', ho', e, he, hb, hon⟩ := Region.waitsFor_spec h1
        have : o' = ot := Option.some.inj (ho'.symm.trans hot)
        subst this
        have h2 := hall e he hb
        rw [hon, getD_both (inv.tail (t - 1) (by omega) (by omega))] at h2
        cases h2

theorem LexR.any1 {w0 : World} {sp : Nat → Option SPred} {m n : Nat} {B : Array Bool → Bool} {Lq : Act → World → Prop} (hsel : Region.noSelect ops = true)
    (hlt : ∀ i, m ≤ i → i < n → ∀ listed, HeadInv md ops n listed → listed.getD i true = false → ∀ j ∈ Region.ready md ops listed, j < n)
    (hdone : ∀ listed, B listed = true → ∀ j ∈ Region.ready md ops listed, n ≤ j)
    (hd : Nat → Nat → Array Bool → Bool) (h0 : ∀ listed, hd 0 n listed = true → B listed = true)
    (h1 : ∀ f k listed, hd (f + 1) k listed = true → ((Region.ready md ops listed).contains k = true ∧ Region.free md ops listed k = true) ∧ hd f (k + 1) (listed.setIfInBounds k true) = true) :
    ∀ (l : List Oper) (k : Nat) (listed : Array Bool) (a : Act) (env : List (Nat × Value)), m ≤ k → (∀ j, j < l.length → l[j]? = ops[k + j]?) → k + l.length = n → HeadInv md ops n listed →
    (∃ w, Ext w0 w ∧ Known sp env w) → hd l.length k listed = true → LexR P ops w0 sp Lq l k a env →
    AnyR P ops md w0 sp n (fun listed' a' w' => B listed' = true ∧ Lq a' w') l.length listed a env
  | [], k, listed, a, env, _, _, hk0, _, _, hB, h => fun w he hk => ⟨h0 _ (by obtain rfl : k = n := (by simpa using hk0); exact hB), h w he hk⟩
  | o :: l, k, listed, a, env, hmk, hl, hk, inv, hsat, hB, h => by
    have ho : ops[k]? = some o := by simpa using (hl 0 (by simp)).symm
    obtain ⟨⟨hr, hf⟩, hB'⟩ := h1 _ _ _ (by simpa using hB)
    have hkn : k < n := by simp only [List.length_cons] at hk; omega
    have hr' : k ∈ Region.ready md ops listed := by simpa using hr
    exact AnyR.first ho (Region.noSelect_spec hsel) (hlt k hmk hkn) (fun listed' a' w' hL => hdone _ hL.1) l.length listed a env inv (Region.free_spec ho hf) hr' hsat h.1
      fun v hv => LexR.any1 hsel hlt hdone hd h0 h1 l (k + 1) _ _ _ (by omega) (fun j hj => by have := hl (j + 1) (by simp; omega); simpa [Nat.add_assoc, Nat.add_comm 1 j] using this) (by simp only [List.length_cons] at hk; omega) (inv.set hr' hkn)
        (hv.sat hsat) hB' (h.2 v hv)
end

def Region.tail1B (ops : Array Oper) (n N : Nat) : Bool :=
  Region.noSelect ops && decide (n < ops.size) && decide (1 ≤ n) && Region.sinkB1 .any ops 1 n && Region.chainB .any ops n && ((Region.ready .any ops (Array.replicate ops.size false)).contains 0 && Region.free .any ops (Array.replicate ops.size false) 0) &&
    Region.lexHead .any ops (ops.size - n) (n - 1) 1 ((Array.replicate ops.size false).setIfInBounds 0 true) && ssaB ops && dstB ops N

/-- The first operation is a move; the operations from number n on go one after another behind all others but it. -/
theorem wp_region_lex_tail1 {P : Program} {id : Nat} {Q : Exit → Act → World → Prop} {a : Act} {w : World} {o0 : Oper} {l : List Oper} (n : Nat) (sps : List (Nat × SPred)) (v0 : Value) (hm : P.follows .mixedOrders = true)
    (hB : Region.tail1B (o0 :: l).toArray n a.tmps.size = true) (hsp : spOf sps 0 = none) (hw : Region.wanted o0 (yielded (o0 :: l).toArray a.tmps) = true) (hy : ∀ w, (execOp a.eval o0).run P w = .ok (.value v0) w)
    (h : LexW P (o0 :: l).toArray w.drew (spOf sps) (fun a' w' => wpList P (o0 :: l).toArray (strictQ Q) ((o0 :: l).drop n) a' w') (((o0 :: l).take n).drop 1) 1 (a.put o0.dst v0) [(0, v0)]) : (Code.region id (o0 :: l).toArray true).wp P Q a w := by
  simp only [Region.tail1B, Bool.and_eq_true, decide_eq_true_eq] at hB
  obtain ⟨⟨⟨⟨⟨⟨⟨⟨hsel, hn⟩, hn1⟩, hs⟩, hc⟩, hr0, hf0⟩, hlex⟩, hssa⟩, hdst⟩ := hB
  obtain ⟨ops, hops⟩ : ∃ ops, ops = (o0 :: l).toArray := ⟨_, rfl⟩
  have h0 : ops[0]? = some o0 := by rw [hops]; simp
  rw [← hops] at hn hsel hs hc hr0 hf0 hlex hssa hdst hw h ⊢
  have hsize : ops.size = l.length + 1 := by rw [hops]; simp
  obtain ⟨L, hL⟩ : ∃ L, L = o0 :: l := ⟨_, rfl⟩
  have hLl : L.length = ops.size := by rw [hL, hsize, List.length_cons]
  rw [← hL] at h
  have hget : ∀ j, L[j]? = ops[j]? := fun j => by rw [hL, hops, List.getElem?_toArray]
  have htl : ((L.take n).drop 1).length = n - 1 := by simp; omega
  have hdl : (L.drop n).length = ops.size - n := by simp; omega
  have inv0 : HeadInv .any ops n (Array.replicate ops.size false) := by rw [hops]; exact headInv0 _ n
  have inv1 := inv0.set (by simpa using hr0) (show 0 < n by omega)
  have linv : LexInv ops a.tmps.size 1 (a.put o0.dst v0) [(0, v0)] := (lexInv0 (ops := ops) a.tmps.size a rfl).step h0 hdst v0
  have hk1 : Known (spOf sps) [(0, v0)] w.drew := fun p hp => by
    simp only [List.mem_singleton] at hp
    subst hp
    simp only [hsp, holdsO]
  have hR := LexW.lexR hssa hdst _ 1 _ _ (fun j hj => by
    rw [htl] at hj
    rw [List.getElem?_drop, List.getElem?_take_of_lt (by omega), hget]) linv h
  have H := LexR.any1 (md := .any) (m := 1) (n := n) (B := fun listed => Region.seqB .any ops (ops.size - n) n listed) hsel
    (fun i hi1 hin listed inv hun j hj => by
      rcases Nat.lt_or_ge j n with h | h
      · exact h
      · exact absurd hj (tail_waits1 hs hc hn inv _ i rfl hi1 hin hun j h))
    (fun listed hb => seqB_ready hb)
    (fun f k listed => Region.lexHead .any ops (ops.size - n) f k listed) (fun listed hh => by simpa [Region.lexHead] using hh)
    (fun f k listed hh => by simpa [Region.lexHead] using hh) ((L.take n).drop 1) 1 _ _ [(0, v0)] (Nat.le_refl _) (fun j hj => by
      rw [htl] at hj
      rw [List.getElem?_drop, List.getElem?_take_of_lt (by omega), hget]) (by rw [htl]; omega) inv1 ⟨w.drew, Ext.refl _, hk1⟩ (by rw [htl]; exact hlex) hR
  refine wp_region_any hm ?_
  have S := AnyR.sound (Q := strictQ Q) (g := ops.size - n) (fun listed a' w' hL' => by
    have := wpAny_of_seq (md := .any) (Q' := strictQ Q) (L.drop n) n listed a' w' (fun j => by rw [List.getElem?_drop, hget]) (by rw [hdl]; exact hL'.1) hL'.2
    rwa [hdl] at this) _ _ _ _ w.drew (Ext.refl _) hk1 H
  rw [htl, show n - 1 + (ops.size - n) = ops.size - 1 by omega] at S
  have T := wpAny_take (md := .any) (Q := strictQ Q) (fuel := ops.size - 1) (listed := Array.replicate ops.size false) h0 hsel hf0 hr0 (fun c a w hq => absurd hq.1 (by simp)) (.inl ⟨hw, hy⟩) S
  rw [show ops.size - 1 + 1 = ops.size by omega] at T
  exact wpAny_strict _ _ _ _ T

end Go.Proofs.Ytnabpmafcflljaa

/-
  append of rows to rows; sums of matrices.
  No condition.
-/
namespace Go.Proofs.Ytnabpmafcflljaa
set_option maxRecDepth 100000
open Go.RowKit

/-- append of rows of the call's own. -/
theorem run_appendRows {B : Nat} {w0 w : World} {ra : Option Addr} {n cap : Nat} {rows : List (List Int)} {g2 m c2 : Nat} {rows2 : List (List Int)} (hown : OwnR B w0 ra n cap rows) (he : Ext w0 w) (hx : OwnR w0.heap.size w (some ⟨g2, 0, none⟩) m c2 rows2) (hm : 0 < m) (hn : n ≤ 4194304) (hml : m ≤ 4194304) (hB : B ≤ w0.heap.size) (ty : TypeId) :
    ∃ g' cap' w', (Builtin.append_ #[25, 25] ty #[.slice ra n cap, .slice (some ⟨g2, 0, none⟩) m c2]).run Try.prog w = .ok (.slice (some ⟨g', 0, none⟩) (n + m) cap') w' ∧
      OwnR B w' (some ⟨g', 0, none⟩) (n + m) cap' (rows ++ rows2) ∧ (∀ W : World, W.heap.size ≤ B → Ext W w → Ext W w') := by
  obtain ⟨i0, hi, hz0, hz1, hz2⟩ := info_parts Try.infoR
  have hown0 := hown
  obtain ⟨h1, vs, h2, hap, h4⟩ := hown
  obtain ⟨x1, us, x2, xap, x4⟩ := hx
  have h2' := ownsRow_ext h2 he
  have hvl : vs.length = n := by have := h2.1; omega
  have hul : us.length = m := by have := x2.1; omega
  have hcell : ∀ j u, us[j]? = some u → w.cell? ⟨g2, j, none⟩ = some u := fun j u hj => by
    have hjl : j < m := by
      rcases Nat.lt_or_ge j m with h | h
      · exact h
      · rw [List.getElem?_eq_none (by omega)] at hj; cases hj
    rcases x2.2 with ⟨_, h3⟩ | ⟨g, c, cur, hv, hb, hh, hc1, hc2, hc3, hc4⟩
    · omega
    · simp only [Value.slice.injEq] at hv
      obtain ⟨hv1, _, _⟩ := hv
      cases hv1
      rw [← hc4, List.getElem?_take_of_lt (by omega), Array.getElem?_toList] at hj
      simp only [World.cell?, hh]
      simpa using hj
  obtain ⟨v', w', hr, h5, h6, _⟩ := run_append_own (P := Try.prog) w B 25 ty 22 i0 (.slice none 0 0) 1 24 Try.underlying25 hi hz0 hz1 hz2 rfl (by decide) (.slice ra n cap) n vs h2'
    ⟨g2, 0, none⟩ m c2 us (by omega) (fun j u hj => by
      have := hcell j u hj
      by_cases hj0 : j = 0
      · subst hj0; simpa [Addr.add] using this
      · simpa [Addr.add, hj0] using this) (fun u hu => by
        obtain ⟨j, hj, rfl⟩ := List.getElem_of_mem hu
        obtain ⟨ai, ci, h7, _⟩ := x4 j (by omega)
        rw [List.getElem?_eq_getElem hj] at h7
        rw [Option.some.inj h7]; rfl) (by unfold maxLen; omega) (by omega) (Nat.le_trans hB he.size)
  have form : ∃ g cap, v' = .slice (some ⟨g, 0, none⟩) (n + m) cap := by
    rcases h5.2 with ⟨_, h3⟩ | ⟨g, c, cur, hv, _⟩
    · omega
    · exact ⟨g, c, hv⟩
  obtain ⟨g', cap', rfl⟩ := form
  refine ⟨g', cap', w', hr, ⟨by simp [h1, x1], vs ++ us, h5, ?_, fun i hin => ?_⟩, fun W hW hE => hE.grown h6 fun k hk => Nat.le_trans hW (hown0.blk k hk)⟩
  · intro i k g1 n1 c1 n2 c2 hik hi hk
    have old : ∀ l n3 c3, l < n → vs[l]? = some (Value.slice (some ⟨g1, 0, none⟩) n3 c3) → g1 < w0.heap.size := fun l n3 c3 hl e => by
      obtain ⟨ai, ci, h5, h6⟩ := h4 l hl
      rw [h5] at e
      simp only [Option.some.injEq, Value.slice.injEq] at e
      exact (h6.base_of g1 e.1).2
    have new : ∀ l n3 c3, us[l]? = some (Value.slice (some ⟨g1, 0, none⟩) n3 c3) → w0.heap.size ≤ g1 := fun l n3 c3 e => by
      have hl : l < m := by
        rcases Nat.lt_or_ge l m with h | h
        · exact h
        · rw [List.getElem?_eq_none (by omega)] at e; cases e
      obtain ⟨ai, ci, h5, h6⟩ := x4 l hl
      rw [h5] at e
      simp only [Option.some.injEq, Value.slice.injEq] at e
      exact (h6.base_of g1 e.1).1
    by_cases li : i < n
    · rw [List.getElem?_append_left (by omega)] at hi
      by_cases lk : k < n
      · rw [List.getElem?_append_left (by omega)] at hk
        exact hap i k g1 _ _ _ _ hik hi hk
      · rw [List.getElem?_append_right (by omega)] at hk
        have := new _ _ _ hk; have := old i _ _ li hi; omega
    · rw [List.getElem?_append_right (by omega)] at hi
      by_cases lk : k < n
      · rw [List.getElem?_append_left (by omega)] at hk
        have := new _ _ _ hi; have := old k _ _ lk hk; omega
      · rw [List.getElem?_append_right (by omega)] at hk
        exact xap _ _ g1 _ _ _ _ (by omega) hi hk
  · by_cases hlt : i < n
    · obtain ⟨ai, ci, h7, h8⟩ := h4 i hlt
      have e : nthR (rows ++ rows2) i = nthR rows i := by simp [nthR, List.getElem?_append_left (show i < rows.length by omega)]
      rw [e]
      exact ⟨ai, ci, by rw [List.getElem?_append_left (by omega)]; exact h7, (h8.ext he).grown h6 (own_apart h2' (h8.ext he))⟩
    · obtain ⟨ai, ci, h7, h8⟩ := x4 (i - n) (by omega)
      have e : nthR (rows ++ rows2) i = nthR rows2 (i - n) := by
        unfold nthR
        rw [List.getD_eq_getElem?_getD, List.getD_eq_getElem?_getD, List.getElem?_append_right (by omega), h1]
      rw [e]
      exact ⟨ai, ci, by rw [List.getElem?_append_right (by omega), hvl]; exact h7, (h8.mono hB).grown h6 (own_apart h2' h8)⟩

theorem append_emptyN (w : World) (b t : Addr) (m c : Nat) (us : List Value) (ty : TypeId) (hul : us.length = m) (hn : ∀ j u, us[j]? = some u → w.cell? (t.add j) = some u) (hm : 0 < m) (hml : m ≤ 4194304) :
    (Builtin.append_ #[25, 25] ty #[.slice (some b) 0 0, .slice (some t) m c]).run Try.prog w =
    (Builtin.append_ #[25, 25] ty #[.slice none 0 0, .slice (some t) m c]).run Try.prog w := by
  obtain ⟨i0, hi, hz0, hz1, hz2⟩ := info_parts Try.infoR
  have e : Builtin.nextslicecap (0 + m) 0 * i0.bytes ≤ 281474976710656 := by
    rw [hz2]; unfold Builtin.nextslicecap; rw [if_pos (by omega)]; omega
  rw [run_append_grow (P := Try.prog) w 25 ty 22 i0 (.slice none 0 0) Try.underlying25 hi hz0 b 0 0 [] (by simp) (fun j u hj => by simp at hj) t m c us (by simp [hz1, hul]) hn (by omega) (by omega) e,
    run_append_nil (P := Try.prog) w 25 ty 22 i0 (.slice none 0 0) Try.underlying25 hi hz0 t m c us (by simp [hz1, hul]) hn (by omega) (by omega) (by rw [hz2]; omega)]
  simp

/-- The cells of owned rows. -/
theorem ownR_cells {B : Nat} {w : World} {g m c : Nat} {rows : List (List Int)} (h : OwnR B w (some ⟨g, 0, none⟩) m c rows) (hm : 0 < m) : ∃ us : List Value, us.length = m ∧ ∀ j u, us[j]? = some u → w.cell? ((⟨g, 0, none⟩ : Addr).add j) = some u := by
  obtain ⟨x1, us, x2, xap, x4⟩ := h
  have hul : us.length = m := by have := x2.1; omega
  refine ⟨us, hul, fun j u hj => ?_⟩
  have hjl : j < m := by
    rcases Nat.lt_or_ge j m with h | h
    · exact h
    · rw [List.getElem?_eq_none (by omega)] at hj; cases hj
  have hc : w.cell? ⟨g, j, none⟩ = some u := by
    rcases x2.2 with ⟨_, h3⟩ | ⟨g, c, cur, hv, hb, hh, hc1, hc2, hc3, hc4⟩
    · omega
    · simp only [Value.slice.injEq] at hv
      obtain ⟨hv1, _, _⟩ := hv
      cases hv1
      rw [← hc4, List.getElem?_take_of_lt (by omega), Array.getElem?_toList] at hj
      simp only [World.cell?, hh]
      simpa using hj
  by_cases hj0 : j = 0
  · subst hj0; simpa [Addr.add] using hc
  · simpa [Addr.add, hj0] using hc

theorem run_appendRowsW {B : Nat} {w0 w : World} {ra : Option Addr} {n cap : Nat} {rows : List (List Int)} {g2 m c2 : Nat} {rows2 : List (List Int)} (hown : OwnW B w0 ra n cap rows) (he : Ext w0 w) (hx : OwnR w0.heap.size w (some ⟨g2, 0, none⟩) m c2 rows2) (hm : 0 < m) (hn : n ≤ 4194304) (hml : m ≤ 4194304) (hB : B ≤ w0.heap.size) (ty : TypeId) :
    ∃ g' cap' w', (Builtin.append_ #[25, 25] ty #[.slice ra n cap, .slice (some ⟨g2, 0, none⟩) m c2]).run Try.prog w = .ok (.slice (some ⟨g', 0, none⟩) (n + m) cap') w' ∧
      OwnR B w' (some ⟨g', 0, none⟩) (n + m) cap' (rows ++ rows2) ∧ (∀ W : World, W.heap.size ≤ B → Ext W w → Ext W w') := by
  rcases hown with ⟨rfl, rfl, rfl, g0, rfl⟩ | hown
  · obtain ⟨us, hul, hcs⟩ := ownR_cells hx hm
    obtain ⟨g', cap', w', h1, h2, h4⟩ := run_appendRows (OwnR.nil B w0) he hx hm hn hml hB ty
    exact ⟨g', cap', w', by rw [append_emptyN w _ _ m c2 us ty hul hcs hm hml]; exact h1, h2, h4⟩
  · exact run_appendRows hown he hx hm hn hml hB ty

theorem wpList_appendRowsW {ops : Array Oper} {rest : List Oper} {o : Oper} {a : Act} {Q : Exit → Act → World → Prop} {w0 w : World} (hgd : o.guard = none) (s x : Operand)
    (ho : o.op = .call { callee := .builtin .append, args := #[s, x], argTypes := #[25, 25] })
    {B : Nat} {ra : Option Addr} {n cap : Nat} {rows : List (List Int)} {g2 m c2 : Nat} {rows2 : List (List Int)} (hs : a.eval s = .slice ra n cap) (hx : a.eval x = .slice (some ⟨g2, 0, none⟩) m c2)
    (hown : OwnW B w0 ra n cap rows) (he : Ext w0 w) (hxs : OwnR w0.heap.size w (some ⟨g2, 0, none⟩) m c2 rows2) (hm : 0 < m) (hn : n ≤ 4194304) (hml : m ≤ 4194304) (hB : B ≤ w0.heap.size)
    (h : ∀ g' cap' w', OwnR B w' (some ⟨g', 0, none⟩) (n + m) cap' (rows ++ rows2) → (∀ W : World, W.heap.size ≤ B → Ext W w → Ext W w') →
      wpList Try.prog ops Q rest (a.put o.dst (.slice (some ⟨g', 0, none⟩) (n + m) cap')) w') : wpList Try.prog ops Q (o :: rest) a w := by
  refine wpList_plain hgd fun K hK => ?_
  obtain ⟨g', cap', w', hr, h1, h3⟩ := run_appendRowsW hown he hxs hm hn hml hB o.type
  unfold Oper.wp execOp
  simp only [ho, resolve, invoke, builtin, Sem.run_bind, Sem.run_pure, Result.andThen_ok, List.map_toArray, List.map_cons, List.map_nil, hs, hx, hr]
  exact hK _ _ (h g' cap' w' h1 h3)

theorem run_pushR_at {B : Nat} {w0 w : World} {ra : Option Addr} {n cap : Nat} {rows : List (List Int)} {b : Option Addr} {m c : Nat} {xs : List Int} {g : Nat} (hown : OwnR B w0 ra n cap rows) (he : Ext w0 w) (hc : w.cell? ⟨g, 0, none⟩ = some (.slice b m c)) (hx : OwnC w0.heap.size w b m c xs) (hn : n ≤ 4194304) (hB : B ≤ w0.heap.size) (ty : TypeId) :
    ∃ g' cap' w', (Builtin.append_ #[25, 25] ty #[.slice ra n cap, .slice (some ⟨g, 0, none⟩) 1 1]).run Try.prog w = .ok (.slice (some ⟨g', 0, none⟩) (n + 1) cap') w' ∧
      OwnR B w' (some ⟨g', 0, none⟩) (n + 1) cap' (rows ++ [xs]) ∧ w.grownBy w' (Value.slice ra n cap).ownBlock ∧ (g' = w.heap.size ∨ (Value.slice ra n cap).ownBlock = some g') ∧ (∀ W : World, W.heap.size ≤ B → Ext W w → Ext W w') := by
  obtain ⟨i0, hi, hz0, hz1, hz2⟩ := info_parts Try.infoR
  have hown0 := hown
  obtain ⟨h1, vs, h2, hap, h4⟩ := hown
  have h2' := ownsRow_ext h2 he
  have hvl : vs.length = n := by have := h2.1; omega
  obtain ⟨v', w', hr, h5, h6, _, hbk⟩ := run_append_own_at (P := Try.prog) w B 25 ty 22 i0 (.slice none 0 0) 1 24 Try.underlying25 hi hz0 hz1 hz2 rfl (by decide) (.slice ra n cap) n vs h2'
    ⟨g, 0, none⟩ 1 1 [.slice b m c] rfl (fun j u hj => by
      cases j with
      | zero => simp only [List.getElem?_cons_zero, Option.some.injEq] at hj; subst hj; simpa [Addr.add] using hc
      | succ j => simp at hj) (fun u hu => by simp only [List.mem_singleton] at hu; subst hu; rfl) (by unfold maxLen; omega) (by omega) (Nat.le_trans hB he.size)
  have form : ∃ g cap, v' = .slice (some ⟨g, 0, none⟩) (n + 1) cap := by
    rcases h5.2 with ⟨_, h3⟩ | ⟨g, c, cur, hv, _⟩
    · omega
    · exact ⟨g, c, hv⟩
  obtain ⟨g', cap', rfl⟩ := form
  refine ⟨g', cap', w', hr, ⟨by simp [h1], vs ++ [.slice b m c], h5, ?_, fun i hin => ?_⟩, h6, hbk.elim (fun h => .inr h.symm) (fun h => .inl (Option.some.inj h)), fun W hW hE => hE.grown h6 fun k hk => Nat.le_trans hW (hown0.blk k hk)⟩
  · intro i k g1 n1 c1 n2 c2 hik hi hk
    have old : ∀ l n3 c3, l < n → vs[l]? = some (.slice (some ⟨g1, 0, none⟩) n3 c3) → g1 < w0.heap.size := fun l n3 c3 hl e => by
      obtain ⟨ai, ci, h5, h6⟩ := h4 l hl
      rw [h5] at e
      simp only [Option.some.injEq, Value.slice.injEq] at e
      exact (h6.base_of g1 e.1).2
    have new : (some (Value.slice b m c)) = some (.slice (some ⟨g1, 0, none⟩) n1 c1) ∨ (some (Value.slice b m c)) = some (.slice (some ⟨g1, 0, none⟩) n2 c2) → w0.heap.size ≤ g1 := fun e => by
      rcases e with e | e
      all_goals
        simp only [Option.some.injEq, Value.slice.injEq] at e
        exact (hx.base_of g1 e.1).1
    rcases Nat.lt_trichotomy i n with li | li | li
    · rw [List.getElem?_append_left (by omega)] at hi
      rcases Nat.lt_trichotomy k n with lk | lk | lk
      · rw [List.getElem?_append_left (by omega)] at hk
        exact hap i k g1 _ _ _ _ hik hi hk
      · rw [lk, ← hvl, List.getElem?_concat_length] at hk
        have := new (.inr hk); have := old i _ _ li hi; omega
      · rw [List.getElem?_eq_none (by simp; omega)] at hk; cases hk
    · rw [li, ← hvl, List.getElem?_concat_length] at hi
      rcases Nat.lt_trichotomy k n with lk | lk | lk
      · rw [List.getElem?_append_left (by omega)] at hk
        have := new (.inl hi); have := old k _ _ lk hk; omega
      · omega
      · rw [List.getElem?_eq_none (by simp; omega)] at hk; cases hk
    · rw [List.getElem?_eq_none (by simp; omega)] at hi; cases hi
  · by_cases hlt : i < n
    · obtain ⟨ai, ci, h7, h8⟩ := h4 i hlt
      have e : nthR (rows ++ [xs]) i = nthR rows i := by simp [nthR, List.getElem?_append_left (show i < rows.length by omega)]
      rw [e]
      exact ⟨ai, ci, by rw [List.getElem?_append_left (by omega)]; exact h7, (h8.ext he).grown h6 (own_apart h2' (h8.ext he))⟩
    · obtain rfl : i = n := by omega
      have e : nthR (rows ++ [xs]) i = xs := by simp [nthR, ← h1]
      rw [e, hx.1]
      exact ⟨b, c, by rw [← hvl]; simp, (hx.mono hB).grown h6 (own_apart h2' hx)⟩

theorem wpList_pushR_at {ops : Array Oper} {rest : List Oper} {o : Oper} {a : Act} {Q : Exit → Act → World → Prop} {w0 w : World} (hgd : o.guard = none) (s x : Operand)
    (ho : o.op = .call { callee := .builtin .append, args := #[s, x], argTypes := #[25, 25] })
    {B : Nat} {ra : Option Addr} {n cap : Nat} {rows : List (List Int)} {b : Option Addr} {m c : Nat} {xs : List Int} {g : Nat} (hs : a.eval s = .slice ra n cap) (hx : a.eval x = .slice (some ⟨g, 0, none⟩) 1 1)
    (hown : OwnR B w0 ra n cap rows) (he : Ext w0 w) (hxs : OwnC w0.heap.size w b m c xs) (hc : w.cell? ⟨g, 0, none⟩ = some (.slice b m c)) (hn : n ≤ 4194304) (hB : B ≤ w0.heap.size)
    (h : ∀ g' cap' w', OwnR B w' (some ⟨g', 0, none⟩) (n + 1) cap' (rows ++ [xs]) → w.grownBy w' (Value.slice ra n cap).ownBlock → (g' = w.heap.size ∨ (Value.slice ra n cap).ownBlock = some g') → (∀ W : World, W.heap.size ≤ B → Ext W w → Ext W w') →
      wpList Try.prog ops Q rest (a.put o.dst (.slice (some ⟨g', 0, none⟩) (n + 1) cap')) w') : wpList Try.prog ops Q (o :: rest) a w := by
  refine wpList_plain hgd fun K hK => ?_
  obtain ⟨g', cap', w', hr, h1, h2, h2b, h3⟩ := run_pushR_at hown he hc hxs hn hB o.type
  unfold Oper.wp execOp
  simp only [ho, resolve, invoke, builtin, Sem.run_bind, Sem.run_pure, Result.andThen_ok, List.map_toArray, List.map_cons, List.map_nil, hs, hx, hr]
  exact hK _ _ (h g' cap' w' h1 h2 h2b h3)

/-- Owned rows stay, where another list of rows is grown. -/
theorem OwnR.grown2 {B B2 : Nat} {w w' : World} {a ra : Option Addr} {n cap m c : Nat} {rows rows2 : List (List Int)} (h : OwnR B w a n cap rows) (h2 : OwnR B2 w ra m c rows2) (hg : w.grownBy w' (Value.slice ra m c).ownBlock) (hne : ∀ g, a = some ⟨g, 0, none⟩ → (Value.slice ra m c).ownBlock ≠ some g) : OwnR B w' a n cap rows := by
  have hlt := h.base_of
  obtain ⟨h1, vs, hv, hap, h4⟩ := h
  obtain ⟨_, us, hu, _⟩ := h2
  refine ⟨h1, vs, ⟨hv.1, ?_⟩, hap, fun i hi => ?_⟩
  · rcases hv.2 with h3 | ⟨g, c, cur, hv, hb, hh, h4⟩
    · exact .inl h3
    · refine .inr ⟨g, c, cur, hv, hb, ?_, h4⟩
      simp only [Value.slice.injEq] at hv
      rw [hg.block g (hlt g hv.1).2 (fun e => hne g hv.1 e.symm)]; exact hh
  · obtain ⟨ai, ci, h5, h6⟩ := h4 i hi
    exact ⟨ai, ci, h5, h6.grown hg (own_apart hu h6)⟩

/-! ### Sums of matrices -/
def sumM (p : Int) (A B : List (List Int)) (k : Int) (m n : Nat) : List (List Int) := (List.range n).map fun i => plusL p (nthR A i) (nthR B i) k m
theorem sumM_succ (p : Int) (A B : List (List Int)) (k : Int) (m n : Nat) : sumM p A B k m (n + 1) = sumM p A B k m n ++ [plusL p (nthR A n) (nthR B n) k m] := by simp [sumM, List.range_succ]
theorem sumM_len (p : Int) (A B : List (List Int)) (k : Int) (m n : Nat) : (sumM p A B k m n).length = n := by simp [sumM]
theorem sumM_nth {p : Int} {A B : List (List Int)} {k : Int} {m n i : Nat} (h : i < n) : nthR (sumM p A B k m n) i = plusL p (nthR A i) (nthR B i) k m := by
  unfold sumM; rw [nthR_map (by simpa using h)]; simp
theorem sumM_good {p : Int} {A B : List (List Int)} {k : Int} {m n : Nat} (hp : 1 ≤ p) : RowsG p m (sumM p A B k m n) := fun i hi => by
  rw [sumM_len] at hi
  rw [sumM_nth hi]
  exact plus_good hp

end Go.Proofs.Ytnabpmafcflljaa
