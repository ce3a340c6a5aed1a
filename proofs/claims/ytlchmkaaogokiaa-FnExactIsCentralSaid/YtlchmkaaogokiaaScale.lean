/-
  Contract: multiples of lists, in the reference; a row brought up by two stores with calls between.
  No condition.
-/
import Derived.Test.YtlchmkaaogokiaaInv
import Derived.Test.YtlchmkaaogokiaaRows3
import Derived.Test.YtlchmkaaogokiaaGauss
namespace Go.Proofs.Ytlchmkaaogokiaa
set_option maxRecDepth 100000
open Go.RowKit


/-- Row d is stored at place i; later a new row at place d. -/
theorem OwnR.up {B : Nat} {w0 w2 : World} {g n cap : Nat} {rows : List (List Int)} {b : Option Addr} {m c : Nat} {xs : List Int} {i d : Nat} {ad : Option Addr} {cd : Nat}
    (h : OwnR B w0 (some ⟨g, 0, none⟩) n cap rows) (hi : i < n) (hd : d < n) (hc : w0.cell? ⟨g, d, none⟩ = some (.slice ad (nthR rows d).length cd))
    (he : Ext (w0.setCell ⟨g, i, none⟩ (.slice ad (nthR rows d).length cd)) w2) (hB : B ≤ w0.heap.size) (hx : OwnC w0.heap.size w2 b m c xs) :
    OwnR B (w2.setCell ⟨g, d, none⟩ (.slice b m c)) (some ⟨g, 0, none⟩) n cap ((rows.set i (nthR rows d)).set d xs) ∧ (∃ v, w2.cell? ⟨g, d, none⟩ = some v) ∧ w2.frozen? ⟨g, d, none⟩ = false := by
  obtain ⟨h1, vs, h2, hap, h4⟩ := h
  have hvl : vs.length = n := by have := h2.1; omega
  have vd : vs[d]? = some (.slice ad (nthR rows d).length cd) := by rw [← h2.cellAt d (by omega)]; exact hc
  have h3 := (h2.stored i (.slice ad (nthR rows d).length cd)).1
  have h3' := ownsRow_ext h3 he
  refine ⟨?_, ⟨_, (h3'.cellAt d (by omega)).trans (List.getElem?_eq_getElem (by simp; omega))⟩, h3'.frozenAt d⟩
  have h5 := (h3'.stored d (.slice b m c)).1
  have get : ∀ k, k < n → ((vs.set i (.slice ad (nthR rows d).length cd)).set d (.slice b m c))[k]? = if k = d then some (.slice b m c) else vs[if k = i then d else k]? := fun k hk => by
    by_cases hkd : k = d
    · subst hkd; rw [List.getElem?_set_self (by simp; omega), if_pos rfl]
    · rw [List.getElem?_set_ne (Ne.symm hkd), if_neg hkd]
      by_cases hki : k = i
      · subst hki; rw [List.getElem?_set_self (by omega), if_pos rfl, vd]
      · rw [List.getElem?_set_ne (Ne.symm hki), if_neg hki]
  have old : ∀ l n3 c3 g', l < n → vs[l]? = some (.slice (some ⟨g', 0, none⟩) n3 c3) → g' < w0.heap.size := fun l n3 c3 g' hl e => by
    obtain ⟨ai, ci, h5, h6⟩ := h4 l hl
    rw [h5] at e
    simp only [Option.some.injEq, Value.slice.injEq] at e
    exact (h6.base_of g' e.1).2
  refine ⟨by simpa using h1, _, h5, ?_, fun k hk => ?_⟩
  · intro k l g' n1 c1 n2 c2 hkl hk hl
    have lt : ∀ l n3 c3, ((vs.set i (.slice ad (nthR rows d).length cd)).set d (.slice b m c))[l]? = some (.slice (some ⟨g', 0, none⟩) n3 c3) → l < n := fun l n3 c3 e => by
      rcases Nat.lt_or_ge l n with h | h
      · exact h
      · rw [List.getElem?_eq_none (by simp; omega)] at e; cases e
    have hk' := lt _ _ _ hk
    have hl' := lt _ _ _ hl
    rw [get k hk'] at hk
    rw [get l hl'] at hl
    by_cases hkd : k = d
    · rw [if_pos hkd] at hk
      simp only [Option.some.injEq, Value.slice.injEq] at hk
      have h7 := (hx.base_of g' hk.1).1
      rw [if_neg (by omega)] at hl
      have h8 := old _ _ _ _ (by split <;> omega) hl
      omega
    · rw [if_neg hkd] at hk
      by_cases hld : l = d
      · rw [if_pos hld] at hl
        simp only [Option.some.injEq, Value.slice.injEq] at hl
        have h7 := (hx.base_of g' hl.1).1
        have h8 := old _ _ _ _ (by split <;> omega) hk
        omega
      · rw [if_neg hld] at hl
        refine hap _ _ g' _ _ _ _ ?_ hk hl
        split <;> split <;> omega
  · rw [get k hk, nthR_set (by simp; omega)]
    by_cases hkd : k = d
    · subst hkd
      rw [if_pos rfl, if_pos rfl, hx.1]
      exact ⟨b, c, rfl, (hx.mono hB).setOuter h3' _⟩
    · rw [if_neg hkd, if_neg (Ne.symm hkd), nthR_set (by omega)]
      have e : (if i = k then nthR rows d else nthR rows k) = nthR rows (if k = i then d else k) := by
        by_cases hki : k = i
        · subst hki; simp
        · rw [if_neg hki, if_neg (Ne.symm hki)]
      rw [e]
      obtain ⟨al, cl, h6, h7⟩ := h4 (if k = i then d else k) (by split <;> omega)
      exact ⟨al, cl, h6, ((h7.setOuter h2 _).ext he).setOuter h3' _⟩
theorem upG_eq {p : Int} {m : Nat} {rows : List (List Int)} {d k i : Nat} : upG p m rows d k i = (rows.set i (nthR rows d)).set d (scaleL p (nthR rows i) (invN p (nth (nthR rows i) k)) m) := by
  unfold upG swapL
  by_cases h : d = i
  · subst h; simp
  · rw [List.set_comm _ _ (by omega : i ≠ d), List.set_set, List.set_comm _ _ (by omega : d ≠ i)]

end Go.Proofs.Ytlchmkaaogokiaa
