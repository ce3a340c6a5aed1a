/-
  Contracts and plain laws, part 1: LawR, LawB, LawD, LawT, Bits, SpecA, Fac, Prod, Blades, SProd, Times, Pseudo, Plus, Alg, TopProd, Kit, Regular, Inv, Vec, Own.
  No condition.
-/
import Derived.Test.YthflmmgolegonaaPart0
/-
  Objects of a law in memory: rows of rows in blocks of a range, and writes into a range.
  No condition.
-/
namespace Go.Proofs.Ythflmmgolegonaa
set_option maxRecDepth 100000
open Go.RowKit

/-- Rows of rows, all in blocks from lo on and below hi. -/
def OwnRH (lo hi : Nat) (w : World) (a : Option Addr) (n cap : Nat) (rows : List (List Int)) : Prop :=
  rows.length = n ∧ (∀ g, a = some ⟨g, 0, none⟩ → g < hi) ∧ ∃ vs : List Value, w.ownsRow lo 22 1 (.slice a n cap) n vs ∧ Apart vs ∧
    ∀ i, i < n → ∃ ai ci, vs[i]? = some (.slice ai (nthR rows i).length ci) ∧ OwnC lo w ai (nthR rows i).length ci (nthR rows i) ∧ ∀ g, ai = some ⟨g, 0, none⟩ → g < hi
theorem OwnR.high {B : Nat} {w : World} {a : Option Addr} {n cap : Nat} {rows : List (List Int)} (h : OwnR B w a n cap rows) : OwnRH B w.heap.size w a n cap rows := by
  have hb := h.base_of
  obtain ⟨h1, vs, h2, h3, h4⟩ := h
  refine ⟨h1, fun g hg => (hb g hg).2, vs, h2, h3, fun i hi => ?_⟩
  obtain ⟨ai, ci, h5, h6⟩ := h4 i hi
  exact ⟨ai, ci, h5, h6, fun g hg => (h6.base_of g hg).2⟩
theorem OwnRH.low {lo hi : Nat} {w : World} {a : Option Addr} {n cap : Nat} {rows : List (List Int)} (h : OwnRH lo hi w a n cap rows) : OwnR lo w a n cap rows := by
  obtain ⟨h1, _, vs, h2, h3, h4⟩ := h
  refine ⟨h1, vs, h2, h3, fun i hi => ?_⟩
  obtain ⟨ai, ci, h5, h6, _⟩ := h4 i hi
  exact ⟨ai, ci, h5, h6⟩
theorem OwnRH.ext {lo hi : Nat} {w w' : World} {a : Option Addr} {n cap : Nat} {rows : List (List Int)} (h : OwnRH lo hi w a n cap rows) (he : Ext w w') : OwnRH lo hi w' a n cap rows := by
  obtain ⟨h1, h0, vs, h2, h3, h4⟩ := h
  refine ⟨h1, h0, vs, ownsRow_ext h2 he, h3, fun i hi => ?_⟩
  obtain ⟨ai, ci, h5, h6, h7⟩ := h4 i hi
  exact ⟨ai, ci, h5, h6.ext he, h7⟩

/-- The world has been extended, and blocks from lo on below hi may have been written. -/
structure WroteIn (lo hi : Nat) (w w' : World) : Prop where
  size : w.heap.size ≤ w'.heap.size
  os : w'.os = w.os
  tape : w'.tape = w.tape
  output : w'.output = w.output
  block : ∀ k, k < w.heap.size → (k < lo ∨ hi ≤ k) → w'.heap[k]? = w.heap[k]?
theorem WroteIn.refl (lo hi : Nat) (w : World) : WroteIn lo hi w w := ⟨Nat.le_refl _, rfl, rfl, rfl, fun _ _ _ => rfl⟩
theorem WroteIn.trans {lo hi : Nat} {a b c : World} (h : WroteIn lo hi a b) (k : WroteIn lo hi b c) : WroteIn lo hi a c :=
  ⟨Nat.le_trans h.size k.size, k.os.trans h.os, k.tape.trans h.tape, k.output.trans h.output, fun i hi hr => (k.block i (Nat.lt_of_lt_of_le hi h.size) hr).trans (h.block i hi hr)⟩
theorem WroteIn.ofExt {lo hi : Nat} {a b : World} (h : Ext a b) : WroteIn lo hi a b := ⟨h.size, h.os, h.tape, h.output, fun i hi _ => h.block i hi⟩
theorem Wrote.inR {lo hi : Nat} {w w' : World} {a : Option Addr} (h : Wrote w w' a) (hd : ∀ g, a = some ⟨g, 0, none⟩ → lo ≤ g ∧ g < hi) : WroteIn lo hi w w' :=
  ⟨h.1, h.2.1, h.2.2.1, h.2.2.2.1, fun k hk hr => h.2.2.2.2 k hk fun g hg e => by have := hd g hg; omega⟩
theorem WroteIn.ext {lo hi : Nat} {B w w' : World} (h : WroteIn lo hi w w') (hb : Ext B w) (hl : B.heap.size ≤ lo) : Ext B w' :=
  hb.trans' ⟨h.os, h.tape, h.output, h.size, fun k hk => h.block k (Nat.lt_of_lt_of_le hk hb.size) (.inl (by omega))⟩
theorem WroteIn.cell {lo hi : Nat} {w w' : World} (h : WroteIn lo hi w w') {p : Addr} {v : Value} (hc : w.cell? p = some v) (hn : p.block < lo ∨ hi ≤ p.block) : w'.cell? p = some v := by
  rw [World.cell?_of_block (w := w) (h.block p.block (lt_of_cell hc) hn)]
  exact hc
theorem WroteIn.own {lo hi B : Nat} {w w' : World} {b : Option Addr} {n cap : Nat} {xs : List Int} (h : WroteIn lo hi w w') (ho : OwnC B w b n cap xs) (hd : ∀ g, b = some ⟨g, 0, none⟩ → g < lo ∨ hi ≤ g) : OwnC B w' b n cap xs :=
  ho.keep fun g hg => h.block g (ho.base_of g hg).2 (hd g hg)
theorem WroteIn.ownR {lo hi lo' hi' : Nat} {w w' : World} {b : Option Addr} {n cap : Nat} {rows : List (List Int)} (h : WroteIn lo hi w w') (ho : OwnRH lo' hi' w b n cap rows) (hd : hi' ≤ lo ∨ hi ≤ lo') : OwnRH lo' hi' w' b n cap rows := by
  have hb := ho.low.base_of
  obtain ⟨h1, h0, vs, h2, h3, h4⟩ := ho
  have ow : w'.ownsRow lo' 22 1 (.slice b n cap) n vs := by
    obtain ⟨h5, h6⟩ := h2
    refine ⟨h5, ?_⟩
    rcases h6 with h6 | ⟨g, c, cur, hv, hg, hh, h7⟩
    · exact .inl h6
    · refine .inr ⟨g, c, cur, hv, hg, ?_, h7⟩
      simp only [Value.slice.injEq] at hv
      have := hb g hv.1
      have := h0 g hv.1
      rw [h.block g (by omega) (by omega)]; exact hh
  refine ⟨h1, h0, vs, ow, h3, fun i hi => ?_⟩
  obtain ⟨ai, ci, h5, h6, h7⟩ := h4 i hi
  refine ⟨ai, ci, h5, h.own h6 fun g hg => ?_, h7⟩
  have := h7 g hg
  have := (h6.base_of g hg).1
  omega

/-- One row of the rows is written in its place. -/
theorem OwnRH.atRow {lo hi : Nat} {w : World} {a : Option Addr} {n cap : Nat} {rows : List (List Int)} (h : OwnRH lo hi w a n cap rows) {i : Nat} (hi' : i < n) :
    ∃ b off ai ci, a = some ⟨b, off, none⟩ ∧ w.cell? ⟨b, off + i, none⟩ = some (.slice ai (nthR rows i).length ci) ∧ OwnC lo w ai (nthR rows i).length ci (nthR rows i) ∧ (∀ g, ai = some ⟨g, 0, none⟩ → lo ≤ g ∧ g < hi) ∧
      ∀ w' xs, xs.length = (nthR rows i).length → Wrote w w' ai → OwnC lo w' ai (nthR rows i).length ci xs → OwnRH lo hi w' a n cap (rows.set i xs) := by
  have hb := h.low.base_of
  obtain ⟨g, cur, rfl, _⟩ := h.low.row (by omega)
  obtain ⟨h1, h0, vs, h2, h3, h4⟩ := h
  obtain ⟨ai, ci, h5, h6, h7⟩ := h4 i hi'
  have hvl : vs.length = n := by have := h2.1; omega
  refine ⟨g, 0, ai, ci, rfl, ?_, h6, fun k hk => ⟨(h6.base_of k hk).1, h7 k hk⟩, fun w' xs hxl hw ho => ?_⟩
  · rw [Nat.zero_add, h2.cellAt i (by omega)]; exact h5
  · have hn : ∀ g', ai = some ⟨g', 0, none⟩ → g ≠ g' := fun g' hg' e => by
      subst e
      exact own_apart h2 h6 g hg' rfl
    have ow : w'.ownsRow lo 22 1 (.slice (some ⟨g, 0, none⟩) n cap) n vs := by
      obtain ⟨h8, h9⟩ := h2
      refine ⟨h8, ?_⟩
      rcases h9 with h9 | ⟨g', c, cur, hv, hg, hh, h10⟩
      · exact .inl h9
      · refine .inr ⟨g', c, cur, hv, hg, ?_, h10⟩
        simp only [Value.slice.injEq, Option.some.injEq, Addr.mk.injEq] at hv
        obtain ⟨⟨rfl, _⟩, _⟩ := hv
        have := hb g rfl
        rw [hw.2.2.2.2 g (by omega) (fun g' hg' => hn g' hg')]; exact hh
    refine ⟨by simpa using h1, h0, vs, ow, h3, fun j hj => ?_⟩
    rw [nthR_set (by omega)]
    by_cases hij : i = j
    · subst hij
      rw [if_pos rfl, hxl]
      exact ⟨ai, ci, h5, ho, h7⟩
    · rw [if_neg hij]
      obtain ⟨aj, cj, h8, h9, h10⟩ := h4 j hj
      refine ⟨aj, cj, h8, hw.own h9 fun g' hg' e => ?_, h10⟩
      subst hg'
      subst e
      exact h3 i j g' _ _ _ _ hij h5 h8

/-! ### Numbers of places, marks, sizes -/
def cntR (rows : List (List Int)) : Nat → Nat
  | 0 => 0
  | j + 1 => cntR rows j + (nthR rows j).length
theorem cntR_mono (rows : List (List Int)) (i : Nat) : ∀ j, cntR rows i ≤ cntR rows (i + j)
  | 0 => Nat.le_refl _
  | j + 1 => Nat.le_trans (cntR_mono rows i j) (Nat.le_add_right _ _)
theorem cntR_le (rows : List (List Int)) {i j : Nat} (h : i ≤ j) : cntR rows i ≤ cntR rows j := by
  have := cntR_mono rows i (j - i)
  rwa [Nat.add_sub_cancel' h] at this
theorem cntR_row (rows : List (List Int)) {i n : Nat} (h : i < n) : (nthR rows i).length ≤ cntR rows n := by
  have : cntR rows (i + 1) ≤ cntR rows n := cntR_le rows h
  have e : cntR rows (i + 1) = cntR rows i + (nthR rows i).length := rfl
  omega
/-- Marks in rows. -/
def markR (k : Int) (rows : List (List Int)) (n : Nat) : List (List Int) := (List.range n).map fun j => marks (k + cntR rows j) (nthR rows j).length
theorem markR_len (k : Int) (rows : List (List Int)) (n : Nat) : (markR k rows n).length = n := by simp [markR]
theorem markR_nth {k : Int} {rows : List (List Int)} {n j : Nat} (h : j < n) : nthR (markR k rows n) j = marks (k + cntR rows j) (nthR rows j).length := by
  unfold markR; rw [nthR_map (by simpa using h)]; simp
theorem markR_sum {k : Int} {rows : List (List Int)} {n : Nat} : ∀ j, j ≤ n → cntR (markR k rows n) j = cntR rows j
  | 0, _ => rfl
  | j + 1, h => by
    show cntR (markR k rows n) j + _ = cntR rows j + _
    rw [markR_sum j (by omega), markR_nth (by omega), marks_len]

def szK (left : Int) (rows : List (List Int)) (n j : Nat) : Int := left - (n : Int) - (cntR rows j : Int)
/-- What is left when rows have been counted, or -1. -/
def szR (left : Int) (rows : List (List Int)) : Int := if szK left rows rows.length rows.length < 0 then -1 else szK left rows rows.length rows.length
theorem szR_neg {left : Int} {rows : List (List Int)} {n j : Nat} (hn : rows.length = n) (hj : j ≤ n) (h : szK left rows n j < 0) : szR left rows = -1 := by
  unfold szR
  have : szK left rows rows.length rows.length ≤ szK left rows n j := by
    subst hn
    unfold szK
    have := cntR_le rows hj
    omega
  rw [if_pos (by omega)]
theorem szR_pos {left : Int} {rows : List (List Int)} {n : Nat} (hn : rows.length = n) (h : 0 ≤ szK left rows n n) : szR left rows = szK left rows n n := by
  subst hn
  unfold szR
  rw [if_neg (by omega)]
theorem szR_bd {left : Int} {rows : List (List Int)} (h : 0 ≤ szR left rows) : (rows.length : Int) + cntR rows rows.length ≤ left := by
  unfold szR at h
  split at h
  · omega
  · rename_i h'
    unfold szK at h'
    omega
theorem szR_le {left : Int} {rows : List (List Int)} (h : 0 ≤ szR left rows) : szR left rows ≤ left := by
  unfold szR at h ⊢
  split
  · rename_i h'
    rw [if_pos h'] at h; omega
  · unfold szK; omega
theorem szR_lt {left : Int} {rows : List (List Int)} (h : szR left rows < 0) : szR left rows = -1 := by
  unfold szR at h ⊢
  split
  · rfl
  · rename_i h'
    rw [if_neg h'] at h
    omega
def eqR (xs ys : List (List Int)) : Bool := decide (xs = ys)
theorem eqR_self (xs : List (List Int)) : eqR xs xs = true := by simp [eqR]
theorem eqR_len {xs ys : List (List Int)} (h : xs.length ≠ ys.length) : eqR xs ys = false := by
  simp only [eqR, decide_eq_false_iff_not]; intro he; exact h (by rw [he])
theorem eqR_nth {xs ys : List (List Int)} {k : Nat} (h : nthR xs k ≠ nthR ys k) : eqR xs ys = false := by
  simp only [eqR, decide_eq_false_iff_not]; intro he; exact h (by rw [he])
theorem eqR_all {xs ys : List (List Int)} {n : Nat} (hx : xs.length = n) (hy : ys.length = n) (h : ∀ j, j < n → nthR xs j = nthR ys j) : eqR xs ys = true := by
  simp only [eqR, decide_eq_true_eq]; exact ext_rows (by omega) (fun i hi => h i (by omega))

end Go.Proofs.Ythflmmgolegonaa

/-
  Contracts: the helpers of the exact laws for slices of slices: sizes, copies, comparisons, marks.
  No condition.
-/
namespace Go.Proofs.Ythflmmgolegonaa
set_option maxRecDepth 100000
open Go.RowKit

set_option maxHeartbeats 1000000 in
theorem l_szRows (a : Option Addr) (n cap : Nat) (rows : List (List Int)) (left : Int) (w : World) (h0 : 0 ≤ left) (h1 : left ≤ 1048576) (hm : n ≤ maxLen) (hmr : ∀ i, i < n → (nthR rows i).length ≤ maxLen) (hx : RdR w a n rows) :
    Calls Try.prog 7 #[.slice a n cap, .int .i64 left] w fun e w' => e = .returned (.int .i64 (szR left rows)) ∧ Ext w w' := by
  have HMR := Lib.hid hmr
  have HX := Lib.hid hx
  clear hmr hx
  by_cases hneg : left - (n : Int) < 0
  · have HS := Lib.hid (szR_neg (left := left) HX.out.1 (Nat.zero_le n) (by simpa [szK, cntR] using hneg))
    unfold maxLen at hm
    go_enter Try.func7, Try.ntmps7
    go_wp2_with (fail)
    go_ret
    exact ⟨ret_int HS.out.symm, Ext.refl _⟩
  · have hm' := hm
    unfold maxLen at hm'
    have hz0 : szK left rows n 0 = left - (n : Int) := by simp [szK, cntR]
    have HZ0 := Lib.hid hz0
    clear hz0
    go_enter Try.func7, Try.ntmps7
    go_wp2_with (fail)
    go_loopw [1, 5] (fun l i wr => ∃ (k : Nat) (z : Int), k ≤ n ∧ i = .int .i64 k ∧ l = .int .i64 z ∧ 0 ≤ z ∧ z ≤ 1048576 ∧ Hid (z = szK left rows n k) ∧ Ext w wr) (fun _ i _ => n - (intOf i).toNat)
    case atStart => exact ⟨0, _, Nat.zero_le _, rfl, rfl, by omega, by omega, Lib.hid HZ0.out.symm, Ext.refl _⟩
    case round =>
      obtain ⟨k, z, hk, rfl, rfl, hz, hz2, HZ, hext⟩ := hrel
      have HExt := Lib.hid hext
      clear hext
      by_cases hlt : k < n
      · obtain ⟨b, off, ai, ci, rfl, hc, hri⟩ := HX.out.2 k hlt
        have hml := HMR.out k hlt
        have hc' := HExt.out.cell hc
        have e1 : szK left rows n (k + 1) = z - ((nthR rows k).length : Int) := by
          rw [HZ.out]; unfold szK; simp only [cntR]; omega
        have E1 := Lib.hid e1
        clear hc hri e1
        by_cases hn2 : z - ((nthR rows k).length : Int) < 0
        · have HS := Lib.hid (szR_neg (left := left) HX.out.1 (show k + 1 ≤ n by omega) (by rw [E1.out]; exact hn2))
          have HN := Lib.hid (szN_neg hn2)
          go_wp2_with (go_at_call 29; refine (l_sz _ _ _ _ _ hz hz2 hml).mono ?_; rintro e w1 ⟨rfl, g1⟩; rw [HN.out])
          go_ret
          exact ⟨ret_int HS.out.symm, HExt.out.trans g1⟩
        · have HN := Lib.hid (szN_pos (left := z) (n := (nthR rows k).length) (by omega))
          go_wp2_with (go_at_call 29; refine (l_sz _ _ _ _ _ hz hz2 hml).mono ?_; rintro e w1 ⟨rfl, g1⟩; rw [HN.out])
          go_roundw
          case rel => exact ⟨k + 1, _, by omega, by go_num, rfl, by omega, by omega, Lib.hid E1.out.symm, HExt.out.trans g1⟩
          case measure => simp [intOf]; omega
      · have hkn : k = n := by omega
        subst hkn
        have HS := Lib.hid (szR_pos (left := left) HX.out.1 (by rw [← HZ.out]; exact hz))
        go_wp2_with (fail)
        go_ret
        exact ⟨ret_int (by rw [HS.out, HZ.out]), HExt.out⟩

set_option maxHeartbeats 1000000 in
theorem l_toRows (a : Option Addr) (n cap : Nat) (rows : List (List Int)) (w : World) (hl : n ≤ 4194304) (hr : ∀ i, i < n → (nthR rows i).length ≤ 4194304) (hx : RdR w a n rows) :
    Calls Try.prog 10 #[.slice a n cap] w fun e w' => ∃ g, e = .returned (.slice (some ⟨g, 0, none⟩) n n) ∧ OwnR w.heap.size w' (some ⟨g, 0, none⟩) n n rows ∧ Ext w w' := by
  obtain ⟨w0, hmk, hown0, hext0⟩ := make_rows w n hl
  have HX := Lib.hid hx.2
  have HN := Lib.hid hx.1
  have HR := Lib.hid hr
  clear hx hr
  obtain ⟨g, hg⟩ : ∃ g, g = w.heap.size := ⟨_, rfl⟩
  rw [← hg] at hmk
  have HOwn0 := Lib.hid hown0
  have HExt0 := Lib.hid hext0
  clear hown0 hext0
  have hge : w.heap.size ≤ g := by omega
  have HG := Lib.hid hg
  clear hg
  go_enter Try.func10, Try.ntmps10
  go_wp2_with (fail)
  go_loopw [4] (fun i wr => ∃ (k : Nat) (ys : List (List Int)), k ≤ n ∧ i = .int .i64 k ∧ OwnR w.heap.size wr (some ⟨g, 0, none⟩) n n ys ∧ Hid (∀ j, j < k → nthR ys j = nthR rows j) ∧ Ext w wr) (fun i _ => n - (intOf i).toNat)
  case atStart => exact ⟨0, List.replicate n [], Nat.zero_le _, rfl, by have := HOwn0.out; rw [← HG.out] at this ⊢; exact this, Lib.hid (fun j hj => by omega), HExt0.out⟩
  case round =>
    obtain ⟨k, ys, hk, rfl, hown, HT, hext⟩ := hrel
    have HOwn := Lib.hid hown
    have HExt := Lib.hid hext
    clear hown hext
    by_cases hlt : k < n
    · obtain ⟨b, off, ai, ci, rfl, hc, hri⟩ := HX.out k hlt
      have HRi := Lib.hid hri
      have hlen := HR.out k hlt
      have hc' := HExt.out.cell hc
      clear hc hri
      go_wp2_with (fail)
      refine (l_toInts ai _ ci _ _ hlen (HRi.out.ext HExt.out)).mono ?_
      rintro e w1 ⟨g1, rfl, ho, h1⟩
      have HO1 := Lib.hid ho
      have H1 := Lib.hid h1
      have ow1 := HOwn.out.ext h1
      obtain ⟨aj, cj, hcg, _⟩ := ow1.at hlt
      have hfz := ow1.frozen k
      clear ow1 ho h1
      go_wp2_with (fail)
      go_roundw
      case rel => exact ⟨k + 1, ys.set k (nthR rows k), by omega, by go_num, HOwn.out.put H1.out HExt.out.size HO1.out hlt, Lib.hid (fun j hj => by
          rw [nthR_set (by rw [HOwn.out.1]; exact hlt)]
          by_cases hjk : k = j
          · subst hjk; simp
          · rw [if_neg hjk]; exact HT.out j (by omega)), (HExt.out.trans H1.out).setCell hge _⟩
      case measure => simp [intOf]; omega
    · go_wp2_with (fail)
      go_ret
      refine ⟨g, rfl, ?_, HExt.out⟩
      have : ys = rows := ext_rows (by rw [HOwn.out.1, HN.out]) (fun i hi => HT.out i (by rw [HOwn.out.1] at hi; omega))
      rw [← this]; exact HOwn.out

set_option maxHeartbeats 1000000 in
theorem l_eqRows (a b : Option Addr) (n m ca cb : Nat) (xs ys : List (List Int)) (w : World) (hl : n ≤ 4194304) (_hm : m ≤ 4194304) (hxl : ∀ i, i < n → (nthR xs i).length ≤ 4194304) (hyl : ∀ i, i < m → (nthR ys i).length ≤ 4194304) (hx : RdR w a n xs) (hy : RdR w b m ys) :
    Calls Try.prog 12 #[.slice a n ca, .slice b m cb] w fun e w' => e = .returned (.bool (eqR xs ys)) ∧ Ext w w' := by
  have HXL := Lib.hid hxl
  have HYL := Lib.hid hyl
  clear hxl hyl
  by_cases hnm : n = m
  · subst hnm
    have hcb : ((n : Int) != (n : Int)) = false := by simp
    have HX := Lib.hid hx.2
    have HXN := Lib.hid hx.1
    have HY := Lib.hid hy.2
    have HYN := Lib.hid hy.1
    clear hx hy
    go_enter Try.func12, Try.ntmps12
    go_wp2_with (fail)
    go_loopw [5] (fun i wr => ∃ (k : Nat), k ≤ n ∧ i = .int .i64 k ∧ Hid (∀ j, j < k → nthR xs j = nthR ys j) ∧ Ext w wr) (fun i _ => n - (intOf i).toNat)
    case atStart => exact ⟨0, Nat.zero_le _, rfl, Lib.hid (fun j hj => by omega), Ext.refl _⟩
    case round =>
      obtain ⟨k, hk, rfl, HT, hext⟩ := hrel
      have HExt := Lib.hid hext
      clear hext
      by_cases hlt : k < n
      · obtain ⟨b1, off1, a1, c1, rfl, hc1, hr1⟩ := HX.out k hlt
        obtain ⟨b2, off2, a2, c2, rfl, hc2, hr2⟩ := HY.out k hlt
        have Hc1 := Lib.hid ((HExt.out.trans (ext_drew _)).cell hc1)
        have Hc2 := Lib.hid ((HExt.out.trans (ext_drew _)).cell hc2)
        have Hr1 := Lib.hid (hr1.ext (HExt.out.trans (ext_drew _)))
        have Hr2 := Lib.hid (hr2.ext (HExt.out.trans (ext_drew _)))
        have hl1 := HXL.out k hlt
        have hl2 := HYL.out k hlt
        clear hc1 hc2 hr1 hr2
        by_cases hb : nthR xs k = nthR ys k
        · have HB := Lib.hid hb
          have HE := Lib.hid (show eqB (nthR xs k) (nthR ys k) = true by simp [eqB, hb])
          clear hb
          go_wp2_with (fail)
          refine wp_region_lex [(8, .val (.bool true))] (by kernel_rfl) (by kernel_rfl) ?_
          repeat' first | (refine LexW.pure (v := ?_) rfl rfl (fun w1 he => ?_) ?_; rotate_left; ( have hc1 := he.cell Hc1.out; have hc2 := he.cell Hc2.out; go_simp; rfl); simp only [Act.put, List.setIfInBounds_toArray, List.set_cons_zero, List.set_cons_succ]) | (refine LexW.call (f := ?_) (args := ?_) rfl rfl (fun w1 => ?_) (fun w1 he hdep => ?_) ?_; rotate_left 2; (go_simp; refine ⟨?_, ?_⟩ <;> rfl); ( have H := l_eqInts a1 a2 _ _ c1 c2 _ _ w1 hl1 hl2 (Hr1.out.ext he) (Hr2.out.ext he); rw [HE.out] at H; exact H); simp only [Act.put, List.setIfInBounds_toArray, List.set_cons_zero, List.set_cons_succ])
          refine LexW.nil (fun w2 he hk => ?_)
          have G := Lib.hid (HExt.out.trans ((ext_drew _).trans he))
          clear he hk
          go_wp2_with (fail)
          go_roundw
          case rel => exact ⟨k + 1, by omega, by go_num, Lib.hid (fun j hj => by
            by_cases hjk : j = k
            · subst hjk; exact HB.out
            · exact HT.out j (by omega)), G.out⟩
          case measure => simp [intOf]; omega
        · have HB := Lib.hid (eqR_nth hb)
          have HE := Lib.hid (show eqB (nthR xs k) (nthR ys k) = false by simp [eqB, hb])
          clear hb
          go_wp2_with (fail)
          refine wp_region_lex [(8, .val (.bool false))] (by kernel_rfl) (by kernel_rfl) ?_
          repeat' first | (refine LexW.pure (v := ?_) rfl rfl (fun w1 he => ?_) ?_; rotate_left; ( have hc1 := he.cell Hc1.out; have hc2 := he.cell Hc2.out; go_simp; rfl); simp only [Act.put, List.setIfInBounds_toArray, List.set_cons_zero, List.set_cons_succ]) | (refine LexW.call (f := ?_) (args := ?_) rfl rfl (fun w1 => ?_) (fun w1 he hdep => ?_) ?_; rotate_left 2; (go_simp; refine ⟨?_, ?_⟩ <;> rfl); ( have H := l_eqInts a1 a2 _ _ c1 c2 _ _ w1 hl1 hl2 (Hr1.out.ext he) (Hr2.out.ext he); rw [HE.out] at H; exact H); simp only [Act.put, List.setIfInBounds_toArray, List.set_cons_zero, List.set_cons_succ])
          refine LexW.nil (fun w2 he hk => ?_)
          have G := Lib.hid (HExt.out.trans ((ext_drew _).trans he))
          clear he hk
          go_wp2_with (fail)
          go_ret
          exact ⟨ret_bool HB.out.symm, G.out⟩
      · go_wp2_with (fail)
        go_ret
        exact ⟨ret_bool (eqR_all HXN.out HYN.out (fun j hj => HT.out j (by omega))).symm, HExt.out⟩
  · have HF := Lib.hid (eqR_len (xs := xs) (ys := ys) (by rw [hx.1, hy.1]; exact hnm))
    have hcb : ((n : Int) != (m : Int)) = true := by simp; omega
    go_enter Try.func12, Try.ntmps12
    go_wp2_with (fail)
    go_ret
    exact ⟨ret_bool HF.out.symm, Ext.refl _⟩

set_option maxHeartbeats 1000000 in
theorem l_markRows (lo hi : Nat) (a : Option Addr) (n cap : Nat) (rows : List (List Int)) (k : Int) (w : World) (hl : n ≤ 1048576) (hT : cntR rows n ≤ 1048576) (hk0 : 0 ≤ k) (hk : k ≤ 50000000) (ho : OwnRH lo hi w a n cap rows) :
    Calls Try.prog 15 #[.slice a n cap, .int .i64 k] w fun e w' => e = .returned (.int .i64 (k + cntR rows n)) ∧ OwnRH lo hi w' a n cap (markR k rows n) ∧ WroteIn lo hi w w' := by
  have HO := Lib.hid ho
  clear ho
  go_enter Try.func15, Try.ntmps15
  go_wp2_with (fail)
  go_loopw [1, 5] (fun kk i wr => ∃ (j c : Nat) (ys : List (List Int)), j ≤ n ∧ i = .int .i64 j ∧ kk = .int .i64 (k + c) ∧ Hid (c = cntR rows j) ∧ OwnRH lo hi wr a n cap ys ∧ Hid (∀ t, t < j → nthR ys t = marks (k + cntR rows t) (nthR rows t).length) ∧ Hid (∀ t, j ≤ t → t < n → nthR ys t = nthR rows t) ∧ WroteIn lo hi w wr) (fun _ i _ => n - (intOf i).toNat)
  case atStart => exact ⟨0, 0, rows, Nat.zero_le _, rfl, by simp, Lib.hid rfl, HO.out, Lib.hid (fun j hj => by omega), Lib.hid (fun _ _ _ => rfl), WroteIn.refl _ _ _⟩
  case round =>
    obtain ⟨j, c, ys, hj, rfl, rfl, HC, hown, HT, HU, hwr⟩ := hrel
    have HOwn := Lib.hid hown
    have HW := Lib.hid hwr
    clear hown hwr
    by_cases hlt : j < n
    · obtain ⟨b, off, ai, ci, rfl, hc, hoi, hai, hput⟩ := HOwn.out.atRow hlt
      have hcT : c ≤ 1048576 := by rw [HC.out]; exact Nat.le_trans (cntR_le rows hj) hT
      have hll : (nthR ys j).length ≤ 4194304 := by rw [HU.out j (Nat.le_refl _) hlt]; exact Nat.le_trans (cntR_row rows hlt) (by omega)
      have hcl : c + (nthR ys j).length ≤ 1048576 := by
        rw [HU.out j (Nat.le_refl _) hlt, HC.out]
        exact Nat.le_trans (cntR_le rows (show j + 1 ≤ n by omega)) hT
      have HOi := Lib.hid hoi
      have HAi := Lib.hid hai
      have HPut := Lib.hid hput
      clear hoi hai hput
      go_wp2_with (fail)
      refine (l_mark lo ai _ ci _ (k + (c : Int)) _ hll (by omega) (by omega) HOi.out).mono ?_
      rintro e w1 ⟨rfl, g1, g2⟩
      have G1 := Lib.hid g1
      have G2 := Lib.hid g2
      clear g1 g2 hc
      go_wp2_with (fail)
      go_roundw
      case rel => exact ⟨j + 1, c + (nthR ys j).length, ys.set j (marks (k + (c : Int)) (nthR ys j).length), by omega, by go_num, by rw [Int.natCast_add, Int.add_assoc], Lib.hid (by rw [HC.out, HU.out j (Nat.le_refl _) hlt]; rfl), HPut.out w1 _ (marks_len _ _) G2.out G1.out, Lib.hid (fun t ht => by
          rw [nthR_set (by rw [HOwn.out.1]; exact hlt)]
          by_cases hjk : j = t
          · subst hjk; rw [if_pos rfl, HC.out, HU.out j (Nat.le_refl _) hlt]
          · rw [if_neg hjk]; exact HT.out t (by omega)), Lib.hid (fun t ht1 ht2 => by
          rw [nthR_set (by rw [HOwn.out.1]; exact hlt), if_neg (by omega)]; exact HU.out t (by omega) ht2), HW.out.trans (G2.out.inR HAi.out)⟩
      case measure => simp [intOf]; omega
    · go_wp2_with (fail)
      go_ret
      have hjn : j = n := by omega
      subst hjn
      refine ⟨ret_int (by rw [HC.out]), ?_, HW.out⟩
      have : ys = markR k rows j := ext_rows (by rw [HOwn.out.1, markR_len]) (fun i hi => by
        rw [HOwn.out.1] at hi
        rw [HT.out i hi, markR_nth hi])
      rw [← this]; exact HOwn.out

set_option maxHeartbeats 1000000 in
theorem l_heldRows (a : Option Addr) (n cap : Nat) (rows : List (List Int)) (k : Int) (w : World) (hl : n ≤ 1048576) (hT : cntR rows n ≤ 1048576) (hk0 : 0 ≤ k) (hk : k ≤ 50000000) (hx : RdR w a n (markR k rows n)) :
    Calls Try.prog 16 #[.slice a n cap, .int .i64 k] w fun e w' => e = .returned (.int .i64 (k + cntR rows n)) ∧ Ext w w' := by
  have HX := Lib.hid hx
  clear hx
  go_enter Try.func16, Try.ntmps16
  go_wp2_with (fail)
  go_loopw [1, 5] (fun kk i wr => ∃ (j c : Nat), j ≤ n ∧ i = .int .i64 j ∧ kk = .int .i64 (k + c) ∧ Hid (c = cntR rows j) ∧ Ext w wr) (fun _ i _ => n - (intOf i).toNat)
  case atStart => exact ⟨0, 0, Nat.zero_le _, rfl, by simp, Lib.hid rfl, Ext.refl _⟩
  case round =>
    obtain ⟨j, c, hj, rfl, rfl, HC, hext⟩ := hrel
    have HExt := Lib.hid hext
    clear hext
    by_cases hlt : j < n
    · obtain ⟨b, off, ai, ci, rfl, hc, hri⟩ := HX.out.2 j hlt
      rw [markR_nth hlt, marks_len] at hc hri
      have hcT : c ≤ 1048576 := by rw [HC.out]; exact Nat.le_trans (cntR_le rows hj) hT
      have hll : (nthR rows j).length ≤ 1048576 := Nat.le_trans (cntR_row rows hlt) hT
      have hc' := HExt.out.cell hc
      rw [← HC.out] at hri
      have HRi := Lib.hid (hri.ext HExt.out)
      clear hc hri
      go_wp2_with (fail)
      refine (l_held ai _ ci (k + (c : Int)) _ (by omega) (by omega) (by omega) HRi.out).mono ?_
      rintro e w1 ⟨rfl, g1⟩
      have G1 := Lib.hid g1
      have hnn : ¬ (k + (c : Int) + ((nthR rows j).length : Int)) < 0 := by omega
      clear g1 hc'
      go_wp2_with (fail)
      go_roundw
      case rel => exact ⟨j + 1, c + (nthR rows j).length, by omega, by go_num, by rw [Int.natCast_add, Int.add_assoc], Lib.hid (by rw [HC.out]; rfl), HExt.out.trans G1.out⟩
      case measure => simp [intOf]; omega
    · go_wp2_with (fail)
      go_ret
      have hjn : j = n := by omega
      subst hjn
      exact ⟨ret_int (by rw [HC.out]), HExt.out⟩

end Go.Proofs.Ythflmmgolegonaa

/-
  The laws' helpers for doublings.
  No condition.
-/
namespace Go.Proofs.Ythflmmgolegonaa
set_option maxRecDepth 100000
open Go.RowKit

set_option maxHeartbeats 400000 in
theorem l_szDoubling (p : Int) (a : Option Addr) (n cap : Nat) (left : Int) (w : World) (h0 : 0 ≤ left) (h1 : left ≤ 1048576) (hm : n ≤ maxLen) :
    Calls Try.prog 6 #[.agg #[.int .i64 p, .slice a n cap], .int .i64 left] w fun e w' => e = .returned (.int .i64 (szN left n)) ∧ Ext w w' := by
  by_cases hlt : left - n < 0
  · have HS := Lib.hid (szN_neg hlt)
    go_enter Try.func6, Try.ntmps6
    go_wp2_with (go_at_call 29; refine (l_sz _ _ _ _ _ h0 h1 hm).mono ?_; rintro e w1 ⟨rfl, g1⟩; rw [HS.out])
    go_ret
    exact ⟨ret_int HS.out.symm, (ext_alloc _ _).trans g1⟩
  · have HS := Lib.hid (szN_pos (show 0 ≤ left - n by omega))
    have hle : ¬ left - (n : Int) < 0 := hlt
    go_enter Try.func6, Try.ntmps6
    go_wp2_with (go_at_call 29; refine (l_sz _ _ _ _ _ h0 h1 hm).mono ?_; rintro e w1 ⟨rfl, g1⟩; rw [HS.out])
    go_ret
    exact ⟨ret_int HS.out.symm, (ext_alloc _ _).trans g1⟩

set_option maxHeartbeats 400000 in
theorem l_toDoubling (p : Int) (a : Option Addr) (n cap : Nat) (xs : List Int) (w : World) (hl : n ≤ 4194304) (hx : RdC w a n xs) :
    Calls Try.prog 9 #[.agg #[.int .i64 p, .slice a n cap]] w fun e w' => ∃ g, e = .returned (.agg #[.int .i64 p, .slice (some ⟨g, 0, none⟩) n n]) ∧ OwnC w.heap.size w' (some ⟨g, 0, none⟩) n n xs ∧ Ext w w' := by
  go_enter Try.func9, Try.ntmps9
  go_wp2_with (fail)
  refine (l_toInts a n cap xs _ hl (hx.ext (((ext_alloc _ _).alloc _).alloc _))).mono ?_
  rintro e w1 ⟨g, rfl, hown, h1⟩
  have hcc := Ext.cells h1
  have hfz := Ext.frz h1
  have hz := h1.size'
  simp only [World.size_alloc] at hz hcc hfz
  go_wp2_with (fail)
  have hown' : OwnC (w.heap.size + 1 + 1 + 1) w1 (some ⟨g, 0, none⟩) n n xs := by simpa using hown
  refine bodyPost_ret (v := .agg #[.int .i64 p, .slice (some ⟨g, 0, none⟩) n n]) (by simp [results, Try.results9, go_sem, hcc]) rfl ⟨g, rfl, ?_, ?_⟩
  · exact (((hown'.other (by simp) _).other (by simp) _).other (by simp) _).mono (by omega)
  · exact ((((((ext_alloc _ _).alloc _).alloc _).trans h1).setCell (by simp; omega) _).setCell (by simp) _).setCell (by simp) _

set_option maxHeartbeats 400000 in
theorem l_eqDoubling (p : Int) (a b : Option Addr) (n m ca cb : Nat) (xs ys : List Int) (w : World) (hl : n ≤ 4194304) (hm : m ≤ 4194304) (hx : RdC w a n xs) (hy : RdC w b m ys) :
    Calls Try.prog 13 #[.agg #[.int .i64 p, .slice a n ca], .agg #[.int .i64 p, .slice b m cb]] w fun e w' => e = .returned (.bool (eqB xs ys)) ∧ Ext w w' := by
  have hpp : (p != p) = false := by simp
  cases he : eqB xs ys
  all_goals
    have HE := Lib.hid he
    clear he
    go_enter Try.func13, Try.ntmps13
    go_wp2_with (go_at_call 21; refine (l_eqInts _ _ _ _ _ _ _ _ _ hl hm (hx.ext ((ext_alloc _ _).alloc _)) (hy.ext ((ext_alloc _ _).alloc _))).mono ?_; rintro e w1 ⟨rfl, g1⟩; rw [HE.out])
    go_ret
    exact ⟨rfl, ((ext_alloc _ _).alloc _).trans g1⟩

set_option maxHeartbeats 400000 in
theorem l_markDoubling (B : Nat) (p : Int) (a : Option Addr) (n cap : Nat) (xs : List Int) (k : Int) (w : World) (hl : n ≤ 4194304) (hk0 : 0 ≤ k) (hk : k ≤ 100000000) (ho : OwnC B w a n cap xs) :
    Calls Try.prog 14 #[.agg #[.int .i64 p, .slice a n cap], .int .i64 k] w fun e w' => e = .returned (.int .i64 (k + n)) ∧ OwnC B w' a n cap (marks k n) ∧ Wrote w w' a := by
  go_enter Try.func14, Try.ntmps14
  go_wp2_with (go_at_call 22; refine (l_mark B _ _ _ _ _ _ hl hk0 hk (ho.ext (ext_alloc _ _))).mono ?_; rintro e w1 ⟨rfl, g1, g2⟩)
  go_ret
  exact ⟨rfl, g1, Nat.le_trans (by simp) g2.1, g2.2.1, g2.2.2.1, g2.2.2.2.1, fun i hi hne => (g2.2.2.2.2 i (by simp; omega) hne).trans ((ext_alloc w _).block i hi)⟩
end Go.Proofs.Ythflmmgolegonaa

/-
  The laws' helpers for triples of matrices.
  No condition.
-/
namespace Go.Proofs.Ythflmmgolegonaa
set_option maxRecDepth 100000
open Go.RowKit

/-- The size that is left behind three matrices. -/
def szT (left : Int) (A B C : List (List Int)) : Int := if szR left A < 0 then -1 else if szR (szR left A) B < 0 then -1 else szR (szR (szR left A) B) C
theorem szT_neg {left : Int} {A B C : List (List Int)} (h : szT left A B C < 0) : szT left A B C = -1 := by
  unfold szT at h ⊢
  split
  · rfl
  · rename_i h1
    rw [if_neg h1] at h
    split
    · rfl
    · rename_i h2
      rw [if_neg h2] at h
      exact szR_lt h
theorem szT_parts {left : Int} {A B C : List (List Int)} (h : 0 ≤ szT left A B C) : 0 ≤ szR left A ∧ 0 ≤ szR (szR left A) B ∧ 0 ≤ szR (szR (szR left A) B) C ∧ szT left A B C = szR (szR (szR left A) B) C := by
  unfold szT at h ⊢
  split at h
  · omega
  · rename_i h1
    split at h
    · omega
    · rename_i h2
      rw [if_neg h1, if_neg h2]
      exact ⟨by omega, by omega, h, rfl⟩
theorem szT_le {left : Int} {A B C : List (List Int)} (h : 0 ≤ szT left A B C) : szT left A B C ≤ left := by
  obtain ⟨h1, h2, h3, h4⟩ := szT_parts h
  have := szR_le h1
  have := szR_le h2
  have := szR_le h3
  omega
/-- What a triple of a size that fits has. -/
theorem szT_bd {left : Int} {A B C : List (List Int)} {n1 n2 n3 : Nat} (hl : left ≤ 1048576) (h : 0 ≤ szT left A B C) (h1 : A.length = n1) (h2 : B.length = n2) (h3 : C.length = n3) : n1 ≤ 1048576 ∧ n2 ≤ 1048576 ∧ n3 ≤ 1048576 ∧ cntR A n1 ≤ 1048576 ∧ cntR B n2 ≤ 1048576 ∧ cntR C n3 ≤ 1048576 ∧ 0 ≤ left := by
  obtain ⟨p1, p2, p3, _⟩ := szT_parts h
  have b1 := szR_bd p1
  have b2 := szR_bd p2
  have b3 := szR_bd p3
  have l1 := szR_le p1
  have l2 := szR_le p2
  rw [h1] at b1
  rw [h2] at b2
  rw [h3] at b3
  omega

set_option maxHeartbeats 2000000 in
theorem l_szTriple (a1 a2 a3 : Option Addr) (n1 n2 n3 c1 c2 c3 : Nat) (A B C : List (List Int)) (left : Int) (w : World) (h0 : 0 ≤ left) (h1 : left ≤ 1048576) (hm1 : n1 ≤ maxLen) (hm2 : n2 ≤ maxLen) (hm3 : n3 ≤ maxLen) (hr1 : ∀ i, i < n1 → (nthR A i).length ≤ maxLen) (hr2 : ∀ i, i < n2 → (nthR B i).length ≤ maxLen) (hr3 : ∀ i, i < n3 → (nthR C i).length ≤ maxLen) (hA : RdR w a1 n1 A) (hB : RdR w a2 n2 B) (hC : RdR w a3 n3 C) :
    Calls Try.prog 25 #[.agg #[.slice a1 n1 c1, .slice a2 n2 c2, .slice a3 n3 c3], .int .i64 left] w fun e w' => e = .returned (.int .i64 (szT left A B C)) ∧ Ext w w' := by
  have HA := Lib.hid hA
  have HB := Lib.hid hB
  have HC := Lib.hid hC
  have HR1 := Lib.hid hr1
  have HR2 := Lib.hid hr2
  have HR3 := Lib.hid hr3
  have HST : Hid (szT left A B C = if szR left A < 0 then -1 else if szR (szR left A) B < 0 then -1 else szR (szR (szR left A) B) C) := Lib.hid rfl
  clear hA hB hC hr1 hr2 hr3
  obtain ⟨W, hW⟩ : ∃ W, W = w.alloc (.cells #[.slice a1 n1 c1, .slice a2 n2 c2, .slice a3 n3 c3] 47) := ⟨_, rfl⟩
  have G : Hid (Ext w W) := Lib.hid (by rw [hW]; exact ext_alloc _ _)
  have S1 : Hid (W.cell? ⟨w.heap.size, 1, none⟩ = some (.slice a2 n2 c2)) := Lib.hid (by rw [hW]; simp)
  have S2 : Hid (W.cell? ⟨w.heap.size, 2, none⟩ = some (.slice a3 n3 c3)) := Lib.hid (by rw [hW]; simp)
  have HW := Lib.hid hW
  clear hW
  obtain ⟨z1, hz1⟩ : ∃ z, z = szR left A := ⟨_, rfl⟩
  have HZ1 := Lib.hid hz1.symm
  rw [← hz1] at HST
  have hb1 : 0 ≤ z1 → z1 ≤ 1048576 := fun h => by rw [hz1] at h ⊢; have := szR_le h; omega
  clear hz1
  go_enter Try.func25, Try.ntmps25
  go_wp2_with (fail)
  rw [← HW.out]
  refine Calls.mono (l_szRows a1 n1 c1 A left _ h0 h1 hm1 HR1.out (HA.out.ext G.out)) ?_
  rintro e w1 ⟨rfl, g1⟩
  rw [HZ1.out]
  have G1 := Lib.hid (G.out.trans g1)
  have s1 := g1.cell S1.out
  have s2 := g1.cell S2.out
  clear g1
  by_cases hn1 : z1 < 0
  · have HF := Lib.hid (HST.out.trans (if_pos hn1))
    go_wp2_with (fail)
    go_ret
    exact ⟨ret_int HF.out.symm, G1.out⟩
  have hzb1 := hb1 (by omega)
  have HST2 := Lib.hid (HST.out.trans (if_neg hn1))
  obtain ⟨z2, hz2⟩ : ∃ z, z = szR z1 B := ⟨_, rfl⟩
  have HZ2 := Lib.hid hz2.symm
  rw [← hz2] at HST2
  have hb2 : 0 ≤ z2 → z2 ≤ 1048576 := fun h => by rw [hz2] at h ⊢; have := szR_le h; omega
  clear hz2 HST
  go_wp2_with (fail)
  refine Calls.mono (l_szRows a2 n2 c2 B z1 _ (by omega) hzb1 hm2 HR2.out (HB.out.ext G1.out)) ?_
  rintro e w2 ⟨rfl, g2⟩
  rw [HZ2.out]
  have G2 := Lib.hid (G1.out.trans g2)
  replace s2 := g2.cell s2
  clear g2 s1
  by_cases hn2 : z2 < 0
  · have HF := Lib.hid (HST2.out.trans (if_pos hn2))
    go_wp2_with (fail)
    go_ret
    exact ⟨ret_int HF.out.symm, G2.out⟩
  have hzb2 := hb2 (by omega)
  have HST3 := Lib.hid (HST2.out.trans (if_neg hn2))
  obtain ⟨z3, hz3⟩ : ∃ z, z = szR z2 C := ⟨_, rfl⟩
  have HZ3 := Lib.hid hz3.symm
  have HNG : Hid (z3 < 0 → z3 = -1) := Lib.hid (fun h => by rw [hz3] at h ⊢; exact szR_lt h)
  rw [← hz3] at HST3
  clear hz3 HST2
  go_wp2_with (fail)
  refine Calls.mono (l_szRows a3 n3 c3 C z2 _ (by omega) hzb2 hm3 HR3.out (HC.out.ext G2.out)) ?_
  rintro e w3 ⟨rfl, g3⟩
  rw [HZ3.out]
  have G3 := Lib.hid (G2.out.trans g3)
  clear g3 s2
  by_cases hn3 : z3 < 0
  · have HF := Lib.hid (HST3.out.trans (HNG.out hn3))
    go_wp2_with (fail)
    go_ret
    exact ⟨ret_int HF.out.symm, G3.out⟩
  · go_wp2_with (fail)
    go_ret
    exact ⟨ret_int HST3.out.symm, G3.out⟩

set_option maxHeartbeats 2000000 in
theorem l_eqTriple (a1 a2 a3 b1 b2 b3 : Option Addr) (n1 n2 n3 c1 c2 c3 d1 d2 d3 : Nat) (A B C : List (List Int)) (w : World) (hl1 : n1 ≤ 1048576) (hl2 : n2 ≤ 1048576) (hl3 : n3 ≤ 1048576) (hr1 : ∀ i, i < n1 → (nthR A i).length ≤ 4194304) (hr2 : ∀ i, i < n2 → (nthR B i).length ≤ 4194304) (hr3 : ∀ i, i < n3 → (nthR C i).length ≤ 4194304) (hA : RdR w a1 n1 A) (hB : RdR w a2 n2 B) (hC : RdR w a3 n3 C) (kA : RdR w b1 n1 A) (kB : RdR w b2 n2 B) (kC : RdR w b3 n3 C) :
    Calls Try.prog 20 #[.agg #[.slice a1 n1 c1, .slice a2 n2 c2, .slice a3 n3 c3], .agg #[.slice b1 n1 d1, .slice b2 n2 d2, .slice b3 n3 d3]] w fun e w' => e = .returned (.bool true) ∧ Ext w w' := by
  have HA := Lib.hid hA
  have HB := Lib.hid hB
  have HC := Lib.hid hC
  have KA := Lib.hid kA
  have KB := Lib.hid kB
  have KC := Lib.hid kC
  have HR1 := Lib.hid hr1
  have HR2 := Lib.hid hr2
  have HR3 := Lib.hid hr3
  clear hA hB hC kA kB kC hr1 hr2 hr3
  obtain ⟨W, hW⟩ : ∃ W, W = w.alloc (.cells #[.slice a1 n1 c1, .slice a2 n2 c2, .slice a3 n3 c3] 38) := ⟨_, rfl⟩
  obtain ⟨V, hV⟩ : ∃ V, V = W.alloc (.cells #[.slice b1 n1 d1, .slice b2 n2 d2, .slice b3 n3 d3] 38) := ⟨_, rfl⟩
  have gW : Ext w W := by rw [hW]; exact ext_alloc _ _
  have gV : Ext W V := by rw [hV]; exact ext_alloc _ _
  have hz : W.heap.size = w.heap.size + 1 := by rw [hW]; simp
  have G : Hid (Ext w V) := Lib.hid (gW.trans gV)
  have S1 : Hid (V.cell? ⟨w.heap.size, 1, none⟩ = some (.slice a2 n2 c2)) := Lib.hid (gV.cell (by rw [hW]; simp))
  have S2 : Hid (V.cell? ⟨w.heap.size, 2, none⟩ = some (.slice a3 n3 c3)) := Lib.hid (gV.cell (by rw [hW]; simp))
  have K1 : Hid (V.cell? ⟨w.heap.size + 1, 1, none⟩ = some (.slice b2 n2 d2)) := Lib.hid (by rw [hV, ← hz]; simp)
  have K2 : Hid (V.cell? ⟨w.heap.size + 1, 2, none⟩ = some (.slice b3 n3 d3)) := Lib.hid (by rw [hV, ← hz]; simp)
  have HW := Lib.hid hW
  have HV := Lib.hid hV
  clear hW hV gW gV hz
  go_enter Try.func20, Try.ntmps20
  go_wp2_with (fail)
  rw [← HW.out, ← HV.out]
  have H := l_eqRows a1 b1 n1 n1 c1 d1 A A V (by omega) (by omega) HR1.out HR1.out (HA.out.ext G.out) (KA.out.ext G.out)
  rw [eqR_self] at H
  refine Calls.mono H ?_
  rintro e w1 ⟨rfl, g1⟩
  have G1 := Lib.hid (G.out.trans g1)
  have s1 := g1.cell S1.out
  have s2 := g1.cell S2.out
  have k1 := g1.cell K1.out
  have k2 := g1.cell K2.out
  clear g1 H
  go_wp2_with (fail)
  have H := l_eqRows a2 b2 n2 n2 c2 d2 B B w1 (by omega) (by omega) HR2.out HR2.out (HB.out.ext G1.out) (KB.out.ext G1.out)
  rw [eqR_self] at H
  refine Calls.mono H ?_
  rintro e w2 ⟨rfl, g2⟩
  have G2 := Lib.hid (G1.out.trans g2)
  replace s2 := g2.cell s2
  replace k2 := g2.cell k2
  clear g2 H s1 k1
  go_wp2_with (fail)
  have H := l_eqRows a3 b3 n3 n3 c3 d3 C C w2 (by omega) (by omega) HR3.out HR3.out (HC.out.ext G2.out) (KC.out.ext G2.out)
  rw [eqR_self] at H
  refine Calls.mono H ?_
  rintro e w3 ⟨rfl, g3⟩
  have G3 := Lib.hid (G2.out.trans g3)
  clear g3 H s2 k2
  go_wp2_with (fail)
  go_ret
  exact ⟨rfl, G3.out⟩

/-- Three matrices of the call's own, in blocks that follow one another. -/
def trK (k : Int) (A : List (List Int)) (n1 : Nat) (B : List (List Int)) (n2 : Nat) (C : List (List Int)) (n3 : Nat) : Int := k + cntR A n1 + cntR B n2 + cntR C n3
set_option maxHeartbeats 2000000 in
theorem l_markTriple (lo1 hi1 lo2 hi2 lo3 hi3 : Nat) (a1 a2 a3 : Option Addr) (n1 n2 n3 c1 c2 c3 : Nat) (A B C : List (List Int)) (k : Int) (w : World) (hl1 : n1 ≤ 1048576) (hl2 : n2 ≤ 1048576) (hl3 : n3 ≤ 1048576) (hT1 : cntR A n1 ≤ 1048576) (hT2 : cntR B n2 ≤ 1048576) (hT3 : cntR C n3 ≤ 1048576) (hk0 : 0 ≤ k) (hk : k ≤ 20000000) (h12 : hi1 ≤ lo2) (h23 : hi2 ≤ lo3) (hh1 : lo1 ≤ hi1) (hh2 : lo2 ≤ hi2) (hh3 : lo3 ≤ hi3) (hz : hi3 ≤ w.heap.size) (ho1 : OwnRH lo1 hi1 w a1 n1 c1 A) (ho2 : OwnRH lo2 hi2 w a2 n2 c2 B) (ho3 : OwnRH lo3 hi3 w a3 n3 c3 C) :
    Calls Try.prog 23 #[.agg #[.slice a1 n1 c1, .slice a2 n2 c2, .slice a3 n3 c3], .int .i64 k] w fun e w' => e = .returned (.int .i64 (trK k A n1 B n2 C n3)) ∧ OwnRH lo1 hi1 w' a1 n1 c1 (markR k A n1) ∧ OwnRH lo2 hi2 w' a2 n2 c2 (markR (k + cntR A n1) B n2) ∧ OwnRH lo3 hi3 w' a3 n3 c3 (markR (k + cntR A n1 + cntR B n2) C n3) ∧ WroteIn lo1 hi3 w w' := by
  have HO1 := Lib.hid ho1
  have HO2 := Lib.hid ho2
  have HO3 := Lib.hid ho3
  clear ho1 ho2 ho3
  obtain ⟨W, hW⟩ : ∃ W, W = w.alloc (.cells #[.slice a1 n1 c1, .slice a2 n2 c2, .slice a3 n3 c3] 38) := ⟨_, rfl⟩
  have G : Hid (Ext w W) := Lib.hid (by rw [hW]; exact ext_alloc _ _)
  have S1 : Hid (W.cell? ⟨w.heap.size, 1, none⟩ = some (.slice a2 n2 c2)) := Lib.hid (by rw [hW]; simp)
  have S2 : Hid (W.cell? ⟨w.heap.size, 2, none⟩ = some (.slice a3 n3 c3)) := Lib.hid (by rw [hW]; simp)
  have HW := Lib.hid hW
  clear hW
  have wid : ∀ {lo hi : Nat} {x y : World}, WroteIn lo hi x y → lo1 ≤ lo → hi ≤ hi3 → WroteIn lo1 hi3 x y := fun h h1 h2 => ⟨h.size, h.os, h.tape, h.output, fun i hi hr => h.block i hi (by omega)⟩
  have WID : Hid (∀ (lo hi : Nat) (x y : World), WroteIn lo hi x y → lo1 ≤ lo → hi ≤ hi3 → WroteIn lo1 hi3 x y) := Lib.hid (fun _ _ _ _ => wid)
  clear wid
  go_enter Try.func23, Try.ntmps23
  go_wp2_with (fail)
  rw [← HW.out]
  refine Calls.mono (l_markRows lo1 hi1 a1 n1 c1 A k _ (by omega) hT1 hk0 (by omega) (HO1.out.ext G.out)) ?_
  rintro e w1 ⟨rfl, o1, x1⟩
  have P1 := Lib.hid o1
  have Q2 := Lib.hid (x1.ownR (HO2.out.ext G.out) (.inr h12))
  have Q3 := Lib.hid (x1.ownR (HO3.out.ext G.out) (.inr (by omega)))
  have s1 := x1.cell S1.out (.inr (by show hi1 ≤ w.heap.size; omega))
  have s2 := x1.cell S2.out (.inr (by show hi1 ≤ w.heap.size; omega))
  have X1 := Lib.hid ((WroteIn.ofExt G.out).trans (WID.out _ _ _ _ x1 (by omega) (by omega)))
  obtain ⟨k1, hk1⟩ : ∃ z : Int, z = k + cntR A n1 := ⟨_, rfl⟩
  rw [← hk1]
  have HK1 := Lib.hid hk1
  have hk1b : 0 ≤ k1 ∧ k1 ≤ 30000000 := by omega
  clear o1 x1 hk1
  go_wp2_with (fail)
  refine Calls.mono (l_markRows lo2 hi2 a2 n2 c2 B k1 _ (by omega) hT2 (by omega) (by omega) Q2.out) ?_
  rintro e w2 ⟨rfl, o2, x2⟩
  have P2 := Lib.hid o2
  have P1b := Lib.hid (x2.ownR P1.out (.inl h12))
  have Q3b := Lib.hid (x2.ownR Q3.out (.inr h23))
  replace s2 := x2.cell s2 (.inr (by show hi2 ≤ w.heap.size; omega))
  have X2 := Lib.hid (X1.out.trans (WID.out _ _ _ _ x2 (by omega) (by omega)))
  obtain ⟨k2, hk2⟩ : ∃ z : Int, z = k1 + cntR B n2 := ⟨_, rfl⟩
  rw [← hk2]
  have HK2 := Lib.hid hk2
  have hk2b : 0 ≤ k2 ∧ k2 ≤ 40000000 := by omega
  clear o2 x2 hk2 s1
  go_wp2_with (fail)
  refine Calls.mono (l_markRows lo3 hi3 a3 n3 c3 C k2 _ (by omega) hT3 (by omega) (by omega) Q3b.out) ?_
  rintro e w3 ⟨rfl, o3, x3⟩
  have P3 := Lib.hid o3
  have P1c := Lib.hid (x3.ownR P1b.out (.inl (by omega)))
  have P2c := Lib.hid (x3.ownR P2.out (.inl h23))
  have X3 := Lib.hid (X2.out.trans (WID.out _ _ _ _ x3 (by omega) (by omega)))
  have HKT : Hid (trK k A n1 B n2 C n3 = k2 + cntR C n3) := Lib.hid (by rw [HK2.out, HK1.out]; rfl)
  clear o3 x3 s2
  go_wp2_with (fail)
  go_ret
  exact ⟨ret_int HKT.out.symm, P1c.out, by rw [← HK1.out]; exact P2c.out, by rw [← HK1.out, ← HK2.out]; exact P3.out, X3.out⟩
set_option maxHeartbeats 2000000 in
theorem l_heldTriple (a1 a2 a3 : Option Addr) (n1 n2 n3 c1 c2 c3 : Nat) (A B C : List (List Int)) (k : Int) (w : World) (hl1 : n1 ≤ 1048576) (hl2 : n2 ≤ 1048576) (hl3 : n3 ≤ 1048576) (hT1 : cntR A n1 ≤ 1048576) (hT2 : cntR B n2 ≤ 1048576) (hT3 : cntR C n3 ≤ 1048576) (hk0 : 0 ≤ k) (hk : k ≤ 20000000) (hA : RdR w a1 n1 (markR k A n1)) (hB : RdR w a2 n2 (markR (k + cntR A n1) B n2)) (hC : RdR w a3 n3 (markR (k + cntR A n1 + cntR B n2) C n3)) :
    Calls Try.prog 24 #[.agg #[.slice a1 n1 c1, .slice a2 n2 c2, .slice a3 n3 c3], .int .i64 k] w fun e w' => e = .returned (.int .i64 (trK k A n1 B n2 C n3)) ∧ Ext w w' := by
  obtain ⟨W, hW⟩ : ∃ W, W = w.alloc (.cells #[.slice a1 n1 c1, .slice a2 n2 c2, .slice a3 n3 c3] 38) := ⟨_, rfl⟩
  have G : Hid (Ext w W) := Lib.hid (by rw [hW]; exact ext_alloc _ _)
  have S1 : Hid (W.cell? ⟨w.heap.size, 1, none⟩ = some (.slice a2 n2 c2)) := Lib.hid (by rw [hW]; simp)
  have S2 : Hid (W.cell? ⟨w.heap.size, 2, none⟩ = some (.slice a3 n3 c3)) := Lib.hid (by rw [hW]; simp)
  have HW := Lib.hid hW
  clear hW
  obtain ⟨k1, hk1⟩ : ∃ z : Int, z = k + cntR A n1 := ⟨_, rfl⟩
  rw [← hk1] at hB hC
  obtain ⟨k2, hk2⟩ : ∃ z : Int, z = k1 + cntR B n2 := ⟨_, rfl⟩
  rw [← hk2] at hC
  have hk1b : 0 ≤ k1 ∧ k1 ≤ 30000000 := by omega
  have hk2b : 0 ≤ k2 ∧ k2 ≤ 40000000 := by omega
  have hk3b : ¬ (k2 + cntR C n3 : Int) < 0 := by omega
  have HKT : Hid (trK k A n1 B n2 C n3 = k2 + cntR C n3) := Lib.hid (by rw [hk2, hk1]; rfl)
  have HK1 := Lib.hid hk1
  have HK2 := Lib.hid hk2
  have HA := Lib.hid hA
  have HB := Lib.hid hB
  have HC := Lib.hid hC
  clear hA hB hC hk1 hk2
  go_enter Try.func24, Try.ntmps24
  go_wp2_with (fail)
  rw [← HW.out]
  refine Calls.mono (l_heldRows a1 n1 c1 A k _ hl1 hT1 hk0 (by omega) (HA.out.ext G.out)) ?_
  rintro e w1 ⟨rfl, g1⟩
  rw [← HK1.out]
  have G1 := Lib.hid (G.out.trans g1)
  have s1 := g1.cell S1.out
  have s2 := g1.cell S2.out
  clear g1
  go_wp2_with (fail)
  refine Calls.mono (l_heldRows a2 n2 c2 B k1 _ hl2 hT2 (by omega) (by omega) (HB.out.ext G1.out)) ?_
  rintro e w2 ⟨rfl, g2⟩
  rw [← HK2.out]
  have G2 := Lib.hid (G1.out.trans g2)
  replace s2 := g2.cell s2
  clear g2 s1
  go_wp2_with (fail)
  refine Calls.mono (l_heldRows a3 n3 c3 C k2 _ hl3 hT3 (by omega) (by omega) (HC.out.ext G2.out)) ?_
  rintro e w3 ⟨rfl, g3⟩
  have G3 := Lib.hid (G2.out.trans g3)
  clear g3 s2
  go_wp2_with (fail)
  go_ret
  exact ⟨ret_int HKT.out.symm, G3.out⟩

end Go.Proofs.Ythflmmgolegonaa

/-
  Bits of masks below 64: the walk's words for them, and the contracts of the functions that count them.
  No condition.
-/
namespace Go.Proofs.Ythflmmgolegonaa
set_option maxRecDepth 100000
open Go.RowKit

def popF : Nat → Nat → Nat
  | 0, _ => 0
  | f + 1, n => n % 2 + popF f (n / 2)
/-- The number of bits of a mask below 64. -/
def popc (n : Nat) : Nat := popF 6 n
theorem popc_le {n : Nat} (h : n < 64) : popc n ≤ 6 := by
  have : ∀ n, n < 64 → popc n ≤ 6 := by decide +kernel
  exact this n h

theorem bit_i (y k : Nat) (hy : y < 64) (hk : k < 6) : (bits BinOp.and IntKind.i64 ((y : Int) / 2 ^ k) 1 == 1) = y.testBit k := by
  have : ∀ y : Nat, y < 64 → ∀ k : Nat, k < 6 → (bits BinOp.and IntKind.i64 ((y : Int) / 2 ^ k) 1 == 1) = y.testBit k := by decide +kernel
  exact this y hy k hk
theorem bit_z (y k : Nat) (hy : y < 64) (hk : k < 6) : (bits BinOp.and IntKind.i64 ((y : Int) / 2 ^ k) 1 == 0) = !y.testBit k := by
  have : ∀ y : Nat, y < 64 → ∀ k : Nat, k < 6 → (bits BinOp.and IntKind.i64 ((y : Int) / 2 ^ k) 1 == 0) = !y.testBit k := by decide +kernel
  exact this y hy k hk
theorem shr_u (x k : Nat) (hx : x < 64) (hk : k < 6) : IntKind.u64.wrap ((x : Int) / 2 ^ (k + 1)) = ((x >>> (k + 1) : Nat) : Int) := by
  have : ∀ x : Nat, x < 64 → ∀ k : Nat, k < 6 → IntKind.u64.wrap ((x : Int) / 2 ^ (k + 1)) = ((x >>> (k + 1) : Nat) : Int) := by decide +kernel
  exact this x hx k hk
theorem shr_lt {x : Nat} (k : Nat) (hx : x < 64) : x >>> k < 64 := Nat.lt_of_le_of_lt (Nat.shiftRight_le x k) hx


theorem conv_u (x : Nat) (hx : x < 64) : IntKind.u64.wrap (x : Int) = (x : Int) := by
  have : ∀ x : Nat, x < 64 → IntKind.u64.wrap (x : Int) = (x : Int) := by decide +kernel
  exact this x hx

theorem popF_step (f n : Nat) : popF (f + 1) n = n % 2 + popF f (n / 2) := rfl
theorem popF_zero (f : Nat) : popF f 0 = 0 := by
  induction f with
  | zero => rfl
  | succ f ih => simp [popF, ih]
theorem popF_le (f n : Nat) : popF f n ≤ f := by
  induction f generalizing n with
  | zero => simp [popF]
  | succ f ih => have := ih (n / 2); simp only [popF]; omega

end Go.Proofs.Ythflmmgolegonaa

/-
  Contracts: checks of spaces and multivectors in the reference.
  No condition.
-/
namespace Go.Proofs.Ythflmmgolegonaa
set_option maxRecDepth 100000
open Go.RowKit

set_option maxHeartbeats 400000 in
theorem s_prime (p : Int) (w : World) :
    Calls Try.prog 84 #[.int .i64 p] w fun e w' => e = .returned (.bool (primeB p)) ∧ Ext w w' := by
  go_enter Try.func84, Try.ntmps84
  go_wp2
  all_goals go_ret
  all_goals refine ⟨?_, Ext.refl _⟩
  all_goals simp_all [primeB]

set_option maxHeartbeats 400000 in
theorem s_in (n l h : Int) (w : World) :
    Calls Try.prog 85 #[.int .i64 n, .int .i64 l, .int .i64 h] w fun e w' => e = .returned (.bool (inB n l h)) ∧ Ext w w' := by
  go_enter Try.func85, Try.ntmps85
  go_wp2
  all_goals go_ret
  all_goals refine ⟨?_, Ext.refl _⟩
  all_goals simp [inB]; omega

theorem all_false {p : Int} {d n k : Nat} {rows : List (List Int)} (hn : rows.length = n) (hk : k < n) (h : multiB p d (nthR rows k) = false) : rows.all (multiB p d) = false := by
  rw [List.all_eq_false]
  subst hn
  exact ⟨rows[k], List.getElem_mem hk, by rw [nthR_eq hk] at h; simp [h]⟩
theorem all_true {p : Int} {d n : Nat} {rows : List (List Int)} (hn : rows.length = n) (h : ∀ j, j < n → multiB p d (nthR rows j) = true) : rows.all (multiB p d) = true := by
  rw [List.all_eq_true]
  intro x hx
  obtain ⟨i, hi, rfl⟩ := List.getElem_of_mem hx
  have := h i (by omega)
  rwa [nthR_eq hi] at this

end Go.Proofs.Ythflmmgolegonaa

/-
  The factor of a product of two blades, in plain numbers; the contracts of the two functions that compute it.
  No condition.
-/
namespace Go.Proofs.Ythflmmgolegonaa
set_option maxRecDepth 100000
open Go.RowKit

/-- How many swaps, and the product of the common squares, behind k places. -/
def facS (p : Int) (qs : List Int) (a b : Nat) : Nat → Nat × Int
  | 0 => (0, 1)
  | k + 1 => if b.testBit k then ((facS p qs a b k).1 + popc (a >>> (k + 1)), if a.testBit k then (facS p qs a b k).2 * nth qs k % p else (facS p qs a b k).2) else facS p qs a b k
def sgn (p : Int) (s : Nat) (o : Int) : Int := if s % 2 = 1 then (-o) % p else o
/-- The factor of the product of the blades a and b. -/
def fac (p : Int) (qs : List Int) (a b : Nat) : Int := sgn p (facS p qs a b qs.length).1 (facS p qs a b qs.length).2

theorem facS_bd {p : Int} {qs : List Int} {a b : Nat} (hp : 3 ≤ p) (ha : a < 64) (k : Nat) : (facS p qs a b k).1 ≤ 6 * k ∧ 0 ≤ (facS p qs a b k).2 ∧ (facS p qs a b k).2 < p := by
  induction k with
  | zero => simp [facS]; omega
  | succ k ih =>
    unfold facS
    have h1 := popc_le (shr_lt (k + 1) ha)
    have h2 := Int.emod_nonneg ((facS p qs a b k).2 * nth qs k) (show p ≠ 0 by omega)
    have h3 := Int.emod_lt_of_pos ((facS p qs a b k).2 * nth qs k) (show 0 < p by omega)
    split
    · refine ⟨by dsimp only; omega, ?_⟩
      dsimp only
      split <;> omega
    · omega
theorem sgn_bd {p o : Int} {s : Nat} (hp : 3 ≤ p) (h0 : 0 ≤ o) (h1 : o < p) : 0 ≤ sgn p s o ∧ sgn p s o < p := by
  unfold sgn
  split
  · exact ⟨Int.emod_nonneg _ (by omega), Int.emod_lt_of_pos _ (by omega)⟩
  · exact ⟨h0, h1⟩
theorem fac_bd {p : Int} {qs : List Int} {a b : Nat} (hp : 3 ≤ p) (ha : a < 64) : 0 ≤ fac p qs a b ∧ fac p qs a b < p := by
  have := facS_bd (qs := qs) (b := b) hp ha qs.length
  exact sgn_bd hp this.2.1 this.2.2

theorem facS_no {p : Int} {qs : List Int} {a b k : Nat} (h : b.testBit k = false) : facS p qs a b (k + 1) = facS p qs a b k := by simp [facS, h]
theorem facS_one {p : Int} {qs : List Int} {a b k : Nat} (h : b.testBit k = true) (h' : a.testBit k = false) : facS p qs a b (k + 1) = ((facS p qs a b k).1 + popc (a >>> (k + 1)), (facS p qs a b k).2) := by simp [facS, h, h']
theorem facS_two {p : Int} {qs : List Int} {a b k : Nat} (h : b.testBit k = true) (h' : a.testBit k = true) : facS p qs a b (k + 1) = ((facS p qs a b k).1 + popc (a >>> (k + 1)), (facS p qs a b k).2 * nth qs k % p) := by simp [facS, h, h']

theorem mul_bd {p x y : Int} (hp : p ≤ 1000) (hx0 : 0 ≤ x) (hx : x < p) (hy0 : 0 ≤ y) (hy : y < p) : 0 ≤ x * y ∧ x * y ≤ 1000000 := by
  refine ⟨Int.mul_nonneg hx0 hy0, ?_⟩
  have h1 : x * y ≤ 1000 * y := Int.mul_le_mul_of_nonneg_right (by omega) hy0
  omega


/-! ### The reference's way: it turns the first mask as it goes -/
def aS (a b : Nat) : Nat → Nat
  | 0 => a
  | k + 1 => if b.testBit k then aS a b k ^^^ (1 <<< k) else aS a b k
theorem aS_all (a b k : Nat) (ha : a < 64) (hb : b < 64) (hk : k < 6) : aS a b k < 64 ∧ aS a b k >>> (k + 1) = a >>> (k + 1) ∧ (aS a b k).testBit k = a.testBit k := by
  have : ∀ a : Nat, a < 64 → ∀ b : Nat, b < 64 → ∀ k : Nat, k < 6 → aS a b k < 64 ∧ aS a b k >>> (k + 1) = a >>> (k + 1) ∧ (aS a b k).testBit k = a.testBit k := by decide +kernel
  exact this a ha b hb k hk

theorem aS_no {a b k : Nat} (h : b.testBit k = false) : aS a b (k + 1) = aS a b k := by simp [aS, h]
theorem aS_yes {a b k : Nat} (h : b.testBit k = true) : aS a b (k + 1) = aS a b k ^^^ (1 <<< k) := by simp [aS, h]
theorem xor_i (A k : Nat) (hA : A < 64) (hk : k < 6) : bits BinOp.xor IntKind.i64 (A : Int) (IntKind.i64.wrap (2 ^ k)) = ((A ^^^ (1 <<< k) : Nat) : Int) := by
  have : ∀ A : Nat, A < 64 → ∀ k : Nat, k < 6 → bits BinOp.xor IntKind.i64 (A : Int) (IntKind.i64.wrap (2 ^ k)) = ((A ^^^ (1 <<< k) : Nat) : Int) := by decide +kernel
  exact this A hA k hk
theorem xor_i' (A k : Nat) (hA : A < 64) (hk : k < 6) : bits BinOp.xor IntKind.i64 (A : Int) (wrap64 (2 ^ k)) = ((A ^^^ (1 <<< k) : Nat) : Int) := by
  have : ∀ A : Nat, A < 64 → ∀ k : Nat, k < 6 → bits BinOp.xor IntKind.i64 (A : Int) (wrap64 (2 ^ k)) = ((A ^^^ (1 <<< k) : Nat) : Int) := by decide +kernel
  exact this A hA k hk
theorem shr_i (A k : Nat) : (A : Int) / 2 ^ (k + 1) = ((A >>> (k + 1) : Nat) : Int) := by
  rw [Nat.shiftRight_eq_div_pow]; simp
theorem sgn_odd {p o : Int} {s g : Nat} (hg : g % 2 = 1) (h0 : 0 ≤ o) (h1 : o < p) : sgn p (s + g) o = (p - sgn p s o) % p := by
  unfold sgn
  by_cases hs : s % 2 = 1
  · rw [if_neg (by omega), if_pos hs, Int.sub_emod_emod, Int.sub_neg, Int.add_emod_left, Int.emod_eq_of_lt h0 h1]
  · rw [if_pos (by omega), if_neg hs, Int.sub_eq_add_neg, Int.add_emod_left]
theorem sgn_even {p o : Int} {s g : Nat} (hg : ¬ g % 2 = 1) : sgn p (s + g) o = sgn p s o := by
  unfold sgn
  by_cases hs : s % 2 = 1
  · rw [if_pos (by omega), if_pos hs]
  · rw [if_neg (by omega), if_neg hs]
theorem sgn_mul {p o q : Int} {s : Nat} : sgn p s (o * q % p) = sgn p s o * q % p := by
  unfold sgn
  by_cases hs : s % 2 = 1
  · rw [if_pos hs, if_pos hs]
    rw [Int.mul_emod ((-o) % p), Int.emod_emod, ← Int.mul_emod, Int.neg_mul]
    have := Int.sub_emod_emod 0 (o * q) p
    simpa using this
  · rw [if_neg hs, if_neg hs]

end Go.Proofs.Ythflmmgolegonaa

/-
  The products of multivectors in plain numbers; the contract of the program's product with a choice of pairs.
  No condition.
-/
namespace Go.Proofs.Ythflmmgolegonaa
set_option maxRecDepth 100000
open Go.RowKit

/-- One pair of blades is taken into a product. -/
def stepP (p : Int) (f : Nat → Nat → Int) (tk : Nat → Nat → Bool) (x y : List Int) (a b : Nat) (out : List Int) : List Int :=
  if tk a b then out.set (a ^^^ b) ((nth out (a ^^^ b) + nth x a * nth y b * f a b) % p) else out
def inP (p : Int) (f : Nat → Nat → Int) (tk : Nat → Nat → Bool) (x y : List Int) (a : Nat) : Nat → List Int → List Int
  | 0, out => out
  | b + 1, out => stepP p f tk x y a b (inP p f tk x y a b out)
def outP (p : Int) (f : Nat → Nat → Int) (tk : Nat → Nat → Bool) (x y : List Int) (N : Nat) : Nat → List Int
  | 0 => List.replicate N 0
  | a + 1 => inP p f tk x y a N (outP p f tk x y N a)
/-- The product of two multivectors, of the pairs that are taken. -/
def prodL (p : Int) (qs : List Int) (tk : Nat → Nat → Bool) (x y : List Int) : List Int := outP p (fac p qs) tk x y (2 ^ qs.length) (2 ^ qs.length)

/-- N numbers from 0 to p - 1. -/
def Good (p : Int) (N : Nat) (xs : List Int) : Prop := xs.length = N ∧ ∀ i, i < N → 0 ≤ nth xs i ∧ nth xs i < p
theorem good_zero {p : Int} {N : Nat} (hp : 1 ≤ p) : Good p N (List.replicate N 0) := ⟨by simp, fun i hi => by rw [nth_replicate hi]; omega⟩
theorem good_set {p : Int} {N c : Nat} {xs : List Int} {v : Int} (h : Good p N xs) (h0 : 0 ≤ v) (h1 : v < p) : Good p N (xs.set c v) := by
  refine ⟨by simpa using h.1, fun i hi => ?_⟩
  by_cases hc : c < xs.length
  · rw [nth_set hc]
    split
    · exact ⟨h0, h1⟩
    · exact h.2 i hi
  · rw [List.set_eq_of_length_le (by omega)]; exact h.2 i hi
theorem good_isB {p : Int} {N : Nat} {xs : List Int} (h : xs.length = N) (hb : isB p xs = true) : Good p N xs := ⟨h, fun i hi => isB_nth hb (by omega)⟩
theorem Good.isB {p : Int} {N : Nat} {xs : List Int} (h : Good p N xs) : isB p xs = true := by
  unfold Go.Proofs.Ythflmmgolegonaa.isB
  rw [List.all_eq_true]
  intro v hv
  obtain ⟨i, hi, rfl⟩ := List.getElem_of_mem hv
  have := h.2 i (by rw [← h.1]; exact hi)
  rw [nth_eq hi] at this
  simp [inB]; omega

section
variable {p : Int} {f : Nat → Nat → Int} {tk : Nat → Nat → Bool} {x y : List Int} {a b N : Nat} {out : List Int}
theorem stepP_good (hp : 1 ≤ p) (h : Good p N out) : Good p N (stepP p f tk x y a b out) := by
  unfold stepP
  split
  · exact good_set h (Int.emod_nonneg _ (by omega)) (Int.emod_lt_of_pos _ (by omega))
  · exact h
theorem inP_good (hp : 1 ≤ p) (h : Good p N out) : ∀ b, Good p N (inP p f tk x y a b out)
  | 0 => h
  | b + 1 => stepP_good hp (inP_good hp h b)
theorem outP_good (hp : 1 ≤ p) : ∀ a, Good p N (outP p f tk x y N a)
  | 0 => good_zero hp
  | a + 1 => inP_good hp (outP_good hp a) N
theorem stepP_not (h : tk a b = false) : stepP p f tk x y a b out = out := by simp [stepP, h]
theorem stepP_zero (h : Good p N out) (hc : a ^^^ b < N) (hz : nth x a = 0 ∨ nth y b = 0) : stepP p f tk x y a b out = out := by
  unfold stepP
  split
  · have e : nth x a * nth y b * f a b = 0 := by rcases hz with hz | hz <;> simp [hz]
    have hb := h.2 _ hc
    rw [e, Int.add_zero, Int.emod_eq_of_lt hb.1 hb.2, nth_eq (by rw [h.1]; exact hc)]
    exact List.set_getElem_self _
  · rfl
theorem stepP_yes (h : tk a b = true) : stepP p f tk x y a b out = out.set (a ^^^ b) ((nth out (a ^^^ b) + nth x a * nth y b * f a b) % p) := by simp [stepP, h]
theorem inP_zero {d : Nat} (hp : 1 ≤ p) (hN : N = 2 ^ d) (ha : a < N) (h : Good p N out) (hz : nth x a = 0) : ∀ b, b ≤ N → inP p f tk x y a b out = out
  | 0, _ => rfl
  | b + 1, hb => by
    have ih := inP_zero (d := d) hp hN ha h hz b (by omega)
    unfold inP
    rw [ih]
    exact stepP_zero h (by subst hN; exact Nat.xor_lt_two_pow ha (by omega)) (.inl hz)
end

theorem xor_ab (a b : Nat) (ha : a < 64) (hb : b < 64) : bits BinOp.xor IntKind.i64 (a : Int) (b : Int) = ((a ^^^ b : Nat) : Int) := by
  have : ∀ a : Nat, a < 64 → ∀ b : Nat, b < 64 → bits BinOp.xor IntKind.i64 (a : Int) (b : Int) = ((a ^^^ b : Nat) : Int) := by decide +kernel
  exact this a ha b hb
theorem mul3_bd {p x y z : Int} (hp : p ≤ 1000) (hx0 : 0 ≤ x) (hx : x < p) (hy0 : 0 ≤ y) (hy : y < p) (hz0 : 0 ≤ z) (hz : z < p) : 0 ≤ x * y * z ∧ x * y * z ≤ 1000000000 := by
  obtain ⟨h1, h2⟩ := mul_bd hp hx0 hx hy0 hy
  refine ⟨Int.mul_nonneg h1 hz0, ?_⟩
  have h3 : x * y * z ≤ 1000000 * z := Int.mul_le_mul_of_nonneg_right h2 hz0
  omega

end Go.Proofs.Ythflmmgolegonaa

/-
  Contract of the reference's function that computes the factor of a product of two blades.
  No condition.
-/
namespace Go.Proofs.Ythflmmgolegonaa
set_option maxRecDepth 100000
open Go.RowKit


end Go.Proofs.Ythflmmgolegonaa

/-
  Contracts of the reference's products of multivectors.
  No condition.
-/
namespace Go.Proofs.Ythflmmgolegonaa
set_option maxRecDepth 100000
open Go.RowKit

def tkA (_ _ : Nat) : Bool := true
def tkW (i j : Nat) : Bool := i &&& j == 0
def tkL (i j : Nat) : Bool := i &&& j == i
def tkR (i j : Nat) : Bool := i &&& j == j
theorem and_ab (a b : Nat) (ha : a < 64) (hb : b < 64) : bits BinOp.and IntKind.i64 (a : Int) (b : Int) = ((a &&& b : Nat) : Int) := by
  have : ∀ a : Nat, a < 64 → ∀ b : Nat, b < 64 → bits BinOp.and IntKind.i64 (a : Int) (b : Int) = ((a &&& b : Nat) : Int) := by decide +kernel
  exact this a ha b hb
theorem ne_nat (a b : Nat) : ((a : Int) != (b : Int)) = !(a == b) := by
  rw [Bool.eq_iff_iff]; simp; omega
theorem ne_zero' (a : Nat) : ((a : Int) != 0) = !(a == 0) := by
  rw [Bool.eq_iff_iff]; simp
theorem step_ref {p o m f : Int} : (o + m % p * f) % p = (o + m * f) % p := by
  rw [Int.add_emod, Int.mul_emod (m % p), Int.emod_emod, ← Int.mul_emod, ← Int.add_emod]
theorem ref_bd {p m f : Int} (hp : 3 ≤ p) (hp2 : p ≤ 1000) (hf0 : 0 ≤ f) (hf1 : f < p) : 0 ≤ m % p * f ∧ m % p * f ≤ 1000000 :=
  mul_bd hp2 (Int.emod_nonneg _ (by omega)) (Int.emod_lt_of_pos _ (by omega)) hf0 hf1





end Go.Proofs.Ythflmmgolegonaa

/-
  Contracts: choices of pairs, blades, products of lists of multivectors, in the program.
  No condition.
-/
namespace Go.Proofs.Ythflmmgolegonaa
set_option maxRecDepth 100000
open Go.RowKit

/-! ### The choices of pairs -/
theorem andn_ab (a b : Nat) (ha : a < 64) (hb : b < 64) : (bits BinOp.andNot IntKind.i64 (a : Int) (b : Int) == 0) = tkL a b := by
  have : ∀ a : Nat, a < 64 → ∀ b : Nat, b < 64 → (bits BinOp.andNot IntKind.i64 (a : Int) (b : Int) == 0) = tkL a b := by decide +kernel
  exact this a ha b hb
theorem andn_ba (a b : Nat) (ha : a < 64) (hb : b < 64) : (bits BinOp.andNot IntKind.i64 (b : Int) (a : Int) == 0) = tkR a b := by
  have : ∀ a : Nat, a < 64 → ∀ b : Nat, b < 64 → (bits BinOp.andNot IntKind.i64 (b : Int) (a : Int) == 0) = tkR a b := by decide +kernel
  exact this a ha b hb

/-! ### Blades -/
def bladeL (N m : Nat) : List Int := (List.replicate N 0).set m 1
theorem bladeL_len (N m : Nat) : (bladeL N m).length = N := by simp [bladeL]
theorem bladeL_nth {N m i : Nat} (hm : m < N) (hi : i < N) : nth (bladeL N m) i = if m = i then 1 else 0 := by
  unfold bladeL
  rw [nth_set (by simpa using hm)]
  split
  · rfl
  · exact nth_replicate hi
theorem blade_good {p : Int} {N m : Nat} (hp : 3 ≤ p) : Good p N (bladeL N m) := good_set (good_zero (by omega)) (by omega) (by omega)


/-! ### 1 is neutral -/
theorem popc_zero : popc 0 = 0 := by decide
theorem facS_zero (p : Int) (qs : List Int) (b : Nat) (k : Nat) : facS p qs 0 b k = (0, 1) := by
  induction k with
  | zero => rfl
  | succ k ih =>
    cases hb : b.testBit k with
    | false => rw [facS_no hb, ih]
    | true => rw [facS_one hb (by simp), ih]; simp [popc_zero]
theorem fac_zero (p : Int) (qs : List Int) (b : Nat) : fac p qs 0 b = 1 := by simp [fac, facS_zero, sgn]

theorem inP_first {p : Int} {f : Nat → Nat → Int} {x y : List Int} {N : Nat} (hy : Good p N y) (hx : nth x 0 = 1) (hf : ∀ b, f 0 b = 1) : ∀ b, b ≤ N →
    (inP p f tkA x y 0 b (List.replicate N 0)).length = N ∧ ∀ i, i < N → nth (inP p f tkA x y 0 b (List.replicate N 0)) i = if i < b then nth y i else 0
  | 0, _ => ⟨by simp [inP], fun i hi => by simp [inP, nth_replicate hi]⟩
  | b + 1, hb => by
    obtain ⟨ih1, ih2⟩ := inP_first hy hx hf b (by omega)
    unfold inP
    rw [stepP_yes rfl, Nat.zero_xor, hx, hf, ih2 b (by omega), if_neg (by omega)]
    have hyb := hy.2 b (by omega)
    have e : (0 + 1 * nth y b * 1) % p = nth y b := by rw [Int.one_mul, Int.mul_one, Int.zero_add, Int.emod_eq_of_lt hyb.1 hyb.2]
    rw [e]
    refine ⟨by simpa using ih1, fun i hi => ?_⟩
    rw [nth_set (by omega)]
    by_cases h : b = i
    · subst h; simp
    · rw [if_neg h, ih2 i hi]
      by_cases h2 : i < b
      · rw [if_pos h2, if_pos (by omega)]
      · rw [if_neg h2, if_neg (by omega)]
theorem outP_rest {p : Int} {f : Nat → Nat → Int} {tk : Nat → Nat → Bool} {x y : List Int} {N d : Nat} (hp : 1 ≤ p) (hN : N = 2 ^ d) (hx : ∀ a, 0 < a → a < N → nth x a = 0) : ∀ a, 1 ≤ a → a ≤ N → outP p f tk x y N a = outP p f tk x y N 1
  | 0, h, _ => by omega
  | 1, _, _ => rfl
  | a + 2, _, ha => by
    have ih := outP_rest (f := f) (tk := tk) (y := y) hp hN hx (a + 1) (by omega) (by omega)
    rw [← ih]
    show inP p f tk x y (a + 1) N (outP p f tk x y N (a + 1)) = _
    exact inP_zero (d := d) hp hN (by omega) (outP_good hp (a + 1)) (hx (a + 1) (by omega) (by omega)) N (Nat.le_refl _)
theorem one_times {p : Int} {qs : List Int} {y : List Int} (hp : 3 ≤ p) (hy : Good p (2 ^ qs.length) y) : prodL p qs tkA (bladeL (2 ^ qs.length) 0) y = y := by
  have hN : 0 < 2 ^ qs.length := Nat.pos_of_ne_zero (by simp)
  unfold prodL
  rw [outP_rest (d := qs.length) (by omega) rfl (fun a h1 h2 => by rw [bladeL_nth hN h2, if_neg (by omega)]) _ hN (Nat.le_refl _)]
  show inP p (fac p qs) tkA _ y 0 (2 ^ qs.length) (List.replicate _ 0) = y
  obtain ⟨h1, h2⟩ := inP_first (f := fac p qs) (x := bladeL (2 ^ qs.length) 0) hy (by rw [bladeL_nth hN hN, if_pos rfl]) (fac_zero p qs) (2 ^ qs.length) (Nat.le_refl _)
  refine ext_nth (by rw [h1, hy.1]) (fun i hi => ?_)
  rw [h1] at hi
  rw [h2 i hi, if_pos hi]

theorem prod_good {p : Int} {qs x y : List Int} {tk : Nat → Nat → Bool} (hp : 1 ≤ p) : Good p (2 ^ qs.length) (prodL p qs tk x y) := outP_good hp _

/-! ### Products of lists -/
def timesL (p : Int) (qs : List Int) (rows : List (List Int)) : List Int := rows.foldl (fun o x => prodL p qs tkA o x) (bladeL (2 ^ qs.length) 0)
theorem timesL_good {p : Int} {qs : List Int} (hp : 3 ≤ p) (rows : List (List Int)) : Good p (2 ^ qs.length) (timesL p qs rows) := by
  rcases List.eq_nil_or_concat rows with rfl | ⟨l, x, rfl⟩
  · exact blade_good hp
  · unfold timesL
    rw [List.concat_eq_append, List.foldl_append]
    exact prod_good (by omega)
theorem timesL_snoc {p : Int} {qs : List Int} (rows : List (List Int)) (x : List Int) : timesL p qs (rows ++ [x]) = prodL p qs tkA (timesL p qs rows) x := by
  unfold timesL; rw [List.foldl_append]; rfl
theorem timesL_two {p : Int} {qs x y : List Int} (hp : 3 ≤ p) (hx : Good p (2 ^ qs.length) x) : timesL p qs [x, y] = prodL p qs tkA x y := by
  show prodL p qs tkA (prodL p qs tkA (bladeL (2 ^ qs.length) 0) x) y = _
  rw [one_times hp hx]
theorem take_snocR (rows : List (List Int)) (k : Nat) (h : k < rows.length) : rows.take (k + 1) = rows.take k ++ [nthR rows k] := by
  rw [List.take_succ_eq_append_getElem h, nthR_eq h]



end Go.Proofs.Ythflmmgolegonaa

/-
  The pseudoscalar, its square; 0 and 1 in the reference.
  No condition.
-/
namespace Go.Proofs.Ythflmmgolegonaa
set_option maxRecDepth 100000
open Go.RowKit

/-- A row of numbers of the call's own, that begins a block. -/
def SPred.ownG (B n : Nat) (xs : List Int) : SPred := ⟨fun v w => ∃ g, v = .slice (some ⟨g, 0, none⟩) n n ∧ OwnC B w (some ⟨g, 0, none⟩) n n xs, fun _ _ _ ⟨g, hv, h⟩ he => ⟨g, hv, h.ext he⟩⟩
/-- A row of numbers of the call's own, that begins a block, with room behind it. -/
def SPred.ownS (B n : Nat) (xs : List Int) : SPred := ⟨fun v w => ∃ g cap, v = .slice (some ⟨g, 0, none⟩) n cap ∧ OwnC B w (some ⟨g, 0, none⟩) n cap xs, fun _ _ _ ⟨g, cap, hv, h⟩ he => ⟨g, cap, hv, h.ext he⟩⟩
/-- A row of rows. -/
def SPred.rows (n : Nat) (rows : List (List Int)) : SPred := ⟨fun v w => ∃ g, v = .slice (some ⟨g, 0, none⟩) n n ∧ RdR w (some ⟨g, 0, none⟩) n rows, fun _ _ _ ⟨g, hv, h⟩ he => ⟨g, hv, h.ext he⟩⟩
/-- A cell with a number. -/
def SPred.cell (x : Int) : SPred := ⟨fun v w => ∃ b off, v = .pointer (some ⟨b, off, none⟩) ∧ w.cell? ⟨b, off, none⟩ = some (.int .i64 x), fun _ _ _ ⟨b, off, hv, h⟩ he => ⟨b, off, hv, he.cell h⟩⟩

/-- Any other operation whose value is known. -/
theorem LexW.relV {P : Program} {ops : Array Oper} {w0 : World} {sp : Nat → Option SPred} {Q : Act → World → Prop} {o : Oper} {l : List Oper} {k : Nat} {a : Act} {env : List (Nat × Value)} {v : Value} (hsp : sp k = some (SPred.val v)) (hw : Region.wanted o (yielded ops a.tmps) = true)
    (hr : ∀ w, Ext w0 w → Dep sp (depsOf ops k) a w → ∃ w', (execOp a.eval o).run P w = .ok (.value v) w' ∧ Ext w w')
    (h : LexW P ops w0 sp Q l (k + 1) (a.put o.dst v) ((k, v) :: env)) : LexW P ops w0 sp Q (o :: l) k a env :=
  LexW.rel hsp hw (fun w he hd => let ⟨w', h1, h2⟩ := hr w he hd; ⟨v, w', h1, h2, rfl⟩) fun v' ⟨_, hv⟩ => by
    have hv' : v' = v := hv
    subst hv'
    exact h

def fullL (d : Nat) : List Int := bladeL (2 ^ d) (2 ^ d - 1)
def topL (d : Nat) (k : Int) : List Int := (List.replicate (2 ^ d) 0).set (2 ^ d - 1) k
theorem topL_one (d : Nat) : topL d 1 = fullL d := rfl
theorem pow_pos' (d : Nat) : 1 ≤ 2 ^ d := Nat.pos_of_ne_zero (by simp)
theorem full_good {p : Int} {d : Nat} (hp : 3 ≤ p) : Good p (2 ^ d) (fullL d) := blade_good hp
theorem top_good {p : Int} {d : Nat} {k : Int} (hp : 3 ≤ p) (h0 : 0 ≤ k) (h1 : k < p) : Good p (2 ^ d) (topL d k) := good_set (good_zero (by omega)) h0 h1

theorem pow_wrapI {d : Nat} (h : d ≤ 6) : IntKind.i64.wrap (2 ^ d) = ((2 ^ d : Nat) : Int) := by
  have : d = 0 ∨ d = 1 ∨ d = 2 ∨ d = 3 ∨ d = 4 ∨ d = 5 ∨ d = 6 := by omega
  rcases this with rfl | rfl | rfl | rfl | rfl | rfl | rfl <;> decide +kernel





theorem nth_bd {p : Int} {N : Nat} {xs : List Int} (h : Good p N xs) {i : Nat} (hi : i < N) : 0 ≤ nth xs i ∧ nth xs i < p := h.2 i hi
def sqFull (p : Int) (qs : List Int) : Int := nth (prodL p qs tkA (fullL qs.length) (fullL qs.length)) 0
theorem sqFull_bd {p : Int} {qs : List Int} (hp : 3 ≤ p) : 0 ≤ sqFull p qs ∧ sqFull p qs < p := (prod_good (by omega)).2 0 (pow_pos' _)
theorem own_cell0 {B : Nat} {w : World} {g n cap : Nat} {xs : List Int} (h : OwnC B w (some ⟨g, 0, none⟩) n cap xs) (hn : 0 < n) : w.cell? ⟨g, 0, none⟩ = some (.int .i64 (nth xs 0)) := h.cell hn

theorem good_pair {p : Int} {N : Nat} {xs ys : List Int} (h : Good p N xs) (h' : Good p N ys) : ∀ i, i < 2 → Good p N (nthR [xs, ys] i) := fun i hi => by
  have : i = 0 ∨ i = 1 := by omega
  rcases this with rfl | rfl
  · exact h
  · exact h'


end Go.Proofs.Ythflmmgolegonaa

/-
  Sums of lists, in the program and in the reference.
  No condition.
-/
namespace Go.Proofs.Ythflmmgolegonaa
set_option maxRecDepth 100000
open Go.RowKit

def plusN (p : Int) (x y : List Int) (k : Int) (i : Nat) : Int := (nth x i + k * nth y i) % p
def plusL (p : Int) (x y : List Int) (k : Int) (n : Nat) : List Int := (List.range n).map (plusN p x y k)
theorem plusL_len (p : Int) (x y : List Int) (k : Int) (n : Nat) : (plusL p x y k n).length = n := by simp [plusL]
theorem plusL_succ (p : Int) (x y : List Int) (k : Int) (n : Nat) : plusL p x y k (n + 1) = plusL p x y k n ++ [plusN p x y k n] := by simp [plusL, List.range_succ]
theorem plusL_nth {p : Int} {x y : List Int} {k : Int} {n i : Nat} (h : i < n) : nth (plusL p x y k n) i = plusN p x y k i := by
  unfold plusL; rw [nth_map (by simpa using h)]; simp
theorem plus_good {p : Int} {x y : List Int} {k : Int} {n : Nat} (hp : 1 ≤ p) : Good p n (plusL p x y k n) := ⟨plusL_len _ _ _ _ _, fun i hi => by
  rw [plusL_nth hi]; exact ⟨Int.emod_nonneg _ (by omega), Int.emod_lt_of_pos _ (by omega)⟩⟩
theorem plus_minus {p : Int} {x y : List Int} {n : Nat} : plusL p x y (p - 1) n = plusL p x y (-1) n := by
  unfold plusL
  refine List.map_congr_left fun i _ => ?_
  unfold plusN
  rw [show nth x i + (p - 1) * nth y i = (nth x i + -1 * nth y i) + p * nth y i by rw [Int.sub_mul]; omega, Int.add_mul_emod_self_left]

/-- A row of one number. -/
def SPred.one (x : Int) : SPred := ⟨fun v w => ∃ g, v = .slice (some ⟨g, 0, none⟩) 1 1 ∧ w.cell? ⟨g, 0, none⟩ = some (.int .i64 x), fun _ _ _ ⟨g, hv, h⟩ he => ⟨g, hv, he.cell h⟩⟩
theorem kmul_bd {k y : Int} (hk : -1000 ≤ k ∧ k ≤ 1000) (hy0 : 0 ≤ y) (hy : y ≤ 1000) : -1000000 ≤ k * y ∧ k * y ≤ 1000000 := by
  constructor
  · have : -1000 * y ≤ k * y := Int.mul_le_mul_of_nonneg_right hk.1 hy0
    omega
  · have : k * y ≤ 1000 * y := Int.mul_le_mul_of_nonneg_right hk.2 hy0
    omega

set_option maxHeartbeats 1000000 in
theorem c_plus (p : Int) (ax ay : Option Addr) (n cx cy : Nat) (x y : List Int) (k : Int) (w : World) (hp1 : 3 ≤ p) (hp2 : p ≤ 1000) (hk : -1000 ≤ k ∧ k ≤ 1000) (hn : n ≤ 4194303) (hx : RdC w ax n x) (hy : RdC w ay n y) (hgx : Good p n x) (hgy : Good p n y) :
    Calls Try.prog 64 #[.int .i64 p, .slice ax n cx, .slice ay n cy, .int .i64 k] w fun e w' => ∃ g rc, e = .returned (.slice (some ⟨g, 0, none⟩) n rc) ∧ OwnC w.heap.size w' (some ⟨g, 0, none⟩) n rc (plusL p x y k n) ∧ Ext w w' := by
  have HX := Lib.hid hx
  have HY := Lib.hid hy
  have HGX := Lib.hid hgx
  have HGY := Lib.hid hgy
  clear hx hy hgx hgy
  go_enter Try.func64, Try.ntmps64
  go_wp2_with (fail)
  go_loopw [9, 15] (fun v i wr => ∃ (j g rc : Nat), j ≤ n ∧ i = .int .i64 j ∧ v = .slice (some ⟨g, 0, none⟩) j rc ∧ OwnC w.heap.size wr (some ⟨g, 0, none⟩) j rc (plusL p x y k j) ∧ Ext w wr) (fun _ i _ => n - (intOf i).toNat)
  case atStart => exact ⟨0, _, _, Nat.zero_le _, rfl, rfl, own_empty w, ext_alloc _ _⟩
  case round =>
    obtain ⟨j, g, rc, hj, rfl, rfl, hown, hext⟩ := hrel
    have HOwn := Lib.hid hown
    have HExt := Lib.hid hext
    clear hown hext
    by_cases hlt : j < n
    · obtain ⟨bx, ox, rfl, hcx⟩ := HX.out.2 j hlt
      obtain ⟨by', oy, rfl, hcy⟩ := HY.out.2 j hlt
      have hcx' := HExt.out.cell hcx
      have hcy' := HExt.out.cell hcy
      have hbx := HGX.out.2 j hlt
      have hby := HGY.out.2 j hlt
      have hkb := kmul_bd hk hby.1 (show nth y j ≤ 1000 by omega)
      have hw1 : IntKind.i64.wrap (k * nth y j) = k * nth y j := IntWalk.i64_in _ (by omega)
      have hw2 : IntKind.i64.wrap (nth x j + k * nth y j) = nth x j + k * nth y j := IntWalk.i64_in _ (by omega)
      have HP := Lib.hid (show (nth x j + k * nth y j) % p = plusN p x y k j from rfl)
      clear hcx hcy
      go_wp2_with (first | (go_at_call 59; refine (c_num _ _ _ (by omega) hp2).mono ?_; rintro e w2 ⟨rfl, g2⟩; rw [HP.out]; have G2 := Lib.hid g2; clear g2) | (at_builtin; refine wpList_push rfl (.tmp 20) (.tmp 31) rfl rfl rfl (v := plusN p x y k j) (HOwn.out.ext (G2.out.trans (ext_alloc _ _))) ?hc ?hn ?hB ?hk))
      case hc => simp
      case hn => omega
      case hB => have hz := (HExt.out.trans G2.out).size'; simp; omega
      case hk =>
        intro g' cap' w3 ho3 hg3 he3
        have HO3 := Lib.hid ho3
        have HE3 := Lib.hid (he3 w (Nat.le_refl _) ((HExt.out.trans G2.out).alloc _))
        clear ho3 hg3 he3
        go_wp2_with (fail)
        go_roundw
        case rel => exact ⟨j + 1, g', cap', by omega, by go_num, rfl, by rw [plusL_succ]; exact HO3.out, HE3.out⟩
        case measure => simp [intOf]; omega
    · go_wp2_with (fail)
      go_ret
      obtain rfl : j = n := by omega
      exact ⟨g, rc, rfl, HOwn.out, HExt.out⟩

end Go.Proofs.Ythflmmgolegonaa

/-
  The geometric product in plain numbers: a formula for its coefficients, associativity, sums, multiples.
  No condition. No program in sight.
-/
namespace Go.Proofs.Ythflmmgolegonaa
set_option maxRecDepth 100000
open Go.RowKit

/-! ### Sums -/
def sumN : Nat → (Nat → Int) → Int
  | 0, _ => 0
  | n + 1, g => sumN n g + g n
theorem sumN_congr {n : Nat} {f g : Nat → Int} (h : ∀ i, i < n → f i = g i) : sumN n f = sumN n g := by
  induction n with
  | zero => rfl
  | succ n ih => simp only [sumN]; rw [ih (fun i hi => h i (by omega)), h n (by omega)]
theorem sumN_zero {n : Nat} {f : Nat → Int} (h : ∀ i, i < n → f i = 0) : sumN n f = 0 := by
  induction n with
  | zero => rfl
  | succ n ih => simp only [sumN]; rw [ih (fun i hi => h i (by omega)), h n (by omega)]; rfl
theorem sumN_add (n : Nat) (f g : Nat → Int) : sumN n (fun i => f i + g i) = sumN n f + sumN n g := by
  induction n with
  | zero => rfl
  | succ n ih => simp only [sumN]; rw [ih]; omega
theorem sumN_mul (n : Nat) (c : Int) (f : Nat → Int) : sumN n (fun i => c * f i) = c * sumN n f := by
  induction n with
  | zero => simp [sumN]
  | succ n ih => simp only [sumN]; rw [ih, Int.mul_add]
theorem sumN_mulr (n : Nat) (c : Int) (f : Nat → Int) : sumN n (fun i => f i * c) = sumN n f * c := by
  induction n with
  | zero => simp [sumN]
  | succ n ih => simp only [sumN]; rw [ih, Int.add_mul]
theorem sumN_swap (n m : Nat) (f : Nat → Nat → Int) : sumN n (fun i => sumN m (fun j => f i j)) = sumN m (fun j => sumN n (fun i => f i j)) := by
  induction n with
  | zero => simp only [sumN]; exact (sumN_zero (fun _ _ => rfl)).symm
  | succ n ih => simp only [sumN]; rw [ih, ← sumN_add]
theorem sumN_single {n : Nat} {f : Nat → Int} {k : Nat} (hk : k < n) (h : ∀ i, i < n → i ≠ k → f i = 0) : sumN n f = f k := by
  induction n with
  | zero => omega
  | succ n ih =>
    simp only [sumN]
    by_cases hkn : k = n
    · subst hkn
      rw [sumN_zero (fun i hi => h i (by omega) (by omega))]; omega
    · rw [ih (by omega) (fun i hi hne => h i (by omega) hne), h n (by omega) (by omega)]; omega
theorem sumN_emod {p : Int} {n : Nat} {f g : Nat → Int} (h : ∀ i, i < n → f i % p = g i % p) : sumN n f % p = sumN n g % p := by
  induction n with
  | zero => rfl
  | succ n ih =>
    simp only [sumN]
    rw [Int.add_emod, ih (fun i hi => h i (by omega)), h n (by omega), ← Int.add_emod]
theorem mul_emod_congr {p a b c d : Int} (h : a % p = b % p) (h' : c % p = d % p) : (a * c) % p = (b * d) % p := by
  rw [Int.mul_emod, h, h', ← Int.mul_emod]

def sumL (l : List Nat) (g : Nat → Int) : Int := l.foldr (fun i s => g i + s) 0
theorem sumL_cons (a : Nat) (l : List Nat) (g : Nat → Int) : sumL (a :: l) g = g a + sumL l g := rfl
theorem sumL_snoc (l : List Nat) (i : Nat) (g : Nat → Int) : sumL (l ++ [i]) g = sumL l g + g i := by
  induction l with
  | nil => simp [sumL]
  | cons a l ih =>
    rw [List.cons_append, sumL_cons, ih, sumL_cons]; omega
theorem sumN_range (n : Nat) (g : Nat → Int) : sumN n g = sumL (List.range n) g := by
  induction n with
  | zero => rfl
  | succ n ih => rw [List.range_succ, sumL_snoc, ← ih]; rfl
theorem sumL_perm {l l' : List Nat} (h : l.Perm l') (g : Nat → Int) : sumL l g = sumL l' g := by
  induction h with
  | nil => rfl
  | cons x _ ih => rw [sumL_cons, sumL_cons, ih]
  | swap x y l => rw [sumL_cons, sumL_cons, sumL_cons, sumL_cons]; omega
  | trans _ _ ih1 ih2 => rw [ih1, ih2]
theorem sumL_map (l : List Nat) (f : Nat → Nat) (g : Nat → Int) : sumL (l.map f) g = sumL l (fun i => g (f i)) := by
  induction l with
  | nil => rfl
  | cons a l ih => rw [List.map_cons, sumL_cons, sumL_cons, ih]
theorem xor_perm : ∀ d : Nat, d < 7 → ∀ a : Nat, a < 2 ^ d → ((List.range (2 ^ d)).map (fun m => a ^^^ m)).isPerm (List.range (2 ^ d)) = true := by decide +kernel
theorem sumN_xor {d a : Nat} (hd : d ≤ 6) (ha : a < 2 ^ d) (g : Nat → Int) : sumN (2 ^ d) (fun m => g (a ^^^ m)) = sumN (2 ^ d) g := by
  have h := List.isPerm_iff.1 (xor_perm d (by omega) a ha)
  rw [sumN_range, sumN_range]
  exact (sumL_map _ _ _).symm.trans (sumL_perm h g)

/-! ### The coefficients of a product -/
theorem inP_nth {p : Int} {f : Nat → Nat → Int} {tk : Nat → Nat → Bool} {x y : List Int} {d a : Nat} {out : List Int} (hp : 1 ≤ p) (ha : a < 2 ^ d) (ho : Good p (2 ^ d) out) {k : Nat} (hk : k < 2 ^ d) :
    ∀ b, b ≤ 2 ^ d → nth (inP p f tk x y a b out) k = (nth out k + sumN b (fun j => if (tk a j && (a ^^^ j == k)) = true then nth x a * nth y j * f a j else 0)) % p
  | 0, _ => by
    have := ho.2 k hk
    simp only [inP, sumN, Int.add_zero]
    rw [Int.emod_eq_of_lt this.1 this.2]
  | b + 1, hb => by
    have ih := inP_nth (f := f) (tk := tk) (x := x) (y := y) hp ha ho hk b (by omega)
    have hg := inP_good (f := f) (tk := tk) (x := x) (y := y) (a := a) hp ho b
    have hc : a ^^^ b < 2 ^ d := Nat.xor_lt_two_pow ha (by omega)
    simp only [inP, sumN]
    cases ht : tk a b
    · rw [stepP_not ht, ih]; simp
    · rw [stepP_yes ht, nth_set (by rw [hg.1]; exact hc)]
      by_cases hab : a ^^^ b = k
      · rw [if_pos hab, hab, ih]
        simp only [BEq.rfl, Bool.and_self, if_true]
        rw [Int.emod_add_emod, Int.add_assoc]
      · rw [if_neg hab, ih]
        simp [hab]
theorem outP_nth {p : Int} {f : Nat → Nat → Int} {tk : Nat → Nat → Bool} {x y : List Int} {d : Nat} (hp : 1 ≤ p) {k : Nat} (hk : k < 2 ^ d) :
    ∀ a, a ≤ 2 ^ d → nth (outP p f tk x y (2 ^ d) a) k = (sumN a fun i => sumN (2 ^ d) fun j => if (tk i j && (i ^^^ j == k)) = true then nth x i * nth y j * f i j else 0) % p
  | 0, _ => by simp [outP, sumN, nth_replicate hk]
  | a + 1, ha => by
    have ih := outP_nth (f := f) (tk := tk) (x := x) (y := y) hp hk a (by omega)
    simp only [outP, sumN]
    rw [inP_nth hp (by omega) (outP_good hp a) hk _ (Nat.le_refl _), ih, Int.emod_add_emod]
theorem prod_nth {p : Int} {qs : List Int} {tk : Nat → Nat → Bool} {x y : List Int} (hp : 1 ≤ p) {k : Nat} (hk : k < 2 ^ qs.length) :
    nth (prodL p qs tk x y) k = (sumN (2 ^ qs.length) fun i => sumN (2 ^ qs.length) fun j => if (tk i j && (i ^^^ j == k)) = true then nth x i * nth y j * fac p qs i j else 0) % p :=
  outP_nth hp hk _ (Nat.le_refl _)
theorem xor_eq_iff {a b k : Nat} : a ^^^ b = k ↔ b = a ^^^ k := by
  constructor
  · rintro rfl; rw [← Nat.xor_assoc, Nat.xor_self, Nat.zero_xor]
  · rintro rfl; rw [← Nat.xor_assoc, Nat.xor_self, Nat.zero_xor]
/-- One sum: the pairs of a blade i and the blade that leads to k. -/
theorem prod_nth1 {p : Int} {qs : List Int} {tk : Nat → Nat → Bool} {x y : List Int} (hp : 1 ≤ p) {k : Nat} (hk : k < 2 ^ qs.length) :
    nth (prodL p qs tk x y) k = (sumN (2 ^ qs.length) fun i => if tk i (i ^^^ k) = true then nth x i * nth y (i ^^^ k) * fac p qs i (i ^^^ k) else 0) % p := by
  rw [prod_nth hp hk]
  congr 1
  refine sumN_congr fun i hi => ?_
  rw [sumN_single (k := i ^^^ k) (Nat.xor_lt_two_pow hi hk) (fun j _ hne => by
    have : ¬ i ^^^ j = k := fun h => hne (xor_eq_iff.1 h)
    simp [this])]
  have : i ^^^ (i ^^^ k) = k := by rw [← Nat.xor_assoc, Nat.xor_self, Nat.zero_xor]
  simp [this]

/-! ### The factor over the integers -/
def sgZ (a k : Nat) : Int := if popc (a >>> (k + 1)) % 2 = 1 then -1 else 1
def stZ (qs : List Int) (a b k : Nat) : Int := if b.testBit k then (if a.testBit k then sgZ a k * nth qs k else sgZ a k) else 1
def facZ (qs : List Int) (a b : Nat) : Nat → Int
  | 0 => 1
  | k + 1 => facZ qs a b k * stZ qs a b k
theorem sgn_emod {p o o' : Int} {s : Nat} (h : o % p = o' % p) : sgn p s o % p = ((if s % 2 = 1 then -1 else 1) * o') % p := by
  unfold sgn
  split
  · rw [Int.emod_emod, show -o = -1 * o by omega]
    exact mul_emod_congr rfl h
  · rw [Int.one_mul]; exact h
theorem fac_emod_k {p : Int} {qs : List Int} {a b : Nat} (k : Nat) : sgn p (facS p qs a b k).1 (facS p qs a b k).2 % p = facZ qs a b k % p := by
  induction k with
  | zero => simp [facS, facZ, sgn]
  | succ k ih =>
    have h1 := sgn_emod (p := p) (s := (facS p qs a b k).1) (o := (facS p qs a b k).2) rfl
    rw [h1] at ih
    cases hb : b.testBit k
    · rw [facS_no hb]
      simp only [facZ, stZ, hb]
      rw [h1, ih]; simp
    · have hsg : ∀ s t : Nat, (if (s + t) % 2 = 1 then (-1 : Int) else 1) = (if s % 2 = 1 then -1 else 1) * (if t % 2 = 1 then -1 else 1) := by
        intro s t
        have : s % 2 = 0 ∨ s % 2 = 1 := by omega
        have : t % 2 = 0 ∨ t % 2 = 1 := by omega
        rcases ‹s % 2 = 0 ∨ s % 2 = 1› with h | h <;> rcases ‹t % 2 = 0 ∨ t % 2 = 1› with h' | h'
        · have : (s + t) % 2 = 0 := by omega
          simp [h, h', this]
        · have : (s + t) % 2 = 1 := by omega
          simp [h, h', this]
        · have : (s + t) % 2 = 1 := by omega
          simp [h, h', this]
        · have : (s + t) % 2 = 0 := by omega
          simp [h, h', this]
      cases ha : a.testBit k
      · rw [facS_one hb ha]
        simp only [facZ, stZ, hb, ha, if_true, sgZ]
        rw [sgn_emod rfl, hsg, Int.mul_right_comm]
        exact mul_emod_congr ih rfl
      · rw [facS_two hb ha]
        simp only [facZ, stZ, hb, ha, if_true, sgZ]
        rw [sgn_emod (o' := (facS p qs a b k).2 * nth qs k) (by rw [Int.emod_emod]), hsg, show ∀ u v x y : Int, (u * v) * (x * y) = (u * x) * (v * y) from fun u v x y => by ac_rfl]
        exact mul_emod_congr ih rfl
theorem fac_emod {p : Int} {qs : List Int} {a b : Nat} : fac p qs a b % p = facZ qs a b qs.length % p := fac_emod_k _

theorem sgZ_xor (a b k : Nat) (ha : a < 64) (hb : b < 64) (hk : k < 6) : sgZ (a ^^^ b) k = sgZ a k * sgZ b k := by
  have : ∀ k : Nat, k < 6 → ∀ a : Nat, a < 64 → ∀ b : Nat, b < 64 → sgZ (a ^^^ b) k = sgZ a k * sgZ b k := by decide +kernel
  exact this k hk a ha b hb
theorem sgZ_sq (a k : Nat) : sgZ a k * sgZ a k = 1 := by unfold sgZ; split <;> rfl
theorem stZ_cocycle {qs : List Int} {a b c k : Nat} (ha : a < 64) (hb : b < 64) (hk : k < 6) : stZ qs a b k * stZ qs (a ^^^ b) c k = stZ qs b c k * stZ qs a (b ^^^ c) k := by
  have hs := sgZ_xor a b k ha hb hk
  have h2 := sgZ_sq a k
  unfold stZ
  rw [hs]
  simp only [Nat.testBit_xor]
  cases a.testBit k <;> cases b.testBit k <;> cases c.testBit k <;> simp
  · exact Int.mul_comm _ _
  · rw [show sgZ a k * (sgZ a k * sgZ b k * nth qs k) = (sgZ a k * sgZ a k) * (sgZ b k * nth qs k) by ac_rfl, h2, Int.one_mul]
  · ac_rfl
  · rw [show sgZ a k * nth qs k * (sgZ a k * sgZ b k) = (sgZ a k * sgZ a k) * (sgZ b k * nth qs k) by ac_rfl, h2, Int.one_mul]
theorem facZ_cocycle {qs : List Int} {a b c : Nat} (ha : a < 64) (hb : b < 64) : ∀ k, k ≤ 6 → facZ qs a b k * facZ qs (a ^^^ b) c k = facZ qs b c k * facZ qs a (b ^^^ c) k
  | 0, _ => rfl
  | k + 1, hk => by
    have ih := facZ_cocycle (qs := qs) (c := c) ha hb k (by omega)
    have hs := stZ_cocycle (qs := qs) (c := c) ha hb (show k < 6 by omega)
    simp only [facZ]
    rw [show facZ qs a b k * stZ qs a b k * (facZ qs (a ^^^ b) c k * stZ qs (a ^^^ b) c k) = (facZ qs a b k * facZ qs (a ^^^ b) c k) * (stZ qs a b k * stZ qs (a ^^^ b) c k) by ac_rfl, ih, hs]
    ac_rfl

/-! ### The geometric product -/
/-- The coefficient with the factor over the integers. -/
theorem prodA_nth {p : Int} {qs x y : List Int} (hp : 1 ≤ p) {k : Nat} (hk : k < 2 ^ qs.length) :
    nth (prodL p qs tkA x y) k = (sumN (2 ^ qs.length) fun i => nth x i * nth y (i ^^^ k) * facZ qs i (i ^^^ k) qs.length) % p := by
  rw [prod_nth1 hp hk]
  refine sumN_emod fun i hi => ?_
  simp only [tkA, if_true]
  exact mul_emod_congr rfl fac_emod
theorem xor_cancel (a m k : Nat) : a ^^^ m ^^^ (a ^^^ k) = m ^^^ k := by
  rw [Nat.xor_comm a m, Nat.xor_assoc, ← Nat.xor_assoc a a k, Nat.xor_self, Nat.zero_xor]
theorem prod_assoc {p : Int} {qs x y z : List Int} (hp : 1 ≤ p) (hd : qs.length ≤ 6) : prodL p qs tkA (prodL p qs tkA x y) z = prodL p qs tkA x (prodL p qs tkA y z) := by
  have hN := pow_le64 hd
  refine ext_nth (by rw [(prod_good hp).1, (prod_good hp).1]) fun k hk => ?_
  rw [(prod_good hp).1] at hk
  rw [prodA_nth hp hk, prodA_nth hp hk]
  have e1 : ∀ m, m < 2 ^ qs.length → (nth (prodL p qs tkA x y) m * nth z (m ^^^ k) * facZ qs m (m ^^^ k) qs.length) % p =
      (sumN (2 ^ qs.length) fun a => nth x a * nth y (a ^^^ m) * facZ qs a (a ^^^ m) qs.length * (nth z (m ^^^ k) * facZ qs m (m ^^^ k) qs.length)) % p := fun m hm => by
    rw [prodA_nth hp hm, sumN_mulr, Int.mul_assoc]
    exact mul_emod_congr (Int.emod_emod _ _) rfl
  have e2 : ∀ a, a < 2 ^ qs.length → (nth x a * nth (prodL p qs tkA y z) (a ^^^ k) * facZ qs a (a ^^^ k) qs.length) % p =
      (sumN (2 ^ qs.length) fun m => nth x a * nth y (a ^^^ m) * facZ qs a (a ^^^ m) qs.length * (nth z (m ^^^ k) * facZ qs m (m ^^^ k) qs.length)) % p := fun a ha => by
    rw [prodA_nth hp (Nat.xor_lt_two_pow ha hk), ← sumN_xor hd ha]
    have : (nth x a * ((sumN (2 ^ qs.length) fun m => nth y (a ^^^ m) * nth z (a ^^^ m ^^^ (a ^^^ k)) * facZ qs (a ^^^ m) (a ^^^ m ^^^ (a ^^^ k)) qs.length) % p) * facZ qs a (a ^^^ k) qs.length) % p =
        (nth x a * (sumN (2 ^ qs.length) fun m => nth y (a ^^^ m) * nth z (a ^^^ m ^^^ (a ^^^ k)) * facZ qs (a ^^^ m) (a ^^^ m ^^^ (a ^^^ k)) qs.length) * facZ qs a (a ^^^ k) qs.length) % p :=
      mul_emod_congr (mul_emod_congr rfl (Int.emod_emod _ _)) rfl
    rw [this, ← sumN_mul, ← sumN_mulr]
    congr 1
    refine sumN_congr fun m hm => ?_
    rw [xor_cancel]
    have hc := facZ_cocycle (qs := qs) (a := a) (b := a ^^^ m) (c := m ^^^ k) (by omega) (Nat.lt_of_lt_of_le (Nat.xor_lt_two_pow ha hm) hN) qs.length hd
    rw [show a ^^^ (a ^^^ m) = m by rw [← Nat.xor_assoc, Nat.xor_self, Nat.zero_xor], show a ^^^ m ^^^ (m ^^^ k) = a ^^^ k by rw [Nat.xor_assoc, ← Nat.xor_assoc m m k, Nat.xor_self, Nat.zero_xor]] at hc
    rw [show nth x a * nth y (a ^^^ m) * facZ qs a (a ^^^ m) qs.length * (nth z (m ^^^ k) * facZ qs m (m ^^^ k) qs.length) = nth x a * nth y (a ^^^ m) * nth z (m ^^^ k) * (facZ qs a (a ^^^ m) qs.length * facZ qs m (m ^^^ k) qs.length) by ac_rfl, hc]
    ac_rfl
  rw [sumN_emod e1, sumN_emod e2, sumN_swap]

theorem fac_right {p : Int} {qs : List Int} {a : Nat} : fac p qs a 0 = 1 := by
  have : ∀ k, facS p qs a 0 k = (0, 1) := fun k => by
    induction k with
    | zero => rfl
    | succ k ih => rw [facS_no (by simp), ih]
  simp [fac, this, sgn]
theorem times_one {p : Int} {qs x : List Int} (hp : 1 ≤ p) (hx : Good p (2 ^ qs.length) x) : prodL p qs tkA x (bladeL (2 ^ qs.length) 0) = x := by
  have hN : 0 < 2 ^ qs.length := Nat.pos_of_ne_zero (by simp)
  refine ext_nth (by rw [(prod_good hp).1, hx.1]) fun k hk => ?_
  rw [(prod_good hp).1] at hk
  rw [prod_nth1 hp hk, sumN_single hk (fun i hi hne => by
    have : ¬ 0 = i ^^^ k := fun h => hne (by have := xor_eq_iff.1 h.symm; simpa using this.symm)
    simp [tkA, bladeL_nth hN (Nat.xor_lt_two_pow hi hk), this])]
  rw [Nat.xor_self, fac_right, bladeL_nth hN hN]
  simp only [tkA, if_true, Int.mul_one]
  have := hx.2 k hk
  exact Int.emod_eq_of_lt this.1 this.2

/-! ### Powers -/
def powL (p : Int) (qs x : List Int) : Nat → List Int
  | 0 => bladeL (2 ^ qs.length) 0
  | k + 1 => prodL p qs tkA (powL p qs x k) x
theorem pow_good {p : Int} {qs x : List Int} (hp : 3 ≤ p) : ∀ k, Good p (2 ^ qs.length) (powL p qs x k)
  | 0 => blade_good hp
  | k + 1 => prod_good (by omega)
theorem pow_one {p : Int} {qs x : List Int} (hp : 3 ≤ p) (hx : Good p (2 ^ qs.length) x) : powL p qs x 1 = x := one_times hp hx
theorem pow_add {p : Int} {qs x : List Int} (hp : 3 ≤ p) (hd : qs.length ≤ 6) (m : Nat) : ∀ n, prodL p qs tkA (powL p qs x m) (powL p qs x n) = powL p qs x (m + n)
  | 0 => times_one (by omega) (pow_good hp m)
  | n + 1 => by
    show prodL p qs tkA (powL p qs x m) (prodL p qs tkA (powL p qs x n) x) = prodL p qs tkA (powL p qs x (m + n)) x
    rw [← prod_assoc (by omega) hd, pow_add hp hd m n]
end Go.Proofs.Ythflmmgolegonaa

/-
  Contracts of the listed products: the code, and where it is 0 the product.
  No condition.
-/
namespace Go.Proofs.Ythflmmgolegonaa
set_option maxRecDepth 100000
open Go.RowKit

theorem good_two {p : Int} {N : Nat} {xs ys : List Int} (h : Good p N xs) (h' : Good p N ys) : ∀ i, i < 2 → Good p N (nthR [xs, ys] i) := fun i hi => by
  have : i = 0 ∨ i = 1 := by omega
  rcases this with rfl | rfl
  · exact h
  · exact h'











end Go.Proofs.Ythflmmgolegonaa

/-
  Contracts of products and blades, with the number of coefficients as a letter.
  No condition.
-/
namespace Go.Proofs.Ythflmmgolegonaa
set_option maxRecDepth 100000
open Go.RowKit

end Go.Proofs.Ythflmmgolegonaa

/-
  Regular spaces: the library's search for a number, the discriminant, the codes of regular spaces.
  No condition.
-/
namespace Go.Proofs.Ythflmmgolegonaa
set_option maxRecDepth 100000
open Go.RowKit

set_option maxHeartbeats 400000 in
set_option maxRecDepth 20000 in
theorem c_index (a : Option Addr) (n cap : Nat) (xs : List Int) (v : Int) (w : World) (hl : n ≤ 4194304) (hx : RdC w a n xs) :
    Calls Try.prog 88 #[.slice a n cap, .int .i64 v] w fun e w' => e = .returned (.int .i64 (firstIx (fun i => v == nth xs i) n)) ∧ Ext w w' := by
  have HX := Lib.hid hx
  clear hx
  go_enter Try.func88, Try.ntmps88
  go_wp2_with (fail)
  go_loopw [5, 8] (fun _ i wr => ∃ k : Nat, k ≤ n ∧ i = .int .i64 k ∧ Hid (∀ j, j < k → (v == nth xs j) = false) ∧ Ext w wr) (fun _ i _ => n - (intOf i).toNat)
  case atStart => exact ⟨0, Nat.zero_le _, rfl, Lib.hid (fun j hj => by omega), Ext.refl _⟩
  case round =>
    obtain ⟨k, hk, rfl, HT, hext⟩ := hrel
    by_cases hlt : k < n
    · obtain ⟨b, off, rfl, hc⟩ := HX.out.2 k hlt
      have hc' := hext.cell hc
      clear hc
      cases hb : (v == nth xs k)
      · have HB := Lib.hid hb
        go_wp2_with (fail)
        go_roundw
        case rel => exact ⟨k + 1, by omega, by go_num, Lib.hid (fun j hj => by
          by_cases hjk : j = k
          · subst hjk; exact HB.out
          · exact HT.out j (by omega)), hext⟩
        case measure => simp [intOf]; omega
      · have HB := Lib.hid hb
        go_wp2_with (fail)
        go_ret
        exact ⟨ret_int (firstIx_hit (f := fun i => v == nth xs i) hlt HB.out HT.out).symm, hext⟩
    · go_wp2_with (fail)
      go_ret
      exact ⟨ret_int (firstIx_none (f := fun i => v == nth xs i) (fun j hj => HT.out j (by omega))).symm, hext⟩

def hasB (xs : List Int) (v : Int) : Bool := (List.range xs.length).any fun i => v == nth xs i
set_option maxHeartbeats 400000 in
theorem c_contains (a : Option Addr) (n cap : Nat) (xs : List Int) (v : Int) (w : World) (hl : n ≤ 4194304) (hx : RdC w a n xs) :
    Calls Try.prog 75 #[.slice a n cap, .int .i64 v] w fun e w' => e = .returned (.bool (hasB xs v)) ∧ Ext w w' := by
  have HA := Lib.hid (show decide (0 ≤ firstIx (fun i => v == nth xs i) n) = hasB xs v by rw [firstIx_any]; unfold hasB; rw [hx.1])
  have hbd := firstIx_bd (fun i => v == nth xs i) n
  go_enter Try.func75, Try.ntmps75
  go_wp2_with (go_at_call 88; refine (c_index _ _ _ _ _ _ hl hx).mono ?_; rintro e w1 ⟨rfl, h1⟩)
  go_ret
  exact ⟨ret_bool HA.out, h1⟩

def regB (qs : List Int) : Bool := !hasB qs 0
/-! ### The discriminant -/
def discS (p : Int) (qs : List Int) : Nat → Int
  | 0 => 1
  | k + 1 => discS p qs k * nth qs k % p
theorem discS_bd {p : Int} {qs : List Int} (hp : 3 ≤ p) : ∀ k, 0 ≤ discS p qs k ∧ discS p qs k < p
  | 0 => by simp [discS]; omega
  | k + 1 => ⟨Int.emod_nonneg _ (by omega), Int.emod_lt_of_pos _ (by omega)⟩
theorem mul_zero_of {p : Int} (hp : primeB p = true) {x y : Int} (hx0 : 0 ≤ x) (hx : x < p) (hy0 : 0 ≤ y) (hy : y < p) : x * y % p = 0 ↔ x = 0 ∨ y = 0 := by
  have key : ∀ q : Nat, (q = 3 ∨ q = 5 ∨ q = 7 ∨ q = 11 ∨ q = 13) → ∀ x : Nat, x < q → ∀ y : Nat, y < q → ((x * y) % q = 0 ↔ x = 0 ∨ y = 0) := by
    rintro q (rfl | rfl | rfl | rfl | rfl) <;> decide +kernel
  have hb := prime_bd hp
  obtain ⟨q, rfl⟩ := Int.eq_ofNat_of_zero_le (show 0 ≤ p by omega)
  obtain ⟨x, rfl⟩ := Int.eq_ofNat_of_zero_le hx0
  obtain ⟨y, rfl⟩ := Int.eq_ofNat_of_zero_le hy0
  have := key q (by simp [primeB] at hp; omega) x (by omega) y (by omega)
  rw [show ((x : Int) * (y : Int)) % (q : Int) = ((x * y % q : Nat) : Int) by simp]
  simp only [Int.natCast_eq_zero]
  exact this
theorem discS_zero {p : Int} {qs : List Int} (hp : primeB p = true) (hq : isB p qs = true) : ∀ k, k ≤ qs.length → ((discS p qs k == 0) = (List.range k).any fun i => (0 : Int) == nth qs i)
  | 0, _ => by simp [discS]
  | k + 1, h => by
    have hb := prime_bd hp
    have ih := discS_zero hp hq k (by omega)
    have hk := isB_nth hq (i := k) (by omega)
    have hd := discS_bd (qs := qs) (show 3 ≤ p by omega) k
    rw [List.range_succ, List.any_append, ← ih]
    rw [Bool.eq_iff_iff]
    simp only [discS, beq_iff_eq, Bool.or_eq_true, List.any_cons, List.any_nil, Bool.or_false]
    rw [mul_zero_of hp hd.1 hd.2 hk.1 hk.2]
    constructor
    · rintro (h | h)
      · exact .inl h
      · exact .inr h.symm
    · rintro (h | h)
      · exact .inl h
      · exact .inr h.symm
def discL (p : Int) (qs : List Int) : Int := discS p qs qs.length
theorem disc_reg {p : Int} {qs : List Int} (hp : primeB p = true) (hq : isB p qs = true) : (discL p qs == 0) = !regB qs := by
  rw [discL, discS_zero hp hq _ (Nat.le_refl _), regB, Bool.not_not]; rfl


def codeR (p : Int) (qs : List Int) (rows : List (List Int)) : Int := if codeM p qs rows = 0 then (if regB qs = true then 0 else 5) else codeM p qs rows
theorem codeR_zero {p : Int} {qs : List Int} {rows : List (List Int)} (h : codeR p qs rows = 0) : codeM p qs rows = 0 ∧ regB qs = true := by
  unfold codeR at h
  split at h
  · rename_i hm
    split at h
    · rename_i hr; exact ⟨hm, hr⟩
    · omega
  · rename_i hm; exact absurd h hm


end Go.Proofs.Ythflmmgolegonaa

/-
  Powers and inverses of numbers, multiples of lists: walks; the square of the pseudoscalar of a regular space is not 0.
  No condition.
-/
namespace Go.Proofs.Ythflmmgolegonaa
set_option maxRecDepth 100000
open Go.RowKit

def powS (p a : Int) : Nat → Int
  | 0 => 1
  | k + 1 => powS p a k * a % p
theorem powS_bd {p a : Int} (hp : 3 ≤ p) : ∀ k, 0 ≤ powS p a k ∧ powS p a k < p
  | 0 => by simp [powS]; omega
  | k + 1 => ⟨Int.emod_nonneg _ (by omega), Int.emod_lt_of_pos _ (by omega)⟩
def invN (p a : Int) : Int := powS p a (p - 2).toNat
theorem invN_bd {p a : Int} (hp : 3 ≤ p) : 0 ≤ invN p a ∧ invN p a < p := powS_bd hp _

def powT (q a : Nat) : Nat → Nat
  | 0 => 1
  | k + 1 => powT q a k * a % q
theorem powT_eq (q a k : Nat) : powS (q : Int) (a : Int) k = (powT q a k : Int) := by
  induction k with
  | zero => rfl
  | succ k ih => simp only [powS, powT]; rw [ih]; simp
theorem inv_spec {p a : Int} (hp : primeB p = true) (h0 : 0 < a) (h1 : a < p) :
    1 ≤ invN p a ∧ a * invN p a % p = 1 ∧ ∀ j : Nat, 1 ≤ j → (j : Int) < invN p a → ¬ a * j % p = 1 := by
  have key : ∀ q : Nat, (q = 3 ∨ q = 5 ∨ q = 7 ∨ q = 11 ∨ q = 13) → ∀ a : Nat, a < q → 0 < a → 1 ≤ powT q a (q - 2) ∧ a * powT q a (q - 2) % q = 1 ∧ ∀ j : Nat, j < powT q a (q - 2) → 1 ≤ j → ¬ a * j % q = 1 := by
    rintro q (rfl | rfl | rfl | rfl | rfl) <;> decide +kernel
  have hb := prime_bd hp
  obtain ⟨q, rfl⟩ := Int.eq_ofNat_of_zero_le (show 0 ≤ p by omega)
  obtain ⟨a, rfl⟩ := Int.eq_ofNat_of_zero_le (show 0 ≤ a by omega)
  obtain ⟨k1, k2, k3⟩ := key q (by simp [primeB] at hp; omega) a (by omega) (by omega)
  have e : invN (q : Int) (a : Int) = (powT q a (q - 2) : Int) := by
    unfold invN
    rw [show ((q : Int) - 2).toNat = q - 2 by omega, powT_eq]
  rw [e]
  refine ⟨by omega, ?_, fun j hj1 hj2 hj => ?_⟩
  · rw [show ((a : Int) * (powT q a (q - 2) : Int)) % (q : Int) = ((a * powT q a (q - 2) % q : Nat) : Int) by simp, k2]; rfl
  · refine k3 j (by omega) hj1 ?_
    rw [show ((a : Int) * (j : Int)) % (q : Int) = ((a * j % q : Nat) : Int) by simp] at hj
    omega



/-! ### Multiples of lists -/
def scaleN (p : Int) (x : List Int) (k : Int) (i : Nat) : Int := (nth x i * k) % p
def scaleL (p : Int) (x : List Int) (k : Int) (n : Nat) : List Int := (List.range n).map (scaleN p x k)
theorem scaleL_len (p : Int) (x : List Int) (k : Int) (n : Nat) : (scaleL p x k n).length = n := by simp [scaleL]
theorem scaleL_succ (p : Int) (x : List Int) (k : Int) (n : Nat) : scaleL p x k (n + 1) = scaleL p x k n ++ [scaleN p x k n] := by simp [scaleL, List.range_succ]
theorem scaleL_nth {p : Int} {x : List Int} {k : Int} {n i : Nat} (h : i < n) : nth (scaleL p x k n) i = scaleN p x k i := by
  unfold scaleL; rw [nth_map (by simpa using h)]; simp
theorem scale_good {p : Int} {x : List Int} {k : Int} {n : Nat} (hp : 1 ≤ p) : Good p n (scaleL p x k n) := ⟨scaleL_len _ _ _ _, fun i hi => by
  rw [scaleL_nth hi]; exact ⟨Int.emod_nonneg _ (by omega), Int.emod_lt_of_pos _ (by omega)⟩⟩

set_option maxHeartbeats 1000000 in
theorem c_scaled (p : Int) (ax : Option Addr) (n cx : Nat) (x : List Int) (k : Int) (w : World) (hp1 : 3 ≤ p) (hp2 : p ≤ 1000) (hk : -1000 ≤ k ∧ k ≤ 1000) (hn : n ≤ 4194303) (hx : RdC w ax n x) (hgx : Good p n x) :
    Calls Try.prog 42 #[.int .i64 p, .slice ax n cx, .int .i64 k] w fun e w' => ∃ g rc, e = .returned (.slice (some ⟨g, 0, none⟩) n rc) ∧ OwnC w.heap.size w' (some ⟨g, 0, none⟩) n rc (scaleL p x k n) ∧ Ext w w' := by
  have HX := Lib.hid hx
  have HGX := Lib.hid hgx
  clear hx hgx
  go_enter Try.func42, Try.ntmps42
  go_wp2_with (fail)
  go_loopw [7, 13] (fun v i wr => ∃ (j g rc : Nat), j ≤ n ∧ i = .int .i64 j ∧ v = .slice (some ⟨g, 0, none⟩) j rc ∧ OwnC w.heap.size wr (some ⟨g, 0, none⟩) j rc (scaleL p x k j) ∧ Ext w wr) (fun _ i _ => n - (intOf i).toNat)
  case atStart => exact ⟨0, _, _, Nat.zero_le _, rfl, rfl, own_empty w, ext_alloc _ _⟩
  case round =>
    obtain ⟨j, g, rc, hj, rfl, rfl, hown, hext⟩ := hrel
    have HOwn := Lib.hid hown
    have HExt := Lib.hid hext
    clear hown hext
    by_cases hlt : j < n
    · obtain ⟨bx, ox, rfl, hcx⟩ := HX.out.2 j hlt
      have hcx' := HExt.out.cell hcx
      have hbx := HGX.out.2 j hlt
      have hkb := kmul_bd hk hbx.1 (show nth x j ≤ 1000 by omega)
      rw [Int.mul_comm] at hkb
      have hw1 : IntKind.i64.wrap (nth x j * k) = nth x j * k := IntWalk.i64_in _ (by omega)
      have HP := Lib.hid (show (nth x j * k) % p = scaleN p x k j from rfl)
      clear hcx
      go_wp2_with (first | (go_at_call 59; refine (c_num _ _ _ (by omega) hp2).mono ?_; rintro e w2 ⟨rfl, g2⟩; rw [HP.out]; have G2 := Lib.hid g2; clear g2) | (at_builtin; refine wpList_push rfl (.tmp 17) (.tmp 23) rfl rfl rfl (v := scaleN p x k j) (HOwn.out.ext (G2.out.trans (ext_alloc _ _))) ?hc ?hn ?hB ?hk))
      case hc => simp
      case hn => omega
      case hB => have hz := (HExt.out.trans G2.out).size'; simp; omega
      case hk =>
        intro g' cap' w3 ho3 hg3 he3
        have HO3 := Lib.hid ho3
        have HE3 := Lib.hid (he3 w (Nat.le_refl _) ((HExt.out.trans G2.out).alloc _))
        clear ho3 hg3 he3
        go_wp2_with (fail)
        go_roundw
        case rel => exact ⟨j + 1, g', cap', by omega, by go_num, rfl, by rw [scaleL_succ]; exact HO3.out, HE3.out⟩
        case measure => simp [intOf]; omega
    · go_wp2_with (fail)
      go_ret
      obtain rfl : j = n := by omega
      exact ⟨g, rc, rfl, HOwn.out, HExt.out⟩

theorem scale_full {p k : Int} {d : Nat} (h0 : 0 ≤ k) (h1 : k < p) : scaleL p (fullL d) k (2 ^ d) = topL d k := by
  have hN := pow_pos' d
  refine ext_nth (by rw [scaleL_len]; simp [topL]) fun i hi => ?_
  rw [scaleL_len] at hi
  rw [scaleL_nth hi]
  unfold scaleN fullL topL
  rw [bladeL_nth (by omega) hi, nth_set (by simp; omega), nth_replicate hi]
  split
  · rw [Int.one_mul, Int.emod_eq_of_lt h0 h1]
  · simp

/-! ### The square of the pseudoscalar -/
theorem facS_full {p : Int} {qs : List Int} {d : Nat} : ∀ k, k ≤ d → (facS p qs (2 ^ d - 1) (2 ^ d - 1) k).2 = discS p qs k
  | 0, _ => rfl
  | k + 1, hk => by
    have ht : (2 ^ d - 1).testBit k = true := by rw [Nat.testBit_two_pow_sub_one]; simp; omega
    rw [facS_two ht ht]
    simp only [discS]
    rw [facS_full k (by omega)]
theorem sqFull_eq {p : Int} {qs : List Int} (hp : 3 ≤ p) (hd : qs.length ≤ 6) : sqFull p qs = fac p qs (2 ^ qs.length - 1) (2 ^ qs.length - 1) := by
  have hN := pow_pos' qs.length
  have h64 := pow_le64 hd
  unfold sqFull
  rw [prod_nth1 (by omega) (by omega), sumN_single (k := 2 ^ qs.length - 1) (by omega) (fun i hi hne => by
    have hz : nth (fullL qs.length) i = 0 := by
      unfold fullL
      rw [bladeL_nth (by omega) hi, if_neg (fun h => hne h.symm)]
    rw [hz]; simp)]
  rw [Nat.xor_zero]
  unfold fullL
  rw [bladeL_nth (by omega) (by omega), if_pos rfl]
  simp only [tkA, if_true, Int.one_mul]
  have hb := fac_bd (p := p) (qs := qs) (a := 2 ^ qs.length - 1) (b := 2 ^ qs.length - 1) hp (by omega)
  exact Int.emod_eq_of_lt hb.1 hb.2
theorem sqFull_ne {p : Int} {qs : List Int} (hp : primeB p = true) (hq : isB p qs = true) (hd : qs.length ≤ 6) (hr : regB qs = true) : sqFull p qs ≠ 0 := by
  have hpb := prime_bd hp
  have hN := pow_pos' qs.length
  rw [sqFull_eq (by omega) hd]
  have hdz := disc_reg hp hq
  rw [hr] at hdz
  have hdne : discS p qs qs.length ≠ 0 := by simpa [discL] using hdz
  have hdb := discS_bd (p := p) (qs := qs) (by omega) qs.length
  unfold fac sgn
  rw [facS_full qs.length (Nat.le_refl _)]
  split
  · intro h
    obtain ⟨c, hc⟩ := Int.dvd_of_emod_eq_zero h
    have hc0 : c = 0 := by
      rcases Int.lt_trichotomy c 0 with h | h | h
      · have : p * c ≤ p * -1 := Int.mul_le_mul_of_nonneg_left (by omega) (by omega)
        omega
      · exact h
      · have : p * 1 ≤ p * c := Int.mul_le_mul_of_nonneg_left (by omega) (by omega)
        omega
    rw [hc0] at hc; omega
  · exact hdne
def dualL (p : Int) (qs x : List Int) : List Int := prodL p qs tkL x (topL qs.length (invN p (sqFull p qs)))
end Go.Proofs.Ythflmmgolegonaa

/-
  Vectors as multivectors; the codes of spaces and vectors.
  No condition.
-/
namespace Go.Proofs.Ythflmmgolegonaa
set_option maxRecDepth 100000
open Go.RowKit

def vecS (N : Nat) (v : List Int) : Nat → List Int
  | 0 => List.replicate N 0
  | k + 1 => (vecS N v k).set (2 ^ k) (nth v k)
def vecL (N : Nat) (v : List Int) : List Int := vecS N v v.length
theorem vecS_good {p : Int} {N n : Nat} {v : List Int} (hp : 1 ≤ p) (hv : Good p n v) : ∀ k, k ≤ n → Good p N (vecS N v k)
  | 0, _ => good_zero hp
  | k + 1, hk => good_set (vecS_good hp hv k (by omega)) (hv.2 k (by omega)).1 (hv.2 k (by omega)).2
theorem vec_good {p : Int} {N n : Nat} {v : List Int} (hp : 1 ≤ p) (hv : Good p n v) : Good p N (vecL N v) := vecS_good hp hv _ (by rw [hv.1]; exact Nat.le_refl _)


/-! ### Codes of spaces and vectors -/
def vecB (p : Int) (d : Nat) (v : List Int) : Bool := decide (v.length = d) && isB p v
def codeV (p : Int) (qs : List Int) (rows : List (List Int)) : Int := if spaceB p qs then (if rows.all (vecB p qs.length) then 0 else 2) else 1
theorem vec_of {p : Int} {d : Nat} {v : List Int} (h : vecB p d v = true) : v.length = d ∧ isB p v = true := by
  simpa [vecB] using h
end Go.Proofs.Ythflmmgolegonaa

/-
  Copies of slices, in the program and in the reference.
  No condition.
-/
namespace Go.Proofs.Ythflmmgolegonaa
set_option maxRecDepth 100000
open Go.RowKit


end Go.Proofs.Ythflmmgolegonaa
