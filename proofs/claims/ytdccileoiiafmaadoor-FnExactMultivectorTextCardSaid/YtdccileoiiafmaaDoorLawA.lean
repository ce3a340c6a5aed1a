/-
  Contracts: the helpers of the exact laws: sizes, copies, comparisons, marks.
  No condition.
-/
import Derived.Test.YtdccileoiiafmaaDoorCheck
namespace Go.Proofs.YtdccileoiiafmaaDoor
set_option maxRecDepth 100000
open Go.RowKit

def szN (left : Int) (n : Nat) : Int := if left - n < 0 then -1 else left - n
theorem szN_neg {left : Int} {n : Nat} (h : left - n < 0) : szN left n = -1 := by simp [szN, h]
theorem szN_pos {left : Int} {n : Nat} (h : 0 ≤ left - n) : szN left n = left - n := by
  unfold szN; rw [if_neg (by omega)]

set_option maxHeartbeats 400000 in
theorem l_sz (a : Option Addr) (n cap : Nat) (left : Int) (w : World) (h0 : 0 ≤ left) (h1 : left ≤ 1048576) (hm : n ≤ maxLen) :
    Calls Tryd.prog 17 #[.slice a n cap, .int .i64 left] w fun e w' => e = .returned (.int .i64 (szN left n)) ∧ Ext w w' := by
  unfold maxLen at hm
  by_cases hlt : left - n < 0
  · have HS := Lib.hid (szN_neg hlt)
    go_enter Tryd.func17, Tryd.ntmps17
    go_wp2
    go_ret
    exact ⟨ret_int HS.out.symm, Ext.refl _⟩
  · have HS := Lib.hid (szN_pos (show 0 ≤ left - n by omega))
    go_enter Tryd.func17, Tryd.ntmps17
    go_wp2
    go_ret
    exact ⟨ret_int HS.out.symm, Ext.refl _⟩

set_option maxHeartbeats 400000 in
theorem l_szSpace (p : Int) (a : Option Addr) (n cap : Nat) (left : Int) (w : World) (h0 : 0 ≤ left) (h1 : left ≤ 1048576) (hm : n ≤ maxLen) :
    Calls Tryd.prog 6 #[.agg #[.int .i64 p, .slice a n cap], .int .i64 left] w fun e w' => e = .returned (.int .i64 (szN left n)) ∧ Ext w w' := by
  by_cases hlt : left - n < 0
  · have HS := Lib.hid (szN_neg hlt)
    go_enter Tryd.func6, Tryd.ntmps6
    go_wp2_with (go_at_call 17; refine (l_sz _ _ _ _ _ h0 h1 hm).mono ?_; rintro e w1 ⟨rfl, g1⟩; rw [HS.out])
    go_ret
    exact ⟨ret_int HS.out.symm, (ext_alloc _ _).trans g1⟩
  · have HS := Lib.hid (szN_pos (show 0 ≤ left - n by omega))
    have hle : ¬ left - (n : Int) < 0 := hlt
    go_enter Tryd.func6, Tryd.ntmps6
    go_wp2_with (go_at_call 17; refine (l_sz _ _ _ _ _ h0 h1 hm).mono ?_; rintro e w1 ⟨rfl, g1⟩; rw [HS.out])
    go_ret
    exact ⟨ret_int HS.out.symm, (ext_alloc _ _).trans g1⟩

set_option maxHeartbeats 400000 in
theorem l_toInts (a : Option Addr) (n cap : Nat) (xs : List Int) (w : World) (hl : n ≤ 4194304) (hx : RdC w a n xs) :
    Calls Tryd.prog 14 #[.slice a n cap] w fun e w' => ∃ g, e = .returned (.slice (some ⟨g, 0, none⟩) n n) ∧ OwnC w.heap.size w' (some ⟨g, 0, none⟩) n n xs ∧ Ext w w' := by
  obtain ⟨w0, hmk, hown0, hext0⟩ := make_ints w n hl
  have HX := Lib.hid hx.2
  have HN := Lib.hid hx.1
  clear hx
  obtain ⟨g, hg⟩ : ∃ g, g = w.heap.size := ⟨_, rfl⟩
  rw [← hg] at hmk
  have HOwn0 := Lib.hid hown0
  have HExt0 := Lib.hid hext0
  clear hown0 hext0
  have hge : w.heap.size ≤ g := by omega
  have HG := Lib.hid hg
  clear hg
  go_enter Tryd.func14, Tryd.ntmps14
  go_wp2_with (fail)
  go_loopw [4] (fun i wr => ∃ (k : Nat) (ys : List Int), k ≤ n ∧ i = .int .i64 k ∧ OwnC w.heap.size wr (some ⟨g, 0, none⟩) n n ys ∧ Hid (∀ j, j < k → nth ys j = nth xs j) ∧ Ext w wr) (fun i _ => n - (intOf i).toNat)
  case atStart => exact ⟨0, List.replicate n 0, Nat.zero_le _, rfl, by have := HOwn0.out; rw [← HG.out] at this ⊢; exact this, Lib.hid (fun j hj => by omega), HExt0.out⟩
  case round =>
    obtain ⟨k, ys, hk, rfl, hown, HT, hext⟩ := hrel
    have HOwn := Lib.hid hown
    by_cases hlt : k < n
    · obtain ⟨b, off, rfl, hc⟩ := HX.out k hlt
      have hc' := hext.cell hc
      have hcg := hown.cell hlt
      have hfz := hown.frozen k
      have hyl := hown.1
      have HY := Lib.hid hyl
      clear hc hown hyl
      go_wp2_with (fail)
      go_roundw
      case rel => exact ⟨k + 1, ys.set k (nth xs k), by omega, by go_num, HOwn.out.store hlt _, Lib.hid (fun j hj => by
          rw [nth_set (by rw [HY.out]; exact hlt)]
          by_cases hjk : k = j
          · subst hjk; simp
          · rw [if_neg hjk]; exact HT.out j (by omega)), hext.setCell hge _⟩
      case measure => simp [intOf]; omega
    · clear hown
      go_wp2_with (fail)
      go_ret
      refine ⟨g, rfl, ?_, hext⟩
      have : ys = xs := ext_nth (by rw [HOwn.out.1, HN.out]) (fun i hi => HT.out i (by rw [HOwn.out.1] at hi; omega))
      rw [← this]; exact HOwn.out

set_option maxHeartbeats 400000 in
theorem l_toSpace (p : Int) (a : Option Addr) (n cap : Nat) (xs : List Int) (w : World) (hl : n ≤ 4194304) (hx : RdC w a n xs) :
    Calls Tryd.prog 8 #[.agg #[.int .i64 p, .slice a n cap]] w fun e w' => ∃ g, e = .returned (.agg #[.int .i64 p, .slice (some ⟨g, 0, none⟩) n n]) ∧ OwnC w.heap.size w' (some ⟨g, 0, none⟩) n n xs ∧ Ext w w' := by
  go_enter Tryd.func8, Tryd.ntmps8
  go_wp2_with (fail)
  refine (l_toInts a n cap xs _ hl (hx.ext (((ext_alloc _ _).alloc _).alloc _))).mono ?_
  rintro e w1 ⟨g, rfl, hown, h1⟩
  have hcc := Ext.cells h1
  have hfz := Ext.frz h1
  have hz := h1.size'
  simp only [World.size_alloc] at hz hcc hfz
  go_wp2_with (fail)
  have hown' : OwnC (w.heap.size + 1 + 1 + 1) w1 (some ⟨g, 0, none⟩) n n xs := by simpa using hown
  refine bodyPost_ret (v := .agg #[.int .i64 p, .slice (some ⟨g, 0, none⟩) n n]) (by simp [results, Tryd.results8, go_sem, hcc]) rfl ⟨g, rfl, ?_, ?_⟩
  · exact (((hown'.other (by simp) _).other (by simp) _).other (by simp) _).mono (by omega)
  · exact ((((((ext_alloc _ _).alloc _).alloc _).trans h1).setCell (by simp; omega) _).setCell (by simp) _).setCell (by simp) _

def eqB (xs ys : List Int) : Bool := decide (xs = ys)
theorem eqB_self (xs : List Int) : eqB xs xs = true := by simp [eqB]
theorem eqB_len {xs ys : List Int} (h : xs.length ≠ ys.length) : eqB xs ys = false := by
  simp only [eqB, decide_eq_false_iff_not]; intro he; exact h (by rw [he])
theorem eqB_nth {xs ys : List Int} {k : Nat} (h : nth xs k ≠ nth ys k) : eqB xs ys = false := by
  simp only [eqB, decide_eq_false_iff_not]; intro he; exact h (by rw [he])
theorem eqB_all {xs ys : List Int} {n : Nat} (hx : xs.length = n) (hy : ys.length = n) (h : ∀ j, j < n → nth xs j = nth ys j) : eqB xs ys = true := by
  simp only [eqB, decide_eq_true_eq]; exact ext_nth (by omega) (fun i hi => h i (by omega))

set_option maxHeartbeats 400000 in
theorem l_eqInts (a b : Option Addr) (n m ca cb : Nat) (xs ys : List Int) (w : World) (hl : n ≤ 4194304) (hm : m ≤ 4194304) (hx : RdC w a n xs) (hy : RdC w b m ys) :
    Calls Tryd.prog 16 #[.slice a n ca, .slice b m cb] w fun e w' => e = .returned (.bool (eqB xs ys)) ∧ Ext w w' := by
  by_cases hnm : n = m
  · subst hnm
    have hcb : ((n : Int) != (n : Int)) = false := by simp
    have HX := Lib.hid hx.2
    have HXN := Lib.hid hx.1
    have HY := Lib.hid hy.2
    have HYN := Lib.hid hy.1
    clear hx hy
    go_enter Tryd.func16, Tryd.ntmps16
    go_wp2_with (fail)
    go_loopw [5] (fun i wr => ∃ (k : Nat), k ≤ n ∧ i = .int .i64 k ∧ Hid (∀ j, j < k → nth xs j = nth ys j) ∧ Ext w wr) (fun i _ => n - (intOf i).toNat)
    case atStart => exact ⟨0, Nat.zero_le _, rfl, Lib.hid (fun j hj => by omega), Ext.refl _⟩
    case round =>
      obtain ⟨k, hk, rfl, HT, hext⟩ := hrel
      by_cases hlt : k < n
      · obtain ⟨b1, off1, rfl, hc1⟩ := HX.out k hlt
        obtain ⟨b2, off2, rfl, hc2⟩ := HY.out k hlt
        have Hc1 := Lib.hid ((hext.trans (ext_drew _)).cell hc1)
        have Hc2 := Lib.hid ((hext.trans (ext_drew _)).cell hc2)
        clear hc1 hc2
        by_cases hb : nth xs k = nth ys k
        · have HB := Lib.hid hb
          have hbb : (nth xs k != nth ys k) = false := by simp [hb]
          clear hb
          go_wp2_with (fail)
          refine wp_region_lex [] (by kernel_rfl) (by kernel_rfl) ?_
          repeat' first | (refine LexW.pure (v := ?_) rfl rfl (fun w1 he => ?_) ?_; rotate_left; ( have hc1 := he.cell Hc1.out; have hc2 := he.cell Hc2.out; go_simp; rfl); simp only [Act.put, List.setIfInBounds_toArray, List.set_cons_zero, List.set_cons_succ])
          refine LexW.nil (fun w2 he hk => ?_)
          go_wp2_with (fail)
          go_roundw
          case rel => exact ⟨k + 1, by omega, by go_num, Lib.hid (fun j hj => by
            by_cases hjk : j = k
            · subst hjk; exact HB.out
            · exact HT.out j (by omega)), hext.trans ((ext_drew _).trans he)⟩
          case measure => simp [intOf]; omega
        · have HB := Lib.hid hb
          have hbb : (nth xs k != nth ys k) = true := by simp [hb]
          clear hb
          go_wp2_with (fail)
          refine wp_region_lex [] (by kernel_rfl) (by kernel_rfl) ?_
          repeat' first | (refine LexW.pure (v := ?_) rfl rfl (fun w1 he => ?_) ?_; rotate_left; ( have hc1 := he.cell Hc1.out; have hc2 := he.cell Hc2.out; go_simp; rfl); simp only [Act.put, List.setIfInBounds_toArray, List.set_cons_zero, List.set_cons_succ])
          refine LexW.nil (fun w2 he hk => ?_)
          go_wp2_with (fail)
          go_ret
          exact ⟨ret_bool (eqB_nth HB.out).symm, hext.trans ((ext_drew _).trans he)⟩
      · go_wp2_with (fail)
        go_ret
        exact ⟨ret_bool (eqB_all HXN.out HYN.out (fun j hj => HT.out j (by omega))).symm, hext⟩
  · have HF := Lib.hid (eqB_len (xs := xs) (ys := ys) (by rw [hx.1, hy.1]; exact hnm))
    have hcb : ((n : Int) != (m : Int)) = true := by simp; omega
    go_enter Tryd.func16, Tryd.ntmps16
    go_wp2_with (fail)
    go_ret
    exact ⟨ret_bool HF.out.symm, Ext.refl _⟩

set_option maxHeartbeats 400000 in
theorem l_eqSpace (p : Int) (a b : Option Addr) (n m ca cb : Nat) (xs ys : List Int) (w : World) (hl : n ≤ 4194304) (hm : m ≤ 4194304) (hx : RdC w a n xs) (hy : RdC w b m ys) :
    Calls Tryd.prog 10 #[.agg #[.int .i64 p, .slice a n ca], .agg #[.int .i64 p, .slice b m cb]] w fun e w' => e = .returned (.bool (eqB xs ys)) ∧ Ext w w' := by
  have hpp : (p != p) = false := by simp
  cases he : eqB xs ys
  all_goals
    have HE := Lib.hid he
    clear he
    go_enter Tryd.func10, Tryd.ntmps10
    go_wp2_with (go_at_call 16; refine (l_eqInts _ _ _ _ _ _ _ _ _ hl hm (hx.ext ((ext_alloc _ _).alloc _)) (hy.ext ((ext_alloc _ _).alloc _))).mono ?_; rintro e w1 ⟨rfl, g1⟩; rw [HE.out])
    go_ret
    exact ⟨rfl, ((ext_alloc _ _).alloc _).trans g1⟩

/-! ### Marks -/
def marks (k : Int) (n : Nat) : List Int := (List.range n).map fun (i : Nat) => k + (i : Int)
theorem marks_len (k : Int) (n : Nat) : (marks k n).length = n := by simp [marks]
theorem marks_nth {k : Int} {n i : Nat} (h : i < n) : nth (marks k n) i = k + i := by
  unfold marks
  rw [nth_map (by simpa using h)]
  simp

/-- The world has been extended, and the row of a slice may have been written. -/
def Wrote (w w' : World) (a : Option Addr) : Prop := w.heap.size ≤ w'.heap.size ∧ w'.os = w.os ∧ w'.tape = w.tape ∧ w'.output = w.output ∧ ∀ k, k < w.heap.size → (∀ g, a = some ⟨g, 0, none⟩ → k ≠ g) → w'.heap[k]? = w.heap[k]?
theorem Wrote.refl (w : World) (a : Option Addr) : Wrote w w a := ⟨Nat.le_refl _, rfl, rfl, rfl, fun _ _ _ => rfl⟩
theorem Wrote.below {B : Nat} {w w' : World} {a : Option Addr} (h : Wrote w w' a) (hB : B ≤ w.heap.size) (ha : ∀ g, a = some ⟨g, 0, none⟩ → B ≤ g) : Below B w w' :=
  ⟨h.2.1, h.2.2.1, h.2.2.2.1, h.1, fun k hk => h.2.2.2.2 k (by omega) (fun g hg => by have := ha g hg; omega)⟩
theorem Wrote.ext {B w w' : World} {a : Option Addr} (h : Wrote w w' a) (hb : Ext B w) (ha : ∀ g, a = some ⟨g, 0, none⟩ → B.heap.size ≤ g) : Ext B w' :=
  hb.trans' (h.below hb.size ha)
theorem Wrote.cell {w w' : World} {a : Option Addr} (h : Wrote w w' a) {p : Addr} {v : Value} (hc : w.cell? p = some v) (hn : ∀ g, a = some ⟨g, 0, none⟩ → p.block ≠ g) : w'.cell? p = some v := by
  rw [World.cell?_of_block (w := w) (h.2.2.2.2 p.block (lt_of_cell hc) hn)]
  exact hc
theorem Wrote.own {B : Nat} {w w' : World} {a b : Option Addr} {n cap : Nat} {xs : List Int} (h : Wrote w w' a) (ho : OwnC B w b n cap xs) (hd : ∀ g, a = some ⟨g, 0, none⟩ → b ≠ some ⟨g, 0, none⟩) : OwnC B w' b n cap xs := by
  obtain ⟨h1, h2, h3⟩ := ho
  refine ⟨h1, h2, ?_⟩
  rcases h3 with h3 | ⟨g, c, cur, hv, hb, hh, h4⟩
  · exact .inl h3
  · refine .inr ⟨g, c, cur, hv, hb, ?_, h4⟩
    simp only [Value.slice.injEq] at hv
    have hlt : g < w.heap.size := by
      rcases Nat.lt_or_ge g w.heap.size with h | h
      · exact h
      · rw [Array.getElem?_eq_none h] at hh; cases hh
    rw [h.2.2.2.2 g hlt (fun g' hg' hgg => by subst hgg; exact hd _ hg' hv.1)]
    exact hh

end Go.Proofs.YtdccileoiiafmaaDoor
