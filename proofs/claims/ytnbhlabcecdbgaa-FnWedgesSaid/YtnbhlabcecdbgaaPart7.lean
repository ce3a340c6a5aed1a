/-
  Contracts and plain laws, part 7: Matrix, Det, Top5D, Turned, RollR.
  No condition.
-/
import Derived.Test.YtnbhlabcecdbgaaPart3
import Derived.Test.YtnbhlabcecdbgaaPart2
import Derived.Test.YtnbhlabcecdbgaaPart4
import Derived.Test.YtnbhlabcecdbgaaPart5
import Derived.Test.YtnbhlabcecdbgaaPart6
/-
  Matrices: checks, products, the listed functions of them at matrices.
  No condition.
-/
namespace Go.Proofs.Ytnbhlabcecdbgaa
set_option maxRecDepth 100000
open Go.RowKit

/-- A row fits a table. -/
def rowOk (p : Int) (m : Nat) (r : List Int) : Bool := decide (r.length = m) && decide (1 ≤ r.length) && decide (r.length ≤ 16) && isB p r
def tableB (p : Int) (rows : List (List Int)) : Bool := decide (rows.length ≤ 16) && decide (∀ i, i < rows.length → rowOk p (nthR rows 0).length (nthR rows i) = true)
def matB (p : Int) (rows : List (List Int)) : Bool := decide (0 < rows.length) && tableB p rows
theorem table_big {p : Int} {rows : List (List Int)} (h : 16 < rows.length) : tableB p rows = false := by
  unfold tableB; rw [decide_eq_false (by omega)]; rfl
theorem table_not {p : Int} {rows : List (List Int)} {n k : Nat} (hk : k < n) (hn : rows.length = n) (h : rowOk p (nthR rows 0).length (nthR rows k) = false) : tableB p rows = false := by
  unfold tableB
  rw [decide_eq_false (p := ∀ i, i < rows.length → _) (fun ha => by have := ha k (by omega); rw [h] at this; cases this)]
  simp
theorem table_yes {p : Int} {rows : List (List Int)} {n : Nat} (hn : rows.length = n) (h16 : n ≤ 16) (h : ∀ k, k < n → rowOk p (nthR rows 0).length (nthR rows k) = true) : tableB p rows = true := by
  unfold tableB
  rw [decide_eq_true (by omega), decide_eq_true (by rw [hn]; exact h)]; rfl
theorem rowOk_of {p : Int} {m : Nat} {r : List Int} (h : rowOk p m r = true) : Good p m r ∧ 1 ≤ m ∧ m ≤ 16 := by
  unfold rowOk at h
  simp only [Bool.and_eq_true, decide_eq_true_eq] at h
  obtain ⟨⟨⟨h1, h2⟩, h3⟩, h4⟩ := h
  exact ⟨good_isB h1 h4, by omega, by omega⟩
theorem matB_of {p : Int} {rows : List (List Int)} (h : matB p rows = true) : 0 < rows.length ∧ rows.length ≤ 16 ∧ ∃ m, 1 ≤ m ∧ m ≤ 16 ∧ ∀ i, i < rows.length → Good p m (nthR rows i) := by
  unfold matB tableB at h
  simp only [Bool.and_eq_true, decide_eq_true_eq] at h
  obtain ⟨h1, h2, h3⟩ := h
  have h0 := rowOk_of (h3 0 h1)
  exact ⟨h1, h2, _, h0.2.1, h0.2.2, fun i hi => (rowOk_of (h3 i hi)).1⟩
theorem matB_good {p : Int} {rows : List (List Int)} {n m : Nat} (hn : rows.length = n) (h0 : 0 < n) (h16 : n ≤ 16) (hm : 1 ≤ m) (hm16 : m ≤ 16) (h : ∀ i, i < n → Good p m (nthR rows i)) : matB p rows = true := by
  unfold matB
  rw [decide_eq_true (by omega), table_yes hn h16 (fun k hk => ?_)]
  · rfl
  · have hk' := h k hk
    unfold rowOk
    rw [(h 0 h0).1, hk'.1, good_bits hk', decide_eq_true rfl, decide_eq_true hm, decide_eq_true hm16]; rfl

set_option maxHeartbeats 4000000 in
theorem c_isTable (p : Int) (a : Option Addr) (n cap : Nat) (rows : List (List Int)) (w : World) (hp1 : 1 ≤ p) (hp2 : p ≤ 1000) (hl : n ≤ 4194304) (hr : ∀ i, i < n → (nthR rows i).length ≤ 4194304) (hx : RdR w a n rows) :
    Calls Try.prog 98 #[.int .i64 p, .slice a n cap] w fun e w' => e = .returned (.bool (tableB p rows)) ∧ Ext w w' := by
  have HX := Lib.hid hx.2
  have HL := Lib.hid hx.1
  have HR := Lib.hid hr
  clear hx hr
  by_cases hbig : 16 < n
  · have hb : (16 : Int) < n := by omega
    have HT := Lib.hid (table_big (p := p) (rows := rows) (by rw [HL.out]; exact hbig))
    go_enter Try.func98, Try.ntmps98
    go_wp2_with (fail)
    go_ret
    exact ⟨ret_bool HT.out.symm, Ext.refl _⟩
  have hb : ¬ (16 : Int) < n := by omega
  go_enter Try.func98, Try.ntmps98
  go_wp2_with (fail)
  go_loopw [6, 12] (fun _ i wr => ∃ (k : Nat), k ≤ n ∧ i = .int .i64 k ∧ Hid (∀ j, j < k → rowOk p (nthR rows 0).length (nthR rows j) = true) ∧ Hid (Ext w wr)) (fun _ i _ => n - (intOf i).toNat)
  case atStart => exact ⟨0, Nat.zero_le _, rfl, Lib.hid (fun j hj => by omega), Lib.hid (Ext.refl _)⟩
  case round =>
    obtain ⟨k, hk, rfl, HT, HE⟩ := hrel
    by_cases hlt : k < n
    · obtain ⟨b0, off0, a0, c0, rfl, hc0, hr0⟩ := HX.out 0 (by omega)
      obtain ⟨b1, off1, a1, c1, hab, hc1, hr1⟩ := HX.out k hlt
      simp only [Option.some.injEq, Addr.mk.injEq, and_true] at hab
      obtain ⟨rfl, rfl⟩ := hab
      have hc0' := HE.out.cell hc0
      have hc1' := HE.out.cell hc1
      rw [Nat.add_zero] at hc0'
      have HR1 := Lib.hid (hr1.ext HE.out)
      have hl1 := HR.out k hlt
      have hn0 : 0 < n := by omega
      clear hc0 hc1 hr0 hr1
      by_cases h1 : (nthR rows k).length = (nthR rows 0).length
      · have e1 : (((nthR rows k).length : Int) != ((nthR rows 0).length : Int)) = false := by rw [h1]; simp
        have H1 := Lib.hid h1
        clear h1
        by_cases h2 : 1 ≤ (nthR rows k).length
        · have e2 : ¬ ((nthR rows k).length : Int) < 1 := by omega
          by_cases h3 : (nthR rows k).length ≤ 16
          · have e3 : ¬ (16 : Int) < ((nthR rows k).length : Int) := by omega
            go_wp2_with (fail)
            refine Calls.mono (c_is p a1 _ c1 (nthR rows k) wr hp1 hp2 hl1 HR1.out) ?_
            rintro e w1 ⟨rfl, g1⟩
            replace HE := Lib.hid (HE.out.trans g1)
            clear g1
            cases h4 : isB p (nthR rows k)
            · have HB := Lib.hid (table_not (p := p) hlt HL.out (by simp [rowOk, h4]))
              go_wp2_with (fail)
              go_ret
              exact ⟨ret_bool HB.out.symm, HE.out⟩
            · have HK := Lib.hid (show rowOk p (nthR rows 0).length (nthR rows k) = true by
                unfold rowOk
                rw [h4, decide_eq_true H1.out, decide_eq_true h2, decide_eq_true h3]; rfl)
              go_wp2_with (fail)
              go_roundw
              case rel => exact ⟨k + 1, by omega, by go_num, Lib.hid (fun j hj => by
                by_cases hjk : j = k
                · subst hjk; exact HK.out
                · exact HT.out j (by omega)), HE⟩
              case measure => simp [intOf]; omega
          · have e3 : (16 : Int) < ((nthR rows k).length : Int) := by omega
            have HB := Lib.hid (table_not (p := p) hlt HL.out (by unfold rowOk; rw [decide_eq_false h3]; simp))
            go_wp2_with (fail)
            go_ret
            exact ⟨ret_bool HB.out.symm, HE.out⟩
        · have e2 : ((nthR rows k).length : Int) < 1 := by omega
          have HB := Lib.hid (table_not (p := p) hlt HL.out (by unfold rowOk; rw [decide_eq_false h2]; simp))
          go_wp2_with (fail)
          go_ret
          exact ⟨ret_bool HB.out.symm, HE.out⟩
      · have e1 : (((nthR rows k).length : Int) != ((nthR rows 0).length : Int)) = true := by simp; omega
        have HB := Lib.hid (table_not (p := p) hlt HL.out (by unfold rowOk; rw [decide_eq_false h1]; simp))
        go_wp2_with (fail)
        go_ret
        exact ⟨ret_bool HB.out.symm, HE.out⟩
    · have HB := Lib.hid (table_yes (p := p) HL.out (by omega) (fun k hk => HT.out k (by omega)))
      go_wp2_with (fail)
      go_ret
      exact ⟨ret_bool HB.out.symm, HE.out⟩
set_option maxHeartbeats 1000000 in
theorem c_isMatrix (p : Int) (a : Option Addr) (n cap : Nat) (rows : List (List Int)) (w : World) (hp1 : 1 ≤ p) (hp2 : p ≤ 1000) (hl : n ≤ 4194304) (hr : ∀ i, i < n → (nthR rows i).length ≤ 4194304) (hx : RdR w a n rows) :
    Calls Try.prog 89 #[.int .i64 p, .slice a n cap] w fun e w' => e = .returned (.bool (matB p rows)) ∧ Ext w w' := by
  by_cases h0 : 0 < n
  · have hb : (0 : Int) < n := by omega
    have HM := Lib.hid (show matB p rows = tableB p rows by unfold matB; rw [decide_eq_true (by rw [hx.1]; exact h0)]; rfl)
    go_enter Try.func89, Try.ntmps89
    go_wp2_with (fail)
    refine Calls.mono (c_isTable p a n cap rows w hp1 hp2 hl hr hx) ?_
    rintro e w1 ⟨rfl, g1⟩
    go_wp2_with (fail)
    go_ret
    exact ⟨ret_bool HM.out.symm, g1⟩
  · have hb : ¬ (0 : Int) < n := by omega
    have HM := Lib.hid (show matB p rows = false by unfold matB; rw [decide_eq_false (by rw [hx.1]; exact h0)]; rfl)
    go_enter Try.func89, Try.ntmps89
    go_wp2_with (fail)
    go_ret
    exact ⟨ret_bool HM.out.symm, Ext.refl _⟩
set_option maxHeartbeats 400000 in
set_option maxRecDepth 20000 in
theorem c_indexFuncM (a : Option Addr) (n cap F : Nat) (caps : Array Value) (R : Nat → Value) (f : Nat → Bool) (w : World) (hl : n ≤ 4194304) (hcf : ∀ args w, (callFunc F args).run Try.prog w = .ok (.enter F args) w)
    (hR : ∀ i, i < n → ∃ b off, a = some ⟨b, off, none⟩ ∧ w.cell? ⟨b, off + i, none⟩ = some (R i))
    (hf : ∀ i, i < n → ∀ w1, Ext w w1 → Calls Try.prog F (#[R i] ++ caps) w1 fun e w2 => e = .returned (.bool (f i)) ∧ Ext w1 w2) :
    Calls Try.prog 97 #[.slice a n cap, .func (.func F) #[] caps] w fun e w' => e = .returned (.int .i64 (firstIx f n)) ∧ Ext w w' := by
  have HR := Lib.hid hR
  have HF := Lib.hid hf
  clear hR hf
  go_enter Try.func97, Try.ntmps97
  go_wp2_with (fail)
  go_loopw [5, 8] (fun _ i wr => ∃ k : Nat, k ≤ n ∧ i = .int .i64 k ∧ Hid (∀ j, j < k → f j = false) ∧ Ext w wr) (fun _ i _ => n - (intOf i).toNat)
  case atStart => exact ⟨0, Nat.zero_le _, rfl, Lib.hid (fun j hj => by omega), Ext.refl _⟩
  case round =>
    obtain ⟨k, hk, rfl, HT, hext⟩ := hrel
    by_cases hlt : k < n
    · obtain ⟨b, off, rfl, hc⟩ := HR.out k hlt
      have hc' := hext.cell hc
      clear hc
      cases hb : f k
      · have HB := Lib.hid hb
        have HFk := Lib.hid (HF.out k hlt wr hext)
        clear hb
        go_wp2_with ((with_reducible refine (HFk.out).mono ?_); rintro e w1 ⟨rfl, h1⟩; rw [HB.out])
        go_roundw
        case rel => exact ⟨k + 1, by omega, by go_num, Lib.hid (fun j hj => by
          by_cases hjk : j = k
          · subst hjk; exact HB.out
          · exact HT.out j (by omega)), hext.trans h1⟩
        case measure => simp [intOf]; omega
      · have HB := Lib.hid hb
        have HFk := Lib.hid (HF.out k hlt wr hext)
        clear hb
        go_wp2_with ((with_reducible refine (HFk.out).mono ?_); rintro e w1 ⟨rfl, h1⟩; rw [HB.out])
        go_ret
        exact ⟨ret_int (firstIx_hit hlt HB.out HT.out).symm, hext.trans h1⟩
    · go_wp2_with (fail)
      go_ret
      exact ⟨ret_int (firstIx_none (fun j hj => HT.out j (by omega))).symm, hext⟩

set_option maxHeartbeats 400000 in
theorem c_containsFuncM (a : Option Addr) (n cap F : Nat) (caps : Array Value) (R : Nat → Value) (f : Nat → Bool) (w : World) (hl : n ≤ 4194304) (hcf : ∀ args w, (callFunc F args).run Try.prog w = .ok (.enter F args) w)
    (hR : ∀ i, i < n → ∃ b off, a = some ⟨b, off, none⟩ ∧ w.cell? ⟨b, off + i, none⟩ = some (R i))
    (hf : ∀ i, i < n → ∀ w1, Ext w w1 → Calls Try.prog F (#[R i] ++ caps) w1 fun e w2 => e = .returned (.bool (f i)) ∧ Ext w1 w2) :
    Calls Try.prog 87 #[.slice a n cap, .func (.func F) #[] caps] w fun e w' => e = .returned (.bool ((List.range n).any f)) ∧ Ext w w' := by
  have HR := Lib.hid hR
  have HF := Lib.hid hf
  have HA := Lib.hid (firstIx_any f n)
  have hbd := firstIx_bd f n
  clear hR hf
  go_enter Try.func87, Try.ntmps87
  go_wp2_with (go_at_call 97; refine (c_indexFuncM _ _ _ _ _ _ _ _ hl hcf HR.out HF.out).mono ?_; rintro e w1 ⟨rfl, h1⟩)
  go_ret
  exact ⟨ret_bool HA.out, h1⟩
set_option maxHeartbeats 400000 in
theorem c_checkMatrices1 (p : Int) (a : Option Addr) (n cap : Nat) (rows : List (List Int)) (q : Nat) (w : World) (hp1 : 1 ≤ p) (hp2 : p ≤ 1000) (hl : n ≤ 4194304) (hr : ∀ i, i < n → (nthR rows i).length ≤ 4194304) (hx : RdR w a n rows) (hq0 : w.cell? ⟨q, 0, none⟩ = some (.int .i64 p)) :
    Calls Try.prog 88 #[.slice a n cap, .pointer (some ⟨q, 0, none⟩)] w fun e w' => e = .returned (.bool (!matB p rows)) ∧ Ext w w' := by
  go_enter Try.func88, Try.ntmps88
  go_wp2_with (fail)
  refine Calls.mono (c_isMatrix p a n cap rows w hp1 hp2 hl hr hx) ?_
  rintro e w1 ⟨rfl, h1⟩
  go_wp2_with (fail)
  go_ret
  exact ⟨rfl, h1⟩
/-- The check of matrices that are good. -/
theorem RdR.ext' {w w' : World} {a : Option Addr} {n : Nat} {rows : List (List Int)} (h : RdR w a n rows) (he : Ext w w') : RdR w' a n rows := h.ext he
set_option maxHeartbeats 1000000 in
theorem c_checkMatrices_ok (p : Int) (al : Option Addr) (k cl : Nat) (R : Nat → Value) (w : World) (hpr : primeB p = true) (hk : k ≤ 1000)
    (hR : ∀ i, i < k → ∃ b off, al = some ⟨b, off, none⟩ ∧ w.cell? ⟨b, off + i, none⟩ = some (R i))
    (hm : ∀ i, i < k → ∃ a n cap rows, R i = .slice a n cap ∧ n ≤ 4194304 ∧ (∀ i, i < n → (nthR rows i).length ≤ 4194304) ∧ RdR w a n rows ∧ matB p rows = true) :
    Calls Try.prog 63 #[.int .i64 p, .slice al k cl] w fun e w' => e = .returned (.int .i64 0) ∧ Ext w w' := by
  have hpb := prime_bd hpr
  have HPR := Lib.hid hpr
  have HR := Lib.hid hR
  have HM := Lib.hid hm
  clear hpr hR hm
  have HF := Lib.hid (show (List.range k).any (fun _ => false) = false by simp)
  go_enter Try.func63, Try.ntmps63
  go_wp2_with (fail)
  refine Calls.mono (c_isPrime p _) ?_
  rintro e w1 ⟨rfl, g1⟩
  rw [HPR.out]
  have q0 : w1.cell? ⟨w.heap.size, 0, none⟩ = some (.int .i64 p) := g1.cell (by simp)
  have G1 := Lib.hid ((ext_alloc w _).trans g1)
  clear g1
  go_wp2_with (fail)
  refine Calls.mono (c_containsFuncM al k cl 88 #[.pointer (some ⟨w.heap.size, 0, none⟩)] R (fun _ => false) w1 (by omega) (fun args w => by go_simp) ?_ ?_) ?_
  · intro i hi
    obtain ⟨b, off, h1, h2⟩ := HR.out i hi
    exact ⟨b, off, h1, G1.out.cell h2⟩
  · intro i hi w2 he
    obtain ⟨a, n, cap, rows, hRi, hn, hr, hx, hmb⟩ := HM.out i hi
    rw [hRi]
    have := c_checkMatrices1 p a n cap rows w.heap.size w2 (by omega) (by omega) hn hr (hx.ext (G1.out.trans he)) (he.cell q0)
    rw [hmb] at this
    exact this
  rintro e w3 ⟨rfl, g3⟩
  rw [HF.out]
  go_wp2_with (fail)
  go_ret
  exact ⟨rfl, G1.out.trans g3⟩

/-! ### Products -/
/-- A matrix and a vector. -/
def appL (p : Int) (rows : List (List Int)) (v : List Int) (m n : Nat) : List Int := (List.range n).map fun i => dotL p (nthR rows i) v m
theorem appL_succ (p : Int) (rows : List (List Int)) (v : List Int) (m n : Nat) : appL p rows v m (n + 1) = appL p rows v m n ++ [dotL p (nthR rows n) v m] := by simp [appL, List.range_succ]
theorem appL_len (p : Int) (rows : List (List Int)) (v : List Int) (m n : Nat) : (appL p rows v m n).length = n := by simp [appL]
theorem appL_nth {p : Int} {rows : List (List Int)} {v : List Int} {m n i : Nat} (h : i < n) : nth (appL p rows v m n) i = dotL p (nthR rows i) v m := by
  unfold appL; rw [nth_map (by simpa using h)]; simp
theorem dotL_bd {p : Int} {x y : List Int} {n : Nat} (hp : 1 ≤ p) : 0 ≤ dotL p x y n ∧ dotL p x y n < p := ⟨Int.emod_nonneg _ (by omega), Int.emod_lt_of_pos _ (by omega)⟩
theorem app_good {p : Int} {rows : List (List Int)} {v : List Int} {m n : Nat} (hp : 1 ≤ p) : Good p n (appL p rows v m n) := ⟨appL_len _ _ _ _ _, fun i hi => by rw [appL_nth hi]; exact dotL_bd hp⟩
/-- The product of matrices: n rows, k columns, m in between. -/
def mulL (p : Int) (a b : List (List Int)) (n m k : Nat) : List (List Int) := (List.range n).map fun i => appL p (turnL b m k) (nthR a i) m k
theorem mulL_succ (p : Int) (a b : List (List Int)) (n m k : Nat) : mulL p a b (n + 1) m k = mulL p a b n m k ++ [appL p (turnL b m k) (nthR a n) m k] := by simp [mulL, List.range_succ]
theorem mulL_len (p : Int) (a b : List (List Int)) (n m k : Nat) : (mulL p a b n m k).length = n := by simp [mulL]
theorem mulL_nth {p : Int} {a b : List (List Int)} {n m k i : Nat} (h : i < n) : nthR (mulL p a b n m k) i = appL p (turnL b m k) (nthR a i) m k := by
  unfold mulL; rw [nthR_map (by simpa using h)]; simp
theorem mul_good {p : Int} {a b : List (List Int)} {n m k : Nat} (hp : 1 ≤ p) : ∀ i, i < n → Good p k (nthR (mulL p a b n m k) i) := fun i hi => by
  rw [mulL_nth hi]; exact app_good hp


end Go.Proofs.Ytnbhlabcecdbgaa

/-
  Contract: the determinant in the program; Determinant.
  No condition.
-/
namespace Go.Proofs.Ytnbhlabcecdbgaa
set_option maxRecDepth 100000
open Go.RowKit

theorem elimS_start {p : Int} {m k : Nat} {rows : List (List Int)} : ∀ r, r ≤ k + 1 → elimS p m k rows r = rows
  | 0, _ => rfl
  | r + 1, h => by rw [elimS, if_neg (by omega)]; exact elimS_start r (by omega)
theorem elimS_good {p : Int} {m k : Nat} {rows : List (List Int)} (hp : 1 ≤ p) (h : RowsG p m rows) : ∀ r, r ≤ rows.length → RowsG p m (elimS p m k rows r) := fun r hr i hi => by
  rw [elimS_len] at hi
  rw [elimS_nth r hr]
  split
  · unfold elimN
    split
    · exact plus_good hp
    · exact h i hi
  · exact h i hi
theorem swapL_same {rows : List (List Int)} {k : Nat} : swapL rows k k = rows := by
  unfold swapL
  rw [set_self, set_self]
theorem detS_none {p : Int} {m : Nat} {rows : List (List Int)} {k : Nat} (h : detS p m rows k = none) : ∀ j, detS p m rows (k + j) = none
  | 0 => h
  | j + 1 => by rw [← Nat.add_assoc, detS, detS_none h j]
theorem mul_small {p x y : Int} (hp : p ≤ 13) (hx0 : 0 ≤ x) (hx : x < p) (hy0 : 0 ≤ y) (hy : y < p) : 0 ≤ x * y ∧ x * y ≤ 144 := by
  refine ⟨Int.mul_nonneg hx0 hy0, ?_⟩
  have h1 : x * y ≤ 12 * y := Int.mul_le_mul_of_nonneg_right (by omega) hy0
  omega

set_option maxHeartbeats 16000000 in
set_option maxRecDepth 100000 in
theorem c_det (p : Int) (a : Option Addr) (n cap m : Nat) (rows : List (List Int)) (w : World) (hpr : primeB p = true) (hn0 : 0 < n) (hnm : n ≤ m) (hm2 : m ≤ 4096) (hx : RdR w a n rows) (hg : RowsG p m rows) :
    Calls Try.prog 35 #[.int .i64 p, .slice a n cap] w fun e w' => e = .returned (.int .i64 (detL p m rows)) ∧ Ext w w' := by
  have hpb := prime_bd hpr
  have hp13 : p ≤ 13 := hpb.2
  have HX := Lib.hid hx
  have HG := Lib.hid hg
  have HPR := Lib.hid hpr
  have HLN := Lib.hid hx.1
  have HDB := Lib.hid (fun k hk r o h => (det_gauss (m := m) hpr hg (by rw [hx.1]; exact hnm) k hk).1 r o h)
  have HDG := Lib.hid (fun k hk r o h => detS_good (p := p) (m := m) (by omega) hg k hk r o h)
  clear hx hg hpr
  go_enter Try.func35, Try.ntmps35
  go_wp2_with (fail)
  refine (c_cloneRows a n cap m rows w (by omega) (by omega) (by omega) (fun i hi => ownR_put_len HG.out HLN.out hi) HX.out).mono ?_
  rintro e w1 ⟨g, rc, rfl, ho, h1⟩
  have HO := Lib.hid ho
  have H1 := Lib.hid h1
  clear ho h1
  go_wp2_with (fail)
  go_loopw [6, 14] (fun oo kk wr => ∃ (k : Nat) (R : List (List Int)) (o : Int), k ≤ n ∧ kk = .int .i64 k ∧ oo = .int .i64 o ∧ Hid (detS p m rows k = some (R, o)) ∧ Hid (OwnR w.heap.size wr (some ⟨g, 0, none⟩) n rc R) ∧ Hid (Ext w wr)) (fun _ k _ => n - (intOf k).toNat)
  case atStart => exact ⟨0, rows, 1, Nat.zero_le _, rfl, rfl, Lib.hid rfl, HO, H1⟩
  case round =>
    obtain ⟨k, R, o, hk, rfl, rfl, HS, HOwn, HExt⟩ := hrel
    clear HO H1
    have HRL := Lib.hid HOwn.out.1
    have hobd := (HDB.out k (by rw [HLN.out]; exact hk) R o HS.out).2.2
    by_cases hkn : k < n
    · have HRG : Hid (RowsG p m R) := Lib.hid (HDG.out k (by rw [HLN.out]; exact hk) R o HS.out).1
      have hkm : k < m := by omega
      have hwo : wrap64 (-o) = -o := by unfold wrap64; omega
      go_wp2_with (fail)
      go_loop [8] (fun i => ∃ j : Nat, k ≤ j ∧ j ≤ n ∧ i = .int .i64 j ∧ Hid (∀ t, k ≤ t → t < j → nth (nthR R t) k = 0)) (fun i => n - (intOf i).toNat)
      case atStart => exact ⟨k, Nat.le_refl _, by omega, rfl, Lib.hid (fun t h1 h2 => by omega)⟩
      case round =>
        obtain ⟨j, hkj, hj, rfl, HZ⟩ := hrel
        by_cases hjn : j < n
        · obtain ⟨aj, cj, hcj, hoj⟩ := HOwn.out.at hjn
          rw [ownR_put_len HRG.out HRL.out hjn] at hcj hoj
          obtain ⟨bj, oj, rfl, hcjk⟩ := hoj.rd.2 k hkm
          by_cases hz : nth (nthR R j) k = 0
          · have hzb : (nth (nthR R j) k == 0) = true := by simp [hz]
            have HZ' := Lib.hid hz
            clear hz hoj
            go_wp2_with (fail)
            go_round
            case rel => exact ⟨j + 1, by omega, by omega, by go_num, Lib.hid (fun t h1 h2 => by
              by_cases htj : t = j
              · subst htj; exact HZ'.out
              · exact HZ.out t h1 (by omega))⟩
            case measure => simp [intOf]; omega
          · have hzb : (nth (nthR R j) k == 0) = false := by simp [hz]
            have hjb : ((j : Int) == (n : Int)) = false := by simp; omega
            have HPiv := Lib.hid (pivG_eq (rows := R) (k := k) (d := k) hkj (by rw [HRL.out]; exact hj) HZ.out (.inr hz))
            clear hz hoj
            by_cases hkj2 : j = k
            · subst hkj2
              have hjk : ((j : Int) != (j : Int)) = false := by simp
              have HOw := Lib.hid (show OwnR w.heap.size wr (some ⟨g, 0, none⟩) n rc (swapL R j j) by rw [swapL_same]; exact HOwn.out)
              have HE2 := HExt
              obtain ⟨W2, hW2⟩ : ∃ W2, W2 = wr := ⟨_, rfl⟩
              rw [← hW2] at HOw HE2 hcj hcjk ⊢
              clear hW2
              have HSG := Lib.hid (swapL_good HRG.out (show j < R.length by rw [HRL.out]; exact hkn) (show j < R.length by rw [HRL.out]; exact hjn))
              have HSL := Lib.hid (show (swapL R j j).length = n by rw [swapL_len, HRL.out])
              have HSK := Lib.hid (swapL_at (show j < R.length by rw [HRL.out]; exact hkn) (show j < R.length by rw [HRL.out]; exact hjn))
              obtain ⟨Sr, hSr⟩ : ∃ S, S = swapL R j j := ⟨_, rfl⟩
              have HSr := Lib.hid hSr
              rw [← hSr] at HOw HSG HSL HSK
              clear hSr
              obtain ⟨pv, hpv⟩ : ∃ x, x = nth (nthR Sr j) j := ⟨_, rfl⟩
              have hpb2 : 0 ≤ pv ∧ pv < p := by rw [hpv]; exact (HSG.out j (by rw [HSL.out]; exact hkn)).2 j hkm
              have HPV := Lib.hid hpv
              obtain ⟨ax, cx, hcx, hox⟩ := HOw.out.at hkn
              rw [ownR_put_len HSG.out HSL.out hkn] at hcx hox
              obtain ⟨bx, ox, rfl, hck⟩ := hox.rd.2 j hkm
              rw [← hpv] at hck
              have hob : 0 ≤ o ∧ o < p := by omega
              have hmm := mul_bd (x := o) (y := pv) (p := p) (by omega) hob.1 hob.2 hpb2.1 hpb2.2
              have hwm : wrap64 (o * pv) = o * pv := by unfold wrap64; omega
              have hwk : wrap64 ((j : Int) + 1) = (j : Int) + 1 := by unfold wrap64; omega
              have hRpv : nth (nthR R j) j = pv := by rw [hpv, HSK.out]
              rw [hRpv] at hcjk hzb
              clear hRpv
              clear hpv hox
              go_wp2_with (fail)
              refine Calls.mono (c_num p (o * pv) W2 (by omega) (by omega)) ?_
              rintro e W3 ⟨rfl, g3⟩
              obtain ⟨o2, ho2⟩ : ∃ x, x = (o * pv) % p := ⟨_, rfl⟩
              rw [← ho2]
              have HO2 := Lib.hid ho2
              clear ho2 hwm hmm hob
              have HOw3 := Lib.hid (HOw.out.ext g3)
              have HE3 := Lib.hid (HE2.out.trans g3)
              clear g3 hcx hck HOw HE2
              go_wp2_with (fail)
              go_loopw [9] (fun i wr => ∃ (r : Nat) (C : List (List Int)), j + 1 ≤ r ∧ r ≤ n ∧ i = .int .i64 r ∧ Hid (C = elimS p m j Sr r) ∧ Hid (OwnR w.heap.size wr (some ⟨g, 0, none⟩) n rc C) ∧ Hid (Ext w wr)) (fun i _ => n - (intOf i).toNat)
              case atStart => exact ⟨j + 1, Sr, Nat.le_refl _, hkn, by go_num, Lib.hid (elimS_start _ (Nat.le_refl _)).symm, HOw3, HE3⟩
              case round =>
                obtain ⟨r, C, hkr, hr, rfl, HC, HCo, HCe⟩ := hrel
                clear HOw3 HE3
                by_cases hrn : r < n
                · have HCg : Hid (RowsG p m C) := Lib.hid (by rw [HC.out]; exact elimS_good (by omega) HSG.out r (by rw [HSL.out]; omega))
                  have HCl : Hid (C.length = n) := Lib.hid HCo.out.1
                  have HCK : Hid (nthR C j = nthR Sr j) := Lib.hid (by rw [HC.out, elimS_nth _ (by rw [HSL.out]; omega), if_pos (by omega)]; unfold elimN; rw [if_neg (by omega)])
                  have HCR : Hid (nthR C r = nthR Sr r) := Lib.hid (by rw [HC.out, elimS_nth _ (by rw [HSL.out]; omega), if_neg (by omega)])
                  obtain ⟨ar, cr, hcr, hor⟩ := HCo.out.at hrn
                  rw [ownR_put_len HCg.out HCl.out hrn] at hcr hor
                  obtain ⟨ad, cd, hcd, hod⟩ := HCo.out.at hkn
                  rw [ownR_put_len HCg.out HCl.out hkn] at hcd hod
                  obtain ⟨br, or, rfl, hcrk⟩ := hor.rd.2 j hkm
                  obtain ⟨bd, od, rfl, hcdk⟩ := hod.rd.2 j hkm
                  have HRr := Lib.hid (hor.rd.ext (ext_drew wr))
                  have HRd := Lib.hid (hod.rd.ext (ext_drew wr))
                  have HCr := Lib.hid ((ext_drew wr).cell hcr)
                  have HCd := Lib.hid ((ext_drew wr).cell hcd)
                  have HCk := Lib.hid ((ext_drew wr).cell hcrk)
                  have HCq := Lib.hid ((ext_drew wr).cell hcdk)
                  have HGr := Lib.hid (HCg.out r (by rw [HCl.out]; exact hrn))
                  have HGd := Lib.hid (HCg.out j (by rw [HCl.out]; exact hkn))
                  obtain ⟨xr, hxr⟩ : ∃ x, x = nth (nthR C r) j := ⟨_, rfl⟩
                  obtain ⟨xd, hxd⟩ : ∃ x, x = nth (nthR C j) j := ⟨_, rfl⟩
                  have hbr : 0 ≤ xr ∧ xr < p := by rw [hxr]; exact HGr.out.2 j hkm
                  have hbd : 0 ≤ xd ∧ xd < p := by rw [hxd]; exact HGd.out.2 j hkm
                  obtain ⟨iv, hiv⟩ : ∃ x, x = invN p xd := ⟨_, rfl⟩
                  have hbi : 0 ≤ iv ∧ iv < p := by rw [hiv]; exact invN_bd (by omega)
                  have hmi := mul_bd (x := xr) (y := iv) (p := p) (by omega) hbr.1 hbr.2 hbi.1 hbi.2
                  have hmi2 := mul_small hp13 hbr.1 hbr.2 hbi.1 hbi.2
                  have hnm : -xr * iv = -(xr * iv) := Int.neg_mul _ _
                  have HNeg : Hid (IntKind.i64.wrap (-xr) = -xr) := Lib.hid (IntWalk.i64_in _ (by omega))
                  have HMul : Hid (IntKind.i64.wrap (-xr * iv) = -xr * iv) := Lib.hid (IntWalk.i64_in _ (by omega))
                  have HWn : Hid (wrap64 (-xr * iv) = -xr * iv) := Lib.hid (by unfold wrap64; omega)
                  have hkk : -1000 ≤ -xr * iv ∧ -xr * iv ≤ 1000 := by omega
                  have HXR := Lib.hid hxr
                  have HXD := Lib.hid hxd
                  have HIV := Lib.hid hiv
                  rw [← hxr] at HCk
                  rw [← hxd] at HCq
                  clear hor hod hcr hcd hcrk hcdk hxr hxd hiv hnm
                  go_wp2_with (fail)
                  refine wp_region_lex_tail 31 [(27, .val (.int .i64 iv)), (29, .ownS wr.drew.heap.size m (plusL p (nthR C r) (nthR C j) (-xr * iv) m))] (by kernel_rfl) (by kernel_rfl) ?_
                  simp only [List.take, List.drop]
                  (refine LexW.pure (v := ?_) rfl rfl (fun w1 he => ?_) ?_; rotate_left; ( have e1 := he.cell HCr.out; have e2 := he.cell HCd.out; have e3 := he.cell HCk.out; have e5 := he.cell HCq.out; have e4 := HNeg.out; have e6 := HMul.out; have e7 := HWn.out; go_simp; rfl); simp only [Act.put, List.setIfInBounds_toArray, List.set_cons_zero, List.set_cons_succ])
                  (refine LexW.pure (v := ?_) rfl rfl (fun w1 he => ?_) ?_; rotate_left; ( have e1 := he.cell HCr.out; have e2 := he.cell HCd.out; have e3 := he.cell HCk.out; have e5 := he.cell HCq.out; have e4 := HNeg.out; have e6 := HMul.out; have e7 := HWn.out; go_simp; rfl); simp only [Act.put, List.setIfInBounds_toArray, List.set_cons_zero, List.set_cons_succ])
                  (refine LexW.pure (v := ?_) rfl rfl (fun w1 he => ?_) ?_; rotate_left; ( have e1 := he.cell HCr.out; have e2 := he.cell HCd.out; have e3 := he.cell HCk.out; have e5 := he.cell HCq.out; have e4 := HNeg.out; have e6 := HMul.out; have e7 := HWn.out; go_simp; rfl); simp only [Act.put, List.setIfInBounds_toArray, List.set_cons_zero, List.set_cons_succ])
                  (refine LexW.pure (v := ?_) rfl rfl (fun w1 he => ?_) ?_; rotate_left; ( have e1 := he.cell HCr.out; have e2 := he.cell HCd.out; have e3 := he.cell HCk.out; have e5 := he.cell HCq.out; have e4 := HNeg.out; have e6 := HMul.out; have e7 := HWn.out; go_simp; rfl); simp only [Act.put, List.setIfInBounds_toArray, List.set_cons_zero, List.set_cons_succ])
                  (refine LexW.pure (v := ?_) rfl rfl (fun w1 he => ?_) ?_; rotate_left; ( have e1 := he.cell HCr.out; have e2 := he.cell HCd.out; have e3 := he.cell HCk.out; have e5 := he.cell HCq.out; have e4 := HNeg.out; have e6 := HMul.out; have e7 := HWn.out; go_simp; rfl); simp only [Act.put, List.setIfInBounds_toArray, List.set_cons_zero, List.set_cons_succ])
                  (refine LexW.pure (v := ?_) rfl rfl (fun w1 he => ?_) ?_; rotate_left; ( have e1 := he.cell HCr.out; have e2 := he.cell HCd.out; have e3 := he.cell HCk.out; have e5 := he.cell HCq.out; have e4 := HNeg.out; have e6 := HMul.out; have e7 := HWn.out; go_simp; rfl); simp only [Act.put, List.setIfInBounds_toArray, List.set_cons_zero, List.set_cons_succ])
                  (refine LexW.pure (v := ?_) rfl rfl (fun w1 he => ?_) ?_; rotate_left; ( have e1 := he.cell HCr.out; have e2 := he.cell HCd.out; have e3 := he.cell HCk.out; have e5 := he.cell HCq.out; have e4 := HNeg.out; have e6 := HMul.out; have e7 := HWn.out; go_simp; rfl); simp only [Act.put, List.setIfInBounds_toArray, List.set_cons_zero, List.set_cons_succ])
                  (refine LexW.pure (v := ?_) rfl rfl (fun w1 he => ?_) ?_; rotate_left; ( have e1 := he.cell HCr.out; have e2 := he.cell HCd.out; have e3 := he.cell HCk.out; have e5 := he.cell HCq.out; have e4 := HNeg.out; have e6 := HMul.out; have e7 := HWn.out; go_simp; rfl); simp only [Act.put, List.setIfInBounds_toArray, List.set_cons_zero, List.set_cons_succ])
                  (refine LexW.pure (v := ?_) rfl rfl (fun w1 he => ?_) ?_; rotate_left; ( have e1 := he.cell HCr.out; have e2 := he.cell HCd.out; have e3 := he.cell HCk.out; have e5 := he.cell HCq.out; have e4 := HNeg.out; have e6 := HMul.out; have e7 := HWn.out; go_simp; rfl); simp only [Act.put, List.setIfInBounds_toArray, List.set_cons_zero, List.set_cons_succ])
                  (refine LexW.pure (v := ?_) rfl rfl (fun w1 he => ?_) ?_; rotate_left; ( have e1 := he.cell HCr.out; have e2 := he.cell HCd.out; have e3 := he.cell HCk.out; have e5 := he.cell HCq.out; have e4 := HNeg.out; have e6 := HMul.out; have e7 := HWn.out; go_simp; rfl); simp only [Act.put, List.setIfInBounds_toArray, List.set_cons_zero, List.set_cons_succ])
                  (refine LexW.pure (v := ?_) rfl rfl (fun w1 he => ?_) ?_; rotate_left; ( have e1 := he.cell HCr.out; have e2 := he.cell HCd.out; have e3 := he.cell HCk.out; have e5 := he.cell HCq.out; have e4 := HNeg.out; have e6 := HMul.out; have e7 := HWn.out; go_simp; rfl); simp only [Act.put, List.setIfInBounds_toArray, List.set_cons_zero, List.set_cons_succ])
                  (refine LexW.pure (v := ?_) rfl rfl (fun w1 he => ?_) ?_; rotate_left; ( have e1 := he.cell HCr.out; have e2 := he.cell HCd.out; have e3 := he.cell HCk.out; have e5 := he.cell HCq.out; have e4 := HNeg.out; have e6 := HMul.out; have e7 := HWn.out; go_simp; rfl); simp only [Act.put, List.setIfInBounds_toArray, List.set_cons_zero, List.set_cons_succ])
                  (refine LexW.pure (v := ?_) rfl rfl (fun w1 he => ?_) ?_; rotate_left; ( have e1 := he.cell HCr.out; have e2 := he.cell HCd.out; have e3 := he.cell HCk.out; have e5 := he.cell HCq.out; have e4 := HNeg.out; have e6 := HMul.out; have e7 := HWn.out; go_simp; rfl); simp only [Act.put, List.setIfInBounds_toArray, List.set_cons_zero, List.set_cons_succ])
                  (refine LexW.pure (v := ?_) rfl rfl (fun w1 he => ?_) ?_; rotate_left; ( have e1 := he.cell HCr.out; have e2 := he.cell HCd.out; have e3 := he.cell HCk.out; have e5 := he.cell HCq.out; have e4 := HNeg.out; have e6 := HMul.out; have e7 := HWn.out; go_simp; rfl); simp only [Act.put, List.setIfInBounds_toArray, List.set_cons_zero, List.set_cons_succ])
                  (refine LexW.pure (v := ?_) rfl rfl (fun w1 he => ?_) ?_; rotate_left; ( have e1 := he.cell HCr.out; have e2 := he.cell HCd.out; have e3 := he.cell HCk.out; have e5 := he.cell HCq.out; have e4 := HNeg.out; have e6 := HMul.out; have e7 := HWn.out; go_simp; rfl); simp only [Act.put, List.setIfInBounds_toArray, List.set_cons_zero, List.set_cons_succ])
                  (refine LexW.pure (v := ?_) rfl rfl (fun w1 he => ?_) ?_; rotate_left; ( have e1 := he.cell HCr.out; have e2 := he.cell HCd.out; have e3 := he.cell HCk.out; have e5 := he.cell HCq.out; have e4 := HNeg.out; have e6 := HMul.out; have e7 := HWn.out; go_simp; rfl); simp only [Act.put, List.setIfInBounds_toArray, List.set_cons_zero, List.set_cons_succ])
                  (refine LexW.pure (v := ?_) rfl rfl (fun w1 he => ?_) ?_; rotate_left; ( have e1 := he.cell HCr.out; have e2 := he.cell HCd.out; have e3 := he.cell HCk.out; have e5 := he.cell HCq.out; have e4 := HNeg.out; have e6 := HMul.out; have e7 := HWn.out; go_simp; rfl); simp only [Act.put, List.setIfInBounds_toArray, List.set_cons_zero, List.set_cons_succ])
                  (refine LexW.pure (v := ?_) rfl rfl (fun w1 he => ?_) ?_; rotate_left; ( have e1 := he.cell HCr.out; have e2 := he.cell HCd.out; have e3 := he.cell HCk.out; have e5 := he.cell HCq.out; have e4 := HNeg.out; have e6 := HMul.out; have e7 := HWn.out; go_simp; rfl); simp only [Act.put, List.setIfInBounds_toArray, List.set_cons_zero, List.set_cons_succ])
                  (refine LexW.pure (v := ?_) rfl rfl (fun w1 he => ?_) ?_; rotate_left; ( have e1 := he.cell HCr.out; have e2 := he.cell HCd.out; have e3 := he.cell HCk.out; have e5 := he.cell HCq.out; have e4 := HNeg.out; have e6 := HMul.out; have e7 := HWn.out; go_simp; rfl); simp only [Act.put, List.setIfInBounds_toArray, List.set_cons_zero, List.set_cons_succ])
                  (refine LexW.pure (v := ?_) rfl rfl (fun w1 he => ?_) ?_; rotate_left; ( have e1 := he.cell HCr.out; have e2 := he.cell HCd.out; have e3 := he.cell HCk.out; have e5 := he.cell HCq.out; have e4 := HNeg.out; have e6 := HMul.out; have e7 := HWn.out; go_simp; rfl); simp only [Act.put, List.setIfInBounds_toArray, List.set_cons_zero, List.set_cons_succ])
                  (refine LexW.pure (v := ?_) rfl rfl (fun w1 he => ?_) ?_; rotate_left; ( have e1 := he.cell HCr.out; have e2 := he.cell HCd.out; have e3 := he.cell HCk.out; have e5 := he.cell HCq.out; have e4 := HNeg.out; have e6 := HMul.out; have e7 := HWn.out; go_simp; rfl); simp only [Act.put, List.setIfInBounds_toArray, List.set_cons_zero, List.set_cons_succ])
                  (refine LexW.pure (v := ?_) rfl rfl (fun w1 he => ?_) ?_; rotate_left; ( have e1 := he.cell HCr.out; have e2 := he.cell HCd.out; have e3 := he.cell HCk.out; have e5 := he.cell HCq.out; have e4 := HNeg.out; have e6 := HMul.out; have e7 := HWn.out; go_simp; rfl); simp only [Act.put, List.setIfInBounds_toArray, List.set_cons_zero, List.set_cons_succ])
                  (refine LexW.pure (v := ?_) rfl rfl (fun w1 he => ?_) ?_; rotate_left; ( have e1 := he.cell HCr.out; have e2 := he.cell HCd.out; have e3 := he.cell HCk.out; have e5 := he.cell HCq.out; have e4 := HNeg.out; have e6 := HMul.out; have e7 := HWn.out; go_simp; rfl); simp only [Act.put, List.setIfInBounds_toArray, List.set_cons_zero, List.set_cons_succ])
                  (refine LexW.pure (v := ?_) rfl rfl (fun w1 he => ?_) ?_; rotate_left; ( have e1 := he.cell HCr.out; have e2 := he.cell HCd.out; have e3 := he.cell HCk.out; have e5 := he.cell HCq.out; have e4 := HNeg.out; have e6 := HMul.out; have e7 := HWn.out; go_simp; rfl); simp only [Act.put, List.setIfInBounds_toArray, List.set_cons_zero, List.set_cons_succ])
                  (refine LexW.pure (v := ?_) rfl rfl (fun w1 he => ?_) ?_; rotate_left; ( have e1 := he.cell HCr.out; have e2 := he.cell HCd.out; have e3 := he.cell HCk.out; have e5 := he.cell HCq.out; have e4 := HNeg.out; have e6 := HMul.out; have e7 := HWn.out; go_simp; rfl); simp only [Act.put, List.setIfInBounds_toArray, List.set_cons_zero, List.set_cons_succ])
                  (refine LexW.pure (v := ?_) rfl rfl (fun w1 he => ?_) ?_; rotate_left; ( have e1 := he.cell HCr.out; have e2 := he.cell HCd.out; have e3 := he.cell HCk.out; have e5 := he.cell HCq.out; have e4 := HNeg.out; have e6 := HMul.out; have e7 := HWn.out; go_simp; rfl); simp only [Act.put, List.setIfInBounds_toArray, List.set_cons_zero, List.set_cons_succ])
                  (refine LexW.pure (v := ?_) rfl rfl (fun w1 he => ?_) ?_; rotate_left; ( have e1 := he.cell HCr.out; have e2 := he.cell HCd.out; have e3 := he.cell HCk.out; have e5 := he.cell HCq.out; have e4 := HNeg.out; have e6 := HMul.out; have e7 := HWn.out; go_simp; rfl); simp only [Act.put, List.setIfInBounds_toArray, List.set_cons_zero, List.set_cons_succ])
                  (refine LexW.call (f := ?_) (args := ?_) rfl rfl (fun w1 => ?_) (fun w1 he hdep => ?_) ?_; rotate_left 2; (go_simp; refine ⟨?_, ?_⟩ <;> rfl); ( rw [HIV.out]; exact c_inv p xd w1 (by omega) (by omega) hbd.1 hbd.2); simp only [Act.put, List.setIfInBounds_toArray, List.set_cons_zero, List.set_cons_succ])
                  (refine LexW.pure (v := ?_) rfl rfl (fun w1 he => ?_) ?_; rotate_left; ( have e1 := he.cell HCr.out; have e2 := he.cell HCd.out; have e3 := he.cell HCk.out; have e5 := he.cell HCq.out; have e4 := HNeg.out; have e6 := HMul.out; have e7 := HWn.out; go_simp; rfl); simp only [Act.put, List.setIfInBounds_toArray, List.set_cons_zero, List.set_cons_succ])
                  (refine LexW.callR (f := ?_) (args := ?_) rfl rfl (fun w1 => ?_) (fun w1 he hdep => ?_) (fun v hv => ?_); rotate_left 2; (go_simp; refine ⟨?_, ?_⟩ <;> rfl); ( refine (c_plus p _ _ m _ _ (nthR C r) (nthR C j) (-xr * iv) w1 (by omega) (by omega) hkk (by omega) (HRr.out.ext he) (HRd.out.ext he) HGr.out HGd.out).mono ?_; rintro e w2 ⟨g2, rc2, rfl, ho, x2⟩; exact ⟨_, rfl, x2, g2, rc2, rfl, ho.mono he.size⟩); simp only [Act.put, List.setIfInBounds_toArray, List.set_cons_zero, List.set_cons_succ])
                  obtain ⟨_, g107, c107, rfl, _⟩ := hv
                  (refine LexW.pure (v := ?_) rfl rfl (fun w1 he => ?_) ?_; rotate_left; ( have e1 := he.cell HCr.out; have e2 := he.cell HCd.out; have e3 := he.cell HCk.out; have e5 := he.cell HCq.out; have e4 := HNeg.out; have e6 := HMul.out; have e7 := HWn.out; go_simp; rfl); simp only [Act.put, List.setIfInBounds_toArray, List.set_cons_zero, List.set_cons_succ])
                  refine LexW.nil (fun w3 he hkn2 => ?_)
                  obtain ⟨_, _, q107, r107⟩ : (SPred.ownS wr.drew.heap.size m (plusL p (nthR C r) (nthR C j) (-xr * iv) m)).holds (.slice (some ⟨g107, 0, none⟩) m c107) w3 := hkn2 (29, _) (by simp)
                  cases q107
                  have R107 := Lib.hid r107
                  have HE := Lib.hid he
                  clear he hkn2 r107
                  have ow4 := (HCo.out.ext (ext_drew wr)).ext HE.out
                  obtain ⟨ay, cy, hcy, _⟩ := ow4.at hrn
                  have hfy := ow4.frozen r
                  have HB := Lib.hid (HCo.out.base_of g rfl)
                  clear ow4
                  go_wp2_with (fail)
                  go_roundw
                  case rel => exact ⟨r + 1, C.set r (plusL p (nthR C r) (nthR C j) (-xr * iv) m), by omega, by omega, by go_num, Lib.hid (by
                    rw [elimS, if_pos (by omega), ← HC.out]
                    unfold elimN
                    rw [if_pos (by omega), ← HCR.out, ← HCK.out, ← HXR.out, ← HXD.out, ← HIV.out]), Lib.hid ((HCo.out.ext (ext_drew wr)).put HE.out (HCe.out.trans (ext_drew wr)).size R107.out hrn), Lib.hid ((HCe.out.trans ((ext_drew wr).trans HE.out)).setCell HB.out.1 _)⟩
                  case measure => simp [intOf]; omega
                · obtain rfl : r = n := by omega
                  go_wp2_with (fail)
                  go_roundw
                  case rel => exact ⟨j + 1, C, o2, by omega, by go_num, rfl, Lib.hid (by
                    rw [detS, HS.out, HO2.out]
                    simp only
                    rw [HPiv.out, if_neg (by rw [HRL.out]; omega), ← HSr.out, HC.out, HPV.out, HSK.out]
                    unfold elimL
                    rw [HSL.out]
                    rw [if_pos rfl]), HCo, HCe⟩
                  case measure => simp [intOf]; omega
            · have hjk : ((j : Int) != (k : Int)) = true := by simp; omega
              clear hcj hcjk
              obtain ⟨ad, cd, aj2, cj2, hcd, hcj2, hod, hoj2, hsw⟩ := HOwn.out.swap hkn hjn
              rw [ownR_put_len HRG.out HRL.out hkn, ownR_put_len HRG.out HRL.out hjn] at hsw
              rw [ownR_put_len HRG.out HRL.out hkn] at hcd hod
              rw [ownR_put_len HRG.out HRL.out hjn] at hcj2 hoj2
              have hcj2k := hoj2.rd
              obtain ⟨bj2, oj2, rfl, hcjk2⟩ := hoj2.rd.2 k hkm
              have hfd := HOwn.out.frozen k
              have hfj := HOwn.out.frozen j
              have HSw := Lib.hid hsw
              clear hod hoj2 hsw hcj2k
              have HNM := Lib.hid (HOwn.out.base_of g rfl)
              have hne : ¬ j = k := hkj2
              go_wp2_with (fail)
              clear hcjk2
              go_region
              obtain ⟨W1, hW1⟩ : ∃ W1, W1 = ((wr.setCell ⟨g, k, none⟩ (.slice (some ⟨bj2, oj2, none⟩) m cj2)).setCell ⟨g, j, none⟩ (.slice ad m cd)).drew := ⟨_, rfl⟩
              have HOw0 : Hid (OwnR w.heap.size W1 (some ⟨g, 0, none⟩) n rc (swapL R k j)) := by rw [hW1]; exact Lib.hid (HSw.out.ext (ext_drew _))
              have HE0 : Hid (Ext w W1) := by rw [hW1]; exact Lib.hid (((HExt.out.setCell HNM.out.1 _).setCell HNM.out.1 _).trans (ext_drew _))
              rw [← hW1]
              clear hW1 hcd hcj2 hfd hfj HSw
              go_wp2_with (fail)
              refine Calls.mono (c_num p (-o) W1 (by omega) (by omega)) ?_
              rintro e W2 ⟨rfl, g2⟩
              have HOw := Lib.hid (HOw0.out.ext g2)
              have HE2 := Lib.hid (HE0.out.trans g2)
              clear g2 HOw0 HE0
              obtain ⟨oz, hoz⟩ : ∃ x, x = (-o) % p := ⟨_, rfl⟩
              have hozb : 0 ≤ oz ∧ oz < p := by rw [hoz]; exact ⟨Int.emod_nonneg _ (by omega), Int.emod_lt_of_pos _ (by omega)⟩
              rw [← hoz]
              have HOZ := Lib.hid hoz
              clear hoz
              have HSG := Lib.hid (swapL_good HRG.out (show k < R.length by rw [HRL.out]; exact hkn) (show j < R.length by rw [HRL.out]; exact hjn))
              have HSL := Lib.hid (show (swapL R k j).length = n by rw [swapL_len, HRL.out])
              have HSK := Lib.hid (swapL_at (show k < R.length by rw [HRL.out]; exact hkn) (show j < R.length by rw [HRL.out]; exact hjn))
              obtain ⟨Sr, hSr⟩ : ∃ S, S = swapL R k j := ⟨_, rfl⟩
              have HSr := Lib.hid hSr
              rw [← hSr] at HOw HSG HSL HSK
              clear hSr
              obtain ⟨pv, hpv⟩ : ∃ x, x = nth (nthR Sr k) k := ⟨_, rfl⟩
              have hpb2 : 0 ≤ pv ∧ pv < p := by rw [hpv]; exact (HSG.out k (by rw [HSL.out]; exact hkn)).2 k hkm
              have HPV := Lib.hid hpv
              obtain ⟨ax, cx, hcx, hox⟩ := HOw.out.at hkn
              rw [ownR_put_len HSG.out HSL.out hkn] at hcx hox
              obtain ⟨bx, ox, rfl, hck⟩ := hox.rd.2 k hkm
              rw [← hpv] at hck
              have hob : 0 ≤ oz ∧ oz < p := by exact hozb
              have hmm := mul_bd (x := oz) (y := pv) (p := p) (by omega) hob.1 hob.2 hpb2.1 hpb2.2
              have hwm : wrap64 (oz * pv) = oz * pv := by unfold wrap64; omega
              have hwk : wrap64 ((k : Int) + 1) = (k : Int) + 1 := by unfold wrap64; omega
              clear hpv hox
              go_wp2_with (fail)
              refine Calls.mono (c_num p (oz * pv) W2 (by omega) (by omega)) ?_
              rintro e W3 ⟨rfl, g3⟩
              obtain ⟨o2, ho2⟩ : ∃ x, x = (oz * pv) % p := ⟨_, rfl⟩
              rw [← ho2]
              have HO2 := Lib.hid ho2
              clear ho2 hwm hmm hob
              have HOw3 := Lib.hid (HOw.out.ext g3)
              have HE3 := Lib.hid (HE2.out.trans g3)
              clear g3 hcx hck HOw HE2
              go_wp2_with (fail)
              go_loopw [9] (fun i wr => ∃ (r : Nat) (C : List (List Int)), k + 1 ≤ r ∧ r ≤ n ∧ i = .int .i64 r ∧ Hid (C = elimS p m k Sr r) ∧ Hid (OwnR w.heap.size wr (some ⟨g, 0, none⟩) n rc C) ∧ Hid (Ext w wr)) (fun i _ => n - (intOf i).toNat)
              case atStart => exact ⟨k + 1, Sr, Nat.le_refl _, hkn, by go_num, Lib.hid (elimS_start _ (Nat.le_refl _)).symm, HOw3, HE3⟩
              case round =>
                obtain ⟨r, C, hkr, hr, rfl, HC, HCo, HCe⟩ := hrel
                clear HOw3 HE3
                by_cases hrn : r < n
                · have HCg : Hid (RowsG p m C) := Lib.hid (by rw [HC.out]; exact elimS_good (by omega) HSG.out r (by rw [HSL.out]; omega))
                  have HCl : Hid (C.length = n) := Lib.hid HCo.out.1
                  have HCK : Hid (nthR C k = nthR Sr k) := Lib.hid (by rw [HC.out, elimS_nth _ (by rw [HSL.out]; omega), if_pos (by omega)]; unfold elimN; rw [if_neg (by omega)])
                  have HCR : Hid (nthR C r = nthR Sr r) := Lib.hid (by rw [HC.out, elimS_nth _ (by rw [HSL.out]; omega), if_neg (by omega)])
                  obtain ⟨ar, cr, hcr, hor⟩ := HCo.out.at hrn
                  rw [ownR_put_len HCg.out HCl.out hrn] at hcr hor
                  obtain ⟨ad, cd, hcd, hod⟩ := HCo.out.at hkn
                  rw [ownR_put_len HCg.out HCl.out hkn] at hcd hod
                  obtain ⟨br, or, rfl, hcrk⟩ := hor.rd.2 k hkm
                  obtain ⟨bd, od, rfl, hcdk⟩ := hod.rd.2 k hkm
                  have HRr := Lib.hid (hor.rd.ext (ext_drew wr))
                  have HRd := Lib.hid (hod.rd.ext (ext_drew wr))
                  have HCr := Lib.hid ((ext_drew wr).cell hcr)
                  have HCd := Lib.hid ((ext_drew wr).cell hcd)
                  have HCk := Lib.hid ((ext_drew wr).cell hcrk)
                  have HCq := Lib.hid ((ext_drew wr).cell hcdk)
                  have HGr := Lib.hid (HCg.out r (by rw [HCl.out]; exact hrn))
                  have HGd := Lib.hid (HCg.out k (by rw [HCl.out]; exact hkn))
                  obtain ⟨xr, hxr⟩ : ∃ x, x = nth (nthR C r) k := ⟨_, rfl⟩
                  obtain ⟨xd, hxd⟩ : ∃ x, x = nth (nthR C k) k := ⟨_, rfl⟩
                  have hbr : 0 ≤ xr ∧ xr < p := by rw [hxr]; exact HGr.out.2 k hkm
                  have hbd : 0 ≤ xd ∧ xd < p := by rw [hxd]; exact HGd.out.2 k hkm
                  obtain ⟨iv, hiv⟩ : ∃ x, x = invN p xd := ⟨_, rfl⟩
                  have hbi : 0 ≤ iv ∧ iv < p := by rw [hiv]; exact invN_bd (by omega)
                  have hmi := mul_bd (x := xr) (y := iv) (p := p) (by omega) hbr.1 hbr.2 hbi.1 hbi.2
                  have hmi2 := mul_small hp13 hbr.1 hbr.2 hbi.1 hbi.2
                  have hnm : -xr * iv = -(xr * iv) := Int.neg_mul _ _
                  have HNeg : Hid (IntKind.i64.wrap (-xr) = -xr) := Lib.hid (IntWalk.i64_in _ (by omega))
                  have HMul : Hid (IntKind.i64.wrap (-xr * iv) = -xr * iv) := Lib.hid (IntWalk.i64_in _ (by omega))
                  have HWn : Hid (wrap64 (-xr * iv) = -xr * iv) := Lib.hid (by unfold wrap64; omega)
                  have hkk : -1000 ≤ -xr * iv ∧ -xr * iv ≤ 1000 := by omega
                  have HXR := Lib.hid hxr
                  have HXD := Lib.hid hxd
                  have HIV := Lib.hid hiv
                  rw [← hxr] at HCk
                  rw [← hxd] at HCq
                  clear hor hod hcr hcd hcrk hcdk hxr hxd hiv hnm
                  go_wp2_with (fail)
                  refine wp_region_lex_tail 31 [(27, .val (.int .i64 iv)), (29, .ownS wr.drew.heap.size m (plusL p (nthR C r) (nthR C k) (-xr * iv) m))] (by kernel_rfl) (by kernel_rfl) ?_
                  simp only [List.take, List.drop]
                  (refine LexW.pure (v := ?_) rfl rfl (fun w1 he => ?_) ?_; rotate_left; ( have e1 := he.cell HCr.out; have e2 := he.cell HCd.out; have e3 := he.cell HCk.out; have e5 := he.cell HCq.out; have e4 := HNeg.out; have e6 := HMul.out; have e7 := HWn.out; go_simp; rfl); simp only [Act.put, List.setIfInBounds_toArray, List.set_cons_zero, List.set_cons_succ])
                  (refine LexW.pure (v := ?_) rfl rfl (fun w1 he => ?_) ?_; rotate_left; ( have e1 := he.cell HCr.out; have e2 := he.cell HCd.out; have e3 := he.cell HCk.out; have e5 := he.cell HCq.out; have e4 := HNeg.out; have e6 := HMul.out; have e7 := HWn.out; go_simp; rfl); simp only [Act.put, List.setIfInBounds_toArray, List.set_cons_zero, List.set_cons_succ])
                  (refine LexW.pure (v := ?_) rfl rfl (fun w1 he => ?_) ?_; rotate_left; ( have e1 := he.cell HCr.out; have e2 := he.cell HCd.out; have e3 := he.cell HCk.out; have e5 := he.cell HCq.out; have e4 := HNeg.out; have e6 := HMul.out; have e7 := HWn.out; go_simp; rfl); simp only [Act.put, List.setIfInBounds_toArray, List.set_cons_zero, List.set_cons_succ])
                  (refine LexW.pure (v := ?_) rfl rfl (fun w1 he => ?_) ?_; rotate_left; ( have e1 := he.cell HCr.out; have e2 := he.cell HCd.out; have e3 := he.cell HCk.out; have e5 := he.cell HCq.out; have e4 := HNeg.out; have e6 := HMul.out; have e7 := HWn.out; go_simp; rfl); simp only [Act.put, List.setIfInBounds_toArray, List.set_cons_zero, List.set_cons_succ])
                  (refine LexW.pure (v := ?_) rfl rfl (fun w1 he => ?_) ?_; rotate_left; ( have e1 := he.cell HCr.out; have e2 := he.cell HCd.out; have e3 := he.cell HCk.out; have e5 := he.cell HCq.out; have e4 := HNeg.out; have e6 := HMul.out; have e7 := HWn.out; go_simp; rfl); simp only [Act.put, List.setIfInBounds_toArray, List.set_cons_zero, List.set_cons_succ])
                  (refine LexW.pure (v := ?_) rfl rfl (fun w1 he => ?_) ?_; rotate_left; ( have e1 := he.cell HCr.out; have e2 := he.cell HCd.out; have e3 := he.cell HCk.out; have e5 := he.cell HCq.out; have e4 := HNeg.out; have e6 := HMul.out; have e7 := HWn.out; go_simp; rfl); simp only [Act.put, List.setIfInBounds_toArray, List.set_cons_zero, List.set_cons_succ])
                  (refine LexW.pure (v := ?_) rfl rfl (fun w1 he => ?_) ?_; rotate_left; ( have e1 := he.cell HCr.out; have e2 := he.cell HCd.out; have e3 := he.cell HCk.out; have e5 := he.cell HCq.out; have e4 := HNeg.out; have e6 := HMul.out; have e7 := HWn.out; go_simp; rfl); simp only [Act.put, List.setIfInBounds_toArray, List.set_cons_zero, List.set_cons_succ])
                  (refine LexW.pure (v := ?_) rfl rfl (fun w1 he => ?_) ?_; rotate_left; ( have e1 := he.cell HCr.out; have e2 := he.cell HCd.out; have e3 := he.cell HCk.out; have e5 := he.cell HCq.out; have e4 := HNeg.out; have e6 := HMul.out; have e7 := HWn.out; go_simp; rfl); simp only [Act.put, List.setIfInBounds_toArray, List.set_cons_zero, List.set_cons_succ])
                  (refine LexW.pure (v := ?_) rfl rfl (fun w1 he => ?_) ?_; rotate_left; ( have e1 := he.cell HCr.out; have e2 := he.cell HCd.out; have e3 := he.cell HCk.out; have e5 := he.cell HCq.out; have e4 := HNeg.out; have e6 := HMul.out; have e7 := HWn.out; go_simp; rfl); simp only [Act.put, List.setIfInBounds_toArray, List.set_cons_zero, List.set_cons_succ])
                  (refine LexW.pure (v := ?_) rfl rfl (fun w1 he => ?_) ?_; rotate_left; ( have e1 := he.cell HCr.out; have e2 := he.cell HCd.out; have e3 := he.cell HCk.out; have e5 := he.cell HCq.out; have e4 := HNeg.out; have e6 := HMul.out; have e7 := HWn.out; go_simp; rfl); simp only [Act.put, List.setIfInBounds_toArray, List.set_cons_zero, List.set_cons_succ])
                  (refine LexW.pure (v := ?_) rfl rfl (fun w1 he => ?_) ?_; rotate_left; ( have e1 := he.cell HCr.out; have e2 := he.cell HCd.out; have e3 := he.cell HCk.out; have e5 := he.cell HCq.out; have e4 := HNeg.out; have e6 := HMul.out; have e7 := HWn.out; go_simp; rfl); simp only [Act.put, List.setIfInBounds_toArray, List.set_cons_zero, List.set_cons_succ])
                  (refine LexW.pure (v := ?_) rfl rfl (fun w1 he => ?_) ?_; rotate_left; ( have e1 := he.cell HCr.out; have e2 := he.cell HCd.out; have e3 := he.cell HCk.out; have e5 := he.cell HCq.out; have e4 := HNeg.out; have e6 := HMul.out; have e7 := HWn.out; go_simp; rfl); simp only [Act.put, List.setIfInBounds_toArray, List.set_cons_zero, List.set_cons_succ])
                  (refine LexW.pure (v := ?_) rfl rfl (fun w1 he => ?_) ?_; rotate_left; ( have e1 := he.cell HCr.out; have e2 := he.cell HCd.out; have e3 := he.cell HCk.out; have e5 := he.cell HCq.out; have e4 := HNeg.out; have e6 := HMul.out; have e7 := HWn.out; go_simp; rfl); simp only [Act.put, List.setIfInBounds_toArray, List.set_cons_zero, List.set_cons_succ])
                  (refine LexW.pure (v := ?_) rfl rfl (fun w1 he => ?_) ?_; rotate_left; ( have e1 := he.cell HCr.out; have e2 := he.cell HCd.out; have e3 := he.cell HCk.out; have e5 := he.cell HCq.out; have e4 := HNeg.out; have e6 := HMul.out; have e7 := HWn.out; go_simp; rfl); simp only [Act.put, List.setIfInBounds_toArray, List.set_cons_zero, List.set_cons_succ])
                  (refine LexW.pure (v := ?_) rfl rfl (fun w1 he => ?_) ?_; rotate_left; ( have e1 := he.cell HCr.out; have e2 := he.cell HCd.out; have e3 := he.cell HCk.out; have e5 := he.cell HCq.out; have e4 := HNeg.out; have e6 := HMul.out; have e7 := HWn.out; go_simp; rfl); simp only [Act.put, List.setIfInBounds_toArray, List.set_cons_zero, List.set_cons_succ])
                  (refine LexW.pure (v := ?_) rfl rfl (fun w1 he => ?_) ?_; rotate_left; ( have e1 := he.cell HCr.out; have e2 := he.cell HCd.out; have e3 := he.cell HCk.out; have e5 := he.cell HCq.out; have e4 := HNeg.out; have e6 := HMul.out; have e7 := HWn.out; go_simp; rfl); simp only [Act.put, List.setIfInBounds_toArray, List.set_cons_zero, List.set_cons_succ])
                  (refine LexW.pure (v := ?_) rfl rfl (fun w1 he => ?_) ?_; rotate_left; ( have e1 := he.cell HCr.out; have e2 := he.cell HCd.out; have e3 := he.cell HCk.out; have e5 := he.cell HCq.out; have e4 := HNeg.out; have e6 := HMul.out; have e7 := HWn.out; go_simp; rfl); simp only [Act.put, List.setIfInBounds_toArray, List.set_cons_zero, List.set_cons_succ])
                  (refine LexW.pure (v := ?_) rfl rfl (fun w1 he => ?_) ?_; rotate_left; ( have e1 := he.cell HCr.out; have e2 := he.cell HCd.out; have e3 := he.cell HCk.out; have e5 := he.cell HCq.out; have e4 := HNeg.out; have e6 := HMul.out; have e7 := HWn.out; go_simp; rfl); simp only [Act.put, List.setIfInBounds_toArray, List.set_cons_zero, List.set_cons_succ])
                  (refine LexW.pure (v := ?_) rfl rfl (fun w1 he => ?_) ?_; rotate_left; ( have e1 := he.cell HCr.out; have e2 := he.cell HCd.out; have e3 := he.cell HCk.out; have e5 := he.cell HCq.out; have e4 := HNeg.out; have e6 := HMul.out; have e7 := HWn.out; go_simp; rfl); simp only [Act.put, List.setIfInBounds_toArray, List.set_cons_zero, List.set_cons_succ])
                  (refine LexW.pure (v := ?_) rfl rfl (fun w1 he => ?_) ?_; rotate_left; ( have e1 := he.cell HCr.out; have e2 := he.cell HCd.out; have e3 := he.cell HCk.out; have e5 := he.cell HCq.out; have e4 := HNeg.out; have e6 := HMul.out; have e7 := HWn.out; go_simp; rfl); simp only [Act.put, List.setIfInBounds_toArray, List.set_cons_zero, List.set_cons_succ])
                  (refine LexW.pure (v := ?_) rfl rfl (fun w1 he => ?_) ?_; rotate_left; ( have e1 := he.cell HCr.out; have e2 := he.cell HCd.out; have e3 := he.cell HCk.out; have e5 := he.cell HCq.out; have e4 := HNeg.out; have e6 := HMul.out; have e7 := HWn.out; go_simp; rfl); simp only [Act.put, List.setIfInBounds_toArray, List.set_cons_zero, List.set_cons_succ])
                  (refine LexW.pure (v := ?_) rfl rfl (fun w1 he => ?_) ?_; rotate_left; ( have e1 := he.cell HCr.out; have e2 := he.cell HCd.out; have e3 := he.cell HCk.out; have e5 := he.cell HCq.out; have e4 := HNeg.out; have e6 := HMul.out; have e7 := HWn.out; go_simp; rfl); simp only [Act.put, List.setIfInBounds_toArray, List.set_cons_zero, List.set_cons_succ])
                  (refine LexW.pure (v := ?_) rfl rfl (fun w1 he => ?_) ?_; rotate_left; ( have e1 := he.cell HCr.out; have e2 := he.cell HCd.out; have e3 := he.cell HCk.out; have e5 := he.cell HCq.out; have e4 := HNeg.out; have e6 := HMul.out; have e7 := HWn.out; go_simp; rfl); simp only [Act.put, List.setIfInBounds_toArray, List.set_cons_zero, List.set_cons_succ])
                  (refine LexW.pure (v := ?_) rfl rfl (fun w1 he => ?_) ?_; rotate_left; ( have e1 := he.cell HCr.out; have e2 := he.cell HCd.out; have e3 := he.cell HCk.out; have e5 := he.cell HCq.out; have e4 := HNeg.out; have e6 := HMul.out; have e7 := HWn.out; go_simp; rfl); simp only [Act.put, List.setIfInBounds_toArray, List.set_cons_zero, List.set_cons_succ])
                  (refine LexW.pure (v := ?_) rfl rfl (fun w1 he => ?_) ?_; rotate_left; ( have e1 := he.cell HCr.out; have e2 := he.cell HCd.out; have e3 := he.cell HCk.out; have e5 := he.cell HCq.out; have e4 := HNeg.out; have e6 := HMul.out; have e7 := HWn.out; go_simp; rfl); simp only [Act.put, List.setIfInBounds_toArray, List.set_cons_zero, List.set_cons_succ])
                  (refine LexW.pure (v := ?_) rfl rfl (fun w1 he => ?_) ?_; rotate_left; ( have e1 := he.cell HCr.out; have e2 := he.cell HCd.out; have e3 := he.cell HCk.out; have e5 := he.cell HCq.out; have e4 := HNeg.out; have e6 := HMul.out; have e7 := HWn.out; go_simp; rfl); simp only [Act.put, List.setIfInBounds_toArray, List.set_cons_zero, List.set_cons_succ])
                  (refine LexW.pure (v := ?_) rfl rfl (fun w1 he => ?_) ?_; rotate_left; ( have e1 := he.cell HCr.out; have e2 := he.cell HCd.out; have e3 := he.cell HCk.out; have e5 := he.cell HCq.out; have e4 := HNeg.out; have e6 := HMul.out; have e7 := HWn.out; go_simp; rfl); simp only [Act.put, List.setIfInBounds_toArray, List.set_cons_zero, List.set_cons_succ])
                  (refine LexW.call (f := ?_) (args := ?_) rfl rfl (fun w1 => ?_) (fun w1 he hdep => ?_) ?_; rotate_left 2; (go_simp; refine ⟨?_, ?_⟩ <;> rfl); ( rw [HIV.out]; exact c_inv p xd w1 (by omega) (by omega) hbd.1 hbd.2); simp only [Act.put, List.setIfInBounds_toArray, List.set_cons_zero, List.set_cons_succ])
                  (refine LexW.pure (v := ?_) rfl rfl (fun w1 he => ?_) ?_; rotate_left; ( have e1 := he.cell HCr.out; have e2 := he.cell HCd.out; have e3 := he.cell HCk.out; have e5 := he.cell HCq.out; have e4 := HNeg.out; have e6 := HMul.out; have e7 := HWn.out; go_simp; rfl); simp only [Act.put, List.setIfInBounds_toArray, List.set_cons_zero, List.set_cons_succ])
                  (refine LexW.callR (f := ?_) (args := ?_) rfl rfl (fun w1 => ?_) (fun w1 he hdep => ?_) (fun v hv => ?_); rotate_left 2; (go_simp; refine ⟨?_, ?_⟩ <;> rfl); ( refine (c_plus p _ _ m _ _ (nthR C r) (nthR C k) (-xr * iv) w1 (by omega) (by omega) hkk (by omega) (HRr.out.ext he) (HRd.out.ext he) HGr.out HGd.out).mono ?_; rintro e w2 ⟨g2, rc2, rfl, ho, x2⟩; exact ⟨_, rfl, x2, g2, rc2, rfl, ho.mono he.size⟩); simp only [Act.put, List.setIfInBounds_toArray, List.set_cons_zero, List.set_cons_succ])
                  obtain ⟨_, g107, c107, rfl, _⟩ := hv
                  (refine LexW.pure (v := ?_) rfl rfl (fun w1 he => ?_) ?_; rotate_left; ( have e1 := he.cell HCr.out; have e2 := he.cell HCd.out; have e3 := he.cell HCk.out; have e5 := he.cell HCq.out; have e4 := HNeg.out; have e6 := HMul.out; have e7 := HWn.out; go_simp; rfl); simp only [Act.put, List.setIfInBounds_toArray, List.set_cons_zero, List.set_cons_succ])
                  refine LexW.nil (fun w3 he hkn2 => ?_)
                  obtain ⟨_, _, q107, r107⟩ : (SPred.ownS wr.drew.heap.size m (plusL p (nthR C r) (nthR C k) (-xr * iv) m)).holds (.slice (some ⟨g107, 0, none⟩) m c107) w3 := hkn2 (29, _) (by simp)
                  cases q107
                  have R107 := Lib.hid r107
                  have HE := Lib.hid he
                  clear he hkn2 r107
                  have ow4 := (HCo.out.ext (ext_drew wr)).ext HE.out
                  obtain ⟨ay, cy, hcy, _⟩ := ow4.at hrn
                  have hfy := ow4.frozen r
                  have HB := Lib.hid (HCo.out.base_of g rfl)
                  clear ow4
                  go_wp2_with (fail)
                  go_roundw
                  case rel => exact ⟨r + 1, C.set r (plusL p (nthR C r) (nthR C k) (-xr * iv) m), by omega, by omega, by go_num, Lib.hid (by
                    rw [elimS, if_pos (by omega), ← HC.out]
                    unfold elimN
                    rw [if_pos (by omega), ← HCR.out, ← HCK.out, ← HXR.out, ← HXD.out, ← HIV.out]), Lib.hid ((HCo.out.ext (ext_drew wr)).put HE.out (HCe.out.trans (ext_drew wr)).size R107.out hrn), Lib.hid ((HCe.out.trans ((ext_drew wr).trans HE.out)).setCell HB.out.1 _)⟩
                  case measure => simp [intOf]; omega
                · obtain rfl : r = n := by omega
                  go_wp2_with (fail)
                  go_roundw
                  case rel => exact ⟨k + 1, C, o2, by omega, by go_num, rfl, Lib.hid (by
                    rw [detS, HS.out, HO2.out]
                    simp only
                    rw [HPiv.out, if_neg (by rw [HRL.out]; omega), ← HSr.out, HC.out, HPV.out, HSK.out]
                    unfold elimL
                    rw [HSL.out]
                    rw [if_neg hne, ← HOZ.out]), HCo, HCe⟩
                  case measure => simp [intOf]; omega
        · obtain rfl : j = n := by omega
          have hjj : ((j : Int) == (j : Int)) = true := by simp
          have HPiv := Lib.hid (pivG_eq (rows := R) (k := k) (d := k) hkj (by rw [HRL.out]; exact Nat.le_refl _) HZ.out (.inl HRL.out.symm))
          have HDT := Lib.hid (show detL p m rows = 0 by
            have hnone : detS p m rows (k + 1) = none := by
              rw [detS, HS.out]
              simp only
              rw [HPiv.out, if_pos HRL.out.symm]
            have := detS_none hnone (j - (k + 1))
            rw [Nat.add_sub_cancel' (by omega)] at this
            unfold detL
            rw [HLN.out, this])
          go_wp2_with (fail)
          go_ret
          exact ⟨ret_int HDT.out.symm, HExt.out⟩
    · obtain rfl : k = n := by omega
      have HDT := Lib.hid (show detL p m rows = o by unfold detL; rw [HLN.out, HS.out])
      go_wp2_with (fail)
      go_ret
      exact ⟨ret_int HDT.out.symm, HExt.out⟩

set_option maxHeartbeats 1000000 in
theorem c_checkSquare_ok (p : Int) (a : Option Addr) (n cap : Nat) (rows : List (List Int)) (w : World) (hpr : primeB p = true) (hn0 : 0 < n) (hn : n ≤ 16) (hx : RdR w a n rows) (hg : ∀ i, i < n → Good p n (nthR rows i)) :
    Calls Try.prog 36 #[.int .i64 p, .slice a n cap] w fun e w' => e = .returned (.int .i64 0) ∧ Ext w w' := by
  have hcb : ((0 : Int) != 0) = false := by simp
  obtain ⟨b0, o0, a0, c0, rfl, hc0, _⟩ := hx.2 0 hn0
  rw [(hg 0 hn0).1, Nat.add_zero] at hc0
  have hmm : ((n : Int) != (n : Int)) = false := by simp
  have HM := Lib.hid (matB_good hx.1 hn0 hn (by omega) hn hg)
  go_enter Try.func36, Try.ntmps36
  go_wp2_with (fail)
  refine Calls.mono (c_checkMatrices_ok p _ 1 _ (fun _ => .slice (some ⟨b0, o0, none⟩) n cap) _ hpr (by omega) (fun i hi => ⟨w.heap.size, 0, rfl, by
    obtain rfl : i = 0 := by omega
    simp⟩) (fun i hi => ⟨_, n, cap, rows, rfl, by omega, fun j hj => by rw [(hg j hj).1]; omega, hx.ext (ext_alloc _ _), HM.out⟩)) ?_
  rintro e w1 ⟨rfl, g1⟩
  have G1 := Lib.hid ((ext_alloc w _).trans g1)
  have hc0' := G1.out.cell hc0
  clear g1
  go_wp2_with (fail)
  go_ret
  exact ⟨rfl, G1.out⟩
set_option maxHeartbeats 1000000 in
theorem c_Determinant_ok (p : Int) (a : Option Addr) (n cap : Nat) (rows : List (List Int)) (w : World) (hpr : primeB p = true) (hn0 : 0 < n) (hn : n ≤ 16) (hx : RdR w a n rows) (hg : ∀ i, i < n → Good p n (nthR rows i)) :
    Calls Try.prog 19 #[.int .i64 p, .slice a n cap] w fun e w' => e = .returned (.tuple #[.int .i64 (detL p n rows), .int .i64 0]) ∧ Ext w w' := by
  have hcb : ((0 : Int) != 0) = false := by simp
  have HX := Lib.hid hx
  go_enter Try.func19, Try.ntmps19
  go_wp2_with (fail)
  refine Calls.mono (c_checkSquare_ok p a n cap rows w hpr hn0 hn hx hg) ?_
  rintro e w1 ⟨rfl, g1⟩
  go_wp2_with (fail)
  refine Calls.mono (c_det p a n cap n rows w1 hpr hn0 (Nat.le_refl _) (by omega) (HX.out.ext g1) (fun i hi => hg i (by rw [← HX.out.1]; exact hi))) ?_
  rintro e w2 ⟨rfl, g2⟩
  go_wp2_with (fail)
  go_ret2
  exact ⟨rfl, g1.trans g2⟩
end Go.Proofs.Ytnbhlabcecdbgaa

/-
  The listed functions AreDependent and VolumeOf.
  No condition.
-/
namespace Go.Proofs.Ytnbhlabcecdbgaa
set_option maxRecDepth 100000
open Go.RowKit

theorem basis_len {p : Int} {m : Nat} {rows : List (List Int)} (hp : primeB p = true) (hg : RowsG p m rows) : (basisL p m rows).length = rankL p m rows := by
  obtain ⟨_, c, h2⟩ := gaussS_red hp hg m (Nat.le_refl _)
  unfold basisL rankL
  rw [List.length_take, Nat.min_eq_left h2.dle]

set_option maxHeartbeats 400000 in
theorem c_AreDependent_bad (p : Int) (a : Option Addr) (d cap : Nat) (qs : List Int) (ax1 : Option Addr) (n1 cx1 : Nat) (xs1 : List (List Int)) (w : World) (hd : d ≤ 4194304) (hn1 : n1 ≤ 4194304) (hr1 : ∀ i, i < n1 → (nthR xs1 i).length ≤ 4194304) (hq : RdC w a d qs) (hx1 : RdR w ax1 n1 xs1) (hc : codeVR p qs xs1 ≠ 0) :
    Calls Try.prog 15 #[.agg #[.int .i64 p, .slice a d cap], .slice ax1 n1 cx1] w fun e w' => e = .returned (.tuple #[.bool false, .int .i64 (codeVR p qs xs1)]) ∧ Ext w w' := by
  have Hr := Lib.hid hr1
  have hcb : (codeVR p qs xs1 != 0) = true := by simp [hc]
  clear hc hr1
  go_enter Try.func15, Try.ntmps15
  go_wp2_with (go_at_call 27; refine (c_checkList p a d cap qs ax1 n1 cx1 xs1 _ hd hn1 Hr.out (hq.ext (ext_alloc _ _)) (hx1.ext (ext_alloc _ _))).mono ?_; rintro e w1 ⟨rfl, g1⟩)
  go_ret2
  exact ⟨rfl, (ext_alloc _ _).trans g1⟩
set_option maxHeartbeats 1000000 in
theorem c_AreDependent_ok (p : Int) (a : Option Addr) (d cap : Nat) (qs : List Int) (ax1 : Option Addr) (n1 cx1 : Nat) (xs1 : List (List Int)) (w : World) (hd : d ≤ 4194304) (hn1 : n1 ≤ 4096) (hr1 : ∀ i, i < n1 → (nthR xs1 i).length ≤ 4194304) (hq : RdC w a d qs) (hx1 : RdR w ax1 n1 xs1) (hc : codeVR p qs xs1 = 0) :
    Calls Try.prog 15 #[.agg #[.int .i64 p, .slice a d cap], .slice ax1 n1 cx1] w fun e w' => e = .returned (.tuple #[.bool (decide (rankL p d xs1 < n1)), .int .i64 0]) ∧ Ext w w' := by
  obtain ⟨hs, ha, _⟩ := codeVR_zero hc
  obtain ⟨hpr, hd1, hd6, hqb⟩ := space_of hs
  have hpb := prime_bd hpr
  rw [hq.1] at hd6 ha hd1
  have HG := Lib.hid (rows_good ha)
  have HPR := Lib.hid hpr
  have HC := Lib.hid hc
  have Hr := Lib.hid hr1
  have HBL := Lib.hid (basis_len hpr HG.out)
  have hcb : ((0 : Int) != 0) = false := by simp
  clear hc hr1 hs ha hpr hqb
  go_enter Try.func15, Try.ntmps15
  go_wp2_with (first | (go_at_call 27; refine (c_checkList p a d cap qs ax1 n1 cx1 xs1 _ hd (by omega) Hr.out (hq.ext (ext_alloc _ _)) (hx1.ext (ext_alloc _ _))).mono ?_; rintro e w1 ⟨rfl, g1⟩; rw [HC.out]; have hcc := Ext.cells g1) | (go_at_call 31; refine (c_field _ _ _).mono ?_; rintro e w2 ⟨rfl, g2⟩) | (go_at_call 32; refine (c_basis p ax1 n1 cx1 d xs1 _ HPR.out (by omega) (by omega) hn1 (hx1.ext (((ext_alloc _ _).trans g1).trans g2)) HG.out).mono ?_; rintro e w3 ⟨g, rc, r, rfl, ho, g3⟩; have hrl := ho.len; rw [HBL.out] at hrl; have HRL := Lib.hid hrl; have G3 := Lib.hid ((((ext_alloc _ _).trans g1).trans g2).trans g3); clear ho hrl))
  go_ret2
  exact ⟨by rw [HRL.out]; rfl, G3.out⟩
set_option maxHeartbeats 1000000 in
theorem c_VolumeOf_no (p : Int) (a : Option Addr) (d cap : Nat) (qs : List Int) (ax1 : Option Addr) (n1 cx1 : Nat) (xs1 : List (List Int)) (w : World) (hd : d ≤ 4194304) (hn1 : n1 ≤ 4096) (hr1 : ∀ i, i < n1 → (nthR xs1 i).length ≤ 4194304) (hq : RdC w a d qs) (hx1 : RdR w ax1 n1 xs1) (hc : codeVR p qs xs1 = 0) (hne : n1 ≠ d) :
    Calls Try.prog 18 #[.agg #[.int .i64 p, .slice a d cap], .slice ax1 n1 cx1] w fun e w' => e = .returned (.tuple #[.int .i64 0, .int .i64 2]) ∧ Ext w w' := by
  have HC := Lib.hid hc
  have Hr := Lib.hid hr1
  have hcb : ((0 : Int) != 0) = false := by simp
  have hnb : ((n1 : Int) != (d : Int)) = true := by simp; omega
  clear hc hr1
  go_enter Try.func18, Try.ntmps18
  go_wp2_with (first | (go_at_call 27; refine (c_checkList p a d cap qs ax1 n1 cx1 xs1 _ hd (by omega) Hr.out (hq.ext (ext_alloc _ _)) (hx1.ext (ext_alloc _ _))).mono ?_; rintro e w1 ⟨rfl, g1⟩; rw [HC.out]; have hcc := Ext.cells g1) | (go_at_call 34; refine (c_dim _ _ _ _ _).mono ?_; rintro e w2 ⟨rfl, g2⟩))
  go_ret2
  exact ⟨rfl, ((ext_alloc _ _).trans g1).trans g2⟩
set_option maxHeartbeats 1000000 in
theorem c_VolumeOf_ok (p : Int) (a : Option Addr) (d cap : Nat) (qs : List Int) (ax1 : Option Addr) (cx1 : Nat) (xs1 : List (List Int)) (w : World) (hd : d ≤ 4096) (hr1 : ∀ i, i < d → (nthR xs1 i).length ≤ 4194304) (hq : RdC w a d qs) (hx1 : RdR w ax1 d xs1) (hc : codeVR p qs xs1 = 0) :
    Calls Try.prog 18 #[.agg #[.int .i64 p, .slice a d cap], .slice ax1 d cx1] w fun e w' => e = .returned (.tuple #[.int .i64 (detL p d xs1), .int .i64 0]) ∧ Ext w w' := by
  obtain ⟨hs, ha, _⟩ := codeVR_zero hc
  obtain ⟨hpr, hd1, hd6, hqb⟩ := space_of hs
  rw [hq.1] at hd6 ha hd1
  have HG := Lib.hid (rows_good ha)
  have HPR := Lib.hid hpr
  have HC := Lib.hid hc
  have Hr := Lib.hid hr1
  have hcb : ((0 : Int) != 0) = false := by simp
  have hnb : ((d : Int) != (d : Int)) = false := by simp
  clear hc hr1 hs ha hpr hqb
  go_enter Try.func18, Try.ntmps18
  go_wp2_with (first | (go_at_call 27; refine (c_checkList p a d cap qs ax1 d cx1 xs1 _ (by omega) (by omega) Hr.out (hq.ext (ext_alloc _ _)) (hx1.ext (ext_alloc _ _))).mono ?_; rintro e w1 ⟨rfl, g1⟩; rw [HC.out]; have hcc := Ext.cells g1) | (go_at_call 34; refine (c_dim _ _ _ _ _).mono ?_; rintro e w2 ⟨rfl, g2⟩; have hcd := Ext.cells g2; have hzz : w.heap.size < w1.heap.size := (by have := g1.size; simp at this; omega)) | (go_at_call 31; refine (c_field _ _ _).mono ?_; rintro e w3 ⟨rfl, g3⟩) | (go_at_call 35; refine (c_det p ax1 d cx1 d xs1 _ HPR.out (by omega) (Nat.le_refl _) hd (hx1.ext ((((ext_alloc _ _).trans g1).trans g2).trans g3)) HG.out).mono ?_; rintro e w4 ⟨rfl, g4⟩))
  go_ret2
  exact ⟨rfl, ((((ext_alloc _ _).trans g1).trans g2).trans g3).trans g4⟩
end Go.Proofs.Ytnbhlabcecdbgaa

/-
  append of the further rows of a list to a literal of its first two, exchanged.
  No condition.
-/
namespace Go.Proofs.Ytnbhlabcecdbgaa
set_option maxRecDepth 100000
open Go.RowKit

/-- A literal of two values that lies in a block of its own from B on. -/
def SPred.lit2 (B : Nat) (s t : Value) : SPred :=
  ⟨fun v w => ∃ g, v = .slice (some ⟨g, 0, none⟩) 2 2 ∧ w.ownsRow B 24 1 (.slice (some ⟨g, 0, none⟩) 2 2) 2 [s, t], fun _ _ _ ⟨g, h1, h2⟩ he => ⟨g, h1, ownsRow_ext h2 he⟩⟩
theorem lit2_new (w : World) (s t : Value) {B : Nat} (hB : B ≤ w.heap.size) : (w.alloc (.cells #[s, t] 24)).ownsRow B 24 1 (.slice (some ⟨w.heap.size, 0, none⟩) 2 2) 2 [s, t] :=
  ⟨rfl, .inr ⟨w.heap.size, 2, #[s, t], rfl, hB, heap_alloc_new w _, Nat.le_refl _, by unfold maxLen; omega, by simp, by simp⟩⟩
theorem run_turned {v W : World} {L gl q n c : Nat} {rows : List (List Int)} {a0 a1 : Option Addr} {c0 c1 : Nat} (hx : RdR v (some ⟨gl, 0, none⟩) n rows) (h2 : 2 ≤ n) (hn : n ≤ 4194304) (hq : q = 2 ∨ n = 2)
    (hc0 : v.cell? ⟨gl, 0, none⟩ = some (.slice a0 (nthR rows 0).length c0)) (hc1 : v.cell? ⟨gl, 1, none⟩ = some (.slice a1 (nthR rows 1).length c1)) (gW : Ext v W)
    (hown : W.ownsRow v.heap.size 24 1 (.slice (some ⟨L, 0, none⟩) 2 2) 2 [.slice a1 (nthR rows 1).length c1, .slice a0 (nthR rows 0).length c0]) (ty : TypeId) :
    ∃ g' cap' w', (Builtin.append_ #[37, 37] ty #[.slice (some ⟨L, 0, none⟩) 2 2, .slice (some ⟨gl, q, none⟩) (n - 2) c]).run Try.prog W = .ok (.slice (some ⟨g', 0, none⟩) n cap') w' ∧
      RdR w' (some ⟨g', 0, none⟩) n (swapL rows 0 1) ∧ Ext v w' := by
  obtain ⟨i0, hi, hz0, hz1, hz2⟩ := info_parts Try.infoR
  obtain ⟨h1, hr⟩ := hx
  have hcell : ∀ i, i < n → ∃ ai ci, v.cell? ⟨gl, i, none⟩ = some (.slice ai (nthR rows i).length ci) ∧ RdC v ai (nthR rows i).length (nthR rows i) := fun i hi => by
    obtain ⟨b, off, ai, ci, ha, hc, hd⟩ := hr i hi
    simp only [Option.some.injEq, Addr.mk.injEq, and_true] at ha
    obtain ⟨rfl, rfl⟩ := ha
    rw [Nat.zero_add] at hc
    exact ⟨ai, ci, hc, hd⟩
  have hLb := hown.lt L rfl
  obtain ⟨us, hus⟩ : ∃ us, us = (List.range (n - 2)).map fun i => (v.cell? ⟨gl, 2 + i, none⟩).getD undef := ⟨_, rfl⟩
  have hul : us.length = n - 2 := by rw [hus]; simp
  have hug : ∀ j u, us[j]? = some u → j < n - 2 ∧ v.cell? ⟨gl, 2 + j, none⟩ = some u := fun j u hj => by
    have hjl : j < n - 2 := by
      rcases Nat.lt_or_ge j (n - 2) with h | h
      · exact h
      · rw [List.getElem?_eq_none (by omega)] at hj; cases hj
    refine ⟨hjl, ?_⟩
    obtain ⟨ai, ci, hc, _⟩ := hcell (2 + j) (by omega)
    rw [hus, List.getElem?_map, List.getElem?_range hjl] at hj
    simp only [Option.map_some, Option.some.injEq, hc, Option.getD_some] at hj
    rw [hc, hj]
  obtain ⟨v', w', hrun, h5, h6, _⟩ := run_append_own (P := Try.prog) W v.heap.size 37 ty 24 i0 (.slice none 0 0) 1 24 Try.underlying37 hi hz0 hz1 hz2 rfl (by decide) (.slice (some ⟨L, 0, none⟩) 2 2) 2 _ hown
    ⟨gl, q, none⟩ (n - 2) c us (by omega) (fun j u hj => by
      obtain rfl : q = 2 := by have := (hug j u hj).1; omega
      have := gW.cell (hug j u hj).2
      by_cases hj0 : j = 0
      · subst hj0; simpa [Addr.add] using this
      · simpa [Addr.add, hj0] using this) (fun u hu => by
        obtain ⟨j, hj, rfl⟩ := List.getElem_of_mem hu
        obtain ⟨hjl, h7⟩ := hug j us[j] (List.getElem?_eq_getElem hj)
        obtain ⟨ai, ci, h8, _⟩ := hcell (2 + j) (by omega)
        rw [h8] at h7
        rw [← Option.some.inj h7]; rfl) (by unfold maxLen; omega) (by omega) gW.size
  have form : ∃ g cap cur, v' = .slice (some ⟨g, 0, none⟩) n cap ∧ ∀ j u, ([Value.slice a1 (nthR rows 1).length c1, .slice a0 (nthR rows 0).length c0] ++ us)[j]? = some u → j < n → w'.cell? ⟨g, j, none⟩ = some u ∧ cur = 0 := by
    rcases h5.2 with ⟨_, h3⟩ | ⟨g, cc, cur, hv, hb, hh, hc1, hc2, hc3, hc4⟩
    · omega
    · refine ⟨g, cc, 0, by rw [hv]; congr 1; omega, fun j u hj hjn => ⟨?_, rfl⟩⟩
      rw [← hc4, List.getElem?_take_of_lt (by omega), Array.getElem?_toList] at hj
      simp only [World.cell?, hh]
      simpa using hj
  obtain ⟨g', cap', _, rfl, hcells⟩ := form
  have hE : Ext v w' := gW.grown h6 (fun k hk => by simp only [Value.ownBlock, Option.some.injEq] at hk; omega)
  refine ⟨g', cap', w', hrun, ⟨by rw [swapL_len]; exact h1, fun i hi => ?_⟩, hE⟩
  have hsw := swapL_nth (rows := rows) (i := 0) (j := 1) (k := i) (by omega) (by omega)
  by_cases i0 : i = 0
  · subst i0
    rw [if_neg (by omega), if_pos rfl] at hsw
    rw [hsw]
    obtain ⟨ai, ci, h7, h8⟩ := hcell 1 (by omega)
    rw [hc1] at h7
    simp only [Option.some.injEq, Value.slice.injEq, true_and] at h7
    obtain ⟨rfl, rfl⟩ := h7
    exact ⟨g', 0, a1, c1, rfl, (hcells 0 _ rfl (by omega)).1, h8.ext hE⟩
  by_cases i1 : i = 1
  · subst i1
    rw [if_pos rfl] at hsw
    rw [hsw]
    obtain ⟨ai, ci, h7, h8⟩ := hcell 0 (by omega)
    rw [hc0] at h7
    simp only [Option.some.injEq, Value.slice.injEq, true_and] at h7
    obtain ⟨rfl, rfl⟩ := h7
    exact ⟨g', 0, a0, c0, rfl, (hcells 1 _ rfl (by omega)).1, h8.ext hE⟩
  · rw [if_neg i1, if_neg i0] at hsw
    rw [hsw]
    obtain ⟨ai, ci, h7, h8⟩ := hcell i hi
    refine ⟨g', 0, ai, ci, rfl, ?_, h8.ext hE⟩
    rw [Nat.zero_add]
    refine (hcells i _ ?_ hi).1
    obtain ⟨k, rfl⟩ : ∃ k, i = k + 2 := ⟨i - 2, by omega⟩
    show us[k]? = _
    rw [hus, List.getElem?_map, List.getElem?_range (by omega)]
    simp only [Option.map_some]
    rw [Nat.add_comm 2 k, h7]
    rfl

theorem OwnR.capLe {B : Nat} {w : World} {a : Option Addr} {n cap : Nat} {rows : List (List Int)} (h : OwnR B w a n cap rows) : n ≤ cap := by
  obtain ⟨h1, vs, h2, _⟩ := h
  have hl := h2.1
  rcases h2.2 with ⟨h3, h4⟩ | ⟨g, c, cur, hv, hb, hh, hc1, hc2, hc3, hc4⟩
  · simp only [Value.slice.injEq] at h3
    omega
  · simp only [Value.slice.injEq] at hv
    omega
theorem wpList_turned {ops : Array Oper} {rest : List Oper} {o : Oper} {a : Act} {Q : Exit → Act → World → Prop} {v W : World} {L q : Nat} (hgd : o.guard = none) (s x : Operand)
    (ho : o.op = .call { callee := .builtin .append, args := #[s, x], argTypes := #[37, 37] })
    {gl n c : Nat} {rows : List (List Int)} {a0 a1 : Option Addr} {c0 c1 : Nat} (hs : a.eval s = .slice (some ⟨L, 0, none⟩) 2 2) (hx : a.eval x = .slice (some ⟨gl, q, none⟩) (n - 2) c)
    (hr : RdR v (some ⟨gl, 0, none⟩) n rows) (h2 : 2 ≤ n) (hn : n ≤ 4194304) (hq : q = 2 ∨ n = 2)
    (hc0 : v.cell? ⟨gl, 0, none⟩ = some (.slice a0 (nthR rows 0).length c0)) (hc1 : v.cell? ⟨gl, 1, none⟩ = some (.slice a1 (nthR rows 1).length c1))
    (gW : Ext v W) (hown : W.ownsRow v.heap.size 24 1 (.slice (some ⟨L, 0, none⟩) 2 2) 2 [.slice a1 (nthR rows 1).length c1, .slice a0 (nthR rows 0).length c0])
    (h : ∀ g' cap' w', RdR w' (some ⟨g', 0, none⟩) n (swapL rows 0 1) → Ext v w' → wpList Try.prog ops Q rest (a.put o.dst (.slice (some ⟨g', 0, none⟩) n cap')) w') :
    wpList Try.prog ops Q (o :: rest) a W := by
  refine wpList_plain hgd fun K hK => ?_
  obtain ⟨g', cap', w', hrun, h1, h3⟩ := run_turned (c := c) hr h2 hn hq hc0 hc1 gW hown o.type
  unfold Oper.wp execOp
  simp only [ho, resolve, invoke, builtin, Sem.run_bind, Sem.run_pure, Result.andThen_ok, List.map_toArray, List.map_cons, List.map_nil, hs, hx, hrun]
  exact hK _ _ (h g' cap' w' h1 h3)
end Go.Proofs.Ytnbhlabcecdbgaa

/-
  Regions in which a source is made and drawn from: a relation between worlds that keeps sources and rows.
  No condition.
-/
namespace Go.Proofs.Ytnbhlabcecdbgaa
set_option maxRecDepth 100000
open Go.RowKit

/-- What lies below B is kept; so are all sources over one code, and all rows that are not empty. -/
structure Rolls (ca : Option Addr) (n cap B : Nat) (w w' : World) : Prop where
  below : Below B w w'
  src : ∀ g, B ≤ g → Src ⟨g, ca, n, cap⟩ w → Src ⟨g, ca, n, cap⟩ w'
  row : ∀ B' g m c xs, 0 < m → OwnC B' w (some ⟨g, 0, none⟩) m c xs → OwnC B' w' (some ⟨g, 0, none⟩) m c xs
theorem Rolls.refl (ca : Option Addr) (n cap B : Nat) (w : World) : Rolls ca n cap B w w := ⟨Below.refl _ _, fun _ _ h => h, fun _ _ _ _ _ _ h => h⟩
theorem Rolls.trans {ca : Option Addr} {n cap B : Nat} {a b c : World} (h : Rolls ca n cap B a b) (k : Rolls ca n cap B b c) : Rolls ca n cap B a c :=
  ⟨h.below.trans k.below, fun g hg hs => k.src g hg (h.src g hg hs), fun B' g m c xs hm ho => k.row B' g m c xs hm (h.row B' g m c xs hm ho)⟩
theorem Rolls.of_ext {ca : Option Addr} {n cap B : Nat} {w w' : World} (h : Ext w w') (hB : B ≤ w.heap.size) : Rolls ca n cap B w w' :=
  ⟨Below.mono h hB, fun _ _ hs => (Drw.of_ext h).src hs, fun _ _ _ _ _ _ ho => ho.ext h⟩
/-- A draw. -/
theorem Rolls.of_drw {ca : Option Addr} {n cap B g : Nat} {w w' : World} (hg : B ≤ g) (hs : Src ⟨g, ca, n, cap⟩ w) (h : Drw ⟨g, ca, n, cap⟩ w w') : Rolls ca n cap B w w' := by
  have hlt := hs.lt
  refine ⟨⟨h.os, h.tape, h.output, h.size, fun k hk => h.block k (by have : g < w.heap.size := hlt; omega) (by show k ≠ g; omega)⟩, fun g' hg' hs' => ?_, fun B' g' m c xs hm ho => ?_⟩
  · by_cases he : g' = g
    · subst he; exact h.src hs'
    · have hb : w'.heap[g']? = w.heap[g']? := h.block g' hs'.lt he
      refine ⟨hs'.len, ?_, ?_, ?_, fun j => ?_, fun i hi => ?_⟩
      · rw [World.cell?_of_block (w := w) hb]; exact hs'.c0
      · obtain ⟨t, ht, hc⟩ := hs'.c1
        exact ⟨t, ht, by rw [World.cell?_of_block (w := w) hb]; exact hc⟩
      · obtain ⟨t, hc⟩ := hs'.c2
        exact ⟨t, by rw [World.cell?_of_block (w := w) hb]; exact hc⟩
      · rw [World.frozen?_of_block (w := w) hb]; exact hs'.fz j
      · obtain ⟨b, off, z, h1, h2, h3, h4⟩ := hs'.rd i hi
        obtain ⟨b', off', z', h1', h2', _, _⟩ := hs.rd i hi
        rw [h1] at h1'
        simp only [Option.some.injEq, Addr.mk.injEq, and_true] at h1'
        obtain ⟨rfl, rfl⟩ := h1'
        exact ⟨b, off, z, h1, h2, by rw [World.cell?_of_block (w := w) (h.block b (lt_of_cell h3) h2')]; exact h3, h4⟩
  · refine ho.keep fun k hk => ?_
    simp only [Option.some.injEq, Addr.mk.injEq, and_true] at hk
    subst hk
    have hk2 := ho.base_of g' rfl
    refine h.block g' hk2.2 fun he => ?_
    have he' : g' = g := he
    subst he'
    obtain ⟨b, off, hb, hc⟩ := ho.rd.2 0 hm
    simp only [Option.some.injEq, Addr.mk.injEq, and_true] at hb
    obtain ⟨rfl, rfl⟩ := hb
    have h0 := hs.c0
    rw [Nat.add_zero, h0] at hc
    cases hc
theorem Rolls.toExt {ca : Option Addr} {n cap : Nat} {w w' : World} (h : Rolls ca n cap w.heap.size w w') : Ext w w' := h.below
def Rolls.rel (ca : Option Addr) (n cap B : Nat) : Chg.Rel := ⟨Rolls ca n cap B, Rolls.refl ca n cap B, Rolls.trans⟩
namespace Chg
/-- A source over the code. -/
def SPred.source (ca : Option Addr) (n cap B : Nat) : SPred (Rolls.rel ca n cap B) :=
  ⟨fun v w => ∃ g, v = .pointer (some ⟨g, 0, none⟩) ∧ B ≤ g ∧ Src ⟨g, ca, n, cap⟩ w, fun _ _ _ ⟨g, h1, h2, h3⟩ he => ⟨g, h1, h2, Rolls.src he g h2 h3⟩⟩
/-- A row of the region's own, not empty, of which P holds. -/
def SPred.rowP (ca : Option Addr) (n cap B m : Nat) (P : List Int → Prop) (hm : 0 < m) : SPred (Rolls.rel ca n cap B) :=
  ⟨fun v w => ∃ g c xs, v = .slice (some ⟨g, 0, none⟩) m c ∧ P xs ∧ OwnC 0 w (some ⟨g, 0, none⟩) m c xs, fun _ _ _ ⟨g, c, xs, h1, h2, h3⟩ he => ⟨g, c, xs, h1, h2, Rolls.row he 0 g m c xs hm h3⟩⟩
end Chg
end Go.Proofs.Ytnbhlabcecdbgaa
