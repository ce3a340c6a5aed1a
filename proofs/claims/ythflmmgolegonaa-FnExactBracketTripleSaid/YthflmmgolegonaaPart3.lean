/-
  Contracts and plain laws, part 3: Matrix, Ker, Kill, AlgB, Float, Solve, InvM, Inverse, Dbl.
  No condition.
-/
import Derived.Test.YthflmmgolegonaaPart2
import Derived.Test.YthflmmgolegonaaPart1
import Derived.Test.YthflmmgolegonaaPart0
/-
  Matrices: checks, products, the listed functions of them at matrices.
  No condition.
-/
namespace Go.Proofs.Ythflmmgolegonaa
set_option maxRecDepth 100000
open Go.RowKit

/-- A row fits a table. -/
def rowOk (p : Int) (m : Nat) (r : List Int) : Bool := decide (r.length = m) && decide (1 ≤ r.length) && decide (r.length ≤ 16) && isB p r
def tableB (p : Int) (rows : List (List Int)) : Bool := decide (rows.length ≤ 16) && decide (∀ i, i < rows.length → rowOk p (nthR rows 0).length (nthR rows i) = true)
def matB (p : Int) (rows : List (List Int)) : Bool := decide (0 < rows.length) && tableB p rows
theorem table_big {p : Int} {rows : List (List Int)} (h : 16 < rows.length) : tableB p rows = false := by
  unfold tableB; rw [decide_eq_false (by omega)]; rfl
theorem table_not {p : Int} {rows : List (List Int)} {n k : Nat} (hk : k < n) (hn : rows.length = n) (h : rowOk p (nthR rows 0).length (nthR rows k) = false) : tableB p rows = false := by
  unfold tableB
  rw [decide_eq_false (p := ∀ i, i < rows.length → _) (fun ha => by have := ha k (by omega); rw [h] at this; cases this)]
  simp
theorem table_yes {p : Int} {rows : List (List Int)} {n : Nat} (hn : rows.length = n) (h16 : n ≤ 16) (h : ∀ k, k < n → rowOk p (nthR rows 0).length (nthR rows k) = true) : tableB p rows = true := by
  unfold tableB
  rw [decide_eq_true (by omega), decide_eq_true (by rw [hn]; exact h)]; rfl
theorem rowOk_of {p : Int} {m : Nat} {r : List Int} (h : rowOk p m r = true) : Good p m r ∧ 1 ≤ m ∧ m ≤ 16 := by
  unfold rowOk at h
  simp only [Bool.and_eq_true, decide_eq_true_eq] at h
  obtain ⟨⟨⟨h1, h2⟩, h3⟩, h4⟩ := h
  exact ⟨good_isB h1 h4, by omega, by omega⟩
theorem matB_of {p : Int} {rows : List (List Int)} (h : matB p rows = true) : 0 < rows.length ∧ rows.length ≤ 16 ∧ ∃ m, 1 ≤ m ∧ m ≤ 16 ∧ ∀ i, i < rows.length → Good p m (nthR rows i) := by
  unfold matB tableB at h
  simp only [Bool.and_eq_true, decide_eq_true_eq] at h
  obtain ⟨h1, h2, h3⟩ := h
  have h0 := rowOk_of (h3 0 h1)
  exact ⟨h1, h2, _, h0.2.1, h0.2.2, fun i hi => (rowOk_of (h3 i hi)).1⟩
theorem matB_good {p : Int} {rows : List (List Int)} {n m : Nat} (hn : rows.length = n) (h0 : 0 < n) (h16 : n ≤ 16) (hm : 1 ≤ m) (hm16 : m ≤ 16) (h : ∀ i, i < n → Good p m (nthR rows i)) : matB p rows = true := by
  unfold matB
  rw [decide_eq_true (by omega), table_yes hn h16 (fun k hk => ?_)]
  · rfl
  · have hk' := h k hk
    unfold rowOk
    rw [(h 0 h0).1, hk'.1, good_bits hk', decide_eq_true rfl, decide_eq_true hm, decide_eq_true hm16]; rfl

set_option maxHeartbeats 4000000 in
theorem c_isTable (p : Int) (a : Option Addr) (n cap : Nat) (rows : List (List Int)) (w : World) (hp1 : 1 ≤ p) (hp2 : p ≤ 1000) (hl : n ≤ 4194304) (hr : ∀ i, i < n → (nthR rows i).length ≤ 4194304) (hx : RdR w a n rows) :
    Calls Try.prog 90 #[.int .i64 p, .slice a n cap] w fun e w' => e = .returned (.bool (tableB p rows)) ∧ Ext w w' := by
  have HX := Lib.hid hx.2
  have HL := Lib.hid hx.1
  have HR := Lib.hid hr
  clear hx hr
  by_cases hbig : 16 < n
  · have hb : (16 : Int) < n := by omega
    have HT := Lib.hid (table_big (p := p) (rows := rows) (by rw [HL.out]; exact hbig))
    go_enter Try.func90, Try.ntmps90
    go_wp2_with (fail)
    go_ret
    exact ⟨ret_bool HT.out.symm, Ext.refl _⟩
  have hb : ¬ (16 : Int) < n := by omega
  go_enter Try.func90, Try.ntmps90
  go_wp2_with (fail)
  go_loopw [6, 12] (fun _ i wr => ∃ (k : Nat), k ≤ n ∧ i = .int .i64 k ∧ Hid (∀ j, j < k → rowOk p (nthR rows 0).length (nthR rows j) = true) ∧ Hid (Ext w wr)) (fun _ i _ => n - (intOf i).toNat)
  case atStart => exact ⟨0, Nat.zero_le _, rfl, Lib.hid (fun j hj => by omega), Lib.hid (Ext.refl _)⟩
  case round =>
    obtain ⟨k, hk, rfl, HT, HE⟩ := hrel
    by_cases hlt : k < n
    · obtain ⟨b0, off0, a0, c0, rfl, hc0, hr0⟩ := HX.out 0 (by omega)
      obtain ⟨b1, off1, a1, c1, hab, hc1, hr1⟩ := HX.out k hlt
      simp only [Option.some.injEq, Addr.mk.injEq, and_true] at hab
      obtain ⟨rfl, rfl⟩ := hab
      have hc0' := HE.out.cell hc0
      have hc1' := HE.out.cell hc1
      rw [Nat.add_zero] at hc0'
      have HR1 := Lib.hid (hr1.ext HE.out)
      have hl1 := HR.out k hlt
      have hn0 : 0 < n := by omega
      clear hc0 hc1 hr0 hr1
      by_cases h1 : (nthR rows k).length = (nthR rows 0).length
      · have e1 : (((nthR rows k).length : Int) != ((nthR rows 0).length : Int)) = false := by rw [h1]; simp
        have H1 := Lib.hid h1
        clear h1
        by_cases h2 : 1 ≤ (nthR rows k).length
        · have e2 : ¬ ((nthR rows k).length : Int) < 1 := by omega
          by_cases h3 : (nthR rows k).length ≤ 16
          · have e3 : ¬ (16 : Int) < ((nthR rows k).length : Int) := by omega
            go_wp2_with (fail)
            refine Calls.mono (c_is p a1 _ c1 (nthR rows k) wr hp1 hp2 hl1 HR1.out) ?_
            rintro e w1 ⟨rfl, g1⟩
            replace HE := Lib.hid (HE.out.trans g1)
            clear g1
            cases h4 : isB p (nthR rows k)
            · have HB := Lib.hid (table_not (p := p) hlt HL.out (by simp [rowOk, h4]))
              go_wp2_with (fail)
              go_ret
              exact ⟨ret_bool HB.out.symm, HE.out⟩
            · have HK := Lib.hid (show rowOk p (nthR rows 0).length (nthR rows k) = true by
                unfold rowOk
                rw [h4, decide_eq_true H1.out, decide_eq_true h2, decide_eq_true h3]; rfl)
              go_wp2_with (fail)
              go_roundw
              case rel => exact ⟨k + 1, by omega, by go_num, Lib.hid (fun j hj => by
                by_cases hjk : j = k
                · subst hjk; exact HK.out
                · exact HT.out j (by omega)), HE⟩
              case measure => simp [intOf]; omega
          · have e3 : (16 : Int) < ((nthR rows k).length : Int) := by omega
            have HB := Lib.hid (table_not (p := p) hlt HL.out (by unfold rowOk; rw [decide_eq_false h3]; simp))
            go_wp2_with (fail)
            go_ret
            exact ⟨ret_bool HB.out.symm, HE.out⟩
        · have e2 : ((nthR rows k).length : Int) < 1 := by omega
          have HB := Lib.hid (table_not (p := p) hlt HL.out (by unfold rowOk; rw [decide_eq_false h2]; simp))
          go_wp2_with (fail)
          go_ret
          exact ⟨ret_bool HB.out.symm, HE.out⟩
      · have e1 : (((nthR rows k).length : Int) != ((nthR rows 0).length : Int)) = true := by simp; omega
        have HB := Lib.hid (table_not (p := p) hlt HL.out (by unfold rowOk; rw [decide_eq_false h1]; simp))
        go_wp2_with (fail)
        go_ret
        exact ⟨ret_bool HB.out.symm, HE.out⟩
    · have HB := Lib.hid (table_yes (p := p) HL.out (by omega) (fun k hk => HT.out k (by omega)))
      go_wp2_with (fail)
      go_ret
      exact ⟨ret_bool HB.out.symm, HE.out⟩
set_option maxHeartbeats 1000000 in
theorem c_isMatrix (p : Int) (a : Option Addr) (n cap : Nat) (rows : List (List Int)) (w : World) (hp1 : 1 ≤ p) (hp2 : p ≤ 1000) (hl : n ≤ 4194304) (hr : ∀ i, i < n → (nthR rows i).length ≤ 4194304) (hx : RdR w a n rows) :
    Calls Try.prog 79 #[.int .i64 p, .slice a n cap] w fun e w' => e = .returned (.bool (matB p rows)) ∧ Ext w w' := by
  by_cases h0 : 0 < n
  · have hb : (0 : Int) < n := by omega
    have HM := Lib.hid (show matB p rows = tableB p rows by unfold matB; rw [decide_eq_true (by rw [hx.1]; exact h0)]; rfl)
    go_enter Try.func79, Try.ntmps79
    go_wp2_with (fail)
    refine Calls.mono (c_isTable p a n cap rows w hp1 hp2 hl hr hx) ?_
    rintro e w1 ⟨rfl, g1⟩
    go_wp2_with (fail)
    go_ret
    exact ⟨ret_bool HM.out.symm, g1⟩
  · have hb : ¬ (0 : Int) < n := by omega
    have HM := Lib.hid (show matB p rows = false by unfold matB; rw [decide_eq_false (by rw [hx.1]; exact h0)]; rfl)
    go_enter Try.func79, Try.ntmps79
    go_wp2_with (fail)
    go_ret
    exact ⟨ret_bool HM.out.symm, Ext.refl _⟩
set_option maxHeartbeats 400000 in
set_option maxRecDepth 20000 in
theorem c_indexFuncM (a : Option Addr) (n cap F : Nat) (caps : Array Value) (R : Nat → Value) (f : Nat → Bool) (w : World) (hl : n ≤ 4194304) (hcf : ∀ args w, (callFunc F args).run Try.prog w = .ok (.enter F args) w)
    (hR : ∀ i, i < n → ∃ b off, a = some ⟨b, off, none⟩ ∧ w.cell? ⟨b, off + i, none⟩ = some (R i))
    (hf : ∀ i, i < n → ∀ w1, Ext w w1 → Calls Try.prog F (#[R i] ++ caps) w1 fun e w2 => e = .returned (.bool (f i)) ∧ Ext w1 w2) :
    Calls Try.prog 78 #[.slice a n cap, .func (.func F) #[] caps] w fun e w' => e = .returned (.int .i64 (firstIx f n)) ∧ Ext w w' := by
  have HR := Lib.hid hR
  have HF := Lib.hid hf
  clear hR hf
  go_enter Try.func78, Try.ntmps78
  go_wp2_with (fail)
  go_loopw [5, 8] (fun _ i wr => ∃ k : Nat, k ≤ n ∧ i = .int .i64 k ∧ Hid (∀ j, j < k → f j = false) ∧ Ext w wr) (fun _ i _ => n - (intOf i).toNat)
  case atStart => exact ⟨0, Nat.zero_le _, rfl, Lib.hid (fun j hj => by omega), Ext.refl _⟩
  case round =>
    obtain ⟨k, hk, rfl, HT, hext⟩ := hrel
    by_cases hlt : k < n
    · obtain ⟨b, off, rfl, hc⟩ := HR.out k hlt
      have hc' := hext.cell hc
      clear hc
      cases hb : f k
      · have HB := Lib.hid hb
        have HFk := Lib.hid (HF.out k hlt wr hext)
        clear hb
        go_wp2_with ((with_reducible refine (HFk.out).mono ?_); rintro e w1 ⟨rfl, h1⟩; rw [HB.out])
        go_roundw
        case rel => exact ⟨k + 1, by omega, by go_num, Lib.hid (fun j hj => by
          by_cases hjk : j = k
          · subst hjk; exact HB.out
          · exact HT.out j (by omega)), hext.trans h1⟩
        case measure => simp [intOf]; omega
      · have HB := Lib.hid hb
        have HFk := Lib.hid (HF.out k hlt wr hext)
        clear hb
        go_wp2_with ((with_reducible refine (HFk.out).mono ?_); rintro e w1 ⟨rfl, h1⟩; rw [HB.out])
        go_ret
        exact ⟨ret_int (firstIx_hit hlt HB.out HT.out).symm, hext.trans h1⟩
    · go_wp2_with (fail)
      go_ret
      exact ⟨ret_int (firstIx_none (fun j hj => HT.out j (by omega))).symm, hext⟩

set_option maxHeartbeats 400000 in
theorem c_containsFuncM (a : Option Addr) (n cap F : Nat) (caps : Array Value) (R : Nat → Value) (f : Nat → Bool) (w : World) (hl : n ≤ 4194304) (hcf : ∀ args w, (callFunc F args).run Try.prog w = .ok (.enter F args) w)
    (hR : ∀ i, i < n → ∃ b off, a = some ⟨b, off, none⟩ ∧ w.cell? ⟨b, off + i, none⟩ = some (R i))
    (hf : ∀ i, i < n → ∀ w1, Ext w w1 → Calls Try.prog F (#[R i] ++ caps) w1 fun e w2 => e = .returned (.bool (f i)) ∧ Ext w1 w2) :
    Calls Try.prog 51 #[.slice a n cap, .func (.func F) #[] caps] w fun e w' => e = .returned (.bool ((List.range n).any f)) ∧ Ext w w' := by
  have HR := Lib.hid hR
  have HF := Lib.hid hf
  have HA := Lib.hid (firstIx_any f n)
  have hbd := firstIx_bd f n
  clear hR hf
  go_enter Try.func51, Try.ntmps51
  go_wp2_with (go_at_call 78; refine (c_indexFuncM _ _ _ _ _ _ _ _ hl hcf HR.out HF.out).mono ?_; rintro e w1 ⟨rfl, h1⟩)
  go_ret
  exact ⟨ret_bool HA.out, h1⟩

/-! ### Products -/
/-- A matrix and a vector. -/
def appL (p : Int) (rows : List (List Int)) (v : List Int) (m n : Nat) : List Int := (List.range n).map fun i => dotL p (nthR rows i) v m
theorem appL_succ (p : Int) (rows : List (List Int)) (v : List Int) (m n : Nat) : appL p rows v m (n + 1) = appL p rows v m n ++ [dotL p (nthR rows n) v m] := by simp [appL, List.range_succ]
theorem appL_len (p : Int) (rows : List (List Int)) (v : List Int) (m n : Nat) : (appL p rows v m n).length = n := by simp [appL]
theorem appL_nth {p : Int} {rows : List (List Int)} {v : List Int} {m n i : Nat} (h : i < n) : nth (appL p rows v m n) i = dotL p (nthR rows i) v m := by
  unfold appL; rw [nth_map (by simpa using h)]; simp
theorem dotL_bd {p : Int} {x y : List Int} {n : Nat} (hp : 1 ≤ p) : 0 ≤ dotL p x y n ∧ dotL p x y n < p := ⟨Int.emod_nonneg _ (by omega), Int.emod_lt_of_pos _ (by omega)⟩
theorem app_good {p : Int} {rows : List (List Int)} {v : List Int} {m n : Nat} (hp : 1 ≤ p) : Good p n (appL p rows v m n) := ⟨appL_len _ _ _ _ _, fun i hi => by rw [appL_nth hi]; exact dotL_bd hp⟩
/-- The product of matrices: n rows, k columns, m in between. -/
def mulL (p : Int) (a b : List (List Int)) (n m k : Nat) : List (List Int) := (List.range n).map fun i => appL p (turnL b m k) (nthR a i) m k
theorem mulL_succ (p : Int) (a b : List (List Int)) (n m k : Nat) : mulL p a b (n + 1) m k = mulL p a b n m k ++ [appL p (turnL b m k) (nthR a n) m k] := by simp [mulL, List.range_succ]
theorem mulL_len (p : Int) (a b : List (List Int)) (n m k : Nat) : (mulL p a b n m k).length = n := by simp [mulL]
theorem mulL_nth {p : Int} {a b : List (List Int)} {n m k i : Nat} (h : i < n) : nthR (mulL p a b n m k) i = appL p (turnL b m k) (nthR a i) m k := by
  unfold mulL; rw [nthR_map (by simpa using h)]; simp
theorem mul_good {p : Int} {a b : List (List Int)} {n m k : Nat} (hp : 1 ≤ p) : ∀ i, i < n → Good p k (nthR (mulL p a b n m k) i) := fun i hi => by
  rw [mulL_nth hi]; exact app_good hp

set_option maxHeartbeats 2000000 in
theorem c_apply (p : Int) (a : Option Addr) (n cap : Nat) (rows : List (List Int)) (av : Option Addr) (m cv : Nat) (v : List Int) (w : World) (hp1 : 1 ≤ p) (hp2 : p ≤ 1000) (hn : n ≤ 1048576) (hm : m ≤ 1048576) (hx : RdR w a n rows) (hg : ∀ i, i < n → Good p m (nthR rows i)) (hv : RdC w av m v) (hgv : Good p m v) :
    Calls Try.prog 80 #[.int .i64 p, .slice a n cap, .slice av m cv] w fun e w' => ∃ g rc, e = .returned (.slice (some ⟨g, 0, none⟩) n rc) ∧ OwnC w.heap.size w' (some ⟨g, 0, none⟩) n rc (appL p rows v m n) ∧ Ext w w' := by
  have HX := Lib.hid hx
  have HG := Lib.hid hg
  have HV := Lib.hid hv
  clear hx hg hv
  go_enter Try.func80, Try.ntmps80
  go_wp2_with (fail)
  go_loopw [7, 9, 13] (fun o _ i wr => ∃ (j g rc : Nat), j ≤ n ∧ i = .int .i64 j ∧ o = .slice (some ⟨g, 0, none⟩) j rc ∧ Hid (OwnC w.heap.size wr (some ⟨g, 0, none⟩) j rc (appL p rows v m j)) ∧ Hid (Ext w wr)) (fun _ _ i _ => n - (intOf i).toNat)
  case atStart => exact ⟨0, _, 0, Nat.zero_le _, rfl, rfl, Lib.hid (own_empty w), Lib.hid (ext_alloc _ _)⟩
  case round =>
    obtain ⟨j, g, rc, hj, rfl, rfl, HO, HE⟩ := hrel
    by_cases hlt : j < n
    · obtain ⟨b, off, a1, c1, rfl, hc, hr⟩ := HX.out.2 j hlt
      have hgj := HG.out j hlt
      rw [hgj.1] at hc hr
      have hc1 := HE.out.cell hc
      have HR := Lib.hid (hr.ext HE.out)
      clear hc hr
      go_wp2_with (fail)
      refine Calls.mono (c_dot p a1 av m c1 cv (nthR rows j) v wr hp1 hp2 hm HR.out (HV.out.ext HE.out) hgj hgv) ?_
      rintro e w1 ⟨rfl, g1⟩
      replace HO := Lib.hid (HO.out.ext g1)
      replace HE := Lib.hid (HE.out.trans g1)
      clear g1 hc1
      go_wp2_with (at_builtin; refine wpList_push rfl (.tmp 17) (.tmp 22) rfl rfl rfl (v := dotL p (nthR rows j) v m) (HO.out.ext (ext_alloc _ _)) ?hc ?hn ?hB ?hk)
      case hc => simp
      case hn => omega
      case hB => have := HE.out.size; simp; omega
      case hk =>
        intro g' cap' w3 ho3 hg3 he3
        have HO3 := Lib.hid ho3
        have HE3 := Lib.hid (he3 w (Nat.le_refl _) (HE.out.trans (ext_alloc _ _)))
        clear ho3 hg3 he3
        go_wp2_with (fail)
        go_roundw
        case rel => exact ⟨j + 1, g', cap', by omega, by go_num, rfl, Lib.hid (by rw [appL_succ]; exact HO3.out), HE3⟩
        case measure => simp [intOf]; omega
    · go_wp2_with (fail)
      go_ret
      obtain rfl : j = n := by omega
      exact ⟨g, rc, rfl, HO.out, HE.out⟩
set_option maxHeartbeats 2000000 in
theorem c_mtimes (p : Int) (a : Option Addr) (n ca : Nat) (ra : List (List Int)) (b : Option Addr) (m cb : Nat) (rb : List (List Int)) (k : Nat) (w : World) (hp1 : 1 ≤ p) (hp2 : p ≤ 1000) (hn : n ≤ 1048576) (hm0 : 0 < m) (hm : m ≤ 1048576) (hk : k ≤ 1048576) (hx : RdR w a n ra) (hga : ∀ i, i < n → Good p m (nthR ra i)) (hy : RdR w b m rb) (hgb : ∀ i, i < m → Good p k (nthR rb i)) :
    Calls Try.prog 54 #[.int .i64 p, .slice a n ca, .slice b m cb] w fun e w' => ∃ g rc, e = .returned (.slice (some ⟨g, 0, none⟩) n rc) ∧ (0 < n → OwnR w.heap.size w' (some ⟨g, 0, none⟩) n rc (mulL p ra rb n m k)) ∧ Ext w w' := by
  have HX := Lib.hid hx
  have HG := Lib.hid hga
  have HTG := Lib.hid (show ∀ i, i < k → Good p m (nthR (turnL rb m k) i) from fun i hi => turn_good (p := p) (m := k) (n := m) (rows := rb) (fun j hj => hgb j (by rw [← hy.1]; exact hj)) hy.1.symm i (by rw [turnL_len]; exact hi))
  go_enter Try.func54, Try.ntmps54
  go_wp2_with (fail)
  refine Calls.mono (c_transpose b m cb k rb w hm0 hk hm (fun i hi => (hgb i hi).1) hy) ?_
  rintro e w1 ⟨gt, rt, rfl, ho, g1⟩
  have HT := Lib.hid (ho.ext (ext_alloc w1 (.cells #[] 22)))
  have hz1 := g1.size
  have E1 := Lib.hid (g1.trans (ext_alloc w1 (.cells #[] 22)))
  have HT1 := Lib.hid ho
  have G1 := Lib.hid g1
  clear hx hga hy hgb ho g1
  go_wp2_with (fail)
  go_loopw [8, 10, 16] (fun o _ i wr => ∃ (j : Nat) (g rc : Nat), j ≤ n ∧ i = .int .i64 j ∧ o = .slice (some ⟨g, 0, none⟩) j rc ∧ Hid (OwnW w1.heap.size wr (some ⟨g, 0, none⟩) j rc (mulL p ra rb j m k)) ∧ Hid (Ext w1 wr)) (fun _ _ i _ => n - (intOf i).toNat)
  case atStart => exact ⟨0, _, 0, Nat.zero_le _, rfl, rfl, Lib.hid (OwnW.start _ _ _), Lib.hid (ext_alloc _ _)⟩
  case round =>
    obtain ⟨j, g, rc, hj, rfl, rfl, HO, HE⟩ := hrel
    by_cases hlt : j < n
    · obtain ⟨b1, off, a1, c1, rfl, hc, hr⟩ := HX.out.2 j hlt
      have hgj := HG.out j hlt
      rw [hgj.1] at hc hr
      have hc1 := HE.out.cell (G1.out.cell hc)
      have HR := Lib.hid (hr.ext (G1.out.trans HE.out))
      clear hc hr
      go_wp2_with (fail)
      refine Calls.mono (c_apply p (some ⟨gt, 0, none⟩) k rt (turnL rb m k) a1 m c1 (nthR ra j) wr hp1 hp2 hk hm (HT1.out.ext HE.out).rd HTG.out HR.out hgj) ?_
      rintro e w2 ⟨g2, rc2, rfl, ho2, x2⟩
      have HO2 := Lib.hid ho2
      have X2 := Lib.hid x2
      clear ho2 x2 hc1
      go_wp2_with (at_builtin; refine wpList_pushRW rfl (.tmp 20) (.tmp 25) rfl rfl rfl HO.out (X2.out.trans (ext_alloc _ _)) (HO2.out.ext (ext_alloc _ _)) ?hc ?hn ?hB ?hk)
      case hc => simp
      case hn => omega
      case hB => exact HE.out.size
      case hk =>
        intro g' cap' w3 ho3 he3
        have HO3 := Lib.hid ho3
        have HE3 := Lib.hid (he3 w1 (Nat.le_refl _) (HE.out.trans (X2.out.trans (ext_alloc _ _))))
        clear ho3 he3
        go_wp2_with (fail)
        go_roundw
        case rel => exact ⟨j + 1, g', cap', by omega, by go_num, rfl, Lib.hid (.inr (by rw [mulL_succ]; exact HO3.out)), HE3⟩
        case measure => simp [intOf]; omega
    · go_wp2_with (fail)
      go_ret
      obtain rfl : j = n := by omega
      exact ⟨g, rc, rfl, fun h => (HO.out.strong h).mono G1.out.size, G1.out.trans HE.out⟩

end Go.Proofs.Ythflmmgolegonaa

/-
  Kernels, solutions and inverses from reduced bases, in plain words.
  No condition.
-/
namespace Go.Proofs.Ythflmmgolegonaa
set_option maxRecDepth 100000
open Go.RowKit

/-- The row whose first number other than 0 is at place t. -/
def pivIx (red : List (List Int)) (t : Nat) : Option Nat := (List.range red.length).find? (fun i => leadN (nthR red i) == t)
theorem pivIx_some {red : List (List Int)} {t i : Nat} (h : pivIx red t = some i) : i < red.length ∧ leadN (nthR red i) = t := by
  unfold pivIx at h
  rw [List.find?_range_eq_some] at h
  exact ⟨by simpa using h.2.1, by simpa using h.1⟩
theorem pivIx_none {red : List (List Int)} {t : Nat} (h : pivIx red t = none) : ∀ i, i < red.length → leadN (nthR red i) ≠ t := by
  unfold pivIx at h
  rw [List.find?_range_eq_none] at h
  intro i hi
  simpa using h i hi

theorem Basis.leadN {p : Int} {m : Nat} {red : List (List Int)} {c : Nat → Nat} (h : Basis p m red c) {i : Nat} (hi : i < red.length) : leadN (nthR red i) = c i := by
  have hl := (h.good i hi).1
  have hc := h.clt i hi
  refine leadN_eq (by omega) (h.lead i hi) (.inr ?_)
  rw [h.one i hi i hi, if_pos rfl]
  omega
theorem Basis.inj {p : Int} {m : Nat} {red : List (List Int)} {c : Nat → Nat} (h : Basis p m red c) {i j : Nat} (hi : i < red.length) (hj : j < red.length) (he : c i = c j) : i = j := by
  rcases Nat.lt_trichotomy i j with hij | hij | hij
  · have := h.mono i j hij hj; omega
  · exact hij
  · have := h.mono j i hij hi; omega
theorem Basis.piv {p : Int} {m : Nat} {red : List (List Int)} {c : Nat → Nat} (h : Basis p m red c) {i : Nat} (hi : i < red.length) : pivIx red (c i) = some i := by
  cases hp : pivIx red (c i) with
  | none => exact absurd (h.leadN hi) (pivIx_none hp i hi)
  | some j =>
    obtain ⟨hj, hl⟩ := pivIx_some hp
    rw [h.leadN hj] at hl
    rw [h.inj hj hi hl]

/-- The vector of the kernel with 1 at a free place f. -/
def kerN (p : Int) (red : List (List Int)) (f t : Nat) : Int := if t = f then 1 else match pivIx red t with | some i => (-(nth (nthR red i) f)) % p | none => 0
def kerV (p : Int) (n : Nat) (red : List (List Int)) (f : Nat) : List Int := (List.range n).map (kerN p red f)
theorem kerV_len {p : Int} {n : Nat} {red : List (List Int)} {f : Nat} : (kerV p n red f).length = n := by simp [kerV]
theorem kerV_nth {p : Int} {n : Nat} {red : List (List Int)} {f t : Nat} (ht : t < n) : nth (kerV p n red f) t = kerN p red f t := by
  unfold kerV; rw [nth_map (by simpa using ht)]; simp
theorem kerV_good {p : Int} {n : Nat} {red : List (List Int)} {f : Nat} (hp : 3 ≤ p) : Good p n (kerV p n red f) := ⟨kerV_len, fun t ht => by
  rw [kerV_nth ht]
  unfold kerN
  split
  · omega
  · split
    · exact ⟨Int.emod_nonneg _ (by omega), Int.emod_lt_of_pos _ (by omega)⟩
    · omega⟩
/-- The free places ahead of k. -/
def freeL (red : List (List Int)) (k : Nat) : List Nat := (List.range k).filter fun t => (pivIx red t).isNone
theorem freeL_no {red : List (List Int)} {k i : Nat} (h : pivIx red k = some i) : freeL red (k + 1) = freeL red k := by simp [freeL, List.range_succ, List.filter_append, h]
theorem freeL_yes {red : List (List Int)} {k : Nat} (h : pivIx red k = none) : freeL red (k + 1) = freeL red k ++ [k] := by simp [freeL, List.range_succ, List.filter_append, h]
theorem freeL_len (red : List (List Int)) (k : Nat) : (freeL red k).length ≤ k := by
  unfold freeL
  have := List.length_filter_le (fun t => (pivIx red t).isNone) (List.range k)
  simpa using this
def kerR (p : Int) (n : Nat) (red : List (List Int)) (k : Nat) : List (List Int) := (freeL red k).map (kerV p n red)
theorem kerR_good {p : Int} {n : Nat} {red : List (List Int)} {k : Nat} (hp : 3 ≤ p) : RowsG p n (kerR p n red k) := fun i hi => by
  unfold kerR at hi ⊢
  rw [nthR_map (by simpa using hi)]
  exact kerV_good hp
/-- The reduced basis of the vectors with n numbers whose products with all rows are 0. -/
def kernL (p : Int) (n : Nat) (rows : List (List Int)) : List (List Int) := basisL p n (kerR p n (basisL p n rows) n)

/-- The solution that is 0 at all free places. -/
def wideL (rows : List (List Int)) (v : List Int) (k : Nat) : List (List Int) := (List.range k).map fun i => nthR rows i ++ [nth v i]
theorem wideL_succ (rows : List (List Int)) (v : List Int) (k : Nat) : wideL rows v (k + 1) = wideL rows v k ++ [nthR rows k ++ [nth v k]] := by simp [wideL, List.range_succ]
theorem wideL_len (rows : List (List Int)) (v : List Int) (k : Nat) : (wideL rows v k).length = k := by simp [wideL]
theorem good_snoc {p : Int} {n : Nat} {x : List Int} {v : Int} (hx : Good p n x) (h0 : 0 ≤ v) (h1 : v < p) : Good p (n + 1) (x ++ [v]) := by
  refine ⟨by simp [hx.1], fun i hi => ?_⟩
  by_cases h : i < n
  · rw [nth_append_left (by rw [hx.1]; exact h)]; exact hx.2 i h
  · have : i = x.length := by rw [hx.1]; omega
    rw [this, nth_append_len]; exact ⟨h0, h1⟩
theorem wideL_good {p : Int} {n : Nat} {rows : List (List Int)} {v : List Int} {k : Nat} (hg : RowsG p n rows) (hv : Good p k v) (hk : k ≤ rows.length) : RowsG p (n + 1) (wideL rows v k) := fun i hi => by
  rw [wideL_len] at hi
  unfold wideL
  rw [nthR_map (by simpa using hi)]
  simp only [List.getElem_range]
  exact good_snoc (hg i (by omega)) (hv.2 i hi).1 (hv.2 i hi).2
def solN (n : Nat) (red : List (List Int)) (t : Nat) : Int := match pivIx red t with | some i => nth (nthR red i) n | none => 0
def solL (n : Nat) (red : List (List Int)) : List Int := (List.range n).map (solN n red)
def okS (n : Nat) (red : List (List Int)) : Bool := (pivIx red n).isNone
/-- The solution as it stands when the first k rows have been gone through. -/
def solS (n : Nat) (red : List (List Int)) : Nat → List Int
  | 0 => List.replicate n 0
  | k + 1 => (solS n red k).set (leadN (nthR red k)) (nth (nthR red k) n)
theorem solS_len {n : Nat} {red : List (List Int)} : ∀ k, (solS n red k).length = n
  | 0 => by simp [solS]
  | k + 1 => by simp [solS, solS_len k]
theorem solS_nth {p : Int} {m n : Nat} {red : List (List Int)} {c : Nat → Nat} (h : Basis p m red c) : ∀ k, k ≤ red.length → ∀ t, t < n → nth (solS n red k) t = match pivIx red t with | some i => if i < k then nth (nthR red i) n else 0 | none => 0
  | 0, _, t, ht => by
    unfold solS
    rw [nth_replicate ht]
    split
    · rw [if_neg (by omega)]
    · rfl
  | k + 1, hk, t, ht => by
    have ih := solS_nth h k (by omega) t ht (n := n)
    show nth ((solS n red k).set (leadN (nthR red k)) (nth (nthR red k) n)) t = _
    by_cases hl : leadN (nthR red k) = t
    · have hkl : k < red.length := by omega
      rw [hl, nth_set (by rw [solS_len]; exact ht), if_pos rfl]
      have hp : pivIx red t = some k := by rw [← hl, h.leadN hkl]; exact h.piv hkl
      rw [hp]
      show _ = if k < k + 1 then _ else _
      rw [if_pos (by omega)]
    · have e : nth ((solS n red k).set (leadN (nthR red k)) (nth (nthR red k) n)) t = nth (solS n red k) t := by
        simp only [nth]
        rw [List.getD_eq_getElem?_getD, List.getElem?_set_ne hl, ← List.getD_eq_getElem?_getD]
      rw [e, ih]
      cases hp : pivIx red t with
      | none => rfl
      | some i =>
        show (if i < k then _ else _) = if i < k + 1 then _ else _
        have : i ≠ k := fun hik => by subst hik; exact hl (pivIx_some hp).2
        by_cases hi : i < k
        · rw [if_pos hi, if_pos (by omega)]
        · rw [if_neg hi, if_neg (by omega)]
theorem solS_all {p : Int} {m n : Nat} {red : List (List Int)} {c : Nat → Nat} (h : Basis p m red c) : solS n red red.length = solL n red := by
  refine ext_nth (by rw [solS_len]; simp [solL]) fun t ht => ?_
  rw [solS_len] at ht
  rw [solS_nth h _ (Nat.le_refl _) t ht]
  unfold solL
  rw [nth_map (by simpa using ht)]
  simp only [List.getElem_range]
  unfold solN
  cases hp : pivIx red t with
  | none => rfl
  | some i => show (if i < red.length then _ else _) = _; rw [if_pos (pivIx_some hp).1]
theorem nth_bd0 {p : Int} {m : Nat} {x : List Int} (hp : 1 ≤ p) (hx : Good p m x) (i : Nat) : 0 ≤ nth x i ∧ nth x i < p := by
  by_cases h : i < m
  · exact hx.2 i h
  · have : nth x i = 0 := by
      simp only [nth, List.getD_eq_getElem?_getD]
      rw [List.getElem?_eq_none (by rw [hx.1]; omega)]; rfl
    omega
theorem sol_good {p : Int} {m n : Nat} {red : List (List Int)} (hp : 1 ≤ p) (hg : RowsG p m red) : Good p n (solL n red) := ⟨by simp [solL], fun t ht => by
  unfold solL
  rw [nth_map (by simpa using ht)]
  simp only [List.getElem_range]
  unfold solN
  split
  · rename_i i h; exact nth_bd0 hp (hg i (pivIx_some h).1) n
  · omega⟩

end Go.Proofs.Ythflmmgolegonaa

/-
  Reduced bases have the same solutions; solutions of linear systems; in plain numbers.
  No condition. No program in sight.
-/
namespace Go.Proofs.Ythflmmgolegonaa
set_option maxRecDepth 100000
open Go.RowKit

def dotN (m : Nat) (x z : List Int) : Int := sumN m fun t => nth x t * nth z t
theorem dot_plus {p k : Int} {m : Nat} {x y z : List Int} : dotN m (plusL p x y k m) z % p = (dotN m x z + k * dotN m y z) % p := by
  unfold dotN
  rw [← sumN_mul, ← sumN_add]
  refine sumN_emod fun t ht => ?_
  rw [plusL_nth ht, plusN]
  have : (nth x t + k * nth y t) * nth z t = nth x t * nth z t + k * (nth y t * nth z t) := by rw [Int.add_mul, Int.mul_assoc]
  rw [← this]
  exact mul_emod_congr (Int.emod_emod _ _) rfl
theorem dot_scale {p k : Int} {m : Nat} {x z : List Int} : dotN m (scaleL p x k m) z % p = (k * dotN m x z) % p := by
  unfold dotN
  rw [← sumN_mul]
  refine sumN_emod fun t ht => ?_
  rw [scaleL_nth ht, scaleN]
  have : nth x t * k * nth z t = k * (nth x t * nth z t) := by ac_rfl
  rw [← this]
  exact mul_emod_congr (Int.emod_emod _ _) rfl

/-- The product with each row is 0. -/
def Kill (p : Int) (m : Nat) (rows : List (List Int)) (z : List Int) : Prop := ∀ i, i < rows.length → dotN m (nthR rows i) z % p = 0

theorem kill_up {p : Int} {m d k i : Nat} {rows : List (List Int)} {z : List Int} (hp : primeB p = true) (hk : k < m) (hg : RowsG p m rows) (hd : d < rows.length) (hi : i < rows.length) (hne : nth (nthR rows i) k ≠ 0) :
    Kill p m (upG p m rows d k i) z ↔ Kill p m rows z := by
  have hpb := prime_bd hp
  have hb := (hg i hi).2 k hk
  have hinv := (inv_spec hp (show 0 < nth (nthR rows i) k by omega) hb.2).2.1
  unfold Kill
  rw [upG_len]
  constructor
  · intro h j hj
    by_cases hji : j = i
    · subst hji
      have := h d hd
      rw [upG_nth hd hi, if_pos rfl, dot_scale] at this
      have e : (nth (nthR rows j) k * (invN p (nth (nthR rows j) k) * dotN m (nthR rows j) z)) % p = 0 := by
        rw [Int.mul_emod, this]; simp
      rw [← Int.mul_assoc, Int.mul_emod, hinv] at e
      rwa [Int.one_mul, Int.emod_emod] at e
    · by_cases hjd : j = d
      · subst hjd
        have := h i hi
        rwa [upG_nth hd hi, if_neg (Ne.symm hji), if_pos rfl] at this
      · have := h j hj
        rwa [upG_nth hd hi, if_neg hjd, if_neg hji] at this
  · intro h j hj
    rw [upG_nth hd hi]
    split
    · rw [dot_scale, Int.mul_emod, h i hi]; simp
    · split
      · exact h d hd
      · exact h j hj
theorem kill_clr {p : Int} {m d k : Nat} {rows : List (List Int)} {z : List Int} (hd : d < rows.length) :
    Kill p m (clrS p k m d rows rows.length) z ↔ Kill p m rows z := by
  unfold Kill
  rw [clrS_len]
  have hD : nthR (clrS p k m d rows rows.length) d = nthR rows d := by rw [clrS_nth _ (Nat.le_refl _), if_neg (by omega)]
  constructor
  · intro h j hj
    have h1 := h j hj
    have h2 := h d hd
    rw [hD] at h2
    rw [clrS_nth _ (Nat.le_refl _)] at h1
    split at h1
    · rw [dot_plus, Int.add_emod, Int.mul_emod, h2] at h1
      simpa using h1
    · exact h1
  · intro h j hj
    rw [clrS_nth _ (Nat.le_refl _)]
    split
    · rw [dot_plus, Int.add_emod, h j hj, Int.mul_emod, h d hd]; simp
    · exact h j hj
theorem kill_gauss {p : Int} {m : Nat} {rows : List (List Int)} {z : List Int} (hp : primeB p = true) (hg : RowsG p m rows) : ∀ k, k ≤ m → (Kill p m (gaussS p m rows k).1 z ↔ Kill p m rows z)
  | 0, _ => Iff.rfl
  | k + 1, hk => by
    obtain ⟨h1, c, h2⟩ := gaussS_red hp hg k (by omega)
    obtain ⟨p1, p2, p3, p4⟩ := pivG_spec (gaussS p m rows k).1 k (gaussS p m rows k).2 h2.dle
    rw [← kill_gauss hp hg k (by omega)]
    show Kill p m (stepG p m (gaussS p m rows k) k).1 z ↔ _
    by_cases hn : pivG (gaussS p m rows k).1 k (gaussS p m rows k).2 = (gaussS p m rows k).1.length
    · rw [stepG_no hn]
    · have hi : pivG (gaussS p m rows k).1 k (gaussS p m rows k).2 < (gaussS p m rows k).1.length := by omega
      have hd : (gaussS p m rows k).2 < (gaussS p m rows k).1.length := by omega
      rw [stepG_yes rfl hi, ← kill_up hp (show k < m by omega) h1 hd hi (by rcases p4 with h | h; omega; exact h)]
      have := kill_clr (p := p) (m := m) (k := k) (rows := upG p m (gaussS p m rows k).1 (gaussS p m rows k).2 k (pivG (gaussS p m rows k).1 k (gaussS p m rows k).2)) (z := z) (d := (gaussS p m rows k).2) (by rw [upG_len]; exact hd)
      rw [upG_len] at this
      exact this
/-- The reduced basis has the same solutions. -/
theorem kill_basis {p : Int} {m : Nat} {rows : List (List Int)} {z : List Int} (hp : primeB p = true) (hg : RowsG p m rows) : Kill p m (basisL p m rows) z ↔ Kill p m rows z := by
  rw [← kill_gauss hp hg m (Nat.le_refl _)]
  obtain ⟨h1, c, h2⟩ := gaussS_red hp hg m (Nat.le_refl _)
  have hl : (basisL p m rows).length = (gaussS p m rows m).2 := by unfold basisL; rw [List.length_take, Nat.min_eq_left h2.dle]
  unfold Kill
  constructor
  · intro h i hi
    by_cases hid : i < (gaussS p m rows m).2
    · have := h i (by omega)
      unfold basisL at this
      rwa [nthR_take hid] at this
    · unfold dotN
      rw [sumN_zero fun t ht => by rw [h2.rest i (by omega) hi t ht, Int.zero_mul]]; simp
  · intro h i hi
    have := h i (by have := h2.dle; omega)
    unfold basisL
    rwa [nthR_take (by omega)]

/-! ### Linear systems -/
theorem nth_len {x : List Int} {n : Nat} {v : Int} (h : x.length = n) : nth (x ++ [v]) n = v := by subst h; exact nth_append_len
theorem dot_snoc {n : Nat} {x y : List Int} {v : Int} (hx : x.length = n) (hy : y.length = n) : dotN (n + 1) (x ++ [v]) (y ++ [-1]) = dotN n x y - v := by
  unfold dotN
  simp only [sumN]
  rw [nth_len hx, nth_len hy, sumN_congr (g := fun t => nth x t * nth y t) fun t ht => by rw [nth_append_left (by omega), nth_append_left (by omega)]]
  omega
/-- y solves the system: the product with row i is number i of v. -/
def Solves (p : Int) (n : Nat) (rows : List (List Int)) (v y : List Int) : Prop := ∀ i, i < rows.length → dotN n (nthR rows i) y % p = nth v i % p
theorem sub_zero_iff {p a b : Int} : (a - b) % p = 0 ↔ a % p = b % p := Int.emod_eq_emod_iff_emod_sub_eq_zero.symm
theorem solves_kill {p : Int} {n : Nat} {rows : List (List Int)} {v y : List Int} (hg : RowsG p n rows) (hy : y.length = n) : Solves p n rows v y ↔ Kill p (n + 1) (wideL rows v rows.length) (y ++ [-1]) := by
  unfold Solves Kill
  rw [wideL_len]
  have e : ∀ i, i < rows.length → nthR (wideL rows v rows.length) i = nthR rows i ++ [nth v i] := fun i hi => by
    unfold wideL; rw [nthR_map (by simpa using hi)]; simp
  constructor
  · intro h i hi
    rw [e i hi, dot_snoc (hg i hi).1 hy]
    exact sub_zero_iff.2 (h i hi)
  · intro h i hi
    have := h i hi
    rw [e i hi, dot_snoc (hg i hi).1 hy] at this
    exact sub_zero_iff.1 this
theorem okS_iff {p : Int} {m n : Nat} {red : List (List Int)} {c : Nat → Nat} (h : Basis p m red c) : okS n red = true ↔ ∀ i, i < red.length → c i ≠ n := by
  unfold okS
  rw [Option.isNone_iff_eq_none]
  constructor
  · intro hn i hi hc
    exact pivIx_none hn i hi (by rw [h.leadN hi, hc])
  · intro hc
    cases hp : pivIx red n with
    | none => rfl
    | some i =>
      obtain ⟨hi, hl⟩ := pivIx_some hp
      rw [h.leadN hi] at hl
      exact absurd hl (hc i hi)
theorem solL_len {n : Nat} {red : List (List Int)} : (solL n red).length = n := by simp [solL]
theorem sol_kill {p : Int} {n : Nat} {red : List (List Int)} {c : Nat → Nat} (h : Basis p (n + 1) red c) (hok : okS n red = true) : Kill p (n + 1) red (solL n red ++ [-1]) := by
  intro i hi
  have hc := (okS_iff h).1 hok
  have e : dotN (n + 1) (nthR red i) (solL n red ++ [-1]) = dotN n (nthR red i) (solL n red) - nth (nthR red i) n := by
    unfold dotN
    simp only [sumN]
    rw [nth_len solL_len, sumN_congr (g := fun t => nth (nthR red i) t * nth (solL n red) t) fun t ht => by rw [nth_append_left (by rw [solL_len]; exact ht)]]
    omega
  rw [e]
  have hci : c i < n := by have := h.clt i hi; have := hc i hi; omega
  have : dotN n (nthR red i) (solL n red) = nth (nthR red i) n := by
    unfold dotN
    have sn : ∀ t, t < n → nth (solL n red) t = solN n red t := fun t ht => by unfold solL; rw [nth_map (by simpa using ht)]; simp
    rw [sumN_single hci fun t ht hne => by
      rw [sn t ht]
      unfold solN
      cases hp : pivIx red t with
      | none => simp
      | some j =>
        obtain ⟨hj, hl⟩ := pivIx_some hp
        rw [h.leadN hj] at hl
        subst hl
        rw [h.one j hj i hi, if_neg (fun e => hne (by rw [e]))]; simp]
    rw [h.one i hi i hi, if_pos rfl, sn _ hci, Int.one_mul]
    unfold solN
    rw [h.piv hi]
  rw [this]; simp
theorem sol_spec {p : Int} {n : Nat} {rows : List (List Int)} {v : List Int} (hp : primeB p = true) (hg : RowsG p n rows) (hv : Good p rows.length v) (hok : okS n (basisL p (n + 1) (wideL rows v rows.length)) = true) :
    Solves p n rows v (solL n (basisL p (n + 1) (wideL rows v rows.length))) := by
  have hw := wideL_good hg hv (Nat.le_refl _)
  obtain ⟨c, hb⟩ := basis_red hp hw
  rw [solves_kill hg solL_len, ← kill_basis hp hw]
  exact sol_kill hb hok
theorem sol_exists {p : Int} {n : Nat} {rows : List (List Int)} {v y : List Int} (hp : primeB p = true) (hg : RowsG p n rows) (hv : Good p rows.length v) (hy : y.length = n) (h : Solves p n rows v y) :
    okS n (basisL p (n + 1) (wideL rows v rows.length)) = true := by
  have hpb := prime_bd hp
  have hw := wideL_good hg hv (Nat.le_refl _)
  obtain ⟨c, hb⟩ := basis_red hp hw
  rw [solves_kill hg hy, ← kill_basis hp hw] at h
  rw [okS_iff hb]
  intro i hi hc
  have hk := h i hi
  unfold dotN at hk
  rw [sumN_single (k := n) (by omega) fun t ht hne => by rw [hb.lead i hi t (by omega), Int.zero_mul]] at hk
  have h1 := hb.one i hi i hi
  rw [hc, if_pos rfl] at h1
  rw [h1, nth_len hy] at hk
  have hq : p = 3 ∨ p = 5 ∨ p = 7 ∨ p = 11 ∨ p = 13 := by simp [primeB] at hp; omega
  rcases hq with rfl | rfl | rfl | rfl | rfl <;> simp at hk

/-! ### The dove-cote -/
theorem dove : ∀ (M : Nat) (f : Nat → Nat), (∀ k, k ≤ M → f k < M) → ∃ i j, i < j ∧ j ≤ M ∧ f i = f j
  | 0, f, h => absurd (h 0 (Nat.le_refl _)) (Nat.not_lt_zero _)
  | M + 1, f, h => by
    by_cases hx : ∃ j, j < M + 1 ∧ f j = f (M + 1)
    · obtain ⟨j, hj, he⟩ := hx
      exact ⟨j, M + 1, hj, Nat.le_refl _, he⟩
    · have hx' : ∀ j, j < M + 1 → f j ≠ f (M + 1) := fun j hj he => hx ⟨j, hj, he⟩
      obtain ⟨i, j, hij, hj, he⟩ := dove M (fun k => if f k = M then f (M + 1) else f k) fun k hk => by
        have h1 := h k (by omega)
        have h2 := h (M + 1) (Nat.le_refl _)
        have h3 := hx' k (by omega)
        show (if f k = M then f (M + 1) else f k) < M
        split <;> omega
      refine ⟨i, j, hij, by omega, ?_⟩
      have he : (if f i = M then f (M + 1) else f i) = (if f j = M then f (M + 1) else f j) := he
      have h3 := hx' i (by omega)
      have h4 := hx' j (by omega)
      split at he <;> split at he
      · omega
      · exact absurd he.symm h4
      · exact absurd he h3
      · exact he
def encL (q : Nat) : List Int → Nat
  | [] => 0
  | x :: xs => x.toNat + q * encL q xs
theorem encL_lt {p : Int} {q : Nat} (hq : p = q) : ∀ (n : Nat) (x : List Int), Good p n x → encL q x < q ^ n
  | 0, x, h => by
    have : x = [] := List.length_eq_zero_iff.1 h.1
    subst this; exact Nat.one_pos
  | n + 1, [], h => by have := h.1; simp at this
  | n + 1, x :: xs, h => by
    have hx := h.2 0 (by omega)
    have hxs : Good p n xs := ⟨by have := h.1; simpa using this, fun i hi => by have := h.2 (i + 1) (by omega); simpa [nth] using this⟩
    have ih := encL_lt hq n xs hxs
    have h0 : nth (x :: xs) 0 = x := by simp [nth]
    rw [h0] at hx
    show x.toNat + q * encL q xs < q ^ (n + 1)
    rw [Nat.pow_succ, Nat.mul_comm (q ^ n)]
    have : q * (encL q xs + 1) ≤ q * q ^ n := Nat.mul_le_mul_left _ ih
    rw [Nat.mul_add, Nat.mul_one] at this
    omega
theorem encL_inj {p : Int} {q : Nat} (hq : p = q) : ∀ (n : Nat) (x y : List Int), Good p n x → Good p n y → encL q x = encL q y → x = y
  | 0, x, y, h, h', _ => by rw [List.length_eq_zero_iff.1 h.1, List.length_eq_zero_iff.1 h'.1]
  | n + 1, [], _, h, _, _ => by have := h.1; simp at this
  | n + 1, _ :: _, [], _, h, _ => by have := h.1; simp at this
  | n + 1, x :: xs, y :: ys, h, h', he => by
    have hx := h.2 0 (by omega)
    have hy := h'.2 0 (by omega)
    have g : ∀ z zs, Good p (n + 1) (z :: zs) → Good p n zs := fun z zs h => ⟨by have := h.1; simpa using this, fun i hi => by have := h.2 (i + 1) (by omega); simpa [nth] using this⟩
    have h0 : ∀ z zs, nth (z :: zs) 0 = z := fun z zs => by simp [nth]
    rw [h0] at hx hy
    have he' : x.toNat + q * encL q xs = y.toNat + q * encL q ys := he
    have hxl : x.toNat < q := by omega
    have hyl : y.toNat < q := by omega
    have e1 : x.toNat = y.toNat := by
      have := congrArg (· % q) he'
      simp only [Nat.add_mul_mod_self_left] at this
      rwa [Nat.mod_eq_of_lt hxl, Nat.mod_eq_of_lt hyl] at this
    have e2 : encL q xs = encL q ys := by
      have : q * encL q xs = q * encL q ys := by omega
      exact Nat.eq_of_mul_eq_mul_left (by omega) this
    rw [encL_inj hq n xs ys (g _ _ h) (g _ _ h') e2, show x = y by omega]

/-- A right inverse is a left inverse. -/
theorem inv_both {p : Int} {qs x y : List Int} (hp : 3 ≤ p) (hd : qs.length ≤ 6) (_hx : Good p (2 ^ qs.length) x) (hy : Good p (2 ^ qs.length) y) (h : prodL p qs tkA x y = bladeL (2 ^ qs.length) 0) : prodL p qs tkA y x = bladeL (2 ^ qs.length) 0 := by
  have hq : p = (p.toNat : Int) := by omega
  obtain ⟨i, j, hij, _, he⟩ := dove (p.toNat ^ 2 ^ qs.length) (fun k => encL p.toNat (powL p qs x k)) fun k _ => encL_lt hq _ _ (pow_good hp k)
  have he' : powL p qs x i = powL p qs x j := encL_inj hq _ _ _ (pow_good hp i) (pow_good hp j) he
  -- x^i y^i = 1
  have cancel : ∀ i, prodL p qs tkA (powL p qs x i) (powL p qs y i) = bladeL (2 ^ qs.length) 0 := fun i => by
    induction i with
    | zero => exact times_one (by omega) (blade_good hp)
    | succ i ih =>
      have e : powL p qs y (i + 1) = prodL p qs tkA y (powL p qs y i) := by
        rw [Nat.add_comm, ← pow_add hp hd 1 i, pow_one hp hy]
      show prodL p qs tkA (prodL p qs tkA (powL p qs x i) x) (powL p qs y (i + 1)) = _
      rw [e, prod_assoc (by omega) hd, ← prod_assoc (x := x) (by omega) hd, h, one_times hp (pow_good hp i), ih]
  have hn : powL p qs x (j - i) = bladeL (2 ^ qs.length) 0 := by
    have h1 := cancel i
    rw [he', show j = (j - i) + i by omega, ← pow_add hp hd, prod_assoc (by omega) hd, cancel i, times_one (by omega) (pow_good hp _)] at h1
    exact h1
  obtain ⟨k, hk⟩ : ∃ k, j - i = k + 1 := ⟨j - i - 1, by omega⟩
  rw [hk] at hn
  -- y = x^k
  have hyk : y = powL p qs x k := by
    have : prodL p qs tkA (powL p qs x (k + 1)) y = y := by rw [hn]; exact one_times hp hy
    rw [← this]
    show prodL p qs tkA (prodL p qs tkA (powL p qs x k) x) y = _
    rw [prod_assoc (by omega) hd, h, times_one (by omega) (pow_good hp k)]
  rw [hyk]; exact hn

end Go.Proofs.Ythflmmgolegonaa

/-
  The wedge product, contractions, reverses and duals in plain numbers.
  No condition. No program in sight.
-/
namespace Go.Proofs.Ythflmmgolegonaa
set_option maxRecDepth 100000
open Go.RowKit

/-! ### Products of parts are associative where their conditions agree -/
/-- The coefficient of a product of parts. -/
def tkI (tk : Nat → Nat → Bool) (a b : Nat) : Int := if tk a b = true then 1 else 0
theorem prodT_nth {p : Int} {qs x y : List Int} {tk : Nat → Nat → Bool} (hp : 1 ≤ p) {k : Nat} (hk : k < 2 ^ qs.length) :
    nth (prodL p qs tk x y) k = (sumN (2 ^ qs.length) fun i => tkI tk i (i ^^^ k) * (nth x i * nth y (i ^^^ k) * facZ qs i (i ^^^ k) qs.length)) % p := by
  rw [prod_nth1 hp hk]
  refine sumN_emod fun i hi => ?_
  unfold tkI
  split
  · rw [Int.one_mul]; exact mul_emod_congr rfl fac_emod
  · rw [Int.zero_mul]
/-- (x 1 y) 2 z = x 3 (y 4 z) -/
theorem prodT_assoc {p : Int} {qs x y z : List Int} {t1 t2 t3 t4 : Nat → Nat → Bool} (hp : 1 ≤ p) (hd : qs.length ≤ 6)
    (ht : ∀ a, a < 2 ^ qs.length → ∀ b, b < 2 ^ qs.length → ∀ c, c < 2 ^ qs.length → (t1 a b && t2 (a ^^^ b) c) = (t4 b c && t3 a (b ^^^ c))) :
    prodL p qs t2 (prodL p qs t1 x y) z = prodL p qs t3 x (prodL p qs t4 y z) := by
  have hN := pow_le64 hd
  have hT : ∀ a, a < 2 ^ qs.length → ∀ b, b < 2 ^ qs.length → ∀ c, c < 2 ^ qs.length → tkI t1 a b * tkI t2 (a ^^^ b) c = tkI t4 b c * tkI t3 a (b ^^^ c) := fun a ha b hb c hc => by
    have := ht a ha b hb c hc
    unfold tkI
    cases h1 : t1 a b <;> cases h2 : t2 (a ^^^ b) c <;> cases h3 : t4 b c <;> cases h4 : t3 a (b ^^^ c) <;> simp_all
  refine ext_nth (by rw [(prod_good hp).1, (prod_good hp).1]) fun k hk => ?_
  rw [(prod_good hp).1] at hk
  rw [prodT_nth hp hk, prodT_nth hp hk]
  have e1 : ∀ m, m < 2 ^ qs.length → (tkI t2 m (m ^^^ k) * (nth (prodL p qs t1 x y) m * nth z (m ^^^ k) * facZ qs m (m ^^^ k) qs.length)) % p =
      (sumN (2 ^ qs.length) fun a => tkI t1 a (a ^^^ m) * (nth x a * nth y (a ^^^ m) * facZ qs a (a ^^^ m) qs.length) * (tkI t2 m (m ^^^ k) * (nth z (m ^^^ k) * facZ qs m (m ^^^ k) qs.length))) % p := fun m hm => by
    rw [prodT_nth hp hm, sumN_mulr, Int.mul_assoc (_ % p), Int.mul_left_comm]
    exact mul_emod_congr (Int.emod_emod _ _) rfl
  have e2 : ∀ a, a < 2 ^ qs.length → (tkI t3 a (a ^^^ k) * (nth x a * nth (prodL p qs t4 y z) (a ^^^ k) * facZ qs a (a ^^^ k) qs.length)) % p =
      (sumN (2 ^ qs.length) fun m => tkI t1 a (a ^^^ m) * (nth x a * nth y (a ^^^ m) * facZ qs a (a ^^^ m) qs.length) * (tkI t2 m (m ^^^ k) * (nth z (m ^^^ k) * facZ qs m (m ^^^ k) qs.length))) % p := fun a ha => by
    rw [prodT_nth hp (Nat.xor_lt_two_pow ha hk), ← sumN_xor hd ha]
    have : (tkI t3 a (a ^^^ k) * (nth x a * ((sumN (2 ^ qs.length) fun m => tkI t4 (a ^^^ m) (a ^^^ m ^^^ (a ^^^ k)) * (nth y (a ^^^ m) * nth z (a ^^^ m ^^^ (a ^^^ k)) * facZ qs (a ^^^ m) (a ^^^ m ^^^ (a ^^^ k)) qs.length)) % p) * facZ qs a (a ^^^ k) qs.length)) % p =
        (tkI t3 a (a ^^^ k) * nth x a * (sumN (2 ^ qs.length) fun m => tkI t4 (a ^^^ m) (a ^^^ m ^^^ (a ^^^ k)) * (nth y (a ^^^ m) * nth z (a ^^^ m ^^^ (a ^^^ k)) * facZ qs (a ^^^ m) (a ^^^ m ^^^ (a ^^^ k)) qs.length)) * facZ qs a (a ^^^ k) qs.length) % p := by
      rw [← Int.mul_assoc, ← Int.mul_assoc]
      exact mul_emod_congr (mul_emod_congr rfl (Int.emod_emod _ _)) rfl
    rw [this, ← sumN_mul, ← sumN_mulr]
    congr 1
    refine sumN_congr fun m hm => ?_
    rw [xor_cancel]
    have ham := Nat.xor_lt_two_pow ha hm
    have hmk := Nat.xor_lt_two_pow hm hk
    have hc := facZ_cocycle (qs := qs) (a := a) (b := a ^^^ m) (c := m ^^^ k) (by omega) (Nat.lt_of_lt_of_le ham hN) qs.length hd
    have hT' := hT a ha (a ^^^ m) ham (m ^^^ k) hmk
    have x1 : a ^^^ (a ^^^ m) = m := by rw [← Nat.xor_assoc, Nat.xor_self, Nat.zero_xor]
    have x2 : a ^^^ m ^^^ (m ^^^ k) = a ^^^ k := by rw [Nat.xor_assoc, ← Nat.xor_assoc m m k, Nat.xor_self, Nat.zero_xor]
    rw [x1, x2] at hc hT'
    rw [show tkI t1 a (a ^^^ m) * (nth x a * nth y (a ^^^ m) * facZ qs a (a ^^^ m) qs.length) * (tkI t2 m (m ^^^ k) * (nth z (m ^^^ k) * facZ qs m (m ^^^ k) qs.length)) = nth x a * nth y (a ^^^ m) * nth z (m ^^^ k) * ((facZ qs a (a ^^^ m) qs.length * facZ qs m (m ^^^ k) qs.length) * (tkI t1 a (a ^^^ m) * tkI t2 m (m ^^^ k))) by ac_rfl, hc, hT']
    ac_rfl
  rw [sumN_emod e1, sumN_emod e2, sumN_swap]

theorem bit_all {a b : Nat} (ha : a < 64) (hb : b < 64) (h : ∀ i, i < 6 → a.testBit i = b.testBit i) : a = b := by
  apply Nat.eq_of_testBit_eq
  intro i
  by_cases hi : i < 6
  · exact h i hi
  · rw [Nat.testBit_lt_two_pow (Nat.lt_of_lt_of_le ha (by exact Nat.pow_le_pow_right (by omega) (show 6 ≤ i by omega) : 2 ^ 6 ≤ 2 ^ i)), Nat.testBit_lt_two_pow (Nat.lt_of_lt_of_le hb (by exact Nat.pow_le_pow_right (by omega) (show 6 ≤ i by omega) : 2 ^ 6 ≤ 2 ^ i))]
theorem tkW_iff {a b : Nat} : tkW a b = true ↔ ∀ i, (a.testBit i && b.testBit i) = false := by
  unfold tkW
  rw [beq_iff_eq]
  constructor
  · intro h i
    rw [← Nat.testBit_and, h, Nat.zero_testBit]
  · intro h
    apply Nat.eq_of_testBit_eq
    intro i
    rw [Nat.testBit_and, h i, Nat.zero_testBit]
theorem tkL_iff {a b : Nat} : tkL a b = true ↔ ∀ i, a.testBit i = true → b.testBit i = true := by
  unfold tkL
  rw [beq_iff_eq]
  constructor
  · intro h i hi
    have : (a &&& b).testBit i = true := by rw [h]; exact hi
    rw [Nat.testBit_and] at this
    simp_all
  · intro h
    apply Nat.eq_of_testBit_eq
    intro i
    rw [Nat.testBit_and]
    cases ha : a.testBit i
    · rfl
    · rw [h i ha]; rfl
theorem wedge_tk (a b c : Nat) : (tkW a b && tkW (a ^^^ b) c) = (tkW b c && tkW a (b ^^^ c)) := by
  rw [Bool.eq_iff_iff]
  simp only [Bool.and_eq_true, tkW_iff, Nat.testBit_xor]
  constructor
  · rintro ⟨h1, h2⟩
    refine ⟨fun i => ?_, fun i => ?_⟩ <;> (have h3 := h1 i; have h4 := h2 i; revert h3 h4; cases a.testBit i <;> cases b.testBit i <;> cases c.testBit i <;> simp)
  · rintro ⟨h1, h2⟩
    refine ⟨fun i => ?_, fun i => ?_⟩ <;> (have h3 := h1 i; have h4 := h2 i; revert h3 h4; cases a.testBit i <;> cases b.testBit i <;> cases c.testBit i <;> simp)
/-- The wedge product is associative. -/
theorem wedge_assoc {p : Int} {qs x y z : List Int} (hp : 1 ≤ p) (hd : qs.length ≤ 6) : prodL p qs tkW (prodL p qs tkW x y) z = prodL p qs tkW x (prodL p qs tkW y z) :=
  prodT_assoc hp hd fun a _ b _ c _ => wedge_tk a b c
theorem left_tk (a b c : Nat) : (tkW a b && tkL (a ^^^ b) c) = (tkL b c && tkL a (b ^^^ c)) := by
  rw [Bool.eq_iff_iff]
  simp only [Bool.and_eq_true, tkW_iff, tkL_iff, Nat.testBit_xor]
  constructor
  · rintro ⟨h1, h2⟩
    refine ⟨fun i => ?_, fun i => ?_⟩ <;> (have h3 := h1 i; have h4 := h2 i; revert h3 h4; cases a.testBit i <;> cases b.testBit i <;> cases c.testBit i <;> simp)
  · rintro ⟨h1, h2⟩
    refine ⟨fun i => ?_, fun i => ?_⟩ <;> (have h3 := h1 i; have h4 := h2 i; revert h3 h4; cases a.testBit i <;> cases b.testBit i <;> cases c.testBit i <;> simp)
/-- The left contraction of a wedge product. -/
theorem left_wedge {p : Int} {qs x y z : List Int} (hp : 1 ≤ p) (hd : qs.length ≤ 6) : prodL p qs tkL (prodL p qs tkW x y) z = prodL p qs tkL x (prodL p qs tkL y z) :=
  prodT_assoc hp hd fun a _ b _ c _ => left_tk a b c

/-! ### Sums and multiples -/
theorem prod_plus_right {p k : Int} {qs x y z : List Int} {tk : Nat → Nat → Bool} (hp : 1 ≤ p) : prodL p qs tk x (plusL p y z k (2 ^ qs.length)) = plusL p (prodL p qs tk x y) (prodL p qs tk x z) k (2 ^ qs.length) := by
  refine ext_nth (by rw [(prod_good hp).1, plusL_len]) fun i hi => ?_
  rw [(prod_good hp).1] at hi
  rw [plusL_nth hi, prodT_nth hp hi, plusN, prodT_nth hp hi, prodT_nth hp hi, Int.emod_add_emod, Int.add_comm (sumN _ _), ← Int.emod_add_emod, Int.mul_emod, Int.emod_emod, ← Int.mul_emod, Int.emod_add_emod, ← sumN_mul, ← sumN_add]
  refine sumN_emod fun a ha => ?_
  rw [plusL_nth (Nat.xor_lt_two_pow ha hi), plusN]
  have : ∀ u v f s : Int, (s * (u * ((v) % p) * f)) % p = (s * (u * v * f)) % p := fun u v f s => mul_emod_congr rfl (mul_emod_congr (mul_emod_congr rfl (Int.emod_emod _ _)) rfl)
  rw [this]
  congr 1
  rw [Int.mul_add, Int.add_mul, Int.mul_add, Int.add_comm]
  congr 1
  ac_rfl
theorem prod_plus_left {p k : Int} {qs x y z : List Int} {tk : Nat → Nat → Bool} (hp : 1 ≤ p) : prodL p qs tk (plusL p x y k (2 ^ qs.length)) z = plusL p (prodL p qs tk x z) (prodL p qs tk y z) k (2 ^ qs.length) := by
  refine ext_nth (by rw [(prod_good hp).1, plusL_len]) fun i hi => ?_
  rw [(prod_good hp).1] at hi
  rw [plusL_nth hi, prodT_nth hp hi, plusN, prodT_nth hp hi, prodT_nth hp hi, Int.emod_add_emod, Int.add_comm (sumN _ _), ← Int.emod_add_emod, Int.mul_emod, Int.emod_emod, ← Int.mul_emod, Int.emod_add_emod, ← sumN_mul, ← sumN_add]
  refine sumN_emod fun a ha => ?_
  rw [plusL_nth ha, plusN]
  have : ∀ u v f s : Int, (s * (v % p * u * f)) % p = (s * (v * u * f)) % p := fun u v f s => mul_emod_congr rfl (mul_emod_congr (mul_emod_congr (Int.emod_emod _ _) rfl) rfl)
  rw [this]
  congr 1
  rw [Int.add_mul, Int.add_mul, Int.mul_add, Int.add_comm]
  congr 1
  ac_rfl

end Go.Proofs.Ythflmmgolegonaa

/-
  A region whose first operation is a move that may be carried out at any time: it is carried out first.
  No condition. General over every program.
-/
namespace Go.Proofs.Ythflmmgolegonaa
set_option maxRecDepth 100000
open Go.RowKit

/-- The exit is normal. -/
def strictQ (Q : Exit → Act → World → Prop) : Exit → Act → World → Prop := fun e a w => e = .normal ∧ Q .normal a w
theorem strictQ_normal {Q : Exit → Act → World → Prop} {a : Act} {w : World} (h : Q .normal a w) : strictQ Q .normal a w := ⟨rfl, h⟩

section
variable {P : Program} {ops : Array Oper} {md : Region.Mode} {Q : Exit → Act → World → Prop}
theorem not_letsOut : ¬ LetsOut (strictQ Q) := fun ⟨_, _, h, _⟩ => by cases h
theorem wp_strict {o : Oper} {a : Act} {w : World} {K K' : Act → World → Prop} (h : ∀ a w, K a w → K' a w) (hh : o.wp P a w K (strictQ Q)) : o.wp P a w K' Q := by
  unfold Oper.wp at *
  generalize (execOp a.eval o).run P w = r at *
  cases r with
  | ok n w' =>
    cases n <;> simp only [Oper.upon] at hh ⊢ <;>
      first
        | exact h _ _ hh
        | exact Calls.mono hh (fun e w'' he => by
            cases e with
            | returned v => exact h _ _ he
            | panicked c => exact absurd he.1 (by simp)
            | outgrown => exact absurd he not_letsOut)
        | exact Rows.mono hh (fun _ _ he => h _ _ he)
  | halt x w' =>
    cases x <;> simp only [Oper.upon] at hh ⊢ <;> first | exact hh.elim | exact absurd hh.1 (by simp) | exact hh
theorem wpOp_strict {i : Nat} {a : Act} {w : World} {K K' : Act → World → Prop} (h : ∀ a w, K a w → K' a w) (hh : wpOp P ops (strictQ Q) i K a w) : wpOp P ops Q i K' a w := by
  unfold wpOp at *
  split
  · exact h _ _ (by simpa [*] using hh)
  · rename_i o ho
    simp only [ho] at hh
    split
    · rename_i hw
      simp only [hw, if_true] at hh
      rcases hh with hh | hh
      · exact .inl (wp_strict h hh)
      · exact absurd hh.2 not_letsOut
    · rename_i hw; simp only [hw] at hh; exact h _ _ hh
theorem wpAny_strict : ∀ (f : Nat) (listed : Array Bool) (a : Act) (w : World), wpAny P md ops (strictQ Q) f listed a w → wpAny P md ops Q f listed a w
  | 0, _, _, _, h => ⟨h.1, h.2.2⟩
  | f + 1, _, _, _, h => ⟨fun h0 => (h.1 h0).2, fun i hi => wpOp_strict (fun a w => wpAny_strict f _ a w) (h.2 i hi)⟩

def Region.sinkB1 (md : Region.Mode) (ops : Array Oper) (m n : Nat) : Bool :=
  (List.range n).all fun i => decide (i < m) || (List.range (n + 1)).any fun j => decide (i < j) && Region.waitsFor md ops j i
theorem tail_waits1 {m n : Nat} {listed : Array Bool} (hs : Region.sinkB1 md ops m n = true) (hc : Region.chainB md ops n = true) (hn : n < ops.size) (inv : HeadInv md ops n listed) :
    ∀ (d i : Nat), n - i = d → m ≤ i → i < n → listed.getD i true = false → ∀ t, n ≤ t → t ∉ Region.ready md ops listed := by
  intro d
  induction d using Nat.strongRecOn with
  | _ d ih =>
    intro i hd hm hi hun t ht hr
    obtain ⟨_, ot, hot, hall⟩ := mem_ready.1 hr
    have htlt : t < ops.size := (Array.getElem?_eq_some_iff.1 hot).1
    by_cases htn : t = n
    · subst htn
      have h1 := List.all_eq_true.1 hs i (List.mem_range.2 hi)
      simp only [Bool.or_eq_true, decide_eq_true_eq] at h1
      obtain ⟨j, hj, hj2⟩ := List.any_eq_true.1 (h1.resolve_left (by omega))
      simp only [Bool.and_eq_true, decide_eq_true_eq] at hj2
      obtain ⟨oj, hoj, e, he, hb, hon⟩ := Region.waitsFor_spec hj2.2
      have hjle : j ≤ t := by have := List.mem_range.1 hj; omega
      by_cases hjt : j = t
      · subst hjt
        have : oj = ot := Option.some.inj (hoj.symm.trans hot)
        subst this
        have h2 := hall e he hb
        rw [hon, getD_both hun] at h2
        cases h2
      · cases hl : listed.getD j false with
        | true =>
          have h2 := inv.closed j oj hoj hl e he hb
          rw [hon, getD_both hun] at h2
          cases h2
        | false =>
          have hjs : j < listed.size := by rw [inv.size]; omega
          exact ih (t - j) (by omega) j rfl (by omega) (by omega) (getD_in hjs hl) t (Nat.le_refl _) hr
    · have h1 := List.all_eq_true.1 hc t (List.mem_range.2 htlt)
      simp only [Bool.or_eq_true, decide_eq_true_eq] at h1
      rcases h1 with h1 | h1
      · omega
      · obtain ⟨o', ho', e, he, hb, hon⟩ := Region.waitsFor_spec h1
        have : o' = ot := Option.some.inj (ho'.symm.trans hot)
        subst this
        have h2 := hall e he hb
        rw [hon, getD_both (inv.tail (t - 1) (by omega) (by omega))] at h2
        cases h2

theorem LexR.any1 {w0 : World} {sp : Nat → Option SPred} {m n : Nat} {B : Array Bool → Bool} {Lq : Act → World → Prop} (hsel : Region.noSelect ops = true)
    (hlt : ∀ i, m ≤ i → i < n → ∀ listed, HeadInv md ops n listed → listed.getD i true = false → ∀ j ∈ Region.ready md ops listed, j < n)
    (hdone : ∀ listed, B listed = true → ∀ j ∈ Region.ready md ops listed, n ≤ j)
    (hd : Nat → Nat → Array Bool → Bool) (h0 : ∀ listed, hd 0 n listed = true → B listed = true)
    (h1 : ∀ f k listed, hd (f + 1) k listed = true → ((Region.ready md ops listed).contains k = true ∧ Region.free md ops listed k = true) ∧ hd f (k + 1) (listed.setIfInBounds k true) = true) :
    ∀ (l : List Oper) (k : Nat) (listed : Array Bool) (a : Act) (env : List (Nat × Value)), m ≤ k → (∀ j, j < l.length → l[j]? = ops[k + j]?) → k + l.length = n → HeadInv md ops n listed →
    (∃ w, Ext w0 w ∧ Known sp env w) → hd l.length k listed = true → LexR P ops w0 sp Lq l k a env →
    AnyR P ops md w0 sp n (fun listed' a' w' => B listed' = true ∧ Lq a' w') l.length listed a env
  | [], k, listed, a, env, _, _, hk0, _, _, hB, h => fun w he hk => ⟨h0 _ (by obtain rfl : k = n := (by simpa using hk0); exact hB), h w he hk⟩
  | o :: l, k, listed, a, env, hmk, hl, hk, inv, hsat, hB, h => by
    have ho : ops[k]? = some o := by simpa using (hl 0 (by simp)).symm
    obtain ⟨⟨hr, hf⟩, hB'⟩ := h1 _ _ _ (by simpa using hB)
    have hkn : k < n := by simp only [List.length_cons] at hk; omega
    have hr' : k ∈ Region.ready md ops listed := by simpa using hr
    exact AnyR.first ho (Region.noSelect_spec hsel) (hlt k hmk hkn) (fun listed' a' w' hL => hdone _ hL.1) l.length listed a env inv (Region.free_spec ho hf) hr' hsat h.1
      fun v hv => LexR.any1 hsel hlt hdone hd h0 h1 l (k + 1) _ _ _ (by omega) (fun j hj => by have := hl (j + 1) (by simp; omega); simpa [Nat.add_assoc, Nat.add_comm 1 j] using this) (by simp only [List.length_cons] at hk; omega) (inv.set hr' hkn)
        (hv.sat hsat) hB' (h.2 v hv)
end

def Region.tail1B (ops : Array Oper) (n N : Nat) : Bool :=
  Region.noSelect ops && decide (n < ops.size) && decide (1 ≤ n) && Region.sinkB1 .any ops 1 n && Region.chainB .any ops n && ((Region.ready .any ops (Array.replicate ops.size false)).contains 0 && Region.free .any ops (Array.replicate ops.size false) 0) &&
    Region.lexHead .any ops (ops.size - n) (n - 1) 1 ((Array.replicate ops.size false).setIfInBounds 0 true) && ssaB ops && dstB ops N

/-- The first operation is a move; the operations from number n on go one after another behind all others but it. -/
theorem wp_region_lex_tail1 {P : Program} {id : Nat} {Q : Exit → Act → World → Prop} {a : Act} {w : World} {o0 : Oper} {l : List Oper} (n : Nat) (sps : List (Nat × SPred)) (v0 : Value) (hm : P.follows .mixedOrders = true)
    (hB : Region.tail1B (o0 :: l).toArray n a.tmps.size = true) (hsp : spOf sps 0 = none) (hw : Region.wanted o0 (yielded (o0 :: l).toArray a.tmps) = true) (hy : ∀ w, (execOp a.eval o0).run P w = .ok (.value v0) w)
    (h : LexW P (o0 :: l).toArray w.drew (spOf sps) (fun a' w' => wpList P (o0 :: l).toArray (strictQ Q) ((o0 :: l).drop n) a' w') (((o0 :: l).take n).drop 1) 1 (a.put o0.dst v0) [(0, v0)]) : (Code.region id (o0 :: l).toArray true).wp P Q a w := by
  simp only [Region.tail1B, Bool.and_eq_true, decide_eq_true_eq] at hB
  obtain ⟨⟨⟨⟨⟨⟨⟨⟨hsel, hn⟩, hn1⟩, hs⟩, hc⟩, hr0, hf0⟩, hlex⟩, hssa⟩, hdst⟩ := hB
  obtain ⟨ops, hops⟩ : ∃ ops, ops = (o0 :: l).toArray := ⟨_, rfl⟩
  have h0 : ops[0]? = some o0 := by rw [hops]; simp
  rw [← hops] at hn hsel hs hc hr0 hf0 hlex hssa hdst hw h ⊢
  have hsize : ops.size = l.length + 1 := by rw [hops]; simp
  obtain ⟨L, hL⟩ : ∃ L, L = o0 :: l := ⟨_, rfl⟩
  have hLl : L.length = ops.size := by rw [hL, hsize, List.length_cons]
  rw [← hL] at h
  have hget : ∀ j, L[j]? = ops[j]? := fun j => by rw [hL, hops, List.getElem?_toArray]
  have htl : ((L.take n).drop 1).length = n - 1 := by simp; omega
  have hdl : (L.drop n).length = ops.size - n := by simp; omega
  have inv0 : HeadInv .any ops n (Array.replicate ops.size false) := by rw [hops]; exact headInv0 _ n
  have inv1 := inv0.set (by simpa using hr0) (show 0 < n by omega)
  have linv : LexInv ops a.tmps.size 1 (a.put o0.dst v0) [(0, v0)] := (lexInv0 (ops := ops) a.tmps.size a rfl).step h0 hdst v0
  have hk1 : Known (spOf sps) [(0, v0)] w.drew := fun p hp => by
    simp only [List.mem_singleton] at hp
    subst hp
    simp only [hsp, holdsO]
  have hR := LexW.lexR hssa hdst _ 1 _ _ (fun j hj => by
    rw [htl] at hj
    rw [List.getElem?_drop, List.getElem?_take_of_lt (by omega), hget]) linv h
  have H := LexR.any1 (md := .any) (m := 1) (n := n) (B := fun listed => Region.seqB .any ops (ops.size - n) n listed) hsel
    (fun i hi1 hin listed inv hun j hj => by
      rcases Nat.lt_or_ge j n with h | h
      · exact h
      · exact absurd hj (tail_waits1 hs hc hn inv _ i rfl hi1 hin hun j h))
    (fun listed hb => seqB_ready hb)
    (fun f k listed => Region.lexHead .any ops (ops.size - n) f k listed) (fun listed hh => by simpa [Region.lexHead] using hh)
    (fun f k listed hh => by simpa [Region.lexHead] using hh) ((L.take n).drop 1) 1 _ _ [(0, v0)] (Nat.le_refl _) (fun j hj => by
      rw [htl] at hj
      rw [List.getElem?_drop, List.getElem?_take_of_lt (by omega), hget]) (by rw [htl]; omega) inv1 ⟨w.drew, Ext.refl _, hk1⟩ (by rw [htl]; exact hlex) hR
  refine wp_region_any hm ?_
  have S := AnyR.sound (Q := strictQ Q) (g := ops.size - n) (fun listed a' w' hL' => by
    have := wpAny_of_seq (md := .any) (Q' := strictQ Q) (L.drop n) n listed a' w' (fun j => by rw [List.getElem?_drop, hget]) (by rw [hdl]; exact hL'.1) hL'.2
    rwa [hdl] at this) _ _ _ _ w.drew (Ext.refl _) hk1 H
  rw [htl, show n - 1 + (ops.size - n) = ops.size - 1 by omega] at S
  have T := wpAny_take (md := .any) (Q := strictQ Q) (fuel := ops.size - 1) (listed := Array.replicate ops.size false) h0 hsel hf0 hr0 (fun c a w hq => absurd hq.1 (by simp)) (.inl ⟨hw, hy⟩) S
  rw [show ops.size - 1 + 1 = ops.size by omega] at T
  exact wpAny_strict _ _ _ _ T

end Go.Proofs.Ythflmmgolegonaa

/-
  Contracts: solutions of linear systems, in the program and in the reference.
  No condition.
-/
namespace Go.Proofs.Ythflmmgolegonaa
set_option maxRecDepth 100000
open Go.RowKit

theorem OwnR.other {B : Nat} {w : World} {a : Option Addr} {n cap : Nat} {rows : List (List Int)} (h : OwnR B w a n cap rows) {p : Addr} (hp : p.block < B) (v : Value) : OwnR B (w.setCell p v) a n cap rows := by
  obtain ⟨h1, vs, ⟨h2, h3⟩, hap, h4⟩ := h
  refine ⟨h1, vs, ⟨h2, ?_⟩, hap, fun i hi => ?_⟩
  · rcases h3 with h3 | ⟨g, c, cur, hv, hb, hh, h5⟩
    · exact .inl h3
    · exact .inr ⟨g, c, cur, hv, hb, by rw [Below.heap_setCell _ _ _ _ (by omega)]; exact hh, h5⟩
  · obtain ⟨ai, ci, h5, h6⟩ := h4 i hi
    exact ⟨ai, ci, h5, h6.other hp v⟩

/-- The solution and whether there is one. -/
def redL (p : Int) (m : Nat) (rows : List (List Int)) (u : List Int) (n : Nat) : List (List Int) := basisL p (m + 1) (wideL rows u n)
def solR (m : Nat) (red : List (List Int)) : List Int := if okS m red = true then solL m red else []

theorem solL_len' {n : Nat} {red : List (List Int)} : (solL n red).length = n := by simp [solL]


/-- The place of the first number other than 0, or -1. -/
def firstL (xs : List Int) : Int := if leadN xs = xs.length then -1 else (leadN xs : Int)
theorem OwnRH.otherH {lo hi : Nat} {w : World} {a : Option Addr} {n cap : Nat} {rows : List (List Int)} (h : OwnRH lo hi w a n cap rows) {p : Addr} (hp : p.block < lo ∨ hi ≤ p.block) (v : Value) : OwnRH lo hi (w.setCell p v) a n cap rows := by
  have hb := h.low.base_of
  obtain ⟨h1, h0, vs, ⟨h2, h3⟩, hap, h4⟩ := h
  refine ⟨h1, h0, vs, ⟨h2, ?_⟩, hap, fun i hi => ?_⟩
  · rcases h3 with h3 | ⟨g, c, cur, hv, hb', hh, h5⟩
    · exact .inl h3
    · refine .inr ⟨g, c, cur, hv, hb', ?_, h5⟩
      simp only [Value.slice.injEq] at hv
      have := h0 g hv.1
      rw [Below.heap_setCell _ _ _ _ (by omega)]; exact hh
  · obtain ⟨ai, ci, h5, h6, h7⟩ := h4 i hi
    refine ⟨ai, ci, h5, h6.keep fun g hg => ?_, h7⟩
    have := h7 g hg
    have := (h6.base_of g hg).1
    exact Below.heap_setCell _ _ _ _ (by omega)

end Go.Proofs.Ythflmmgolegonaa

/-
  Inverses of multivectors from linear systems, in plain numbers.
  No condition. No program in sight.
-/
namespace Go.Proofs.Ythflmmgolegonaa
set_option maxRecDepth 100000
open Go.RowKit

theorem mul_blade {p : Int} {qs x : List Int} {i j : Nat} (hp : 1 ≤ p) (hi : i < 2 ^ qs.length) (hj : j < 2 ^ qs.length) :
    nth (prodL p qs tkA x (bladeL (2 ^ qs.length) j)) i = (nth x (i ^^^ j) * facZ qs (i ^^^ j) j qs.length) % p := by
  have hij := Nat.xor_lt_two_pow hi hj
  rw [prodA_nth hp hi, sumN_single hij (fun a ha hne => by
    have : ¬ j = a ^^^ i := fun h => hne (by rw [h, Nat.xor_comm a i, ← Nat.xor_assoc, Nat.xor_self, Nat.zero_xor])
    rw [bladeL_nth hj (Nat.xor_lt_two_pow ha hi), if_neg this]; simp)]
  have e : i ^^^ j ^^^ i = j := by rw [Nat.xor_comm i j, Nat.xor_assoc, Nat.xor_self, Nat.xor_zero]
  rw [e, bladeL_nth hj hj, if_pos rfl, Int.mul_one]
/-- The left matrix leads a multivector to the product. -/
theorem mat_dot {p : Int} {qs x y : List Int} {i : Nat} (hp : 1 ≤ p) (hd : qs.length ≤ 6) (hi : i < 2 ^ qs.length) :
    dotN (2 ^ qs.length) (nthR (matM p qs x true) i) y % p = nth (prodL p qs tkA x y) i := by
  unfold dotN matM
  rw [turnL_nth hi, prodA_nth hp hi, ← sumN_xor hd hi]
  refine sumN_emod fun m hm => ?_
  have him := Nat.xor_lt_two_pow hi hm
  rw [colL_nth him, colsM_nth him, mulC, if_pos rfl, mul_blade hp hi him]
  have e : i ^^^ (i ^^^ m) = m := by rw [← Nat.xor_assoc, Nat.xor_self, Nat.zero_xor]
  have e2 : m ^^^ i = i ^^^ m := Nat.xor_comm _ _
  rw [e, e2]
  have : nth x m * nth y (i ^^^ m) * facZ qs m (i ^^^ m) qs.length = nth x m * facZ qs m (i ^^^ m) qs.length * nth y (i ^^^ m) := by ac_rfl
  rw [this]
  exact mul_emod_congr (Int.emod_emod _ _) rfl

/-- The rows that tell whether a multivector has an inverse. -/
def invRed (p : Int) (qs x : List Int) : List (List Int) := redL p (2 ^ qs.length) (matM p qs x true) (bladeL (2 ^ qs.length) 0) (2 ^ qs.length)
def invOk (p : Int) (qs x : List Int) : Bool := okS (2 ^ qs.length) (invRed p qs x)
def invL (p : Int) (qs x : List Int) : List Int := solR (2 ^ qs.length) (invRed p qs x)
theorem inv_right {p : Int} {qs x : List Int} (hp : primeB p = true) (hd : qs.length ≤ 6) (h : invOk p qs x = true) :
    Good p (2 ^ qs.length) (invL p qs x) ∧ prodL p qs tkA x (invL p qs x) = bladeL (2 ^ qs.length) 0 := by
  have hpb := prime_bd hp
  have hN := pow_pos' qs.length
  have hML : (matM p qs x true).length = 2 ^ qs.length := matM_len _ _ _ _
  have hMG : RowsG p (2 ^ qs.length) (matM p qs x true) := matM_good (by omega)
  have hBG : Good p (matM p qs x true).length (bladeL (2 ^ qs.length) 0) := by rw [hML]; exact blade_good (by omega)
  have e : invL p qs x = solL (2 ^ qs.length) (basisL p (2 ^ qs.length + 1) (wideL (matM p qs x true) (bladeL (2 ^ qs.length) 0) (matM p qs x true).length)) := by
    unfold invL solR
    rw [show okS (2 ^ qs.length) (invRed p qs x) = true from h, if_pos rfl, hML]; rfl
  have hs := sol_spec (v := bladeL (2 ^ qs.length) 0) hp hMG hBG (by rw [hML]; exact h)
  rw [← e] at hs
  have hg : Good p (2 ^ qs.length) (invL p qs x) := by
    rw [e]
    obtain ⟨c, hb⟩ := basis_red hp (wideL_good hMG hBG (Nat.le_refl _))
    exact sol_good (by omega) hb.good
  refine ⟨hg, ext_nth (by rw [(prod_good (by omega)).1, bladeL_len]) fun i hi => ?_⟩
  rw [(prod_good (by omega)).1] at hi
  rw [← mat_dot (by omega) hd hi, hs i (by rw [hML]; exact hi)]
  have hb := (blade_good (p := p) (N := 2 ^ qs.length) (m := 0) (by omega)).2 i hi
  exact Int.emod_eq_of_lt hb.1 hb.2
theorem inv_left {p : Int} {qs x : List Int} (hp : primeB p = true) (hd : qs.length ≤ 6) (hx : Good p (2 ^ qs.length) x) (h : invOk p qs x = true) :
    prodL p qs tkA (invL p qs x) x = bladeL (2 ^ qs.length) 0 := by
  have hpb := prime_bd hp
  obtain ⟨h1, h2⟩ := inv_right hp hd h
  exact inv_both (by omega) hd hx h1 h2
theorem inv_iff {p : Int} {qs x y : List Int} (hp : primeB p = true) (hd : qs.length ≤ 6) (hy : Good p (2 ^ qs.length) y) (h : prodL p qs tkA x y = bladeL (2 ^ qs.length) 0) : invOk p qs x = true := by
  have hpb := prime_bd hp
  have hML : (matM p qs x true).length = 2 ^ qs.length := matM_len _ _ _ _
  have hMG : RowsG p (2 ^ qs.length) (matM p qs x true) := matM_good (by omega)
  have hBG : Good p (matM p qs x true).length (bladeL (2 ^ qs.length) 0) := by rw [hML]; exact blade_good (by omega)
  have := sol_exists hp hMG hBG hy.1 (fun i hi => by
    rw [hML] at hi
    rw [mat_dot (by omega) hd hi, h]
    have hb := (blade_good (p := p) (N := 2 ^ qs.length) (m := 0) (by omega)).2 i hi
    exact (Int.emod_eq_of_lt hb.1 hb.2).symm)
  rw [hML] at this
  exact this

/-- A tuple of a slice of the call's own and a bool. -/
def SPred.sol (B n : Nat) (xs : List Int) (b : Bool) : SPred := ⟨fun v w => ∃ ra rc, v = .tuple #[.slice ra n rc, .bool b] ∧ OwnC B w ra n rc xs, fun _ _ _ ⟨ra, rc, hv, h⟩ he => ⟨ra, rc, hv, h.ext he⟩⟩

end Go.Proofs.Ythflmmgolegonaa

/-
  Inverses of multivectors.
  No condition.
-/
namespace Go.Proofs.Ythflmmgolegonaa
set_option maxRecDepth 100000
open Go.RowKit



end Go.Proofs.Ythflmmgolegonaa

/-
  Doublings: their checks, in the program and in the reference.
  No condition.
-/
namespace Go.Proofs.Ythflmmgolegonaa
set_option maxRecDepth 100000
open Go.RowKit

def doubB (p : Int) (st : List Int) : Bool := primeB p && decide (st.length ≤ 4) && isB p st && !hasB st 0
theorem doub_of {p : Int} {st : List Int} (h : doubB p st = true) : primeB p = true ∧ st.length ≤ 4 ∧ isB p st = true ∧ hasB st 0 = false := by
  unfold doubB at h
  simp only [Bool.and_eq_true, decide_eq_true_eq, Bool.not_eq_true'] at h
  exact ⟨h.1.1.1, h.1.1.2, h.1.2, h.2⟩
theorem doub_A {p : Int} {st : List Int} (h : primeB p = false) : doubB p st = false := by unfold doubB; rw [h]; rfl
theorem doub_B {p : Int} {st : List Int} (h : ¬ st.length ≤ 4) : doubB p st = false := by unfold doubB; rw [decide_eq_false h]; simp
theorem doub_C {p : Int} {st : List Int} (h1 : primeB p = true) (h2 : st.length ≤ 4) : doubB p st = (isB p st && !hasB st 0) := by unfold doubB; rw [h1, decide_eq_true h2]; simp
theorem has_at {xs : List Int} {v : Int} {k : Nat} (hk : k < xs.length) (h : nth xs k = v) : hasB xs v = true := by
  unfold hasB; rw [List.any_eq_true]; exact ⟨k, List.mem_range.2 hk, by simp [h]⟩
theorem has_none {xs : List Int} {v : Int} (h : ∀ k, k < xs.length → nth xs k ≠ v) : hasB xs v = false := by
  unfold hasB; rw [List.any_eq_false]; intro k hk; have := h k (List.mem_range.1 hk); simp; exact fun e => this e.symm
theorem doub_no {p : Int} {st : List Int} {k : Nat} (hk : k < st.length) (h : inB (nth st k) 1 (p - 1) = false) : (isB p st && !hasB st 0) = false := by
  by_cases h0 : nth st k = 0
  · rw [has_at hk h0]; simp
  · rw [isB_false hk (by unfold inB at h ⊢; simp only [decide_eq_false_iff_not] at h ⊢; omega)]; rfl
theorem doub_yes {p : Int} {st : List Int} (h : ∀ k, k < st.length → inB (nth st k) 1 (p - 1) = true) : (isB p st && !hasB st 0) = true := by
  have h' : ∀ k, k < st.length → 1 ≤ nth st k ∧ nth st k ≤ p - 1 := fun k hk => by have := h k hk; unfold inB at this; simpa using this
  rw [has_none fun k hk => by have := h' k hk; omega, (show isB p st = true from Good.isB (N := st.length) ⟨rfl, fun k hk => by have := h' k hk; omega⟩)]; rfl
def matD (p : Int) (d : Nat) (rows : List (List Int)) : Bool := matB p rows && decide (rows.length = 2 ^ d) && decide ((nthR rows 0).length = 2 ^ d)
def matE (p : Int) (d : Nat) (rows : List (List Int)) : Bool := rows.all (multiB p d) && decide (rows.length = 2 ^ d)
theorem multi_good {p : Int} {d : Nat} {xs : List Int} (h : multiB p d xs = true) : Good p (2 ^ d) xs := by
  obtain ⟨h1, h2⟩ := multi_of h
  exact good_isB h1 h2
theorem good_multi {p : Int} {d : Nat} {xs : List Int} (h : Good p (2 ^ d) xs) : multiB p d xs = true := by
  unfold multiB; rw [decide_eq_true h.1, h.isB]; rfl
theorem all_nth {f : List Int → Bool} {rows : List (List Int)} : rows.all f = true ↔ ∀ i, i < rows.length → f (nthR rows i) = true := by
  rw [List.all_eq_true]
  constructor
  · intro h i hi; rw [nthR_eq hi]; exact h _ (List.getElem_mem hi)
  · intro h x hx; obtain ⟨i, hi, rfl⟩ := List.getElem_of_mem hx; have := h i hi; rwa [nthR_eq hi] at this
theorem matE_of {p : Int} {d : Nat} {rows : List (List Int)} (h : matE p d rows = true) : RowsG p (2 ^ d) rows ∧ rows.length = 2 ^ d := by
  unfold matE at h
  simp only [Bool.and_eq_true, decide_eq_true_eq] at h
  exact ⟨fun i hi => multi_good (all_nth.1 h.1 i hi), h.2⟩
theorem mat_same {p : Int} {d : Nat} {rows : List (List Int)} (hd : d ≤ 4) : matD p d rows = matE p d rows := by
  have h16 : 2 ^ d ≤ 16 := Nat.le_trans (Nat.pow_le_pow_right (by omega) hd) (by decide)
  have h1 : 1 ≤ 2 ^ d := Nat.one_le_two_pow
  rw [Bool.eq_iff_iff]
  constructor
  · intro h
    unfold matD at h
    simp only [Bool.and_eq_true, decide_eq_true_eq] at h
    obtain ⟨⟨h2, h3⟩, h4⟩ := h
    have hg : RowsG p (2 ^ d) rows := by
      obtain ⟨h5, _, m, _, _, hg⟩ := matB_of h2
      have : 2 ^ d = m := by rw [← h4]; exact (hg 0 h5).1
      rw [this]; exact hg
    unfold matE
    rw [decide_eq_true h3, all_nth.2 fun i hi => good_multi (hg i hi)]; rfl
  · intro h
    obtain ⟨hg, hl⟩ := matE_of h
    unfold matD
    rw [matB_good hl (by omega) h16 h1 h16 (fun i hi => hg i (by omega)), decide_eq_true hl, decide_eq_true (hg 0 (by omega)).1]; rfl

theorem c_dfield (p : Int) (sq : Value) (w : World) :
    Calls Try.prog 33 #[.agg #[.int .i64 p, sq]] w fun e w' => e = .returned (.int .i64 p) ∧ Ext w w' := by
  go_enter Try.func33, Try.ntmps33
  go_wp2
  go_ret
  exact ⟨rfl, ext_alloc _ _⟩
theorem c_dsize (p : Int) (a : Option Addr) (d cap N : Nat) (w : World) (hd : d ≤ 6) (hN : N = 2 ^ d) :
    Calls Try.prog 61 #[.agg #[.int .i64 p, .slice a d cap]] w fun e w' => e = .returned (.int .i64 (N : Int)) ∧ Ext w w' := by
  have HW := Lib.hid (pow_wrap hd)
  have HN := Lib.hid hN
  clear hN
  go_enter Try.func61, Try.ntmps61
  go_wp2
  go_ret
  refine ⟨ret_int ?_, ext_alloc _ _⟩
  rw [HN.out, ← HW.out]
set_option maxHeartbeats 2000000 in
theorem c_isDoubling (p : Int) (a : Option Addr) (d cap : Nat) (qs : List Int) (w : World) (hl : d ≤ 4194304) (hq : RdC w a d qs) :
    Calls Try.prog 49 #[.agg #[.int .i64 p, .slice a d cap]] w fun e w' => e = .returned (.bool (doubB p qs)) ∧ Ext w w' := by
  have hqw : RdC (w.alloc (.cells #[.int .i64 p, .slice a d cap] 30)).drew a d qs := hq.ext ((ext_alloc _ _).trans (ext_drew _))
  cases h1 : primeB p
  · have HF := Lib.hid (doub_A (st := qs) h1)
    have H1 := Lib.hid h1
    clear h1
    go_enter Try.func49, Try.ntmps49
    go_wp2_with fail
    refine wp_region_lex [(2, .val (.bool false))] (by kernel_rfl) (by kernel_rfl) ?_
    repeat' first | (refine LexW.pure (v := ?_) rfl rfl (fun w1 he => ?_) ?_; rotate_left; (have hcc := Ext.cells he; go_simp; rfl); simp only [Act.put, List.setIfInBounds_toArray, List.set_cons_zero, List.set_cons_succ]) | (refine LexW.skip rfl rfl ?_; simp only [Act.put, List.setIfInBounds_toArray, List.set_cons_zero, List.set_cons_succ]) | (refine LexW.call (f := ?_) (args := ?_) rfl rfl (fun w1 => ?_) (fun w1 he hdep => ?_) ?_; rotate_left 2; (go_simp; refine ⟨?_, ?_⟩ <;> rfl); ( have H := c_isPrime p w1; rw [H1.out] at H; exact H); simp only [Act.put, List.setIfInBounds_toArray, List.set_cons_zero, List.set_cons_succ])
    refine LexW.nil (fun w1 he hk => ?_)
    go_wp2
    go_ret
    exact ⟨ret_bool HF.out.symm, (ext_alloc _ _).trans ((ext_drew _).trans he)⟩
  · have H1 := Lib.hid h1
    have hp := prime_bd h1
    by_cases h2 : d ≤ 4
    · have HF := Lib.hid (doub_C (p := p) (st := qs) h1 (by rw [hq.1]; exact h2))
      have h2b : decide ((d : Int) ≤ 4) = true := by simp; omega
      have h2i : (d : Int) ≤ 4 := by omega
      have HQ := Lib.hid hqw
      clear hqw h1 hq
      cases h3 : isB p qs
      · rw [h3] at HF
        have H3 := Lib.hid h3
        clear h3
        go_enter Try.func49, Try.ntmps49
        go_wp2_with fail
        refine wp_region_lex [(2, .val (.bool true)), (11, .val (.int .i64 p)), (14, .val (.bool false))] (by kernel_rfl) (by kernel_rfl) ?_
        repeat' first | (refine LexW.pure (v := ?_) rfl rfl (fun w1 he => ?_) ?_; rotate_left; (have hcc := Ext.cells he; go_simp; rfl); simp only [Act.put, List.setIfInBounds_toArray, List.set_cons_zero, List.set_cons_succ]) | (refine LexW.skip rfl rfl ?_; simp only [Act.put, List.setIfInBounds_toArray, List.set_cons_zero, List.set_cons_succ]) | (refine LexW.call (f := ?_) (args := ?_) rfl rfl (fun w1 => ?_) (fun w1 he hdep => ?_) ?_; rotate_left 2; (go_simp; refine ⟨?_, ?_⟩ <;> rfl); ( first | (go_at_call 73; have H := c_isPrime p w1; rw [H1.out] at H; exact H) | (go_at_call 33; exact c_dfield _ _ _) | (go_at_call 74; have H := c_is p a d cap qs w1 (by omega) (by omega) hl (HQ.out.ext he); rw [H3.out] at H; exact H)); simp only [Act.put, List.setIfInBounds_toArray, List.set_cons_zero, List.set_cons_succ])
        refine LexW.nil (fun w1 he hk => ?_)
        go_wp2
        go_ret
        exact ⟨ret_bool HF.out.symm, (ext_alloc _ _).trans ((ext_drew _).trans he)⟩
      · rw [h3] at HF
        have H3 := Lib.hid h3
        clear h3
        go_enter Try.func49, Try.ntmps49
        go_wp2_with fail
        refine wp_region_lex [(2, .val (.bool true)), (11, .val (.int .i64 p)), (14, .val (.bool true)), (19, .val (.bool (hasB qs 0)))] (by kernel_rfl) (by kernel_rfl) ?_
        repeat' first | (refine LexW.pure (v := ?_) rfl rfl (fun w1 he => ?_) ?_; rotate_left; (have hcc := Ext.cells he; go_simp; rfl); simp only [Act.put, List.setIfInBounds_toArray, List.set_cons_zero, List.set_cons_succ]) | (refine LexW.skip rfl rfl ?_; simp only [Act.put, List.setIfInBounds_toArray, List.set_cons_zero, List.set_cons_succ]) | (refine LexW.call (f := ?_) (args := ?_) rfl rfl (fun w1 => ?_) (fun w1 he hdep => ?_) ?_; rotate_left 2; (go_simp; refine ⟨?_, ?_⟩ <;> rfl); ( first | (go_at_call 73; have H := c_isPrime p w1; rw [H1.out] at H; exact H) | (go_at_call 33; exact c_dfield _ _ _) | (go_at_call 74; have H := c_is p a d cap qs w1 (by omega) (by omega) hl (HQ.out.ext he); rw [H3.out] at H; exact H) | (go_at_call 75; exact c_contains a d cap qs 0 w1 hl (HQ.out.ext he))); simp only [Act.put, List.setIfInBounds_toArray, List.set_cons_zero, List.set_cons_succ])
        refine LexW.nil (fun w1 he hk => ?_)
        go_wp2
        go_ret
        exact ⟨ret_bool (by rw [HF.out]; simp), (ext_alloc _ _).trans ((ext_drew _).trans he)⟩
    · have HF := Lib.hid (doub_B (p := p) (st := qs) (by rw [hq.1]; exact h2))
      have h2b : decide ((d : Int) ≤ 4) = false := by simp; omega
      have h2i : ¬ (d : Int) ≤ 4 := by omega
      clear hqw h1 hq
      go_enter Try.func49, Try.ntmps49
      go_wp2_with fail
      refine wp_region_lex [(2, .val (.bool true))] (by kernel_rfl) (by kernel_rfl) ?_
      repeat' first | (refine LexW.pure (v := ?_) rfl rfl (fun w1 he => ?_) ?_; rotate_left; (have hcc := Ext.cells he; go_simp; rfl); simp only [Act.put, List.setIfInBounds_toArray, List.set_cons_zero, List.set_cons_succ]) | (refine LexW.skip rfl rfl ?_; simp only [Act.put, List.setIfInBounds_toArray, List.set_cons_zero, List.set_cons_succ]) | (refine LexW.call (f := ?_) (args := ?_) rfl rfl (fun w1 => ?_) (fun w1 he hdep => ?_) ?_; rotate_left 2; (go_simp; refine ⟨?_, ?_⟩ <;> rfl); ( have H := c_isPrime p w1; rw [H1.out] at H; exact H); simp only [Act.put, List.setIfInBounds_toArray, List.set_cons_zero, List.set_cons_succ])
      refine LexW.nil (fun w1 he hk => ?_)
      go_wp2
      go_ret
      exact ⟨ret_bool HF.out.symm, (ext_alloc _ _).trans ((ext_drew _).trans he)⟩

set_option maxHeartbeats 2000000 in
theorem c_dIsMatrix (p : Int) (a : Option Addr) (d cap : Nat) (ax : Option Addr) (n cx : Nat) (rows : List (List Int)) (w : World) (hp1 : 1 ≤ p) (hp2 : p ≤ 1000) (hd : d ≤ 6) (hl : n ≤ 4194304) (hr : ∀ i, i < n → (nthR rows i).length ≤ 4194304) (hx : RdR w ax n rows) :
    Calls Try.prog 53 #[.agg #[.int .i64 p, .slice a d cap], .slice ax n cx] w fun e w' => e = .returned (.bool (matD p d rows)) ∧ Ext w w' := by
  have HX := Lib.hid (hx.ext ((ext_alloc w (.cells #[.int .i64 p, .slice a d cap] 30)).trans (ext_drew _)))
  have HR := Lib.hid hr
  have HLN := Lib.hid hx.1
  obtain ⟨N, hN⟩ : ∃ N, N = 2 ^ d := ⟨_, rfl⟩
  have HN := Lib.hid hN
  have HDF : Hid (matD p d rows = (matB p rows && decide (n = N) && decide ((nthR rows 0).length = N))) := Lib.hid (by unfold matD; rw [hx.1, hN])
  clear hx hr hN
  cases h1 : matB p rows
  · rw [h1] at HDF
    have HF := Lib.hid (show matD p d rows = false by rw [HDF.out]; rfl)
    have H1 := Lib.hid h1
    clear h1 HDF
    go_enter Try.func53, Try.ntmps53
    go_wp2_with fail
    refine wp_region_lex [(1, .val (.int .i64 p)), (3, .val (.bool false))] (by kernel_rfl) (by kernel_rfl) ?_
    repeat' first | (refine LexW.pure (v := ?_) rfl rfl (fun w1 he => ?_) ?_; rotate_left; (have hcc := Ext.cells he; go_simp; rfl); simp only [Act.put, List.setIfInBounds_toArray, List.set_cons_zero, List.set_cons_succ]) | (refine LexW.skip rfl rfl ?_; simp only [Act.put, List.setIfInBounds_toArray, List.set_cons_zero, List.set_cons_succ]) | (refine LexW.call (f := ?_) (args := ?_) rfl rfl (fun w1 => ?_) (fun w1 he hdep => ?_) ?_; rotate_left 2; (go_simp; refine ⟨?_, ?_⟩ <;> rfl); ( first | (go_at_call 33; exact c_dfield _ _ _) | (go_at_call 79; have H := c_isMatrix p ax n cx rows w1 hp1 hp2 hl HR.out (HX.out.ext he); rw [H1.out] at H; exact H)); simp only [Act.put, List.setIfInBounds_toArray, List.set_cons_zero, List.set_cons_succ])
    refine LexW.nil (fun w1 he hk => ?_)
    go_wp2
    go_ret
    exact ⟨ret_bool HF.out.symm, (ext_alloc _ _).trans ((ext_drew _).trans he)⟩
  · rw [h1] at HDF
    have H1 := Lib.hid h1
    have hn0 : 0 < n := by have := (matB_of h1).1; rw [HLN.out] at this; exact this
    clear h1
    by_cases h2 : n = N
    · subst h2
      have h2i : ((n : Int) == (n : Int)) = true := by simp
      obtain ⟨b0, off0, a0, c0, rfl, hc0, _⟩ := HX.out.2 0 hn0
      rw [Nat.add_zero] at hc0
      have HC0 := Lib.hid hc0
      have HF := Lib.hid (show matD p d rows = decide ((nthR rows 0).length = n) by rw [HDF.out, decide_eq_true rfl]; rfl)
      obtain ⟨m0, hm0⟩ : ∃ m, m = (nthR rows 0).length := ⟨_, rfl⟩
      rw [← hm0] at HC0 HF
      clear hc0 hm0 HDF
      go_enter Try.func53, Try.ntmps53
      go_wp2_with fail
      refine wp_region_lex [(1, .val (.int .i64 p)), (3, .val (.bool true)), (8, .val (.int .i64 n)), (17, .val (.int .i64 n))] (by kernel_rfl) (by kernel_rfl) ?_
      repeat' first | (refine LexW.pure (v := ?_) rfl rfl (fun w1 he => ?_) ?_; rotate_left; (have hcc := Ext.cells he; go_simp; rfl); simp only [Act.put, List.setIfInBounds_toArray, List.set_cons_zero, List.set_cons_succ]) | (refine LexW.pure (v := ?_) rfl rfl (fun w1 he => ?_) ?_; rotate_left; (have e1 := he.cell HC0.out; go_simp; rfl); simp only [Act.put, List.setIfInBounds_toArray, List.set_cons_zero, List.set_cons_succ]) | (refine LexW.skip rfl rfl ?_; simp only [Act.put, List.setIfInBounds_toArray, List.set_cons_zero, List.set_cons_succ]) | (refine LexW.call (f := ?_) (args := ?_) rfl rfl (fun w1 => ?_) (fun w1 he hdep => ?_) ?_; rotate_left 2; (go_simp; refine ⟨?_, ?_⟩ <;> rfl); ( first | (go_at_call 33; exact c_dfield _ _ _) | (go_at_call 79; have H := c_isMatrix p _ n cx rows w1 hp1 hp2 hl HR.out (HX.out.ext he); rw [H1.out] at H; exact H) | (go_at_call 61; exact c_dsize p a d cap n w1 hd HN.out)); simp only [Act.put, List.setIfInBounds_toArray, List.set_cons_zero, List.set_cons_succ])
      refine LexW.nil (fun w1 he hk => ?_)
      go_wp2
      go_ret
      exact ⟨ret_bool (by rw [HF.out, Bool.eq_iff_iff]; simp; omega), (ext_alloc _ _).trans ((ext_drew _).trans he)⟩
    · have h2i : ((n : Int) == (N : Int)) = false := by simp; omega
      have HF := Lib.hid (show matD p d rows = false by rw [HDF.out, decide_eq_false h2]; rfl)
      clear HDF
      go_enter Try.func53, Try.ntmps53
      go_wp2_with fail
      refine wp_region_lex [(1, .val (.int .i64 p)), (3, .val (.bool true)), (8, .val (.int .i64 N))] (by kernel_rfl) (by kernel_rfl) ?_
      repeat' first | (refine LexW.pure (v := ?_) rfl rfl (fun w1 he => ?_) ?_; rotate_left; (have hcc := Ext.cells he; go_simp; rfl); simp only [Act.put, List.setIfInBounds_toArray, List.set_cons_zero, List.set_cons_succ]) | (refine LexW.skip rfl rfl ?_; simp only [Act.put, List.setIfInBounds_toArray, List.set_cons_zero, List.set_cons_succ]) | (refine LexW.call (f := ?_) (args := ?_) rfl rfl (fun w1 => ?_) (fun w1 he hdep => ?_) ?_; rotate_left 2; (go_simp; refine ⟨?_, ?_⟩ <;> rfl); ( first | (go_at_call 33; exact c_dfield _ _ _) | (go_at_call 79; have H := c_isMatrix p ax n cx rows w1 hp1 hp2 hl HR.out (HX.out.ext he); rw [H1.out] at H; exact H) | (go_at_call 61; exact c_dsize p a d cap N w1 hd HN.out)); simp only [Act.put, List.setIfInBounds_toArray, List.set_cons_zero, List.set_cons_succ])
      refine LexW.nil (fun w1 he hk => ?_)
      go_wp2
      go_ret
      exact ⟨ret_bool HF.out.symm, (ext_alloc _ _).trans ((ext_drew _).trans he)⟩

set_option maxHeartbeats 1000000 in
theorem c_checkElements1 (p : Int) (a : Option Addr) (d cap : Nat) (ax : Option Addr) (n cx : Nat) (xs : List Int) (q : Nat) (w : World) (hp1 : 1 ≤ p) (hp2 : p ≤ 1000) (hd : d ≤ 6) (hl : n ≤ 4194304) (hx : RdC w ax n xs)
    (hq0 : w.cell? ⟨q, 0, none⟩ = some (.int .i64 p)) (hq1 : w.cell? ⟨q, 1, none⟩ = some (.slice a d cap)) :
    Calls Try.prog 77 #[.slice ax n cx, .pointer (some ⟨q, 0, none⟩)] w fun e w' => e = .returned (.bool (!multiB p d xs)) ∧ Ext w w' := by
  obtain ⟨N, hN⟩ : ∃ N, N = 2 ^ d := ⟨_, rfl⟩
  have HN := Lib.hid hN
  have HX := Lib.hid hx
  by_cases h : n = N
  · have HF := Lib.hid (show multiB p d xs = isB p xs by unfold multiB; rw [hx.1, ← hN, decide_eq_true h]; rfl)
    subst h
    have h2i : ((n : Int) != (n : Int)) = false := by simp
    clear hx hN
    go_enter Try.func77, Try.ntmps77
    go_wp2_with (fail)
    refine Calls.mono (c_dsize p a d cap n w hd HN.out) ?_
    rintro e w1 ⟨rfl, g1⟩
    have G1 := Lib.hid g1
    replace hq0 := g1.cell hq0
    replace hq1 := g1.cell hq1
    clear g1
    go_wp2_with (fail)
    refine Calls.mono (c_dfield p _ _) ?_
    rintro e w2 ⟨rfl, g2⟩
    have G2 := Lib.hid (G1.out.trans g2)
    clear g2
    go_wp2_with (fail)
    refine Calls.mono (c_is p ax n cx xs _ hp1 hp2 hl (HX.out.ext G2.out)) ?_
    rintro e w3 ⟨rfl, g3⟩
    have G3 := Lib.hid (G2.out.trans g3)
    clear g3
    go_wp2_with (fail)
    go_ret
    exact ⟨ret_bool (by rw [HF.out]), G3.out⟩
  · have HF := Lib.hid (show multiB p d xs = false by unfold multiB; rw [hx.1, ← hN, decide_eq_false h]; rfl)
    have h2i : ((n : Int) != (N : Int)) = true := by simp; omega
    clear hx hN
    go_enter Try.func77, Try.ntmps77
    go_wp2_with (fail)
    refine Calls.mono (c_dsize p a d cap N w hd HN.out) ?_
    rintro e w1 ⟨rfl, g1⟩
    have G1 := Lib.hid g1
    clear g1
    go_wp2_with (fail)
    go_ret
    exact ⟨ret_bool (by rw [HF.out]; rfl), G1.out⟩
def codeE (p : Int) (st : List Int) (es : List (List Int)) : Int := if doubB p st = true then (if es.all (multiB p st.length) = true then 0 else 2) else 1
theorem codeE_A {p : Int} {st : List Int} {es : List (List Int)} (h : doubB p st = false) : codeE p st es = 1 := by unfold codeE; rw [h]; rfl
theorem codeE_B {p : Int} {st : List Int} {es : List (List Int)} (h : doubB p st = true) : codeE p st es = if es.all (multiB p st.length) = true then 0 else 2 := by unfold codeE; rw [h]; rfl
theorem codeE_zero {p : Int} {st : List Int} {es : List (List Int)} (h : codeE p st es = 0) : doubB p st = true ∧ es.all (multiB p st.length) = true := by
  unfold codeE at h
  split at h
  · rename_i h1
    split at h
    · rename_i h2; exact ⟨h1, h2⟩
    · cases h
  · cases h
set_option maxHeartbeats 1000000 in
theorem c_checkElements (p : Int) (a : Option Addr) (d cap : Nat) (st : List Int) (al : Option Addr) (n cl : Nat) (es : List (List Int)) (w : World) (hd : d ≤ 4194304) (hl : n ≤ 4194304) (hr : ∀ i, i < n → (nthR es i).length ≤ 4194304) (hq : RdC w a d st) (hx : RdR w al n es) :
    Calls Try.prog 50 #[.agg #[.int .i64 p, .slice a d cap], .slice al n cl] w fun e w' => e = .returned (.int .i64 (codeE p st es)) ∧ Ext w w' := by
  obtain ⟨ai, ci, hR, hrow⟩ := hx.choose
  have HRR := Lib.hid hR
  have HRow := Lib.hid hrow
  have HX := Lib.hid hx
  have HXL := Lib.hid hx.1
  have Hr := Lib.hid hr
  have HQ := Lib.hid hq
  have HQL := Lib.hid hq.1
  clear hx hr hq hR hrow
  go_enter Try.func50, Try.ntmps50
  go_wp2_with (fail)
  refine Calls.mono (c_isDoubling p a d cap st _ hd (HQ.out.ext (ext_alloc _ _))) ?_
  rintro e w1 ⟨rfl, g1⟩
  have q0 : w1.cell? ⟨w.heap.size, 0, none⟩ = some (.int .i64 p) := g1.cell (by simp)
  have q1 : w1.cell? ⟨w.heap.size, 1, none⟩ = some (.slice a d cap) := g1.cell (by simp)
  have Q0 := Lib.hid q0
  have Q1 := Lib.hid q1
  have G1 := Lib.hid ((ext_alloc w (.cells #[.int .i64 p, .slice a d cap] 30)).trans g1)
  clear g1
  cases hs : doubB p st
  · have HC := Lib.hid (codeE_A (es := es) hs)
    clear hs
    go_wp2_with (fail)
    go_ret
    exact ⟨ret_int HC.out.symm, G1.out⟩
  have HC := Lib.hid (codeE_B (es := es) hs)
  obtain ⟨hpr, hd4, _, _⟩ := doub_of hs
  have hpb := prime_bd hpr
  rw [HQL.out] at hd4 HC
  have HAN := Lib.hid (any_rows p d n es HXL.out)
  clear hs hpr q0 q1
  go_wp2_with (fail)
  refine Calls.mono (c_containsFunc al n cl 77 #[.pointer (some ⟨w.heap.size, 0, none⟩)] (rowV ai ci es) (fun i => !multiB p d (nthR es i)) _ hl ?_ (fun i hi => ?_) (fun i hi w2 he => ?_)) ?_
  · intro args w; rfl
  · obtain ⟨b, off, hb1, hb2⟩ := HRR.out i hi
    exact ⟨b, off, hb1, G1.out.cell hb2⟩
  · have hrow := HRow.out i hi
    unfold rowV
    exact c_checkElements1 p a d cap _ _ _ _ _ _ (by omega) (by omega) (by omega) (Hr.out i hi) (hrow.ext (G1.out.trans he)) (he.cell Q0.out) (he.cell Q1.out)
  rintro e w3 ⟨rfl, g3⟩
  rw [HAN.out]
  have G3 := Lib.hid (G1.out.trans g3)
  clear g3
  cases ha : es.all (multiB p d)
  · rw [ha] at HC
    clear ha
    go_wp2_with (fail)
    go_ret
    exact ⟨ret_int HC.out.symm, G3.out⟩
  · rw [ha] at HC
    clear ha
    go_wp2_with (fail)
    go_ret
    exact ⟨ret_int HC.out.symm, G3.out⟩
end Go.Proofs.Ythflmmgolegonaa
