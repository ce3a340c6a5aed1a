/-
  Contracts and plain laws, part 9: LawT2, BrkT.
  No condition.
-/
import Derived.Test.YthflmmgolegonaaPart1
import Derived.Test.YthflmmgolegonaaPart8
import Derived.Test.YthflmmgolegonaaPart6
/-
  The laws' copy of a triple of matrices.
  No condition.
-/
namespace Go.Proofs.Ythflmmgolegonaa
set_option maxRecDepth 100000
open Go.RowKit

/-- Three matrices of the call's own, without spare capacity, in ranges of blocks that follow one another. -/
def Trip3 (lo : Nat) (w : World) (n1 n2 n3 : Nat) (A B C : List (List Int)) (v : Value) : Prop := ∃ g1 g2 g3 l1 h1 l2 h2 l3 h3, v = .agg #[.slice (some ⟨g1, 0, none⟩) n1 n1, .slice (some ⟨g2, 0, none⟩) n2 n2, .slice (some ⟨g3, 0, none⟩) n3 n3] ∧ lo ≤ l1 ∧ l1 ≤ h1 ∧ h1 ≤ l2 ∧ l2 ≤ h2 ∧ h2 ≤ l3 ∧ l3 ≤ h3 ∧ h3 ≤ w.heap.size ∧ OwnRH l1 h1 w (some ⟨g1, 0, none⟩) n1 n1 A ∧ OwnRH l2 h2 w (some ⟨g2, 0, none⟩) n2 n2 B ∧ OwnRH l3 h3 w (some ⟨g3, 0, none⟩) n3 n3 C
theorem TrAt.set0 {w : World} {O : Nat} {u0 u1 u2 : Value} (h : TrAt w O u0 u1 u2) (u : Value) : TrAt (w.setCell ⟨O, 0, none⟩ u) O u u1 u2 := by
  obtain ⟨h0, h1, h2, h3, h4, h5⟩ := h
  exact ⟨by go_simp, by go_simp, by go_simp, by go_simp, by go_simp, by go_simp⟩
theorem TrAt.set1 {w : World} {O : Nat} {u0 u1 u2 : Value} (h : TrAt w O u0 u1 u2) (u : Value) : TrAt (w.setCell ⟨O, 1, none⟩ u) O u0 u u2 := by
  obtain ⟨h0, h1, h2, h3, h4, h5⟩ := h
  exact ⟨by go_simp, by go_simp, by go_simp, by go_simp, by go_simp, by go_simp⟩
set_option maxHeartbeats 8000000 in
set_option maxRecDepth 100000 in
theorem l_toTriple (a1 a2 a3 : Option Addr) (n1 n2 n3 c1 c2 c3 : Nat) (A B C : List (List Int)) (w : World) (hl1 : n1 ≤ 1048576) (hl2 : n2 ≤ 1048576) (hl3 : n3 ≤ 1048576) (hr1 : ∀ i, i < n1 → (nthR A i).length ≤ 4194304) (hr2 : ∀ i, i < n2 → (nthR B i).length ≤ 4194304) (hr3 : ∀ i, i < n3 → (nthR C i).length ≤ 4194304) (hA : RdR w a1 n1 A) (hB : RdR w a2 n2 B) (hC : RdR w a3 n3 C) :
    Calls Try.prog 27 #[.agg #[.slice a1 n1 c1, .slice a2 n2 c2, .slice a3 n3 c3]] w fun e w' => ∃ V, e = .returned V ∧ Trip3 w.heap.size w' n1 n2 n3 A B C V ∧ Ext w w' := by
  have HA := Lib.hid hA
  have HB := Lib.hid hB
  have HC := Lib.hid hC
  have HR1 := Lib.hid hr1
  have HR2 := Lib.hid hr2
  have HR3 := Lib.hid hr3
  clear hA hB hC hr1 hr2 hr3
  obtain ⟨z, hz⟩ : ∃ z, z = w.heap.size := ⟨_, rfl⟩
  obtain ⟨U1, hU1⟩ : ∃ W, W = w.alloc (.cells #[.slice a1 n1 c1, .slice a2 n2 c2, .slice a3 n3 c3] 47) := ⟨_, rfl⟩
  obtain ⟨U2, hU2⟩ : ∃ W, W = U1.alloc (.cells #[.slice none 0 0, .slice none 0 0, .slice none 0 0] 38) := ⟨_, rfl⟩
  obtain ⟨X2, hX2⟩ : ∃ W, W = U2.alloc (.cells #[.slice none 0 0, .slice none 0 0, .slice none 0 0] 38) := ⟨_, rfl⟩
  have z1 : U1.heap.size = z + 1 := by rw [hU1, hz]; simp
  have z2 : U2.heap.size = z + 1 + 1 := by rw [hU2]; simp; omega
  have z3 : X2.heap.size = z + 1 + 1 + 1 := by rw [hX2]; simp; omega
  have x1 : Ext w U1 := by rw [hU1]; exact ext_alloc _ _
  have x2 : Ext U1 U2 := by rw [hU2]; exact ext_alloc _ _
  have x3 : Ext U2 X2 := by rw [hX2]; exact ext_alloc _ _
  have E := Lib.hid ((x1.trans x2).trans x3)
  have TB := Lib.hid (show TrAt X2 z (.slice a1 n1 c1) (.slice a2 n2 c2) (.slice a3 n3 c3) by
    have h := trAt_new w (.slice a1 n1 c1) (.slice a2 n2 c2) (.slice a3 n3 c3) 47
    rw [← hU1, ← hz] at h
    exact h.ext (x2.trans x3))
  have TR := Lib.hid (show TrAt X2 (z + 1) (.slice none 0 0) (.slice none 0 0) (.slice none 0 0) by
    have h := trAt_new U1 (.slice none 0 0) (.slice none 0 0) (.slice none 0 0) 38
    rw [← hU2, z1] at h
    exact h.ext x3)
  have TT := Lib.hid (show TrAt X2 (z + 1 + 1) (.slice none 0 0) (.slice none 0 0) (.slice none 0 0) by
    have h := trAt_new U2 (.slice none 0 0) (.slice none 0 0) (.slice none 0 0) 38
    rw [← hX2, z2] at h
    exact h)
  have HU1 := Lib.hid hU1
  have HU2 := Lib.hid hU2
  have HX2 := Lib.hid hX2
  have HZE := Lib.hid hz
  have HZ3 := Lib.hid z3
  clear hz hU1 hU2 hX2 z1 z2 z3 x1 x2 x3
  go_enter Try.func27, Try.ntmps27
  go_wp2_with (fail)
  rw [← HU1.out, ← HZE.out]
  rw [← HU2.out]
  rw [← HX2.out]
  clear HU1 HU2 HX2
  refine Calls.mono (l_toRows a1 n1 c1 A X2 (by omega) HR1.out (HA.out.ext E.out)) ?_
  rintro e y1 ⟨g1, rfl, ho, gg⟩
  have O1 := Lib.hid ho.high
  have hl1' := gg.size'
  obtain ⟨lo1, hlo1⟩ : ∃ z, z = X2.heap.size := ⟨_, rfl⟩
  obtain ⟨hi1, hhi1⟩ : ∃ z, z = y1.heap.size := ⟨_, rfl⟩
  have hb1 : z + 3 ≤ lo1 := by have := HZ3.out; omega
  rw [← hlo1] at O1 hl1'
  rw [← hhi1] at O1 hl1'
  replace TB := Lib.hid (TB.out.ext gg)
  replace TR := Lib.hid (TR.out.ext gg)
  replace TT := Lib.hid (TT.out.ext gg)
  replace E := Lib.hid (E.out.trans gg)
  clear ho gg hlo1
  obtain ⟨x1, hx1⟩ : ∃ q, q = y1.setCell ⟨z + 1 + 1, 0, none⟩ (.slice (some ⟨g1, 0, none⟩) n1 n1) := ⟨_, rfl⟩
  have WW : WroteIn (z + 1 + 1) (z + 1 + 1 + 1) y1 x1 := by rw [hx1]; exact WroteIn.setCell
  have TT9 := Lib.hid (show TrAt x1 (z + 1 + 1) (.slice (some ⟨g1, 0, none⟩) n1 n1) (.slice none 0 0) (.slice none 0 0) by rw [hx1]; exact TT.out.set0 _)
  have TB9 := Lib.hid (TB.out.wrote WW (.inl (by omega)))
  have q0 := TT.out.c0
  have q1 := TT.out.f0
  have b9 : (y1.setCell ⟨z + 1 + 1, 0, none⟩ (.slice (some ⟨g1, 0, none⟩) n1 n1)).cell? ⟨z, 1, none⟩ = some (.slice a2 n2 c2) := by rw [← hx1]; exact TB9.out.c1
  go_wp2_with (fail)
  rw [← hx1]
  clear q0 q1 b9
  replace E := Lib.hid (WW.ext E.out (by have := HZE.out; omega))
  replace TR := Lib.hid (TR.out.wrote WW (.inl (by omega)))
  replace O1 := Lib.hid (WW.ownR O1.out (.inr (by omega)))
  have HZL := Lib.hid (show hi1 ≤ x1.heap.size by rw [hhi1]; exact WW.size)
  clear TT TB
  have TT := TT9
  have TB := TB9
  clear TT9 TB9 WW hhi1 hx1
  have b2 := TB.out.c1
  refine Calls.mono (l_toRows a2 n2 c2 B x1 (by omega) HR2.out (HB.out.ext E.out)) ?_
  rintro e y2 ⟨g2, rfl, ho, gg⟩
  have O2 := Lib.hid ho.high
  have hl2' := gg.size'
  obtain ⟨lo2, hlo2⟩ : ∃ z, z = x1.heap.size := ⟨_, rfl⟩
  obtain ⟨hi2, hhi2⟩ : ∃ z, z = y2.heap.size := ⟨_, rfl⟩
  have hb2 : hi1 ≤ lo2 := by rw [hlo2]; exact HZL.out
  rw [← hlo2] at O2 hl2'
  rw [← hhi2] at O2 hl2'
  replace TB := Lib.hid (TB.out.ext gg)
  replace TR := Lib.hid (TR.out.ext gg)
  replace TT := Lib.hid (TT.out.ext gg)
  replace E := Lib.hid (E.out.trans gg)
  replace O1 := Lib.hid (O1.out.ext gg)
  clear ho gg hlo2
  obtain ⟨x2, hx2⟩ : ∃ q, q = y2.setCell ⟨z + 1 + 1, 1, none⟩ (.slice (some ⟨g2, 0, none⟩) n2 n2) := ⟨_, rfl⟩
  have WW : WroteIn (z + 1 + 1) (z + 1 + 1 + 1) y2 x2 := by rw [hx2]; exact WroteIn.setCell
  have TT9 := Lib.hid (show TrAt x2 (z + 1 + 1) (.slice (some ⟨g1, 0, none⟩) n1 n1) (.slice (some ⟨g2, 0, none⟩) n2 n2) (.slice none 0 0) by rw [hx2]; exact TT.out.set1 _)
  have TB9 := Lib.hid (TB.out.wrote WW (.inl (by omega)))
  have q0 := TT.out.c1
  have q1 := TT.out.f1
  have b9 : (y2.setCell ⟨z + 1 + 1, 1, none⟩ (.slice (some ⟨g2, 0, none⟩) n2 n2)).cell? ⟨z, 2, none⟩ = some (.slice a3 n3 c3) := by rw [← hx2]; exact TB9.out.c2
  go_wp2_with (fail)
  rw [← hx2]
  clear q0 q1 b9
  replace E := Lib.hid (WW.ext E.out (by have := HZE.out; omega))
  replace TR := Lib.hid (TR.out.wrote WW (.inl (by omega)))
  replace O1 := Lib.hid (WW.ownR O1.out (.inr (by omega)))
  replace O2 := Lib.hid (WW.ownR O2.out (.inr (by omega)))
  have HZL9 := Lib.hid (show hi2 ≤ x2.heap.size by rw [hhi2]; exact WW.size)
  replace HZL := HZL9
  clear HZL9
  clear TT TB
  have TT := TT9
  have TB := TB9
  clear TT9 TB9 WW hhi2 hx2
  have b3 := TB.out.c2
  refine Calls.mono (l_toRows a3 n3 c3 C x2 (by omega) HR3.out (HC.out.ext E.out)) ?_
  rintro e y3 ⟨g3, rfl, ho, gg⟩
  have O3 := Lib.hid ho.high
  have hl3' := gg.size'
  obtain ⟨lo3, hlo3⟩ : ∃ z, z = x2.heap.size := ⟨_, rfl⟩
  obtain ⟨hi3, hhi3⟩ : ∃ z, z = y3.heap.size := ⟨_, rfl⟩
  have hb3 : hi2 ≤ lo3 := by rw [hlo3]; exact HZL.out
  rw [← hlo3] at O3 hl3'
  rw [← hhi3] at O3 hl3'
  replace TB := Lib.hid (TB.out.ext gg)
  replace TR := Lib.hid (TR.out.ext gg)
  replace TT := Lib.hid (TT.out.ext gg)
  replace E := Lib.hid (E.out.trans gg)
  replace O1 := Lib.hid (O1.out.ext gg)
  replace O2 := Lib.hid (O2.out.ext gg)
  clear ho gg hlo3
  obtain ⟨x3, hx3⟩ : ∃ q, q = y3.setCell ⟨z + 1 + 1, 2, none⟩ (.slice (some ⟨g3, 0, none⟩) n3 n3) := ⟨_, rfl⟩
  have WW : WroteIn (z + 1 + 1) (z + 1 + 1 + 1) y3 x3 := by rw [hx3]; exact WroteIn.setCell
  have TT9 := Lib.hid (show TrAt x3 (z + 1 + 1) (.slice (some ⟨g1, 0, none⟩) n1 n1) (.slice (some ⟨g2, 0, none⟩) n2 n2) (.slice (some ⟨g3, 0, none⟩) n3 n3) by rw [hx3]; exact TT.out.set2 _)
  have TB9 := Lib.hid (TB.out.wrote WW (.inl (by omega)))
  have q0 := TT.out.c2
  have q1 := TT.out.f2
  replace E := Lib.hid (WW.ext E.out (by have := HZE.out; omega))
  replace TR := Lib.hid (TR.out.wrote WW (.inl (by omega)))
  replace O1 := Lib.hid (WW.ownR O1.out (.inr (by omega)))
  replace O2 := Lib.hid (WW.ownR O2.out (.inr (by omega)))
  replace O3 := Lib.hid (WW.ownR O3.out (.inr (by omega)))
  have HZL9 := Lib.hid (show hi3 ≤ x3.heap.size by rw [hhi3]; exact WW.size)
  replace HZL := HZL9
  clear HZL9
  clear TT TB
  have TT := TT9
  have TB := TB9
  clear TT9 TB9 WW hhi3
  subst hx3
  have r0 := TR.out.c0
  have r1 := TR.out.c1
  have r2 := TR.out.c2
  have f0 := TR.out.f0
  have f1 := TR.out.f1
  have f2 := TR.out.f2
  have t0 := TT.out.c0
  have t1 := TT.out.c1
  have t2 := TT.out.c2
  have HOL := Lib.hid (show w.heap.size ≤ z + 1 by have := HZE.out; omega)
  go_wp2_with (fail)
  have hzw := HZE.out
  refine bodyPost_ret (v := .agg #[.slice (some ⟨g1, 0, none⟩) n1 n1, .slice (some ⟨g2, 0, none⟩) n2 n2, .slice (some ⟨g3, 0, none⟩) n3 n3]) (by simp [results, Try.results27, go_sem, r0, r1, r2]) rfl ⟨_, rfl, ⟨g1, g2, g3, lo1, hi1, lo2, hi2, lo3, hi3, rfl, by omega, hl1', by omega, hl2', by omega, hl3', Nat.le_trans HZL.out WroteIn.set3.size, ?_, ?_, ?_⟩, WroteIn.set3.ext E.out HOL.out⟩
  · exact WroteIn.set3.ownR O1.out (.inr (by omega))
  · exact WroteIn.set3.ownR O2.out (.inr (by omega))
  · exact WroteIn.set3.ownR O3.out (.inr (by omega))
end Go.Proofs.Ythflmmgolegonaa

/-
  The listed function MatrixBracket.
  No condition.
-/
namespace Go.Proofs.Ythflmmgolegonaa
set_option maxRecDepth 100000
open Go.RowKit

theorem RdR.nilN (w : World) (a : Option Addr) : RdR w a 0 [] := ⟨rfl, fun _ hi => absurd hi (Nat.not_lt_zero _)⟩
theorem rdM_two {W : World} {g n m ca cb : Nat} {a b : Option Addr} {xs ys : List (List Int)} (h0 : W.cell? ⟨g, 0, none⟩ = some (.slice a n ca)) (h1 : W.cell? ⟨g, 1, none⟩ = some (.slice b m cb)) (hx : RdR W a n xs) (hy : RdR W b m ys) : RdM W (some ⟨g, 0, none⟩) 2 [xs, ys] := by
  refine ⟨rfl, fun i hi => ?_⟩
  have hi2 : i = 0 ∨ i = 1 := by omega
  rcases hi2 with rfl | rfl
  · exact ⟨g, 0, a, ca, rfl, by show W.cell? _ = some (.slice a xs.length ca); rw [hx.1]; exact h0, by show RdR W a xs.length xs; rw [hx.1]; exact hx⟩
  · exact ⟨g, 0, b, cb, rfl, by show W.cell? _ = some (.slice b ys.length cb); rw [hy.1]; exact h1, by show RdR W b ys.length ys; rw [hy.1]; exact hy⟩
theorem two_len {xs ys : List (List Int)} {n m B : Nat} (hx : xs.length = n) (hy : ys.length = m) (h1 : n ≤ B) (h2 : m ≤ B) : ∀ i, i < 2 → (nthM [xs, ys] i).length ≤ B := fun i hi => by
  have hi2 : i = 0 ∨ i = 1 := by omega
  rcases hi2 with rfl | rfl
  · show xs.length ≤ B; omega
  · show ys.length ≤ B; omega
theorem two_row {xs ys : List (List Int)} {n m B : Nat} (hx : xs.length = n) (hy : ys.length = m) (h1 : ∀ i, i < n → (nthR xs i).length ≤ B) (h2 : ∀ i, i < m → (nthR ys i).length ≤ B) : ∀ i, i < 2 → ∀ j, j < (nthM [xs, ys] i).length → (nthR (nthM [xs, ys] i) j).length ≤ B := fun i hi j hj => by
  have hi2 : i = 0 ∨ i = 1 := by omega
  rcases hi2 with rfl | rfl
  · exact h1 j (by rw [← hx]; exact hj)
  · exact h2 j (by rw [← hy]; exact hj)
theorem brk_good {p : Int} {a b : List (List Int)} {n : Nat} (hp : 1 ≤ p) : RowsG p n (brkM p a b n) := sumM_good hp
theorem brk_len (p : Int) (a b : List (List Int)) (n : Nat) : (brkM p a b n).length = n := sumM_len ..
theorem cntR_rowsB {p : Int} {N : Nat} {rows : List (List Int)} (hg : RowsG p N rows) (hN : N ≤ 64) : ∀ k, k ≤ rows.length → cntR rows k ≤ 64 * k
  | 0, _ => by simp [cntR]
  | k + 1, hk => by
    have h1 := cntR_rowsB hg hN k (by omega)
    have h2 := (hg k (by omega)).1
    unfold cntR
    omega
theorem brk_cnt {p : Int} {a b : List (List Int)} {d : Nat} (hp : 1 ≤ p) (hd : d ≤ 6) : 2 ^ d ≤ 1048576 ∧ cntR (brkM p a b (2 ^ d)) (2 ^ d) ≤ 1048576 := by
  have h64 := pow_le64 hd
  have := cntR_rowsB (rows := brkM p a b (2 ^ d)) (brk_good hp) (by omega) (2 ^ d) (by rw [brk_len]; exact Nat.le_refl _)
  omega

set_option maxHeartbeats 2000000 in
theorem c_MatrixBracket_bad (p : Int) (a : Option Addr) (d cap : Nat) (qs : List Int) (ax1 : Option Addr) (n1 cx1 : Nat) (xs1 : List (List Int)) (ax2 : Option Addr) (n2 cx2 : Nat) (xs2 : List (List Int)) (w : World) (hd : d ≤ 4194304) (hn1 : n1 ≤ 4194303) (hr1 : ∀ i, i < n1 → (nthR xs1 i).length ≤ 4194303) (hn2 : n2 ≤ 4194303) (hr2 : ∀ i, i < n2 → (nthR xs2 i).length ≤ 4194303) (hq : RdC w a d qs) (hx1 : RdR w ax1 n1 xs1) (hx2 : RdR w ax2 n2 xs2) (hc : code14 p qs [xs1, xs2] ≠ 0) :
    Calls Try.prog 11 #[.agg #[.int .i64 p, .slice a d cap], .slice ax1 n1 cx1, .slice ax2 n2 cx2] w fun e w' => ∃ ra rc, e = .returned (.tuple #[.slice ra 0 rc, .int .i64 (code14 p qs [xs1, xs2])]) ∧ OwnR w.heap.size w' ra 0 rc [] ∧ Ext w w' := by
  have HQ := Lib.hid hq
  have HQL := Lib.hid hq.1
  have HX1 := Lib.hid hx1
  have HX2 := Lib.hid hx2
  have HL1 := Lib.hid hx1.1
  have HL2 := Lib.hid hx2.1
  have HR1 := Lib.hid hr1
  have HR2 := Lib.hid hr2
  clear hq hx1 hx2 hr1 hr2
  have hcb : (code14 p qs [xs1, xs2] != 0) = true := by simp [hc]
  clear hc
  go_enter Try.func11, Try.ntmps11
  go_wp2_with (fail)
  refine Calls.mono (c_checkThree p a d cap qs none 0 0 [] _ 2 _ [xs1, xs2] _ hd (by omega) (fun _ hi => absurd hi (Nat.not_lt_zero _)) (by omega) (two_len HL1.out HL2.out hn1 hn2) (two_row HL1.out HL2.out HR1.out HR2.out) (HQ.out.ext ((ext_alloc _ _).alloc _)) (RdR.nilN _ _) (rdM_two (g := w.heap.size + 1) (ca := cx1) (cb := cx2) (by simp) (by simp) (HX1.out.ext ((ext_alloc _ _).alloc _)) (HX2.out.ext ((ext_alloc _ _).alloc _)))) ?_
  rintro e w1 ⟨rfl, g1⟩
  rw [code3_mats]
  have G1 := Lib.hid (((ext_alloc w (.cells #[.int .i64 p, .slice a d cap] 30)).alloc (.cells #[.slice ax1 n1 cx1, .slice ax2 n2 cx2] 25)).trans g1)
  clear g1
  go_wp2_with (fail)
  go_ret2
  exact ⟨none, 0, rfl, OwnR.nil _ _, G1.out⟩
set_option maxHeartbeats 4000000 in
theorem c_MatrixBracket_ok (p : Int) (a : Option Addr) (d cap : Nat) (qs : List Int) (ax1 : Option Addr) (n1 cx1 : Nat) (xs1 : List (List Int)) (ax2 : Option Addr) (n2 cx2 : Nat) (xs2 : List (List Int)) (w : World) (hd : d ≤ 4194304) (hn1 : n1 ≤ 4194303) (hr1 : ∀ i, i < n1 → (nthR xs1 i).length ≤ 4194303) (hn2 : n2 ≤ 4194303) (hr2 : ∀ i, i < n2 → (nthR xs2 i).length ≤ 4194303) (hq : RdC w a d qs) (hx1 : RdR w ax1 n1 xs1) (hx2 : RdR w ax2 n2 xs2) (hc : code14 p qs [xs1, xs2] = 0) :
    Calls Try.prog 11 #[.agg #[.int .i64 p, .slice a d cap], .slice ax1 n1 cx1, .slice ax2 n2 cx2] w fun e w' => ∃ ra rc, e = .returned (.tuple #[.slice ra (2 ^ d) rc, .int .i64 0]) ∧ OwnR w.heap.size w' ra (2 ^ d) rc (brkM p xs1 xs2 (2 ^ d)) ∧ Ext w w' := by
  have HQ := Lib.hid hq
  have HQL := Lib.hid hq.1
  have HX1 := Lib.hid hx1
  have HX2 := Lib.hid hx2
  have HL1 := Lib.hid hx1.1
  have HL2 := Lib.hid hx2.1
  have HR1 := Lib.hid hr1
  have HR2 := Lib.hid hr2
  clear hq hx1 hx2 hr1 hr2
  obtain ⟨hcd, hma⟩ := code14_zero hc
  obtain ⟨hs, h3⟩ := codeD_zero hcd
  obtain ⟨hpr, _, _, _⟩ := doub_of hs
  have hpb := prime_bd hpr
  rw [HQL.out] at h3 hma
  have hm1 := matE_of (all_nthM.1 hma 0 (by simp))
  have hm2 := matE_of (all_nthM.1 hma 1 (by simp))
  have hN8 : 2 ^ d ≤ 64 := pow_le64 (by omega)
  have hN1 : 0 < 2 ^ d := Nat.pow_pos (by omega)
  have he1 : n1 = 2 ^ d := HL1.out.symm.trans hm1.2
  have he2 : n2 = 2 ^ d := HL2.out.symm.trans hm2.2
  have HG1 := Lib.hid hm1.1
  have HG2 := Lib.hid hm2.1
  rw [← he1] at HG1 HG2 hN8 hN1 ⊢
  obtain rfl : n2 = n1 := he2.trans he1.symm
  have HC := Lib.hid hc
  have hcb : ((0 : Int) != 0) = false := by simp
  clear hc hcd hs h3 hma hpr hm1 hm2 he1 he2
  go_enter Try.func11, Try.ntmps11
  go_wp2_with (fail)
  refine Calls.mono (c_checkThree p a d cap qs none 0 0 [] _ 2 _ [xs1, xs2] _ hd (by omega) (fun _ hi => absurd hi (Nat.not_lt_zero _)) (by omega) (two_len HL1.out HL2.out hn2 hn2) (two_row HL1.out HL2.out HR1.out HR2.out) (HQ.out.ext ((ext_alloc _ _).alloc _)) (RdR.nilN _ _) (rdM_two (g := w.heap.size + 1) (ca := cx1) (cb := cx2) (by simp) (by simp) (HX1.out.ext ((ext_alloc _ _).alloc _)) (HX2.out.ext ((ext_alloc _ _).alloc _)))) ?_
  rintro e w1 ⟨rfl, g1⟩
  rw [code3_mats]
  rw [HC.out]
  have q0 : w1.cell? ⟨w.heap.size, 0, none⟩ = some (.int .i64 p) := g1.cell (by simp)
  have q1 : w1.cell? ⟨w.heap.size, 1, none⟩ = some (.slice a d cap) := g1.cell (by simp)
  have G1 := Lib.hid (((ext_alloc w (.cells #[.int .i64 p, .slice a d cap] 30)).alloc (.cells #[.slice ax1 n2 cx1, .slice ax2 n2 cx2] 25)).trans g1)
  clear g1
  go_wp2_with (fail)

  refine Calls.mono (c_dfield p _ _) ?_
  rintro e w2 ⟨rfl, g2⟩
  replace G1 := Lib.hid (G1.out.trans g2)
  clear g2 q0 q1
  go_wp2_with (fail)

  refine Calls.mono (c_bracket p ax1 n2 cx1 xs1 ax2 cx2 xs2 _ (by omega) (by omega) hN1 hN8 (HX1.out.ext G1.out) (HX2.out.ext G1.out) HG1.out HG2.out) ?_
  rintro e w3 ⟨g3, c3, rfl, o3, x3⟩
  have O3 := Lib.hid (o3.mono G1.out.size)
  have X3 := Lib.hid (G1.out.trans x3)
  clear o3 x3
  go_wp2_with (fail)
  go_ret2
  exact ⟨_, _, rfl, O3.out, X3.out⟩

set_option maxHeartbeats 2000000 in
theorem s_MatrixBracket_bad (p : Int) (a : Option Addr) (d cap : Nat) (qs : List Int) (ax1 : Option Addr) (n1 cx1 : Nat) (xs1 : List (List Int)) (ax2 : Option Addr) (n2 cx2 : Nat) (xs2 : List (List Int)) (w : World) (hd : d ≤ 4194304) (hn1 : n1 ≤ 4194303) (hr1 : ∀ i, i < n1 → (nthR xs1 i).length ≤ 4194303) (hn2 : n2 ≤ 4194303) (hr2 : ∀ i, i < n2 → (nthR xs2 i).length ≤ 4194303) (hq : RdC w a d qs) (hx1 : RdR w ax1 n1 xs1) (hx2 : RdR w ax2 n2 xs2) (hc : code14 p qs [xs1, xs2] ≠ 0) :
    Calls Try.prog 8 #[.agg #[.int .i64 p, .slice a d cap], .slice ax1 n1 cx1, .slice ax2 n2 cx2] w fun e w' => ∃ ra rc, e = .returned (.tuple #[.slice ra 0 rc, .int .i64 (code14 p qs [xs1, xs2])]) ∧ OwnR w.heap.size w' ra 0 rc [] ∧ Ext w w' := by
  have HQ := Lib.hid hq
  have HQL := Lib.hid hq.1
  have HX1 := Lib.hid hx1
  have HX2 := Lib.hid hx2
  have HL1 := Lib.hid hx1.1
  have HL2 := Lib.hid hx2.1
  have HR1 := Lib.hid hr1
  have HR2 := Lib.hid hr2
  clear hq hx1 hx2 hr1 hr2
  have hcb : (code14 p qs [xs1, xs2] != 0) = true := by simp [hc]
  clear hc
  go_enter Try.func8, Try.ntmps8
  go_wp2_with (fail)
  refine Calls.mono (s_two14 p a d cap qs _ 2 _ [xs1, xs2] _ hd (by omega) (two_len HL1.out HL2.out hn1 hn2) (two_row HL1.out HL2.out HR1.out HR2.out) (HQ.out.ext ((ext_alloc _ _).alloc _)) (rdM_two (g := w.heap.size + 1) (ca := cx1) (cb := cx2) (by simp) (by simp) (HX1.out.ext ((ext_alloc _ _).alloc _)) (HX2.out.ext ((ext_alloc _ _).alloc _)))) ?_
  rintro e w1 ⟨rfl, g1⟩
  skip
  have G1 := Lib.hid (((ext_alloc w (.cells #[.int .i64 p, .slice a d cap] 30)).alloc (.cells #[.slice ax1 n1 cx1, .slice ax2 n2 cx2] 25)).trans g1)
  clear g1
  go_wp2_with (fail)
  go_ret2
  exact ⟨none, 0, rfl, OwnR.nil _ _, G1.out⟩
set_option maxHeartbeats 4000000 in
theorem s_MatrixBracket_ok (p : Int) (a : Option Addr) (d cap : Nat) (qs : List Int) (ax1 : Option Addr) (n1 cx1 : Nat) (xs1 : List (List Int)) (ax2 : Option Addr) (n2 cx2 : Nat) (xs2 : List (List Int)) (w : World) (hd : d ≤ 4194304) (hn1 : n1 ≤ 4194303) (hr1 : ∀ i, i < n1 → (nthR xs1 i).length ≤ 4194303) (hn2 : n2 ≤ 4194303) (hr2 : ∀ i, i < n2 → (nthR xs2 i).length ≤ 4194303) (hq : RdC w a d qs) (hx1 : RdR w ax1 n1 xs1) (hx2 : RdR w ax2 n2 xs2) (hc : code14 p qs [xs1, xs2] = 0) :
    Calls Try.prog 8 #[.agg #[.int .i64 p, .slice a d cap], .slice ax1 n1 cx1, .slice ax2 n2 cx2] w fun e w' => ∃ ra rc, e = .returned (.tuple #[.slice ra (2 ^ d) rc, .int .i64 0]) ∧ OwnR w.heap.size w' ra (2 ^ d) rc (brkM p xs1 xs2 (2 ^ d)) ∧ Ext w w' := by
  have HQ := Lib.hid hq
  have HQL := Lib.hid hq.1
  have HX1 := Lib.hid hx1
  have HX2 := Lib.hid hx2
  have HL1 := Lib.hid hx1.1
  have HL2 := Lib.hid hx2.1
  have HR1 := Lib.hid hr1
  have HR2 := Lib.hid hr2
  clear hq hx1 hx2 hr1 hr2
  obtain ⟨hcd, hma⟩ := code14_zero hc
  obtain ⟨hs, h3⟩ := codeD_zero hcd
  obtain ⟨hpr, _, _, _⟩ := doub_of hs
  have hpb := prime_bd hpr
  rw [HQL.out] at h3 hma
  have hm1 := matE_of (all_nthM.1 hma 0 (by simp))
  have hm2 := matE_of (all_nthM.1 hma 1 (by simp))
  have hN8 : 2 ^ d ≤ 64 := pow_le64 (by omega)
  have hN1 : 0 < 2 ^ d := Nat.pow_pos (by omega)
  have he1 : n1 = 2 ^ d := HL1.out.symm.trans hm1.2
  have he2 : n2 = 2 ^ d := HL2.out.symm.trans hm2.2
  have HG1 := Lib.hid hm1.1
  have HG2 := Lib.hid hm2.1
  rw [← he1] at HG1 HG2 hN8 hN1 ⊢
  obtain rfl : n2 = n1 := he2.trans he1.symm
  have HC := Lib.hid hc
  have hcb : ((0 : Int) != 0) = false := by simp
  clear hc hcd hs h3 hma hpr hm1 hm2 he1 he2
  go_enter Try.func8, Try.ntmps8
  go_wp2_with (fail)
  refine Calls.mono (s_two14 p a d cap qs _ 2 _ [xs1, xs2] _ hd (by omega) (two_len HL1.out HL2.out hn2 hn2) (two_row HL1.out HL2.out HR1.out HR2.out) (HQ.out.ext ((ext_alloc _ _).alloc _)) (rdM_two (g := w.heap.size + 1) (ca := cx1) (cb := cx2) (by simp) (by simp) (HX1.out.ext ((ext_alloc _ _).alloc _)) (HX2.out.ext ((ext_alloc _ _).alloc _)))) ?_
  rintro e w1 ⟨rfl, g1⟩
  skip
  rw [HC.out]
  have q0 : w1.cell? ⟨w.heap.size, 0, none⟩ = some (.int .i64 p) := g1.cell (by simp)
  have q1 : w1.cell? ⟨w.heap.size, 1, none⟩ = some (.slice a d cap) := g1.cell (by simp)
  have G1 := Lib.hid (((ext_alloc w (.cells #[.int .i64 p, .slice a d cap] 30)).alloc (.cells #[.slice ax1 n2 cx1, .slice ax2 n2 cx2] 25)).trans g1)
  clear g1
  go_wp2_with (fail)

  refine Calls.mono (s_bracket p ax1 n2 cx1 xs1 ax2 cx2 xs2 _ (by omega) (by omega) hN1 hN8 (HX1.out.ext G1.out) (HX2.out.ext G1.out) HG1.out HG2.out) ?_
  rintro e w3 ⟨g3, c3, rfl, o3, x3⟩
  have O3 := Lib.hid (o3.mono G1.out.size)
  have X3 := Lib.hid (G1.out.trans x3)
  clear o3 x3
  go_wp2_with (fail)
  go_ret2
  exact ⟨_, _, rfl, O3.out, X3.out⟩

end Go.Proofs.Ythflmmgolegonaa
