/-
  The walk of the law FnExactPureTriple: it returns true and leaves what was there as it was.
  No condition.
-/
import Derived.Test.YthflmmgolegonaaPart1
import Derived.Test.YthflmmgolegonaaPart8
namespace Go.Proofs.Ythflmmgolegonaa
set_option maxRecDepth 100000
open Go.RowKit

theorem cnt_square {p : Int} {N : Nat} {M : List (List Int)} (hl : M.length = N) (hg : RowsG p N M) : ∀ k, k ≤ N → cntR M k ≤ k * N
  | 0, _ => by simp [cntR]
  | k + 1, h => by
    have h1 := cnt_square hl hg k (by omega)
    have h2 := (hg k (by omega)).1
    show cntR M k + (nthR M k).length ≤ (k + 1) * N
    rw [h2, Nat.add_mul]; omega

set_option maxHeartbeats 2000000 in
set_option maxRecDepth 100000 in
theorem w_PureTriple_big (p : Int) (a : Option Addr) (d cap : Nat) (qs : List Int) (ax1 : Option Addr) (n1 cx1 : Nat) (xs1 : List Int) (w : World) (_hq : RdC w a d qs) (hmd : d ≤ maxLen) (_hx1 : RdC w ax1 n1 xs1) (_hmn1 : n1 ≤ maxLen) (hb : 1048576 < n1 ∨ 1048576 < d) :
    Calls Try.prog 4 #[.agg #[.int .i64 p, .slice a d cap], .slice ax1 n1 cx1] w fun e w' => e = .returned (.bool true) ∧ Ext w w' := by
  have HB := Lib.hid hb
  clear hb
  by_cases hn1 : 1048576 < n1
  · clear HB
    go_enter Try.func4, Try.ntmps4
    go_wp2_with (fail)
    go_ret
    exact ⟨rfl, ext_alloc _ _⟩
  by_cases hd : 1048576 < d
  · have HS := Lib.hid (szN_neg (left := 1048576) (n := d) (by omega))
    go_enter Try.func4, Try.ntmps4
    go_wp2_with (go_at_call 6; refine (l_szDoubling _ _ _ _ _ _ (by omega) (by omega) hmd).mono ?_; rintro e w1 ⟨rfl, g1⟩; rw [HS.out])
    go_ret
    exact ⟨rfl, (ext_alloc _ _).trans g1⟩
  exact absurd HB.out (by omega)

set_option maxHeartbeats 16000000 in
set_option maxRecDepth 100000 in
theorem w_PureTriple (p : Int) (a : Option Addr) (d cap : Nat) (qs : List Int) (ax1 : Option Addr) (n1 cx1 : Nat) (xs1 : List Int) (w : World) (hd : d ≤ 1048576) (hn1 : n1 ≤ 1048576)  (hq : RdC w a d qs) (hx1 : RdC w ax1 n1 xs1) (rn : Nat) (yA yB yC : List (List Int)) (c : Int) (hrn : rn ≤ 1048576) (hTA : cntR yA rn ≤ 1048576) (hTB : cntR yB rn ≤ 1048576) (hTC : cntR yC rn ≤ 1048576)
    (hs : ∀ (a : Option Addr) (ax1 : Option Addr) (w : World), RdC w a d qs → RdC w ax1 n1 xs1 → Calls Try.prog 17 #[.agg #[.int .i64 p, .slice a d d], .slice ax1 n1 n1] w fun e w' => ∃ V, e = .returned (.tuple #[V, .int .i64 c]) ∧ TripO w.heap.size w' rn yA yB yC V ∧ Ext w w')
    (hi : ∀ (a : Option Addr) (ax1 : Option Addr) (w : World), RdC w a d qs → RdC w ax1 n1 xs1 → Calls Try.prog 19 #[.agg #[.int .i64 p, .slice a d d], .slice ax1 n1 n1] w fun e w' => ∃ V, e = .returned (.tuple #[V, .int .i64 c]) ∧ Trip w.heap.size w' rn yA yB yC V ∧ Ext w w') :
    Calls Try.prog 4 #[.agg #[.int .i64 p, .slice a d cap], .slice ax1 n1 cx1] w fun e w' => e = .returned (.bool true) ∧ Ext w w' := by
  have HS := Lib.hid (szN_pos (left := 1048576) (n := d) (by omega))
  have HQ0 := Lib.hid hq
  have Hs := Lib.hid hs
  have Hi := Lib.hid hi
  have hccb : (c != c) = false := by simp
  have HLA : Hid (∀ j, j < rn → (nthR yA j).length ≤ 4194304) := Lib.hid (fun j hj => Nat.le_trans (cntR_row yA hj) (by omega))
  have HLB : Hid (∀ j, j < rn → (nthR yB j).length ≤ 4194304) := Lib.hid (fun j hj => Nat.le_trans (cntR_row yB hj) (by omega))
  have HLC : Hid (∀ j, j < rn → (nthR yC j).length ≤ 4194304) := Lib.hid (fun j hj => Nat.le_trans (cntR_row yC hj) (by omega))
  obtain ⟨TK, hTK⟩ : ∃ z, z = trK 1 yA rn yB rn yC rn := ⟨_, rfl⟩
  have HTK := Lib.hid hTK
  have hTK0 : ¬ TK < 0 := by rw [hTK]; unfold trK; omega
  have hTKb : (TK != TK) = false := by simp
  clear hTK hs hi hq
  have HX1 := Lib.hid hx1
  clear hx1
  go_enter Try.func4, Try.ntmps4
  go_wp2_with (go_at_call 6; refine (l_szDoubling _ _ _ _ _ _ (by omega) (by omega) (by unfold maxLen; omega)).mono ?_; rintro e w1 ⟨rfl, g1⟩; rw [HS.out]; have hcl := Ext.cells g1; have hz := g1.size'; simp only [World.size_alloc] at hcl hz)
  have E : Hid (Ext w w1) := (ext_alloc w (.cells #[.int .i64 p, .slice a d cap] 24)).trans g1
  have c00 := Lib.hid (show w1.cell? ⟨w.heap.size, 0, none⟩ = some (.int .i64 p) from g1.cell (by simp))
  have c01 := Lib.hid (show w1.cell? ⟨w.heap.size, 1, none⟩ = some (.slice a d cap) from g1.cell (by simp))
  obtain ⟨Z0, hZ0⟩ : ∃ z, z = w.heap.size + 1 := ⟨_, rfl⟩
  have HZ := Lib.hid (show Z0 ≤ w1.heap.size by rw [hZ0]; exact hz)
  clear hcl hz g1
  refine (l_toDoubling p a d cap qs w1 (by omega) (HQ0.out.ext E.out)).mono ?_
  rintro e v1 ⟨gA0, rfl, ho, gg⟩
  have hb9 := ho.base_of gA0 rfl
  have hz9 := HZ.out
  obtain ⟨Z2, hZ2⟩ : ∃ z, z = v1.heap.size := ⟨_, rfl⟩
  have hrA0 : Z0 ≤ gA0 ∧ gA0 < Z2 := by omega
  have OA0 := Lib.hid ho
  clear hb9 hz9 ho
  replace E := Lib.hid (E.out.trans gg)
  replace c00 := Lib.hid (gg.cell c00.out)
  replace c01 := Lib.hid (gg.cell c01.out)
  replace HZ := Lib.hid (Nat.le_trans HZ.out gg.size')
  replace HZ : Hid (Z2 ≤ v1.heap.size) := Lib.hid (Nat.le_of_eq hZ2)
  clear gg hZ2
  go_wp2_with (fail)
  refine (l_toInts ax1 n1 cx1 xs1 v1 (by omega) (HX1.out.ext E.out)).mono ?_
  rintro e v3 ⟨gA1, rfl, ho, gg⟩
  have hb9 := ho.base_of gA1 rfl
  have hz9 := HZ.out
  obtain ⟨Z4, hZ4⟩ : ∃ z, z = v3.heap.size := ⟨_, rfl⟩
  have hrA1 : Z2 ≤ gA1 ∧ gA1 < Z4 := by omega
  have OA1 := Lib.hid ho
  clear hb9 hz9 ho
  replace E := Lib.hid (E.out.trans gg)
  replace c00 := Lib.hid (gg.cell c00.out)
  replace c01 := Lib.hid (gg.cell c01.out)
  replace OA0 := Lib.hid (OA0.out.ext gg)
  replace HZ := Lib.hid (Nat.le_trans HZ.out gg.size')
  replace HZ : Hid (Z4 ≤ v3.heap.size) := Lib.hid (Nat.le_of_eq hZ4)
  clear gg hZ4
  go_wp2_with (fail)
  refine (Hs.out (some ⟨gA0, 0, none⟩) (some ⟨gA1, 0, none⟩) v3 OA0.out.rd OA1.out.rd).mono ?_
  rintro e v5 ⟨V9, rfl, hT9, gg⟩
  obtain ⟨aW1, cW1, aW2, cW2, aW3, cW3, rfl, o1, o2, o3⟩ := hT9
  have hz9 := HZ.out
  have hs9 := gg.size'
  obtain ⟨Wl, hWl⟩ : ∃ z, z = v3.heap.size := ⟨_, rfl⟩
  obtain ⟨Z6, hZ6⟩ : ∃ z, z = v5.heap.size := ⟨_, rfl⟩
  have hrW : Z4 ≤ Wl ∧ Wl ≤ Z6 := by omega
  have OW1 := Lib.hid o1.high
  rw [← hWl, ← hZ6] at OW1
  have OW2 := Lib.hid o2.high
  rw [← hWl, ← hZ6] at OW2
  have OW3 := Lib.hid o3.high
  rw [← hWl, ← hZ6] at OW3
  clear hz9 hs9 hWl o1 o2 o3
  replace E := Lib.hid (E.out.trans gg)
  replace c00 := Lib.hid (gg.cell c00.out)
  replace c01 := Lib.hid (gg.cell c01.out)
  replace OA0 := Lib.hid (OA0.out.ext gg)
  replace OA1 := Lib.hid (OA1.out.ext gg)
  replace HZ := Lib.hid (Nat.le_trans HZ.out gg.size')
  replace HZ : Hid (Z6 ≤ v5.heap.size) := Lib.hid (Nat.le_of_eq hZ6)
  clear gg hZ6
  clear OA0
  clear OA1
  have hc00 := (ext_alloc v5 (.cells #[.slice aW1 rn cW1, .slice aW2 rn cW2, .slice aW3 rn cW3] 38)).cell c00.out
  have hc01 := (ext_alloc v5 (.cells #[.slice aW1 rn cW1, .slice aW2 rn cW2, .slice aW3 rn cW3] 38)).cell c01.out
  go_wp2_with (fail)
  clear hc00 hc01
  obtain ⟨B8, hB8⟩ : ∃ z, z = v5.heap.size := ⟨_, rfl⟩
  obtain ⟨v7, hv7⟩ : ∃ z, z = v5.alloc (.cells #[.slice aW1 rn cW1, .slice aW2 rn cW2, .slice aW3 rn cW3] 38) := ⟨_, rfl⟩
  have bW0 := Lib.hid (show v7.cell? ⟨B8, 0, none⟩ = some (.slice aW1 rn cW1) by rw [hv7, hB8]; simp)
  have bW1 := Lib.hid (show v7.cell? ⟨B8, 1, none⟩ = some (.slice aW2 rn cW2) by rw [hv7, hB8]; simp)
  have bW2 := Lib.hid (show v7.cell? ⟨B8, 2, none⟩ = some (.slice aW3 rn cW3) by rw [hv7, hB8]; simp)
  have gg : Ext v5 v7 := by rw [hv7]; exact ext_alloc _ _
  have hrbW : Z6 ≤ B8 := by rw [hB8]; exact HZ.out
  have hz9 : B8 + 1 ≤ v7.heap.size := by rw [hv7, hB8]; simp
  rw [← hv7]
  try rw [← hB8]
  clear hv7 hB8
  replace E := Lib.hid (E.out.trans gg)
  replace c00 := Lib.hid (gg.cell c00.out)
  replace c01 := Lib.hid (gg.cell c01.out)
  replace OW1 := Lib.hid (OW1.out.ext gg)
  replace OW2 := Lib.hid (OW2.out.ext gg)
  replace OW3 := Lib.hid (OW3.out.ext gg)
  replace HZ := Lib.hid (Nat.le_trans HZ.out gg.size')
  replace HZ := Lib.hid hz9
  clear gg hz9
  refine (l_toDoubling p a d cap qs v7 (by omega) (HQ0.out.ext E.out)).mono ?_
  rintro e v9 ⟨gX0, rfl, ho, gg⟩
  have hb9 := ho.base_of gX0 rfl
  have hz9 := HZ.out
  obtain ⟨Z10, hZ10⟩ : ∃ z, z = v9.heap.size := ⟨_, rfl⟩
  have hrX0 : (B8 + 1) ≤ gX0 ∧ gX0 < Z10 := by omega
  have OX0 := Lib.hid ho
  clear hb9 hz9 ho
  replace E := Lib.hid (E.out.trans gg)
  replace c00 := Lib.hid (gg.cell c00.out)
  replace c01 := Lib.hid (gg.cell c01.out)
  replace bW0 := Lib.hid (gg.cell bW0.out)
  replace bW1 := Lib.hid (gg.cell bW1.out)
  replace bW2 := Lib.hid (gg.cell bW2.out)
  replace OW1 := Lib.hid (OW1.out.ext gg)
  replace OW2 := Lib.hid (OW2.out.ext gg)
  replace OW3 := Lib.hid (OW3.out.ext gg)
  replace HZ := Lib.hid (Nat.le_trans HZ.out gg.size')
  replace HZ : Hid (Z10 ≤ v9.heap.size) := Lib.hid (Nat.le_of_eq hZ10)
  clear gg hZ10
  go_wp2_with (fail)
  obtain ⟨B12, hB12⟩ : ∃ z, z = v9.heap.size := ⟨_, rfl⟩
  obtain ⟨v11, hv11⟩ : ∃ z, z = v9.alloc (.cells #[.int .i64 p, .slice (some ⟨gX0, 0, none⟩) d d] 30) := ⟨_, rfl⟩
  have bX0 := Lib.hid (show v11.cell? ⟨B12, 0, none⟩ = some (.int .i64 p) by rw [hv11, hB12]; simp)
  have bX1 := Lib.hid (show v11.cell? ⟨B12, 1, none⟩ = some (.slice (some ⟨gX0, 0, none⟩) d d) by rw [hv11, hB12]; simp)
  have gg : Ext v9 v11 := by rw [hv11]; exact ext_alloc _ _
  have hrbX : Z10 ≤ B12 := by rw [hB12]; exact HZ.out
  have hz9 : B12 + 1 ≤ v11.heap.size := by rw [hv11, hB12]; simp
  rw [← hv11]
  try rw [← hB12]
  clear hv11 hB12
  replace E := Lib.hid (E.out.trans gg)
  replace c00 := Lib.hid (gg.cell c00.out)
  replace c01 := Lib.hid (gg.cell c01.out)
  replace bW0 := Lib.hid (gg.cell bW0.out)
  replace bW1 := Lib.hid (gg.cell bW1.out)
  replace bW2 := Lib.hid (gg.cell bW2.out)
  replace OW1 := Lib.hid (OW1.out.ext gg)
  replace OW2 := Lib.hid (OW2.out.ext gg)
  replace OW3 := Lib.hid (OW3.out.ext gg)
  replace OX0 := Lib.hid (OX0.out.ext gg)
  replace HZ := Lib.hid (Nat.le_trans HZ.out gg.size')
  replace HZ := Lib.hid hz9
  clear gg hz9
  refine (l_toInts ax1 n1 cx1 xs1 v11 (by omega) (HX1.out.ext E.out)).mono ?_
  rintro e v13 ⟨gX1, rfl, ho, gg⟩
  have hb9 := ho.base_of gX1 rfl
  have hz9 := HZ.out
  obtain ⟨Z14, hZ14⟩ : ∃ z, z = v13.heap.size := ⟨_, rfl⟩
  have hrX1 : (B12 + 1) ≤ gX1 ∧ gX1 < Z14 := by omega
  have OX1 := Lib.hid ho
  clear hb9 hz9 ho
  replace E := Lib.hid (E.out.trans gg)
  replace c00 := Lib.hid (gg.cell c00.out)
  replace c01 := Lib.hid (gg.cell c01.out)
  replace bW0 := Lib.hid (gg.cell bW0.out)
  replace bW1 := Lib.hid (gg.cell bW1.out)
  replace bW2 := Lib.hid (gg.cell bW2.out)
  replace bX0 := Lib.hid (gg.cell bX0.out)
  replace bX1 := Lib.hid (gg.cell bX1.out)
  replace OW1 := Lib.hid (OW1.out.ext gg)
  replace OW2 := Lib.hid (OW2.out.ext gg)
  replace OW3 := Lib.hid (OW3.out.ext gg)
  replace OX0 := Lib.hid (OX0.out.ext gg)
  replace HZ := Lib.hid (Nat.le_trans HZ.out gg.size')
  replace HZ : Hid (Z14 ≤ v13.heap.size) := Lib.hid (Nat.le_of_eq hZ14)
  clear gg hZ14
  have hbX0 := bX0.out
  have hbX1 := bX1.out
  go_wp2_with (fail)
  clear hbX0 hbX1
  refine (Hi.out (some ⟨gX0, 0, none⟩) (some ⟨gX1, 0, none⟩) v13 OX0.out.rd OX1.out.rd).mono ?_
  rintro e v15 ⟨V9, rfl, hT9, gg⟩
  obtain ⟨aG1, cG1, aG2, cG2, aG3, cG3, Gl1, Gh1, Gl2, Gh2, Gl3, Gh3, rfl, q1, q2, q3, q4, q5, q6, q7, o1, o2, o3⟩ := hT9
  have hz9 := HZ.out
  obtain ⟨Z16, hZ16⟩ : ∃ z, z = v15.heap.size := ⟨_, rfl⟩
  have hrG : Z14 ≤ Gl1 ∧ Gl1 ≤ Gh1 ∧ Gh1 ≤ Gl2 ∧ Gl2 ≤ Gh2 ∧ Gh2 ≤ Gl3 ∧ Gl3 ≤ Gh3 ∧ Gh3 ≤ Z16 := by omega
  have OG1 := Lib.hid o1
  have OG2 := Lib.hid o2
  have OG3 := Lib.hid o3
  clear hz9 o1 o2 o3 q1 q2 q3 q4 q5 q6 q7
  replace E := Lib.hid (E.out.trans gg)
  replace c00 := Lib.hid (gg.cell c00.out)
  replace c01 := Lib.hid (gg.cell c01.out)
  replace bW0 := Lib.hid (gg.cell bW0.out)
  replace bW1 := Lib.hid (gg.cell bW1.out)
  replace bW2 := Lib.hid (gg.cell bW2.out)
  replace bX0 := Lib.hid (gg.cell bX0.out)
  replace bX1 := Lib.hid (gg.cell bX1.out)
  replace OW1 := Lib.hid (OW1.out.ext gg)
  replace OW2 := Lib.hid (OW2.out.ext gg)
  replace OW3 := Lib.hid (OW3.out.ext gg)
  replace OX0 := Lib.hid (OX0.out.ext gg)
  replace OX1 := Lib.hid (OX1.out.ext gg)
  replace HZ := Lib.hid (Nat.le_trans HZ.out gg.size')
  replace HZ : Hid (Z16 ≤ v15.heap.size) := Lib.hid (Nat.le_of_eq hZ16)
  clear gg hZ16
  have hbW0 := (ext_alloc v15 (.cells #[.slice aG1 rn cG1, .slice aG2 rn cG2, .slice aG3 rn cG3] 38)).cell bW0.out
  have hbW1 := (ext_alloc v15 (.cells #[.slice aG1 rn cG1, .slice aG2 rn cG2, .slice aG3 rn cG3] 38)).cell bW1.out
  have hbW2 := (ext_alloc v15 (.cells #[.slice aG1 rn cG1, .slice aG2 rn cG2, .slice aG3 rn cG3] 38)).cell bW2.out
  go_wp2_with (fail)
  clear hbW0 hbW1 hbW2
  obtain ⟨B18, hB18⟩ : ∃ z, z = v15.heap.size := ⟨_, rfl⟩
  obtain ⟨v17, hv17⟩ : ∃ z, z = v15.alloc (.cells #[.slice aG1 rn cG1, .slice aG2 rn cG2, .slice aG3 rn cG3] 38) := ⟨_, rfl⟩
  have bG0 := Lib.hid (show v17.cell? ⟨B18, 0, none⟩ = some (.slice aG1 rn cG1) by rw [hv17, hB18]; simp)
  have bG1 := Lib.hid (show v17.cell? ⟨B18, 1, none⟩ = some (.slice aG2 rn cG2) by rw [hv17, hB18]; simp)
  have bG2 := Lib.hid (show v17.cell? ⟨B18, 2, none⟩ = some (.slice aG3 rn cG3) by rw [hv17, hB18]; simp)
  have gg : Ext v15 v17 := by rw [hv17]; exact ext_alloc _ _
  have hrbG : Z16 ≤ B18 := by rw [hB18]; exact HZ.out
  have hz9 : B18 + 1 ≤ v17.heap.size := by rw [hv17, hB18]; simp
  rw [← hv17]
  try rw [← hB18]
  clear hv17 hB18
  replace E := Lib.hid (E.out.trans gg)
  replace c00 := Lib.hid (gg.cell c00.out)
  replace c01 := Lib.hid (gg.cell c01.out)
  replace bW0 := Lib.hid (gg.cell bW0.out)
  replace bW1 := Lib.hid (gg.cell bW1.out)
  replace bW2 := Lib.hid (gg.cell bW2.out)
  replace bX0 := Lib.hid (gg.cell bX0.out)
  replace bX1 := Lib.hid (gg.cell bX1.out)
  replace OW1 := Lib.hid (OW1.out.ext gg)
  replace OW2 := Lib.hid (OW2.out.ext gg)
  replace OW3 := Lib.hid (OW3.out.ext gg)
  replace OX0 := Lib.hid (OX0.out.ext gg)
  replace OX1 := Lib.hid (OX1.out.ext gg)
  replace OG1 := Lib.hid (OG1.out.ext gg)
  replace OG2 := Lib.hid (OG2.out.ext gg)
  replace OG3 := Lib.hid (OG3.out.ext gg)
  replace HZ := Lib.hid (Nat.le_trans HZ.out gg.size')
  replace HZ := Lib.hid hz9
  clear gg hz9
  skip
  refine (l_eqTriple aG1 aG2 aG3 aW1 aW2 aW3 rn rn rn cG1 cG2 cG3 cW1 cW2 cW3 yA yB yC v17 (by omega) (by omega) (by omega) HLA.out HLB.out HLC.out OG1.out.low.rd OG2.out.low.rd OG3.out.low.rd OW1.out.low.rd OW2.out.low.rd OW3.out.low.rd).mono ?_
  rintro e v19 ⟨rfl, gg⟩
  replace E := Lib.hid (E.out.trans gg)
  replace c00 := Lib.hid (gg.cell c00.out)
  replace c01 := Lib.hid (gg.cell c01.out)
  replace bW0 := Lib.hid (gg.cell bW0.out)
  replace bW1 := Lib.hid (gg.cell bW1.out)
  replace bW2 := Lib.hid (gg.cell bW2.out)
  replace bX0 := Lib.hid (gg.cell bX0.out)
  replace bX1 := Lib.hid (gg.cell bX1.out)
  replace bG0 := Lib.hid (gg.cell bG0.out)
  replace bG1 := Lib.hid (gg.cell bG1.out)
  replace bG2 := Lib.hid (gg.cell bG2.out)
  replace OW1 := Lib.hid (OW1.out.ext gg)
  replace OW2 := Lib.hid (OW2.out.ext gg)
  replace OW3 := Lib.hid (OW3.out.ext gg)
  replace OX0 := Lib.hid (OX0.out.ext gg)
  replace OX1 := Lib.hid (OX1.out.ext gg)
  replace OG1 := Lib.hid (OG1.out.ext gg)
  replace OG2 := Lib.hid (OG2.out.ext gg)
  replace OG3 := Lib.hid (OG3.out.ext gg)
  replace HZ := Lib.hid (Nat.le_trans HZ.out gg.size')
  clear gg
  have Hc00 := Lib.hid ((ext_drew v19).cell c00.out)
  have Hc01 := Lib.hid ((ext_drew v19).cell c01.out)
  have HbX0 := Lib.hid ((ext_drew v19).cell bX0.out)
  have HbX1 := Lib.hid ((ext_drew v19).cell bX1.out)
  have HR0 := Lib.hid ((OX0.out.rd).ext (ext_drew v19))
  have HR1 := Lib.hid (HQ0.out.ext (E.out.trans (ext_drew v19)))
  go_wp2_with (fail)
  refine wp_region_lex [(2, .sp p d qs), (3, .val (.bool true))] (by kernel_rfl) (by kernel_rfl) ?_
  repeat' first | (refine LexW.pure (v := ?_) rfl rfl (fun w1 he => ?_) ?_; rotate_left; ( have hc0 := he.cell Hc00.out; have hc1 := he.cell Hc01.out; have hb0 := he.cell HbX0.out; have hb1 := he.cell HbX1.out; go_simp; rfl); simp only [Act.put, List.setIfInBounds_toArray, List.set_cons_zero, List.set_cons_succ]) | (refine LexW.callR (f := ?_) (args := ?_) rfl rfl (fun w1 => ?_) (fun w1 he hdep => ?_) (fun v hv => ?_); rotate_left 2; (go_simp; refine ⟨?_, ?_⟩ <;> rfl); ( refine (l_toDoubling p a d cap qs w1 (by omega) (HR1.out.ext he)).mono ?_; rintro e w2 ⟨g8, rfl, o8, x8⟩; exact ⟨_, rfl, x8, g8, rfl, o8.rd⟩); simp only [Act.put, List.setIfInBounds_toArray, List.set_cons_zero, List.set_cons_succ]) | (refine LexW.call (f := ?_) (args := ?_) rfl rfl (fun w1 => ?_) (fun w1 he hdep => ?_) ?_; rotate_left 2; (go_simp; refine ⟨?_, ?_⟩ <;> rfl); ( obtain ⟨g8, h8, r8⟩ : (SPred.sp p d qs).holds _ w1 := hdep (2, 54) (by decide +kernel); subst h8; have H := l_eqDoubling p _ _ d d d d qs qs w1 (by omega) (by omega) (HR0.out.ext he) r8; rw [eqB_self] at H; exact H); simp only [Act.put, List.setIfInBounds_toArray, List.set_cons_zero, List.set_cons_succ])
  refine LexW.nil (fun v20 he hk => ?_)
  have gg : Ext v19 v20 := (ext_drew _).trans he
  clear he hk Hc00 Hc01 HbX0 HbX1 HR0 HR1
  replace E := Lib.hid (E.out.trans gg)
  replace c00 := Lib.hid (gg.cell c00.out)
  replace c01 := Lib.hid (gg.cell c01.out)
  replace bW0 := Lib.hid (gg.cell bW0.out)
  replace bW1 := Lib.hid (gg.cell bW1.out)
  replace bW2 := Lib.hid (gg.cell bW2.out)
  replace bX0 := Lib.hid (gg.cell bX0.out)
  replace bX1 := Lib.hid (gg.cell bX1.out)
  replace bG0 := Lib.hid (gg.cell bG0.out)
  replace bG1 := Lib.hid (gg.cell bG1.out)
  replace bG2 := Lib.hid (gg.cell bG2.out)
  replace OW1 := Lib.hid (OW1.out.ext gg)
  replace OW2 := Lib.hid (OW2.out.ext gg)
  replace OW3 := Lib.hid (OW3.out.ext gg)
  replace OX0 := Lib.hid (OX0.out.ext gg)
  replace OX1 := Lib.hid (OX1.out.ext gg)
  replace OG1 := Lib.hid (OG1.out.ext gg)
  replace OG2 := Lib.hid (OG2.out.ext gg)
  replace OG3 := Lib.hid (OG3.out.ext gg)
  replace HZ := Lib.hid (Nat.le_trans HZ.out gg.size')
  clear gg
  go_wp2_with (fail)
  refine (l_toInts ax1 n1 cx1 xs1 v20 (by omega) (HX1.out.ext E.out)).mono ?_
  rintro e v21 ⟨gY1, rfl, ho, gg⟩
  have hb9 := ho.base_of gY1 rfl
  have hz9 := HZ.out
  obtain ⟨Z22, hZ22⟩ : ∃ z, z = v21.heap.size := ⟨_, rfl⟩
  have hrY1 : (B18 + 1) ≤ gY1 ∧ gY1 < Z22 := by omega
  have OY1 := Lib.hid ho
  clear hb9 hz9 ho
  replace E := Lib.hid (E.out.trans gg)
  replace c00 := Lib.hid (gg.cell c00.out)
  replace c01 := Lib.hid (gg.cell c01.out)
  replace bW0 := Lib.hid (gg.cell bW0.out)
  replace bW1 := Lib.hid (gg.cell bW1.out)
  replace bW2 := Lib.hid (gg.cell bW2.out)
  replace bX0 := Lib.hid (gg.cell bX0.out)
  replace bX1 := Lib.hid (gg.cell bX1.out)
  replace bG0 := Lib.hid (gg.cell bG0.out)
  replace bG1 := Lib.hid (gg.cell bG1.out)
  replace bG2 := Lib.hid (gg.cell bG2.out)
  replace OW1 := Lib.hid (OW1.out.ext gg)
  replace OW2 := Lib.hid (OW2.out.ext gg)
  replace OW3 := Lib.hid (OW3.out.ext gg)
  replace OX0 := Lib.hid (OX0.out.ext gg)
  replace OX1 := Lib.hid (OX1.out.ext gg)
  replace OG1 := Lib.hid (OG1.out.ext gg)
  replace OG2 := Lib.hid (OG2.out.ext gg)
  replace OG3 := Lib.hid (OG3.out.ext gg)
  replace HZ := Lib.hid (Nat.le_trans HZ.out gg.size')
  replace HZ : Hid (Z22 ≤ v21.heap.size) := Lib.hid (Nat.le_of_eq hZ22)
  clear gg hZ22
  go_wp2_with (fail)
  have H := l_eqInts (some ⟨gX1, 0, none⟩) (some ⟨gY1, 0, none⟩) n1 n1 n1 n1 xs1 xs1 v21 (by omega) (by omega) OX1.out.rd OY1.out.rd
  rw [eqB_self] at H
  refine (H).mono ?_
  rintro e v23 ⟨rfl, gg⟩
  replace E := Lib.hid (E.out.trans gg)
  replace c00 := Lib.hid (gg.cell c00.out)
  replace c01 := Lib.hid (gg.cell c01.out)
  replace bW0 := Lib.hid (gg.cell bW0.out)
  replace bW1 := Lib.hid (gg.cell bW1.out)
  replace bW2 := Lib.hid (gg.cell bW2.out)
  replace bX0 := Lib.hid (gg.cell bX0.out)
  replace bX1 := Lib.hid (gg.cell bX1.out)
  replace bG0 := Lib.hid (gg.cell bG0.out)
  replace bG1 := Lib.hid (gg.cell bG1.out)
  replace bG2 := Lib.hid (gg.cell bG2.out)
  replace OW1 := Lib.hid (OW1.out.ext gg)
  replace OW2 := Lib.hid (OW2.out.ext gg)
  replace OW3 := Lib.hid (OW3.out.ext gg)
  replace OX0 := Lib.hid (OX0.out.ext gg)
  replace OX1 := Lib.hid (OX1.out.ext gg)
  replace OG1 := Lib.hid (OG1.out.ext gg)
  replace OG2 := Lib.hid (OG2.out.ext gg)
  replace OG3 := Lib.hid (OG3.out.ext gg)
  replace OY1 := Lib.hid (OY1.out.ext gg)
  replace HZ := Lib.hid (Nat.le_trans HZ.out gg.size')
  clear gg
  clear H
  clear OY1
  have hbX0 := bX0.out
  have hbX1 := bX1.out
  go_wp2_with (fail)
  clear hbX0 hbX1
  refine (l_markDoubling _ p (some ⟨gX0, 0, none⟩) d d qs 1 v23 (by omega) (by omega) (by omega) OX0.out).mono ?_
  rintro e v24 ⟨rfl, ho, hx⟩
  have XX : WroteIn gX0 (gX0 + 1) v23 v24 := hx.inR (fun g hg => by cases hg; omega)
  replace E := Lib.hid (XX.ext E.out (by omega))
  replace c00 := Lib.hid (XX.cell c00.out (by show w.heap.size < gX0 ∨ (gX0 + 1) ≤ w.heap.size; omega))
  replace c01 := Lib.hid (XX.cell c01.out (by show w.heap.size < gX0 ∨ (gX0 + 1) ≤ w.heap.size; omega))
  replace bW0 := Lib.hid (XX.cell bW0.out (by show B8 < gX0 ∨ (gX0 + 1) ≤ B8; omega))
  replace bW1 := Lib.hid (XX.cell bW1.out (by show B8 < gX0 ∨ (gX0 + 1) ≤ B8; omega))
  replace bW2 := Lib.hid (XX.cell bW2.out (by show B8 < gX0 ∨ (gX0 + 1) ≤ B8; omega))
  replace bX0 := Lib.hid (XX.cell bX0.out (by show B12 < gX0 ∨ (gX0 + 1) ≤ B12; omega))
  replace bX1 := Lib.hid (XX.cell bX1.out (by show B12 < gX0 ∨ (gX0 + 1) ≤ B12; omega))
  replace bG0 := Lib.hid (XX.cell bG0.out (by show B18 < gX0 ∨ (gX0 + 1) ≤ B18; omega))
  replace bG1 := Lib.hid (XX.cell bG1.out (by show B18 < gX0 ∨ (gX0 + 1) ≤ B18; omega))
  replace bG2 := Lib.hid (XX.cell bG2.out (by show B18 < gX0 ∨ (gX0 + 1) ≤ B18; omega))
  replace OW1 := Lib.hid (XX.ownR OW1.out (by omega))
  replace OW2 := Lib.hid (XX.ownR OW2.out (by omega))
  replace OW3 := Lib.hid (XX.ownR OW3.out (by omega))
  replace OX1 := Lib.hid (XX.own OX1.out (fun g hg => by cases hg; omega))
  replace OG1 := Lib.hid (XX.ownR OG1.out (by omega))
  replace OG2 := Lib.hid (XX.ownR OG2.out (by omega))
  replace OG3 := Lib.hid (XX.ownR OG3.out (by omega))
  replace HZ := Lib.hid (Nat.le_trans HZ.out XX.size)
  replace OX0 := Lib.hid ho
  clear ho hx XX
  go_wp2_with (fail)
  refine (l_mark _ (some ⟨gX1, 0, none⟩) n1 n1 xs1 (1 + (d : Int)) v24 (by omega) (by omega) (by omega) OX1.out).mono ?_
  rintro e v25 ⟨rfl, ho, hx⟩
  have XX : WroteIn gX1 (gX1 + 1) v24 v25 := hx.inR (fun g hg => by cases hg; omega)
  replace E := Lib.hid (XX.ext E.out (by omega))
  replace c00 := Lib.hid (XX.cell c00.out (by show w.heap.size < gX1 ∨ (gX1 + 1) ≤ w.heap.size; omega))
  replace c01 := Lib.hid (XX.cell c01.out (by show w.heap.size < gX1 ∨ (gX1 + 1) ≤ w.heap.size; omega))
  replace bW0 := Lib.hid (XX.cell bW0.out (by show B8 < gX1 ∨ (gX1 + 1) ≤ B8; omega))
  replace bW1 := Lib.hid (XX.cell bW1.out (by show B8 < gX1 ∨ (gX1 + 1) ≤ B8; omega))
  replace bW2 := Lib.hid (XX.cell bW2.out (by show B8 < gX1 ∨ (gX1 + 1) ≤ B8; omega))
  replace bX0 := Lib.hid (XX.cell bX0.out (by show B12 < gX1 ∨ (gX1 + 1) ≤ B12; omega))
  replace bX1 := Lib.hid (XX.cell bX1.out (by show B12 < gX1 ∨ (gX1 + 1) ≤ B12; omega))
  replace bG0 := Lib.hid (XX.cell bG0.out (by show B18 < gX1 ∨ (gX1 + 1) ≤ B18; omega))
  replace bG1 := Lib.hid (XX.cell bG1.out (by show B18 < gX1 ∨ (gX1 + 1) ≤ B18; omega))
  replace bG2 := Lib.hid (XX.cell bG2.out (by show B18 < gX1 ∨ (gX1 + 1) ≤ B18; omega))
  replace OW1 := Lib.hid (XX.ownR OW1.out (by omega))
  replace OW2 := Lib.hid (XX.ownR OW2.out (by omega))
  replace OW3 := Lib.hid (XX.ownR OW3.out (by omega))
  replace OX0 := Lib.hid (XX.own OX0.out (fun g hg => by cases hg; omega))
  replace OG1 := Lib.hid (XX.ownR OG1.out (by omega))
  replace OG2 := Lib.hid (XX.ownR OG2.out (by omega))
  replace OG3 := Lib.hid (XX.ownR OG3.out (by omega))
  replace HZ := Lib.hid (Nat.le_trans HZ.out XX.size)
  replace OX1 := Lib.hid ho
  clear ho hx XX
  have hkneg : ¬ (1 + (d : Int) + (n1 : Int)) < 0 := by omega
  have hbG0 := bG0.out
  have hbG1 := bG1.out
  have hbG2 := bG2.out
  have hbW0 := bW0.out
  have hbW1 := bW1.out
  have hbW2 := bW2.out
  go_wp2_with (fail)
  clear hbG0 hbG1 hbG2 hbW0 hbW1 hbW2
  refine (l_eqTriple aG1 aG2 aG3 aW1 aW2 aW3 rn rn rn cG1 cG2 cG3 cW1 cW2 cW3 yA yB yC v25 (by omega) (by omega) (by omega) HLA.out HLB.out HLC.out OG1.out.low.rd OG2.out.low.rd OG3.out.low.rd OW1.out.low.rd OW2.out.low.rd OW3.out.low.rd).mono ?_
  rintro e v26 ⟨rfl, gg⟩
  replace E := Lib.hid (E.out.trans gg)
  replace c00 := Lib.hid (gg.cell c00.out)
  replace c01 := Lib.hid (gg.cell c01.out)
  replace bW0 := Lib.hid (gg.cell bW0.out)
  replace bW1 := Lib.hid (gg.cell bW1.out)
  replace bW2 := Lib.hid (gg.cell bW2.out)
  replace bX0 := Lib.hid (gg.cell bX0.out)
  replace bX1 := Lib.hid (gg.cell bX1.out)
  replace bG0 := Lib.hid (gg.cell bG0.out)
  replace bG1 := Lib.hid (gg.cell bG1.out)
  replace bG2 := Lib.hid (gg.cell bG2.out)
  replace OW1 := Lib.hid (OW1.out.ext gg)
  replace OW2 := Lib.hid (OW2.out.ext gg)
  replace OW3 := Lib.hid (OW3.out.ext gg)
  replace OX0 := Lib.hid (OX0.out.ext gg)
  replace OX1 := Lib.hid (OX1.out.ext gg)
  replace OG1 := Lib.hid (OG1.out.ext gg)
  replace OG2 := Lib.hid (OG2.out.ext gg)
  replace OG3 := Lib.hid (OG3.out.ext gg)
  replace HZ := Lib.hid (Nat.le_trans HZ.out gg.size')
  clear gg
  clear hkneg
  clear OX0
  clear OX1
  have hbG0 := bG0.out
  have hbG1 := bG1.out
  have hbG2 := bG2.out
  go_wp2_with (fail)
  clear hbG0 hbG1 hbG2
  refine (l_markTriple Gl1 Gh1 Gl2 Gh2 Gl3 Gh3 aG1 aG2 aG3 rn rn rn cG1 cG2 cG3 yA yB yC (1) v26 (by omega) (by omega) (by omega) (by omega) (by omega) (by omega) (by omega) (by omega) (by omega) (by omega) (by omega) (by omega) (by omega) (by have := HZ.out; omega) OG1.out OG2.out OG3.out).mono ?_
  rintro e v27 ⟨rfl, ho1, ho2, ho3, XX⟩
  replace E := Lib.hid (XX.ext E.out (by omega))
  replace c00 := Lib.hid (XX.cell c00.out (by show w.heap.size < Gl1 ∨ Gh3 ≤ w.heap.size; omega))
  replace c01 := Lib.hid (XX.cell c01.out (by show w.heap.size < Gl1 ∨ Gh3 ≤ w.heap.size; omega))
  replace bW0 := Lib.hid (XX.cell bW0.out (by show B8 < Gl1 ∨ Gh3 ≤ B8; omega))
  replace bW1 := Lib.hid (XX.cell bW1.out (by show B8 < Gl1 ∨ Gh3 ≤ B8; omega))
  replace bW2 := Lib.hid (XX.cell bW2.out (by show B8 < Gl1 ∨ Gh3 ≤ B8; omega))
  replace bX0 := Lib.hid (XX.cell bX0.out (by show B12 < Gl1 ∨ Gh3 ≤ B12; omega))
  replace bX1 := Lib.hid (XX.cell bX1.out (by show B12 < Gl1 ∨ Gh3 ≤ B12; omega))
  replace bG0 := Lib.hid (XX.cell bG0.out (by show B18 < Gl1 ∨ Gh3 ≤ B18; omega))
  replace bG1 := Lib.hid (XX.cell bG1.out (by show B18 < Gl1 ∨ Gh3 ≤ B18; omega))
  replace bG2 := Lib.hid (XX.cell bG2.out (by show B18 < Gl1 ∨ Gh3 ≤ B18; omega))
  replace OW1 := Lib.hid (XX.ownR OW1.out (by omega))
  replace OW2 := Lib.hid (XX.ownR OW2.out (by omega))
  replace OW3 := Lib.hid (XX.ownR OW3.out (by omega))
  replace HZ := Lib.hid (Nat.le_trans HZ.out XX.size)
  replace OG1 := Lib.hid ho1
  replace OG2 := Lib.hid ho2
  replace OG3 := Lib.hid ho3
  clear ho1 ho2 ho3 XX
  rw [← HTK.out]
  have hbG0 := bG0.out
  have hbG1 := bG1.out
  have hbG2 := bG2.out
  go_wp2_with (fail)
  clear hbG0 hbG1 hbG2
  refine (l_heldTriple aG1 aG2 aG3 rn rn rn cG1 cG2 cG3 yA yB yC 1 v27 (by omega) (by omega) (by omega) (by omega) (by omega) (by omega) (by omega) (by omega) OG1.out.low.rd OG2.out.low.rd OG3.out.low.rd).mono ?_
  rintro e v28 ⟨rfl, gg⟩
  rw [← HTK.out]
  replace E := Lib.hid (E.out.trans gg)
  replace c00 := Lib.hid (gg.cell c00.out)
  replace c01 := Lib.hid (gg.cell c01.out)
  replace bW0 := Lib.hid (gg.cell bW0.out)
  replace bW1 := Lib.hid (gg.cell bW1.out)
  replace bW2 := Lib.hid (gg.cell bW2.out)
  replace bX0 := Lib.hid (gg.cell bX0.out)
  replace bX1 := Lib.hid (gg.cell bX1.out)
  replace bG0 := Lib.hid (gg.cell bG0.out)
  replace bG1 := Lib.hid (gg.cell bG1.out)
  replace bG2 := Lib.hid (gg.cell bG2.out)
  replace OW1 := Lib.hid (OW1.out.ext gg)
  replace OW2 := Lib.hid (OW2.out.ext gg)
  replace OW3 := Lib.hid (OW3.out.ext gg)
  replace OG1 := Lib.hid (OG1.out.ext gg)
  replace OG2 := Lib.hid (OG2.out.ext gg)
  replace OG3 := Lib.hid (OG3.out.ext gg)
  replace HZ := Lib.hid (Nat.le_trans HZ.out gg.size')
  clear gg
  have hc00 := c00.out
  have hc01 := c01.out
  go_wp2_with (fail)
  clear hc00 hc01
  refine (l_toDoubling p a d cap qs v28 (by omega) (HQ0.out.ext E.out)).mono ?_
  rintro e v29 ⟨gB0, rfl, ho, gg⟩
  have hb9 := ho.base_of gB0 rfl
  have hz9 := HZ.out
  obtain ⟨Z30, hZ30⟩ : ∃ z, z = v29.heap.size := ⟨_, rfl⟩
  have hrB0 : Z22 ≤ gB0 ∧ gB0 < Z30 := by omega
  have OB0 := Lib.hid ho
  clear hb9 hz9 ho
  replace E := Lib.hid (E.out.trans gg)
  replace c00 := Lib.hid (gg.cell c00.out)
  replace c01 := Lib.hid (gg.cell c01.out)
  replace bW0 := Lib.hid (gg.cell bW0.out)
  replace bW1 := Lib.hid (gg.cell bW1.out)
  replace bW2 := Lib.hid (gg.cell bW2.out)
  replace bX0 := Lib.hid (gg.cell bX0.out)
  replace bX1 := Lib.hid (gg.cell bX1.out)
  replace bG0 := Lib.hid (gg.cell bG0.out)
  replace bG1 := Lib.hid (gg.cell bG1.out)
  replace bG2 := Lib.hid (gg.cell bG2.out)
  replace OW1 := Lib.hid (OW1.out.ext gg)
  replace OW2 := Lib.hid (OW2.out.ext gg)
  replace OW3 := Lib.hid (OW3.out.ext gg)
  replace OG1 := Lib.hid (OG1.out.ext gg)
  replace OG2 := Lib.hid (OG2.out.ext gg)
  replace OG3 := Lib.hid (OG3.out.ext gg)
  replace HZ := Lib.hid (Nat.le_trans HZ.out gg.size')
  replace HZ : Hid (Z30 ≤ v29.heap.size) := Lib.hid (Nat.le_of_eq hZ30)
  clear gg hZ30
  go_wp2_with (fail)
  refine (l_toInts ax1 n1 cx1 xs1 v29 (by omega) (HX1.out.ext E.out)).mono ?_
  rintro e v31 ⟨gB1, rfl, ho, gg⟩
  have hb9 := ho.base_of gB1 rfl
  have hz9 := HZ.out
  obtain ⟨Z32, hZ32⟩ : ∃ z, z = v31.heap.size := ⟨_, rfl⟩
  have hrB1 : Z30 ≤ gB1 ∧ gB1 < Z32 := by omega
  have OB1 := Lib.hid ho
  clear hb9 hz9 ho
  replace E := Lib.hid (E.out.trans gg)
  replace c00 := Lib.hid (gg.cell c00.out)
  replace c01 := Lib.hid (gg.cell c01.out)
  replace bW0 := Lib.hid (gg.cell bW0.out)
  replace bW1 := Lib.hid (gg.cell bW1.out)
  replace bW2 := Lib.hid (gg.cell bW2.out)
  replace bX0 := Lib.hid (gg.cell bX0.out)
  replace bX1 := Lib.hid (gg.cell bX1.out)
  replace bG0 := Lib.hid (gg.cell bG0.out)
  replace bG1 := Lib.hid (gg.cell bG1.out)
  replace bG2 := Lib.hid (gg.cell bG2.out)
  replace OW1 := Lib.hid (OW1.out.ext gg)
  replace OW2 := Lib.hid (OW2.out.ext gg)
  replace OW3 := Lib.hid (OW3.out.ext gg)
  replace OG1 := Lib.hid (OG1.out.ext gg)
  replace OG2 := Lib.hid (OG2.out.ext gg)
  replace OG3 := Lib.hid (OG3.out.ext gg)
  replace OB0 := Lib.hid (OB0.out.ext gg)
  replace HZ := Lib.hid (Nat.le_trans HZ.out gg.size')
  replace HZ : Hid (Z32 ≤ v31.heap.size) := Lib.hid (Nat.le_of_eq hZ32)
  clear gg hZ32
  go_wp2_with (fail)
  refine (Hi.out (some ⟨gB0, 0, none⟩) (some ⟨gB1, 0, none⟩) v31 OB0.out.rd OB1.out.rd).mono ?_
  rintro e v33 ⟨V9, rfl, hT9, gg⟩
  obtain ⟨aH1, cH1, aH2, cH2, aH3, cH3, Hl1, Hh1, Hl2, Hh2, Hl3, Hh3, rfl, q1, q2, q3, q4, q5, q6, q7, o1, o2, o3⟩ := hT9
  have hz9 := HZ.out
  obtain ⟨Z34, hZ34⟩ : ∃ z, z = v33.heap.size := ⟨_, rfl⟩
  have hrH : Z32 ≤ Hl1 ∧ Hl1 ≤ Hh1 ∧ Hh1 ≤ Hl2 ∧ Hl2 ≤ Hh2 ∧ Hh2 ≤ Hl3 ∧ Hl3 ≤ Hh3 ∧ Hh3 ≤ Z34 := by omega
  have OH1 := Lib.hid o1
  have OH2 := Lib.hid o2
  have OH3 := Lib.hid o3
  clear hz9 o1 o2 o3 q1 q2 q3 q4 q5 q6 q7
  replace E := Lib.hid (E.out.trans gg)
  replace c00 := Lib.hid (gg.cell c00.out)
  replace c01 := Lib.hid (gg.cell c01.out)
  replace bW0 := Lib.hid (gg.cell bW0.out)
  replace bW1 := Lib.hid (gg.cell bW1.out)
  replace bW2 := Lib.hid (gg.cell bW2.out)
  replace bX0 := Lib.hid (gg.cell bX0.out)
  replace bX1 := Lib.hid (gg.cell bX1.out)
  replace bG0 := Lib.hid (gg.cell bG0.out)
  replace bG1 := Lib.hid (gg.cell bG1.out)
  replace bG2 := Lib.hid (gg.cell bG2.out)
  replace OW1 := Lib.hid (OW1.out.ext gg)
  replace OW2 := Lib.hid (OW2.out.ext gg)
  replace OW3 := Lib.hid (OW3.out.ext gg)
  replace OG1 := Lib.hid (OG1.out.ext gg)
  replace OG2 := Lib.hid (OG2.out.ext gg)
  replace OG3 := Lib.hid (OG3.out.ext gg)
  replace OB0 := Lib.hid (OB0.out.ext gg)
  replace OB1 := Lib.hid (OB1.out.ext gg)
  replace HZ := Lib.hid (Nat.le_trans HZ.out gg.size')
  replace HZ : Hid (Z34 ≤ v33.heap.size) := Lib.hid (Nat.le_of_eq hZ34)
  clear gg hZ34
  have hbW0 := (ext_alloc v33 (.cells #[.slice aH1 rn cH1, .slice aH2 rn cH2, .slice aH3 rn cH3] 38)).cell bW0.out
  have hbW1 := (ext_alloc v33 (.cells #[.slice aH1 rn cH1, .slice aH2 rn cH2, .slice aH3 rn cH3] 38)).cell bW1.out
  have hbW2 := (ext_alloc v33 (.cells #[.slice aH1 rn cH1, .slice aH2 rn cH2, .slice aH3 rn cH3] 38)).cell bW2.out
  go_wp2_with (fail)
  clear hbW0 hbW1 hbW2
  obtain ⟨B36, hB36⟩ : ∃ z, z = v33.heap.size := ⟨_, rfl⟩
  obtain ⟨v35, hv35⟩ : ∃ z, z = v33.alloc (.cells #[.slice aH1 rn cH1, .slice aH2 rn cH2, .slice aH3 rn cH3] 38) := ⟨_, rfl⟩
  have bH0 := Lib.hid (show v35.cell? ⟨B36, 0, none⟩ = some (.slice aH1 rn cH1) by rw [hv35, hB36]; simp)
  have bH1 := Lib.hid (show v35.cell? ⟨B36, 1, none⟩ = some (.slice aH2 rn cH2) by rw [hv35, hB36]; simp)
  have bH2 := Lib.hid (show v35.cell? ⟨B36, 2, none⟩ = some (.slice aH3 rn cH3) by rw [hv35, hB36]; simp)
  have gg : Ext v33 v35 := by rw [hv35]; exact ext_alloc _ _
  have hrbH : Z34 ≤ B36 := by rw [hB36]; exact HZ.out
  have hz9 : B36 + 1 ≤ v35.heap.size := by rw [hv35, hB36]; simp
  rw [← hv35]
  try rw [← hB36]
  clear hv35 hB36
  replace E := Lib.hid (E.out.trans gg)
  replace c00 := Lib.hid (gg.cell c00.out)
  replace c01 := Lib.hid (gg.cell c01.out)
  replace bW0 := Lib.hid (gg.cell bW0.out)
  replace bW1 := Lib.hid (gg.cell bW1.out)
  replace bW2 := Lib.hid (gg.cell bW2.out)
  replace bX0 := Lib.hid (gg.cell bX0.out)
  replace bX1 := Lib.hid (gg.cell bX1.out)
  replace bG0 := Lib.hid (gg.cell bG0.out)
  replace bG1 := Lib.hid (gg.cell bG1.out)
  replace bG2 := Lib.hid (gg.cell bG2.out)
  replace OW1 := Lib.hid (OW1.out.ext gg)
  replace OW2 := Lib.hid (OW2.out.ext gg)
  replace OW3 := Lib.hid (OW3.out.ext gg)
  replace OG1 := Lib.hid (OG1.out.ext gg)
  replace OG2 := Lib.hid (OG2.out.ext gg)
  replace OG3 := Lib.hid (OG3.out.ext gg)
  replace OB0 := Lib.hid (OB0.out.ext gg)
  replace OB1 := Lib.hid (OB1.out.ext gg)
  replace OH1 := Lib.hid (OH1.out.ext gg)
  replace OH2 := Lib.hid (OH2.out.ext gg)
  replace OH3 := Lib.hid (OH3.out.ext gg)
  replace HZ := Lib.hid (Nat.le_trans HZ.out gg.size')
  replace HZ := Lib.hid hz9
  clear gg hz9
  refine (l_eqTriple aH1 aH2 aH3 aW1 aW2 aW3 rn rn rn cH1 cH2 cH3 cW1 cW2 cW3 yA yB yC v35 (by omega) (by omega) (by omega) HLA.out HLB.out HLC.out OH1.out.low.rd OH2.out.low.rd OH3.out.low.rd OW1.out.low.rd OW2.out.low.rd OW3.out.low.rd).mono ?_
  rintro e v37 ⟨rfl, gg⟩
  replace E := Lib.hid (E.out.trans gg)
  replace c00 := Lib.hid (gg.cell c00.out)
  replace c01 := Lib.hid (gg.cell c01.out)
  replace bW0 := Lib.hid (gg.cell bW0.out)
  replace bW1 := Lib.hid (gg.cell bW1.out)
  replace bW2 := Lib.hid (gg.cell bW2.out)
  replace bX0 := Lib.hid (gg.cell bX0.out)
  replace bX1 := Lib.hid (gg.cell bX1.out)
  replace bG0 := Lib.hid (gg.cell bG0.out)
  replace bG1 := Lib.hid (gg.cell bG1.out)
  replace bG2 := Lib.hid (gg.cell bG2.out)
  replace bH0 := Lib.hid (gg.cell bH0.out)
  replace bH1 := Lib.hid (gg.cell bH1.out)
  replace bH2 := Lib.hid (gg.cell bH2.out)
  replace OW1 := Lib.hid (OW1.out.ext gg)
  replace OW2 := Lib.hid (OW2.out.ext gg)
  replace OW3 := Lib.hid (OW3.out.ext gg)
  replace OG1 := Lib.hid (OG1.out.ext gg)
  replace OG2 := Lib.hid (OG2.out.ext gg)
  replace OG3 := Lib.hid (OG3.out.ext gg)
  replace OB0 := Lib.hid (OB0.out.ext gg)
  replace OB1 := Lib.hid (OB1.out.ext gg)
  replace OH1 := Lib.hid (OH1.out.ext gg)
  replace OH2 := Lib.hid (OH2.out.ext gg)
  replace OH3 := Lib.hid (OH3.out.ext gg)
  replace HZ := Lib.hid (Nat.le_trans HZ.out gg.size')
  clear gg
  have hbG0 := bG0.out
  have hbG1 := bG1.out
  have hbG2 := bG2.out
  go_wp2_with (fail)
  clear hbG0 hbG1 hbG2
  refine (l_heldTriple aG1 aG2 aG3 rn rn rn cG1 cG2 cG3 yA yB yC 1 v37 (by omega) (by omega) (by omega) (by omega) (by omega) (by omega) (by omega) (by omega) OG1.out.low.rd OG2.out.low.rd OG3.out.low.rd).mono ?_
  rintro e v38 ⟨rfl, gg⟩
  rw [← HTK.out]
  replace E := Lib.hid (E.out.trans gg)
  replace c00 := Lib.hid (gg.cell c00.out)
  replace c01 := Lib.hid (gg.cell c01.out)
  replace bW0 := Lib.hid (gg.cell bW0.out)
  replace bW1 := Lib.hid (gg.cell bW1.out)
  replace bW2 := Lib.hid (gg.cell bW2.out)
  replace bX0 := Lib.hid (gg.cell bX0.out)
  replace bX1 := Lib.hid (gg.cell bX1.out)
  replace bG0 := Lib.hid (gg.cell bG0.out)
  replace bG1 := Lib.hid (gg.cell bG1.out)
  replace bG2 := Lib.hid (gg.cell bG2.out)
  replace bH0 := Lib.hid (gg.cell bH0.out)
  replace bH1 := Lib.hid (gg.cell bH1.out)
  replace bH2 := Lib.hid (gg.cell bH2.out)
  replace OW1 := Lib.hid (OW1.out.ext gg)
  replace OW2 := Lib.hid (OW2.out.ext gg)
  replace OW3 := Lib.hid (OW3.out.ext gg)
  replace OG1 := Lib.hid (OG1.out.ext gg)
  replace OG2 := Lib.hid (OG2.out.ext gg)
  replace OG3 := Lib.hid (OG3.out.ext gg)
  replace OB0 := Lib.hid (OB0.out.ext gg)
  replace OB1 := Lib.hid (OB1.out.ext gg)
  replace OH1 := Lib.hid (OH1.out.ext gg)
  replace OH2 := Lib.hid (OH2.out.ext gg)
  replace OH3 := Lib.hid (OH3.out.ext gg)
  replace HZ := Lib.hid (Nat.le_trans HZ.out gg.size')
  clear gg
  go_wp2_with (fail)
  go_ret
  exact ⟨rfl, E.out⟩

theorem law_ExactPureTriple (w : World) (p : Int) (a : Option Addr) (d cap : Nat) (qs : List Int) (hq : RdC w a d qs) (hmd : d ≤ maxLen) (ax1 : Option Addr) (n1 cx1 : Nat) (xs1 : List Int) (hx1 : RdC w ax1 n1 xs1) (hmn1 : n1 ≤ maxLen) :
    Calls Try.prog 4 #[.agg #[.int .i64 p, .slice a d cap], .slice ax1 n1 cx1] w fun e w' => e = .returned (.bool true) ∧ Ext w w' := by
  by_cases hb : 1048576 < n1 ∨ 1048576 < d
  · exact w_PureTriple_big p a d cap qs ax1 n1 cx1 xs1 w hq hmd hx1 hmn1 hb
  · have hd : d ≤ 1048576 := by omega
    have hn1 : n1 ≤ 1048576 := by omega
    by_cases hc : codePu p qs xs1 = 0
    · obtain ⟨hk, _⟩ := codePu_zero hc
      obtain ⟨h1, h2, _⟩ := code3_el0 hk
      have hpb := prime_bd (doub_of h1).1
      rw [hq.1] at h2
      have hN : 2 ^ d ≤ 64 := pow_le64 (by omega)
      have hg : ∀ {M : List (List Int)}, M.length = 2 ^ d → RowsG p (2 ^ d) M → cntR M (2 ^ d) ≤ 1048576 := fun hl hg => by
        have h9 := cnt_square (p := p) (N := 2 ^ d) hl hg (2 ^ d) (Nat.le_refl _)
        have := Nat.mul_le_mul hN hN
        omega
      exact w_PureTriple p a d cap qs ax1 n1 cx1 xs1 w hd hn1 hq hx1 (2 ^ d) (pureA p qs d (2 ^ d) xs1) (pureB p qs d (2 ^ d) xs1) (pureC p qs d (2 ^ d) xs1) 0 (by omega) (hg (dmat_len ..) (dmat_good (by omega) rfl)) (hg (dmat_len ..) (dmat_good (by omega) rfl)) (hg (negM_len ..) (fun i hi => by rw [pureC, negM_len] at hi; rw [pureC, negM_nth hi]; exact scale_goodN (by omega)))
        (fun a ax1 w hq hx1 => s_PureTriple_ok p a d qs ax1 n1 xs1 w (by omega) (by omega) hq hx1 hc) (fun a ax1 w hq hx1 => c_PureTriple_ok p a d qs ax1 n1 xs1 w (by omega) (by omega) hq hx1 hc)
    · exact w_PureTriple p a d cap qs ax1 n1 cx1 xs1 w hd hn1 hq hx1 0 [] [] [] (codePu p qs xs1) (by omega) (by simp [cntR]) (by simp [cntR]) (by simp [cntR])
        (fun a ax1 w hq hx1 => s_PureTriple_bad p a d qs ax1 n1 xs1 w (by omega) (by omega) hq hx1 hc) (fun a ax1 w hq hx1 => c_PureTriple_bad p a d qs ax1 n1 xs1 w (by omega) (by omega) hq hx1 hc)

end Go.Proofs.Ythflmmgolegonaa
