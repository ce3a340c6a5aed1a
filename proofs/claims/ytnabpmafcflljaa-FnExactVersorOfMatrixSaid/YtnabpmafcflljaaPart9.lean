/-
  Contracts and plain laws, part 9: Iso.
  No condition.
-/
import Derived.Test.YtnabpmafcflljaaPart6
import Derived.Test.YtnabpmafcflljaaPart8
import Derived.Test.YtnabpmafcflljaaPart3
/-
  Isometries: the program's isIsometry and the reference's l03Isometry, at one space; the reference's matrices.
  No condition.
-/
namespace Go.Proofs.Ytnabpmafcflljaa
set_option maxRecDepth 100000
open Go.RowKit

theorem turn_goodS {p : Int} {m : Nat} {rows : List (List Int)} (hg : RowsG p m rows) (hn : rows.length = m) : ∀ i, i < m → Good p m (nthR (turnL rows m m) i) := fun i hi => by
  rw [turnL_nth hi]
  unfold colL
  refine ⟨by simp, fun k hk => ?_⟩
  rw [nth_map (by simpa using hk)]
  simp only [List.getElem_range]
  exact (hg k (by omega)).2 i hi
set_option maxHeartbeats 16000000 in
set_option maxRecDepth 100000 in
theorem c_isometry (p : Int) (a : Option Addr) (d cap : Nat) (qs : List Int) (am : Option Addr) (n cm : Nat) (rows : List (List Int)) (w : World) (hs : spaceB p qs = true) (hl : n ≤ 4194304) (hr : ∀ i, i < n → (nthR rows i).length ≤ 4194304) (hq : RdC w a d qs) (hx : RdR w am n rows) :
    Calls Try.prog 57 #[.agg #[.int .i64 p, .slice a d cap], .agg #[.int .i64 p, .slice a d cap], .slice am n cm] w fun e w' => e = .returned (.bool (isoB p qs rows d)) ∧ Ext w w' := by
  obtain ⟨hpr, hd1, hd6, hqb⟩ := space_of hs
  have hpb := prime_bd hpr
  have hpz : ¬ p = 0 := by omega
  rw [hq.1] at hd1 hd6
  have HPR := Lib.hid hpr
  have HQB := Lib.hid hqb
  have HQ := Lib.hid hq
  have HX := Lib.hid hx
  have HR := Lib.hid hr
  have HLN := Lib.hid hx.1
  have hpp : (p != p) = false := by simp
  have hdd : ((d : Int) != (d : Int)) = false := by simp
  clear hs hpr hqb hq hx hr
  go_enter Try.func57, Try.ntmps57
  go_wp2_with (fail)
  obtain ⟨V1, hV1⟩ : ∃ W, W = w.alloc (.cells #[.int .i64 p, .slice a d cap] 30) := ⟨_, rfl⟩
  obtain ⟨W, hW⟩ : ∃ W, W = V1.alloc (.cells #[.int .i64 p, .slice a d cap] 30) := ⟨_, rfl⟩
  have hsz : V1.heap.size = w.heap.size + 1 := by rw [hV1]; simp
  obtain ⟨O1, hO1⟩ : ∃ O, O = w.heap.size := ⟨_, rfl⟩
  obtain ⟨O2, hO2⟩ : ∃ O, O = w.heap.size + 1 := ⟨_, rfl⟩
  have hv0 : V1.cell? ⟨O1, 0, none⟩ = some (.int .i64 p) := by rw [hV1, hO1]; simp
  have hv1 : V1.cell? ⟨O1, 1, none⟩ = some (.slice a d cap) := by rw [hV1, hO1]; simp
  have gV : Ext V1 W := by rw [hW]; exact ext_alloc _ _
  have gW : Ext w W := by rw [hV1] at gV; exact (ext_alloc _ _).trans gV
  have hs0 : W.cell? ⟨O1, 0, none⟩ = some (.int .i64 p) := gV.cell hv0
  have hs1 : W.cell? ⟨O1, 1, none⟩ = some (.slice a d cap) := gV.cell hv1
  have ht0 : W.cell? ⟨O2, 0, none⟩ = some (.int .i64 p) := by rw [hW, hO2, ← hsz]; simp
  have ht1 : W.cell? ⟨O2, 1, none⟩ = some (.slice a d cap) := by rw [hW, hO2, ← hsz]; simp
  have HS0 := Lib.hid ((ext_drew _).cell hs0)
  have HS1 := Lib.hid ((ext_drew _).cell hs1)
  have HT0 := Lib.hid ((ext_drew _).cell ht0)
  have HT1 := Lib.hid ((ext_drew _).cell ht1)
  have GW := Lib.hid (gW.trans (ext_drew _))
  clear gW hs0 hs1 ht0 ht1
  rw [← hO2, ← hO1, ← hV1, ← hW]
  clear hW hV1 hO1 hO2 hsz hv0 hv1 gV
  cases hmt : matB p rows
  · have HB := Lib.hid (isoB_mat (p := p) (qs := qs) (d := d) hmt)
    have HMT := Lib.hid hmt
    clear hmt
    refine wp_region_lex [(7, .val (.int .i64 d)), (9, .val (.int .i64 d)), (14, .val (.int .i64 p)), (16, .val (.bool false))] (by kernel_rfl) (by kernel_rfl) ?_
    (refine LexW.pure (v := ?_) rfl rfl (fun w1 he => ?_) ?_; rotate_left; ( have e1 := he.cell HS0.out; have e2 := he.cell HS1.out; have e3 := he.cell HT0.out; have e4 := he.cell HT1.out; go_simp; rfl); simp only [Act.put, List.setIfInBounds_toArray, List.set_cons_zero, List.set_cons_succ])
    (refine LexW.pure (v := ?_) rfl rfl (fun w1 he => ?_) ?_; rotate_left; ( have e1 := he.cell HS0.out; have e2 := he.cell HS1.out; have e3 := he.cell HT0.out; have e4 := he.cell HT1.out; go_simp; rfl); simp only [Act.put, List.setIfInBounds_toArray, List.set_cons_zero, List.set_cons_succ])
    (refine LexW.pure (v := ?_) rfl rfl (fun w1 he => ?_) ?_; rotate_left; ( have e1 := he.cell HS0.out; have e2 := he.cell HS1.out; have e3 := he.cell HT0.out; have e4 := he.cell HT1.out; go_simp; rfl); simp only [Act.put, List.setIfInBounds_toArray, List.set_cons_zero, List.set_cons_succ])
    (refine LexW.pure (v := ?_) rfl rfl (fun w1 he => ?_) ?_; rotate_left; ( have e1 := he.cell HS0.out; have e2 := he.cell HS1.out; have e3 := he.cell HT0.out; have e4 := he.cell HT1.out; go_simp; rfl); simp only [Act.put, List.setIfInBounds_toArray, List.set_cons_zero, List.set_cons_succ])
    (refine LexW.pure (v := ?_) rfl rfl (fun w1 he => ?_) ?_; rotate_left; ( have e1 := he.cell HS0.out; have e2 := he.cell HS1.out; have e3 := he.cell HT0.out; have e4 := he.cell HT1.out; go_simp; rfl); simp only [Act.put, List.setIfInBounds_toArray, List.set_cons_zero, List.set_cons_succ])
    (refine LexW.pure (v := ?_) rfl rfl (fun w1 he => ?_) ?_; rotate_left; ( have e1 := he.cell HS0.out; have e2 := he.cell HS1.out; have e3 := he.cell HT0.out; have e4 := he.cell HT1.out; go_simp; rfl); simp only [Act.put, List.setIfInBounds_toArray, List.set_cons_zero, List.set_cons_succ])
    (refine LexW.pure (v := ?_) rfl rfl (fun w1 he => ?_) ?_; rotate_left; ( have e1 := he.cell HS0.out; have e2 := he.cell HS1.out; have e3 := he.cell HT0.out; have e4 := he.cell HT1.out; go_simp; rfl); simp only [Act.put, List.setIfInBounds_toArray, List.set_cons_zero, List.set_cons_succ])
    (refine LexW.call (f := ?_) (args := ?_) rfl rfl (fun w1 => ?_) (fun w1 he hdep => ?_) ?_; rotate_left 2; (go_simp; refine ⟨?_, ?_⟩ <;> rfl); ( exact c_dim _ _ _ _ _); simp only [Act.put, List.setIfInBounds_toArray, List.set_cons_zero, List.set_cons_succ])
    (refine LexW.pure (v := ?_) rfl rfl (fun w1 he => ?_) ?_; rotate_left; ( have e1 := he.cell HS0.out; have e2 := he.cell HS1.out; have e3 := he.cell HT0.out; have e4 := he.cell HT1.out; go_simp; rfl); simp only [Act.put, List.setIfInBounds_toArray, List.set_cons_zero, List.set_cons_succ])
    (refine LexW.call (f := ?_) (args := ?_) rfl rfl (fun w1 => ?_) (fun w1 he hdep => ?_) ?_; rotate_left 2; (go_simp; refine ⟨?_, ?_⟩ <;> rfl); ( exact c_dim _ _ _ _ _); simp only [Act.put, List.setIfInBounds_toArray, List.set_cons_zero, List.set_cons_succ])
    (refine LexW.pure (v := ?_) rfl rfl (fun w1 he => ?_) ?_; rotate_left; ( have e1 := he.cell HS0.out; have e2 := he.cell HS1.out; have e3 := he.cell HT0.out; have e4 := he.cell HT1.out; go_simp; rfl); simp only [Act.put, List.setIfInBounds_toArray, List.set_cons_zero, List.set_cons_succ])
    (refine LexW.pure (v := ?_) rfl rfl (fun w1 he => ?_) ?_; rotate_left; ( have e1 := he.cell HS0.out; have e2 := he.cell HS1.out; have e3 := he.cell HT0.out; have e4 := he.cell HT1.out; go_simp; rfl); simp only [Act.put, List.setIfInBounds_toArray, List.set_cons_zero, List.set_cons_succ])
    (refine LexW.pure (v := ?_) rfl rfl (fun w1 he => ?_) ?_; rotate_left; ( have e1 := he.cell HS0.out; have e2 := he.cell HS1.out; have e3 := he.cell HT0.out; have e4 := he.cell HT1.out; go_simp; rfl); simp only [Act.put, List.setIfInBounds_toArray, List.set_cons_zero, List.set_cons_succ])
    (refine LexW.pure (v := ?_) rfl rfl (fun w1 he => ?_) ?_; rotate_left; ( have e1 := he.cell HS0.out; have e2 := he.cell HS1.out; have e3 := he.cell HT0.out; have e4 := he.cell HT1.out; go_simp; rfl); simp only [Act.put, List.setIfInBounds_toArray, List.set_cons_zero, List.set_cons_succ])
    (refine LexW.call (f := ?_) (args := ?_) rfl rfl (fun w1 => ?_) (fun w1 he hdep => ?_) ?_; rotate_left 2; (go_simp; refine ⟨?_, ?_⟩ <;> rfl); ( exact c_field p _ w1); simp only [Act.put, List.setIfInBounds_toArray, List.set_cons_zero, List.set_cons_succ])
    (refine LexW.pure (v := ?_) rfl rfl (fun w1 he => ?_) ?_; rotate_left; ( have e1 := he.cell HS0.out; have e2 := he.cell HS1.out; have e3 := he.cell HT0.out; have e4 := he.cell HT1.out; go_simp; rfl); simp only [Act.put, List.setIfInBounds_toArray, List.set_cons_zero, List.set_cons_succ])
    (refine LexW.call (f := ?_) (args := ?_) rfl rfl (fun w1 => ?_) (fun w1 he hdep => ?_) ?_; rotate_left 2; (go_simp; refine ⟨?_, ?_⟩ <;> rfl); ( rw [← HMT.out]; exact c_isMatrix p am n cm rows w1 (by omega) (by omega) hl HR.out (HX.out.ext (GW.out.trans he))); simp only [Act.put, List.setIfInBounds_toArray, List.set_cons_zero, List.set_cons_succ])
    (refine LexW.pure (v := ?_) rfl rfl (fun w1 he => ?_) ?_; rotate_left; ( have e1 := he.cell HS0.out; have e2 := he.cell HS1.out; have e3 := he.cell HT0.out; have e4 := he.cell HT1.out; go_simp; rfl); simp only [Act.put, List.setIfInBounds_toArray, List.set_cons_zero, List.set_cons_succ])
    (refine LexW.pure (v := ?_) rfl rfl (fun w1 he => ?_) ?_; rotate_left; ( have e1 := he.cell HS0.out; have e2 := he.cell HS1.out; have e3 := he.cell HT0.out; have e4 := he.cell HT1.out; go_simp; rfl); simp only [Act.put, List.setIfInBounds_toArray, List.set_cons_zero, List.set_cons_succ])
    (refine LexW.pure (v := ?_) rfl rfl (fun w1 he => ?_) ?_; rotate_left; ( have e1 := he.cell HS0.out; have e2 := he.cell HS1.out; have e3 := he.cell HT0.out; have e4 := he.cell HT1.out; go_simp; rfl); simp only [Act.put, List.setIfInBounds_toArray, List.set_cons_zero, List.set_cons_succ])
    (refine LexW.skip rfl rfl ?_; simp only [Act.put, List.setIfInBounds_toArray, List.set_cons_zero, List.set_cons_succ])
    (refine LexW.skip rfl rfl ?_; simp only [Act.put, List.setIfInBounds_toArray, List.set_cons_zero, List.set_cons_succ])
    (refine LexW.skip rfl rfl ?_; simp only [Act.put, List.setIfInBounds_toArray, List.set_cons_zero, List.set_cons_succ])
    (refine LexW.skip rfl rfl ?_; simp only [Act.put, List.setIfInBounds_toArray, List.set_cons_zero, List.set_cons_succ])
    (refine LexW.skip rfl rfl ?_; simp only [Act.put, List.setIfInBounds_toArray, List.set_cons_zero, List.set_cons_succ])
    (refine LexW.pure (v := ?_) rfl rfl (fun w1 he => ?_) ?_; rotate_left; ( have e1 := he.cell HS0.out; have e2 := he.cell HS1.out; have e3 := he.cell HT0.out; have e4 := he.cell HT1.out; go_simp; rfl); simp only [Act.put, List.setIfInBounds_toArray, List.set_cons_zero, List.set_cons_succ])
    (refine LexW.pure (v := ?_) rfl rfl (fun w1 he => ?_) ?_; rotate_left; ( have e1 := he.cell HS0.out; have e2 := he.cell HS1.out; have e3 := he.cell HT0.out; have e4 := he.cell HT1.out; go_simp; rfl); simp only [Act.put, List.setIfInBounds_toArray, List.set_cons_zero, List.set_cons_succ])
    (refine LexW.skip rfl rfl ?_; simp only [Act.put, List.setIfInBounds_toArray, List.set_cons_zero, List.set_cons_succ])
    (refine LexW.skip rfl rfl ?_; simp only [Act.put, List.setIfInBounds_toArray, List.set_cons_zero, List.set_cons_succ])
    (refine LexW.skip rfl rfl ?_; simp only [Act.put, List.setIfInBounds_toArray, List.set_cons_zero, List.set_cons_succ])
    (refine LexW.skip rfl rfl ?_; simp only [Act.put, List.setIfInBounds_toArray, List.set_cons_zero, List.set_cons_succ])
    (refine LexW.skip rfl rfl ?_; simp only [Act.put, List.setIfInBounds_toArray, List.set_cons_zero, List.set_cons_succ])
    (refine LexW.skip rfl rfl ?_; simp only [Act.put, List.setIfInBounds_toArray, List.set_cons_zero, List.set_cons_succ])
    (refine LexW.skip rfl rfl ?_; simp only [Act.put, List.setIfInBounds_toArray, List.set_cons_zero, List.set_cons_succ])
    (refine LexW.pure (v := ?_) rfl rfl (fun w1 he => ?_) ?_; rotate_left; ( have e1 := he.cell HS0.out; have e2 := he.cell HS1.out; have e3 := he.cell HT0.out; have e4 := he.cell HT1.out; go_simp; rfl); simp only [Act.put, List.setIfInBounds_toArray, List.set_cons_zero, List.set_cons_succ])
    (refine LexW.pure (v := ?_) rfl rfl (fun w1 he => ?_) ?_; rotate_left; ( have e1 := he.cell HS0.out; have e2 := he.cell HS1.out; have e3 := he.cell HT0.out; have e4 := he.cell HT1.out; go_simp; rfl); simp only [Act.put, List.setIfInBounds_toArray, List.set_cons_zero, List.set_cons_succ])
    (refine LexW.skip rfl rfl ?_; simp only [Act.put, List.setIfInBounds_toArray, List.set_cons_zero, List.set_cons_succ])
    (refine LexW.skip rfl rfl ?_; simp only [Act.put, List.setIfInBounds_toArray, List.set_cons_zero, List.set_cons_succ])
    (refine LexW.skip rfl rfl ?_; simp only [Act.put, List.setIfInBounds_toArray, List.set_cons_zero, List.set_cons_succ])
    (refine LexW.skip rfl rfl ?_; simp only [Act.put, List.setIfInBounds_toArray, List.set_cons_zero, List.set_cons_succ])
    (refine LexW.skip rfl rfl ?_; simp only [Act.put, List.setIfInBounds_toArray, List.set_cons_zero, List.set_cons_succ])
    (refine LexW.pure (v := ?_) rfl rfl (fun w1 he => ?_) ?_; rotate_left; ( have e1 := he.cell HS0.out; have e2 := he.cell HS1.out; have e3 := he.cell HT0.out; have e4 := he.cell HT1.out; go_simp; rfl); simp only [Act.put, List.setIfInBounds_toArray, List.set_cons_zero, List.set_cons_succ])
    refine LexW.nil (fun w3 he hkn => ?_)
    have HE := Lib.hid (GW.out.trans he)
    clear he hkn 
    go_wp2_with (fail)
    go_ret
    exact ⟨ret_bool HB.out.symm, HE.out⟩
  have HMT := Lib.hid hmt
  obtain ⟨hn0, hn16, mw, hmw1, hmw16, hmg⟩ := matB_of hmt
  rw [HLN.out] at hn0 hn16
  clear hmt
  by_cases hnd : n ≠ d
  · have HB := Lib.hid (isoB_len (p := p) (qs := qs) (rows := rows) (d := d) (by rw [HLN.out]; exact hnd))
    have hne : ((n : Int) != (d : Int)) = true := by simp; omega
    clear hmg
    refine wp_region_lex [(7, .val (.int .i64 d)), (9, .val (.int .i64 d)), (14, .val (.int .i64 p)), (16, .val (.bool true)), (23, .val (.int .i64 d))] (by kernel_rfl) (by kernel_rfl) ?_
    (refine LexW.pure (v := ?_) rfl rfl (fun w1 he => ?_) ?_; rotate_left; ( have e1 := he.cell HS0.out; have e2 := he.cell HS1.out; have e3 := he.cell HT0.out; have e4 := he.cell HT1.out; go_simp; rfl); simp only [Act.put, List.setIfInBounds_toArray, List.set_cons_zero, List.set_cons_succ])
    (refine LexW.pure (v := ?_) rfl rfl (fun w1 he => ?_) ?_; rotate_left; ( have e1 := he.cell HS0.out; have e2 := he.cell HS1.out; have e3 := he.cell HT0.out; have e4 := he.cell HT1.out; go_simp; rfl); simp only [Act.put, List.setIfInBounds_toArray, List.set_cons_zero, List.set_cons_succ])
    (refine LexW.pure (v := ?_) rfl rfl (fun w1 he => ?_) ?_; rotate_left; ( have e1 := he.cell HS0.out; have e2 := he.cell HS1.out; have e3 := he.cell HT0.out; have e4 := he.cell HT1.out; go_simp; rfl); simp only [Act.put, List.setIfInBounds_toArray, List.set_cons_zero, List.set_cons_succ])
    (refine LexW.pure (v := ?_) rfl rfl (fun w1 he => ?_) ?_; rotate_left; ( have e1 := he.cell HS0.out; have e2 := he.cell HS1.out; have e3 := he.cell HT0.out; have e4 := he.cell HT1.out; go_simp; rfl); simp only [Act.put, List.setIfInBounds_toArray, List.set_cons_zero, List.set_cons_succ])
    (refine LexW.pure (v := ?_) rfl rfl (fun w1 he => ?_) ?_; rotate_left; ( have e1 := he.cell HS0.out; have e2 := he.cell HS1.out; have e3 := he.cell HT0.out; have e4 := he.cell HT1.out; go_simp; rfl); simp only [Act.put, List.setIfInBounds_toArray, List.set_cons_zero, List.set_cons_succ])
    (refine LexW.pure (v := ?_) rfl rfl (fun w1 he => ?_) ?_; rotate_left; ( have e1 := he.cell HS0.out; have e2 := he.cell HS1.out; have e3 := he.cell HT0.out; have e4 := he.cell HT1.out; go_simp; rfl); simp only [Act.put, List.setIfInBounds_toArray, List.set_cons_zero, List.set_cons_succ])
    (refine LexW.pure (v := ?_) rfl rfl (fun w1 he => ?_) ?_; rotate_left; ( have e1 := he.cell HS0.out; have e2 := he.cell HS1.out; have e3 := he.cell HT0.out; have e4 := he.cell HT1.out; go_simp; rfl); simp only [Act.put, List.setIfInBounds_toArray, List.set_cons_zero, List.set_cons_succ])
    (refine LexW.call (f := ?_) (args := ?_) rfl rfl (fun w1 => ?_) (fun w1 he hdep => ?_) ?_; rotate_left 2; (go_simp; refine ⟨?_, ?_⟩ <;> rfl); ( exact c_dim _ _ _ _ _); simp only [Act.put, List.setIfInBounds_toArray, List.set_cons_zero, List.set_cons_succ])
    (refine LexW.pure (v := ?_) rfl rfl (fun w1 he => ?_) ?_; rotate_left; ( have e1 := he.cell HS0.out; have e2 := he.cell HS1.out; have e3 := he.cell HT0.out; have e4 := he.cell HT1.out; go_simp; rfl); simp only [Act.put, List.setIfInBounds_toArray, List.set_cons_zero, List.set_cons_succ])
    (refine LexW.call (f := ?_) (args := ?_) rfl rfl (fun w1 => ?_) (fun w1 he hdep => ?_) ?_; rotate_left 2; (go_simp; refine ⟨?_, ?_⟩ <;> rfl); ( exact c_dim _ _ _ _ _); simp only [Act.put, List.setIfInBounds_toArray, List.set_cons_zero, List.set_cons_succ])
    (refine LexW.pure (v := ?_) rfl rfl (fun w1 he => ?_) ?_; rotate_left; ( have e1 := he.cell HS0.out; have e2 := he.cell HS1.out; have e3 := he.cell HT0.out; have e4 := he.cell HT1.out; go_simp; rfl); simp only [Act.put, List.setIfInBounds_toArray, List.set_cons_zero, List.set_cons_succ])
    (refine LexW.pure (v := ?_) rfl rfl (fun w1 he => ?_) ?_; rotate_left; ( have e1 := he.cell HS0.out; have e2 := he.cell HS1.out; have e3 := he.cell HT0.out; have e4 := he.cell HT1.out; go_simp; rfl); simp only [Act.put, List.setIfInBounds_toArray, List.set_cons_zero, List.set_cons_succ])
    (refine LexW.pure (v := ?_) rfl rfl (fun w1 he => ?_) ?_; rotate_left; ( have e1 := he.cell HS0.out; have e2 := he.cell HS1.out; have e3 := he.cell HT0.out; have e4 := he.cell HT1.out; go_simp; rfl); simp only [Act.put, List.setIfInBounds_toArray, List.set_cons_zero, List.set_cons_succ])
    (refine LexW.pure (v := ?_) rfl rfl (fun w1 he => ?_) ?_; rotate_left; ( have e1 := he.cell HS0.out; have e2 := he.cell HS1.out; have e3 := he.cell HT0.out; have e4 := he.cell HT1.out; go_simp; rfl); simp only [Act.put, List.setIfInBounds_toArray, List.set_cons_zero, List.set_cons_succ])
    (refine LexW.call (f := ?_) (args := ?_) rfl rfl (fun w1 => ?_) (fun w1 he hdep => ?_) ?_; rotate_left 2; (go_simp; refine ⟨?_, ?_⟩ <;> rfl); ( exact c_field p _ w1); simp only [Act.put, List.setIfInBounds_toArray, List.set_cons_zero, List.set_cons_succ])
    (refine LexW.pure (v := ?_) rfl rfl (fun w1 he => ?_) ?_; rotate_left; ( have e1 := he.cell HS0.out; have e2 := he.cell HS1.out; have e3 := he.cell HT0.out; have e4 := he.cell HT1.out; go_simp; rfl); simp only [Act.put, List.setIfInBounds_toArray, List.set_cons_zero, List.set_cons_succ])
    (refine LexW.call (f := ?_) (args := ?_) rfl rfl (fun w1 => ?_) (fun w1 he hdep => ?_) ?_; rotate_left 2; (go_simp; refine ⟨?_, ?_⟩ <;> rfl); ( rw [← HMT.out]; exact c_isMatrix p am n cm rows w1 (by omega) (by omega) hl HR.out (HX.out.ext (GW.out.trans he))); simp only [Act.put, List.setIfInBounds_toArray, List.set_cons_zero, List.set_cons_succ])
    (refine LexW.pure (v := ?_) rfl rfl (fun w1 he => ?_) ?_; rotate_left; ( have e1 := he.cell HS0.out; have e2 := he.cell HS1.out; have e3 := he.cell HT0.out; have e4 := he.cell HT1.out; go_simp; rfl); simp only [Act.put, List.setIfInBounds_toArray, List.set_cons_zero, List.set_cons_succ])
    (refine LexW.pure (v := ?_) rfl rfl (fun w1 he => ?_) ?_; rotate_left; ( have e1 := he.cell HS0.out; have e2 := he.cell HS1.out; have e3 := he.cell HT0.out; have e4 := he.cell HT1.out; go_simp; rfl); simp only [Act.put, List.setIfInBounds_toArray, List.set_cons_zero, List.set_cons_succ])
    (refine LexW.pure (v := ?_) rfl rfl (fun w1 he => ?_) ?_; rotate_left; ( have e1 := he.cell HS0.out; have e2 := he.cell HS1.out; have e3 := he.cell HT0.out; have e4 := he.cell HT1.out; go_simp; rfl); simp only [Act.put, List.setIfInBounds_toArray, List.set_cons_zero, List.set_cons_succ])
    (refine LexW.pure (v := ?_) rfl rfl (fun w1 he => ?_) ?_; rotate_left; ( have e1 := he.cell HS0.out; have e2 := he.cell HS1.out; have e3 := he.cell HT0.out; have e4 := he.cell HT1.out; go_simp; rfl); simp only [Act.put, List.setIfInBounds_toArray, List.set_cons_zero, List.set_cons_succ])
    (refine LexW.pure (v := ?_) rfl rfl (fun w1 he => ?_) ?_; rotate_left; ( have e1 := he.cell HS0.out; have e2 := he.cell HS1.out; have e3 := he.cell HT0.out; have e4 := he.cell HT1.out; go_simp; rfl); simp only [Act.put, List.setIfInBounds_toArray, List.set_cons_zero, List.set_cons_succ])
    (refine LexW.pure (v := ?_) rfl rfl (fun w1 he => ?_) ?_; rotate_left; ( have e1 := he.cell HS0.out; have e2 := he.cell HS1.out; have e3 := he.cell HT0.out; have e4 := he.cell HT1.out; go_simp; rfl); simp only [Act.put, List.setIfInBounds_toArray, List.set_cons_zero, List.set_cons_succ])
    (refine LexW.call (f := ?_) (args := ?_) rfl rfl (fun w1 => ?_) (fun w1 he hdep => ?_) ?_; rotate_left 2; (go_simp; refine ⟨?_, ?_⟩ <;> rfl); ( exact c_dim _ _ _ _ _); simp only [Act.put, List.setIfInBounds_toArray, List.set_cons_zero, List.set_cons_succ])
    (refine LexW.pure (v := ?_) rfl rfl (fun w1 he => ?_) ?_; rotate_left; ( have e1 := he.cell HS0.out; have e2 := he.cell HS1.out; have e3 := he.cell HT0.out; have e4 := he.cell HT1.out; go_simp; rfl); simp only [Act.put, List.setIfInBounds_toArray, List.set_cons_zero, List.set_cons_succ])
    (refine LexW.pure (v := ?_) rfl rfl (fun w1 he => ?_) ?_; rotate_left; ( have e1 := he.cell HS0.out; have e2 := he.cell HS1.out; have e3 := he.cell HT0.out; have e4 := he.cell HT1.out; go_simp; rfl); simp only [Act.put, List.setIfInBounds_toArray, List.set_cons_zero, List.set_cons_succ])
    (refine LexW.pure (v := ?_) rfl rfl (fun w1 he => ?_) ?_; rotate_left; ( have e1 := he.cell HS0.out; have e2 := he.cell HS1.out; have e3 := he.cell HT0.out; have e4 := he.cell HT1.out; go_simp; rfl); simp only [Act.put, List.setIfInBounds_toArray, List.set_cons_zero, List.set_cons_succ])
    (refine LexW.skip rfl rfl ?_; simp only [Act.put, List.setIfInBounds_toArray, List.set_cons_zero, List.set_cons_succ])
    (refine LexW.skip rfl rfl ?_; simp only [Act.put, List.setIfInBounds_toArray, List.set_cons_zero, List.set_cons_succ])
    (refine LexW.skip rfl rfl ?_; simp only [Act.put, List.setIfInBounds_toArray, List.set_cons_zero, List.set_cons_succ])
    (refine LexW.skip rfl rfl ?_; simp only [Act.put, List.setIfInBounds_toArray, List.set_cons_zero, List.set_cons_succ])
    (refine LexW.skip rfl rfl ?_; simp only [Act.put, List.setIfInBounds_toArray, List.set_cons_zero, List.set_cons_succ])
    (refine LexW.skip rfl rfl ?_; simp only [Act.put, List.setIfInBounds_toArray, List.set_cons_zero, List.set_cons_succ])
    (refine LexW.skip rfl rfl ?_; simp only [Act.put, List.setIfInBounds_toArray, List.set_cons_zero, List.set_cons_succ])
    (refine LexW.pure (v := ?_) rfl rfl (fun w1 he => ?_) ?_; rotate_left; ( have e1 := he.cell HS0.out; have e2 := he.cell HS1.out; have e3 := he.cell HT0.out; have e4 := he.cell HT1.out; go_simp; rfl); simp only [Act.put, List.setIfInBounds_toArray, List.set_cons_zero, List.set_cons_succ])
    (refine LexW.pure (v := ?_) rfl rfl (fun w1 he => ?_) ?_; rotate_left; ( have e1 := he.cell HS0.out; have e2 := he.cell HS1.out; have e3 := he.cell HT0.out; have e4 := he.cell HT1.out; go_simp; rfl); simp only [Act.put, List.setIfInBounds_toArray, List.set_cons_zero, List.set_cons_succ])
    (refine LexW.skip rfl rfl ?_; simp only [Act.put, List.setIfInBounds_toArray, List.set_cons_zero, List.set_cons_succ])
    (refine LexW.skip rfl rfl ?_; simp only [Act.put, List.setIfInBounds_toArray, List.set_cons_zero, List.set_cons_succ])
    (refine LexW.skip rfl rfl ?_; simp only [Act.put, List.setIfInBounds_toArray, List.set_cons_zero, List.set_cons_succ])
    (refine LexW.skip rfl rfl ?_; simp only [Act.put, List.setIfInBounds_toArray, List.set_cons_zero, List.set_cons_succ])
    (refine LexW.skip rfl rfl ?_; simp only [Act.put, List.setIfInBounds_toArray, List.set_cons_zero, List.set_cons_succ])
    (refine LexW.pure (v := ?_) rfl rfl (fun w1 he => ?_) ?_; rotate_left; ( have e1 := he.cell HS0.out; have e2 := he.cell HS1.out; have e3 := he.cell HT0.out; have e4 := he.cell HT1.out; go_simp; rfl); simp only [Act.put, List.setIfInBounds_toArray, List.set_cons_zero, List.set_cons_succ])
    refine LexW.nil (fun w3 he hkn => ?_)
    have HE := Lib.hid (GW.out.trans he)
    clear he hkn 
    go_wp2_with (fail)
    go_ret
    exact ⟨ret_bool HB.out.symm, HE.out⟩
  obtain rfl : n = d := by omega
  obtain ⟨bm, om, am0, cm0, rfl, hc0, _⟩ := HX.out.2 0 hn0
  have HC0 := Lib.hid (GW.out.cell hc0)
  rw [Nat.add_zero] at HC0
  have HW0 := Lib.hid ((hmg 0 (by rw [HLN.out]; exact hn0)).1)
  rw [HW0.out] at HC0
  clear hc0 hnd
  by_cases hwd : mw ≠ n
  · have HB := Lib.hid (isoB_wid (p := p) (qs := qs) (rows := rows) (d := n) (by rw [HW0.out]; exact hwd))
    have hne : ((mw : Int) != (n : Int)) = true := by simp; omega
    clear hmg
    refine wp_region_lex [(7, .val (.int .i64 n)), (9, .val (.int .i64 n)), (14, .val (.int .i64 p)), (16, .val (.bool true)), (23, .val (.int .i64 n)), (32, .val (.int .i64 n))] (by kernel_rfl) (by kernel_rfl) ?_
    (refine LexW.pure (v := ?_) rfl rfl (fun w1 he => ?_) ?_; rotate_left; ( have e1 := he.cell HS0.out; have e2 := he.cell HS1.out; have e3 := he.cell HT0.out; have e4 := he.cell HT1.out; have e5 := he.cell HC0.out; go_simp; rfl); simp only [Act.put, List.setIfInBounds_toArray, List.set_cons_zero, List.set_cons_succ])
    (refine LexW.pure (v := ?_) rfl rfl (fun w1 he => ?_) ?_; rotate_left; ( have e1 := he.cell HS0.out; have e2 := he.cell HS1.out; have e3 := he.cell HT0.out; have e4 := he.cell HT1.out; have e5 := he.cell HC0.out; go_simp; rfl); simp only [Act.put, List.setIfInBounds_toArray, List.set_cons_zero, List.set_cons_succ])
    (refine LexW.pure (v := ?_) rfl rfl (fun w1 he => ?_) ?_; rotate_left; ( have e1 := he.cell HS0.out; have e2 := he.cell HS1.out; have e3 := he.cell HT0.out; have e4 := he.cell HT1.out; have e5 := he.cell HC0.out; go_simp; rfl); simp only [Act.put, List.setIfInBounds_toArray, List.set_cons_zero, List.set_cons_succ])
    (refine LexW.pure (v := ?_) rfl rfl (fun w1 he => ?_) ?_; rotate_left; ( have e1 := he.cell HS0.out; have e2 := he.cell HS1.out; have e3 := he.cell HT0.out; have e4 := he.cell HT1.out; have e5 := he.cell HC0.out; go_simp; rfl); simp only [Act.put, List.setIfInBounds_toArray, List.set_cons_zero, List.set_cons_succ])
    (refine LexW.pure (v := ?_) rfl rfl (fun w1 he => ?_) ?_; rotate_left; ( have e1 := he.cell HS0.out; have e2 := he.cell HS1.out; have e3 := he.cell HT0.out; have e4 := he.cell HT1.out; have e5 := he.cell HC0.out; go_simp; rfl); simp only [Act.put, List.setIfInBounds_toArray, List.set_cons_zero, List.set_cons_succ])
    (refine LexW.pure (v := ?_) rfl rfl (fun w1 he => ?_) ?_; rotate_left; ( have e1 := he.cell HS0.out; have e2 := he.cell HS1.out; have e3 := he.cell HT0.out; have e4 := he.cell HT1.out; have e5 := he.cell HC0.out; go_simp; rfl); simp only [Act.put, List.setIfInBounds_toArray, List.set_cons_zero, List.set_cons_succ])
    (refine LexW.pure (v := ?_) rfl rfl (fun w1 he => ?_) ?_; rotate_left; ( have e1 := he.cell HS0.out; have e2 := he.cell HS1.out; have e3 := he.cell HT0.out; have e4 := he.cell HT1.out; have e5 := he.cell HC0.out; go_simp; rfl); simp only [Act.put, List.setIfInBounds_toArray, List.set_cons_zero, List.set_cons_succ])
    (refine LexW.call (f := ?_) (args := ?_) rfl rfl (fun w1 => ?_) (fun w1 he hdep => ?_) ?_; rotate_left 2; (go_simp; refine ⟨?_, ?_⟩ <;> rfl); ( exact c_dim _ _ _ _ _); simp only [Act.put, List.setIfInBounds_toArray, List.set_cons_zero, List.set_cons_succ])
    (refine LexW.pure (v := ?_) rfl rfl (fun w1 he => ?_) ?_; rotate_left; ( have e1 := he.cell HS0.out; have e2 := he.cell HS1.out; have e3 := he.cell HT0.out; have e4 := he.cell HT1.out; have e5 := he.cell HC0.out; go_simp; rfl); simp only [Act.put, List.setIfInBounds_toArray, List.set_cons_zero, List.set_cons_succ])
    (refine LexW.call (f := ?_) (args := ?_) rfl rfl (fun w1 => ?_) (fun w1 he hdep => ?_) ?_; rotate_left 2; (go_simp; refine ⟨?_, ?_⟩ <;> rfl); ( exact c_dim _ _ _ _ _); simp only [Act.put, List.setIfInBounds_toArray, List.set_cons_zero, List.set_cons_succ])
    (refine LexW.pure (v := ?_) rfl rfl (fun w1 he => ?_) ?_; rotate_left; ( have e1 := he.cell HS0.out; have e2 := he.cell HS1.out; have e3 := he.cell HT0.out; have e4 := he.cell HT1.out; have e5 := he.cell HC0.out; go_simp; rfl); simp only [Act.put, List.setIfInBounds_toArray, List.set_cons_zero, List.set_cons_succ])
    (refine LexW.pure (v := ?_) rfl rfl (fun w1 he => ?_) ?_; rotate_left; ( have e1 := he.cell HS0.out; have e2 := he.cell HS1.out; have e3 := he.cell HT0.out; have e4 := he.cell HT1.out; have e5 := he.cell HC0.out; go_simp; rfl); simp only [Act.put, List.setIfInBounds_toArray, List.set_cons_zero, List.set_cons_succ])
    (refine LexW.pure (v := ?_) rfl rfl (fun w1 he => ?_) ?_; rotate_left; ( have e1 := he.cell HS0.out; have e2 := he.cell HS1.out; have e3 := he.cell HT0.out; have e4 := he.cell HT1.out; have e5 := he.cell HC0.out; go_simp; rfl); simp only [Act.put, List.setIfInBounds_toArray, List.set_cons_zero, List.set_cons_succ])
    (refine LexW.pure (v := ?_) rfl rfl (fun w1 he => ?_) ?_; rotate_left; ( have e1 := he.cell HS0.out; have e2 := he.cell HS1.out; have e3 := he.cell HT0.out; have e4 := he.cell HT1.out; have e5 := he.cell HC0.out; go_simp; rfl); simp only [Act.put, List.setIfInBounds_toArray, List.set_cons_zero, List.set_cons_succ])
    (refine LexW.call (f := ?_) (args := ?_) rfl rfl (fun w1 => ?_) (fun w1 he hdep => ?_) ?_; rotate_left 2; (go_simp; refine ⟨?_, ?_⟩ <;> rfl); ( exact c_field p _ w1); simp only [Act.put, List.setIfInBounds_toArray, List.set_cons_zero, List.set_cons_succ])
    (refine LexW.pure (v := ?_) rfl rfl (fun w1 he => ?_) ?_; rotate_left; ( have e1 := he.cell HS0.out; have e2 := he.cell HS1.out; have e3 := he.cell HT0.out; have e4 := he.cell HT1.out; have e5 := he.cell HC0.out; go_simp; rfl); simp only [Act.put, List.setIfInBounds_toArray, List.set_cons_zero, List.set_cons_succ])
    (refine LexW.call (f := ?_) (args := ?_) rfl rfl (fun w1 => ?_) (fun w1 he hdep => ?_) ?_; rotate_left 2; (go_simp; refine ⟨?_, ?_⟩ <;> rfl); ( rw [← HMT.out]; exact c_isMatrix p _ n cm rows w1 (by omega) (by omega) hl HR.out (HX.out.ext (GW.out.trans he))); simp only [Act.put, List.setIfInBounds_toArray, List.set_cons_zero, List.set_cons_succ])
    (refine LexW.pure (v := ?_) rfl rfl (fun w1 he => ?_) ?_; rotate_left; ( have e1 := he.cell HS0.out; have e2 := he.cell HS1.out; have e3 := he.cell HT0.out; have e4 := he.cell HT1.out; have e5 := he.cell HC0.out; go_simp; rfl); simp only [Act.put, List.setIfInBounds_toArray, List.set_cons_zero, List.set_cons_succ])
    (refine LexW.pure (v := ?_) rfl rfl (fun w1 he => ?_) ?_; rotate_left; ( have e1 := he.cell HS0.out; have e2 := he.cell HS1.out; have e3 := he.cell HT0.out; have e4 := he.cell HT1.out; have e5 := he.cell HC0.out; go_simp; rfl); simp only [Act.put, List.setIfInBounds_toArray, List.set_cons_zero, List.set_cons_succ])
    (refine LexW.pure (v := ?_) rfl rfl (fun w1 he => ?_) ?_; rotate_left; ( have e1 := he.cell HS0.out; have e2 := he.cell HS1.out; have e3 := he.cell HT0.out; have e4 := he.cell HT1.out; have e5 := he.cell HC0.out; go_simp; rfl); simp only [Act.put, List.setIfInBounds_toArray, List.set_cons_zero, List.set_cons_succ])
    (refine LexW.pure (v := ?_) rfl rfl (fun w1 he => ?_) ?_; rotate_left; ( have e1 := he.cell HS0.out; have e2 := he.cell HS1.out; have e3 := he.cell HT0.out; have e4 := he.cell HT1.out; have e5 := he.cell HC0.out; go_simp; rfl); simp only [Act.put, List.setIfInBounds_toArray, List.set_cons_zero, List.set_cons_succ])
    (refine LexW.pure (v := ?_) rfl rfl (fun w1 he => ?_) ?_; rotate_left; ( have e1 := he.cell HS0.out; have e2 := he.cell HS1.out; have e3 := he.cell HT0.out; have e4 := he.cell HT1.out; have e5 := he.cell HC0.out; go_simp; rfl); simp only [Act.put, List.setIfInBounds_toArray, List.set_cons_zero, List.set_cons_succ])
    (refine LexW.pure (v := ?_) rfl rfl (fun w1 he => ?_) ?_; rotate_left; ( have e1 := he.cell HS0.out; have e2 := he.cell HS1.out; have e3 := he.cell HT0.out; have e4 := he.cell HT1.out; have e5 := he.cell HC0.out; go_simp; rfl); simp only [Act.put, List.setIfInBounds_toArray, List.set_cons_zero, List.set_cons_succ])
    (refine LexW.call (f := ?_) (args := ?_) rfl rfl (fun w1 => ?_) (fun w1 he hdep => ?_) ?_; rotate_left 2; (go_simp; refine ⟨?_, ?_⟩ <;> rfl); ( exact c_dim _ _ _ _ _); simp only [Act.put, List.setIfInBounds_toArray, List.set_cons_zero, List.set_cons_succ])
    (refine LexW.pure (v := ?_) rfl rfl (fun w1 he => ?_) ?_; rotate_left; ( have e1 := he.cell HS0.out; have e2 := he.cell HS1.out; have e3 := he.cell HT0.out; have e4 := he.cell HT1.out; have e5 := he.cell HC0.out; go_simp; rfl); simp only [Act.put, List.setIfInBounds_toArray, List.set_cons_zero, List.set_cons_succ])
    (refine LexW.pure (v := ?_) rfl rfl (fun w1 he => ?_) ?_; rotate_left; ( have e1 := he.cell HS0.out; have e2 := he.cell HS1.out; have e3 := he.cell HT0.out; have e4 := he.cell HT1.out; have e5 := he.cell HC0.out; go_simp; rfl); simp only [Act.put, List.setIfInBounds_toArray, List.set_cons_zero, List.set_cons_succ])
    (refine LexW.pure (v := ?_) rfl rfl (fun w1 he => ?_) ?_; rotate_left; ( have e1 := he.cell HS0.out; have e2 := he.cell HS1.out; have e3 := he.cell HT0.out; have e4 := he.cell HT1.out; have e5 := he.cell HC0.out; go_simp; rfl); simp only [Act.put, List.setIfInBounds_toArray, List.set_cons_zero, List.set_cons_succ])
    (refine LexW.pure (v := ?_) rfl rfl (fun w1 he => ?_) ?_; rotate_left; ( have e1 := he.cell HS0.out; have e2 := he.cell HS1.out; have e3 := he.cell HT0.out; have e4 := he.cell HT1.out; have e5 := he.cell HC0.out; go_simp; rfl); simp only [Act.put, List.setIfInBounds_toArray, List.set_cons_zero, List.set_cons_succ])
    (refine LexW.pure (v := ?_) rfl rfl (fun w1 he => ?_) ?_; rotate_left; ( have e1 := he.cell HS0.out; have e2 := he.cell HS1.out; have e3 := he.cell HT0.out; have e4 := he.cell HT1.out; have e5 := he.cell HC0.out; go_simp; rfl); simp only [Act.put, List.setIfInBounds_toArray, List.set_cons_zero, List.set_cons_succ])
    (refine LexW.pure (v := ?_) rfl rfl (fun w1 he => ?_) ?_; rotate_left; ( have e1 := he.cell HS0.out; have e2 := he.cell HS1.out; have e3 := he.cell HT0.out; have e4 := he.cell HT1.out; have e5 := he.cell HC0.out; go_simp; rfl); simp only [Act.put, List.setIfInBounds_toArray, List.set_cons_zero, List.set_cons_succ])
    (refine LexW.pure (v := ?_) rfl rfl (fun w1 he => ?_) ?_; rotate_left; ( have e1 := he.cell HS0.out; have e2 := he.cell HS1.out; have e3 := he.cell HT0.out; have e4 := he.cell HT1.out; have e5 := he.cell HC0.out; go_simp; rfl); simp only [Act.put, List.setIfInBounds_toArray, List.set_cons_zero, List.set_cons_succ])
    (refine LexW.pure (v := ?_) rfl rfl (fun w1 he => ?_) ?_; rotate_left; ( have e1 := he.cell HS0.out; have e2 := he.cell HS1.out; have e3 := he.cell HT0.out; have e4 := he.cell HT1.out; have e5 := he.cell HC0.out; go_simp; rfl); simp only [Act.put, List.setIfInBounds_toArray, List.set_cons_zero, List.set_cons_succ])
    (refine LexW.call (f := ?_) (args := ?_) rfl rfl (fun w1 => ?_) (fun w1 he hdep => ?_) ?_; rotate_left 2; (go_simp; refine ⟨?_, ?_⟩ <;> rfl); ( exact c_dim _ _ _ _ _); simp only [Act.put, List.setIfInBounds_toArray, List.set_cons_zero, List.set_cons_succ])
    (refine LexW.pure (v := ?_) rfl rfl (fun w1 he => ?_) ?_; rotate_left; ( have e1 := he.cell HS0.out; have e2 := he.cell HS1.out; have e3 := he.cell HT0.out; have e4 := he.cell HT1.out; have e5 := he.cell HC0.out; go_simp; rfl); simp only [Act.put, List.setIfInBounds_toArray, List.set_cons_zero, List.set_cons_succ])
    (refine LexW.pure (v := ?_) rfl rfl (fun w1 he => ?_) ?_; rotate_left; ( have e1 := he.cell HS0.out; have e2 := he.cell HS1.out; have e3 := he.cell HT0.out; have e4 := he.cell HT1.out; have e5 := he.cell HC0.out; go_simp; rfl); simp only [Act.put, List.setIfInBounds_toArray, List.set_cons_zero, List.set_cons_succ])
    (refine LexW.pure (v := ?_) rfl rfl (fun w1 he => ?_) ?_; rotate_left; ( have e1 := he.cell HS0.out; have e2 := he.cell HS1.out; have e3 := he.cell HT0.out; have e4 := he.cell HT1.out; have e5 := he.cell HC0.out; go_simp; rfl); simp only [Act.put, List.setIfInBounds_toArray, List.set_cons_zero, List.set_cons_succ])
    (refine LexW.skip rfl rfl ?_; simp only [Act.put, List.setIfInBounds_toArray, List.set_cons_zero, List.set_cons_succ])
    (refine LexW.skip rfl rfl ?_; simp only [Act.put, List.setIfInBounds_toArray, List.set_cons_zero, List.set_cons_succ])
    (refine LexW.skip rfl rfl ?_; simp only [Act.put, List.setIfInBounds_toArray, List.set_cons_zero, List.set_cons_succ])
    (refine LexW.skip rfl rfl ?_; simp only [Act.put, List.setIfInBounds_toArray, List.set_cons_zero, List.set_cons_succ])
    (refine LexW.skip rfl rfl ?_; simp only [Act.put, List.setIfInBounds_toArray, List.set_cons_zero, List.set_cons_succ])
    (refine LexW.pure (v := ?_) rfl rfl (fun w1 he => ?_) ?_; rotate_left; ( have e1 := he.cell HS0.out; have e2 := he.cell HS1.out; have e3 := he.cell HT0.out; have e4 := he.cell HT1.out; have e5 := he.cell HC0.out; go_simp; rfl); simp only [Act.put, List.setIfInBounds_toArray, List.set_cons_zero, List.set_cons_succ])
    refine LexW.nil (fun w3 he hkn => ?_)
    have HE := Lib.hid (GW.out.trans he)
    clear he hkn 
    go_wp2_with (fail)
    go_ret
    exact ⟨ret_bool HB.out.symm, HE.out⟩
  obtain rfl : mw = n := by omega
  clear hwd
  have HGR := Lib.hid (show RowsG p mw rows from fun i hi => hmg i hi)
  clear hmg
  by_cases hdz : detL p mw rows = 0
  · have HB := Lib.hid (isoB_det (qs := qs) hdz)
    have HDZ := Lib.hid hdz
    clear hdz
    refine wp_region_lex [(7, .val (.int .i64 mw)), (9, .val (.int .i64 mw)), (14, .val (.int .i64 p)), (16, .val (.bool true)), (23, .val (.int .i64 mw)), (32, .val (.int .i64 mw)), (37, .val (.int .i64 p)), (39, .val (.int .i64 0))] (by kernel_rfl) (by kernel_rfl) ?_
    (refine LexW.pure (v := ?_) rfl rfl (fun w1 he => ?_) ?_; rotate_left; ( have e1 := he.cell HS0.out; have e2 := he.cell HS1.out; have e3 := he.cell HT0.out; have e4 := he.cell HT1.out; have e5 := he.cell HC0.out; go_simp; rfl); simp only [Act.put, List.setIfInBounds_toArray, List.set_cons_zero, List.set_cons_succ])
    (refine LexW.pure (v := ?_) rfl rfl (fun w1 he => ?_) ?_; rotate_left; ( have e1 := he.cell HS0.out; have e2 := he.cell HS1.out; have e3 := he.cell HT0.out; have e4 := he.cell HT1.out; have e5 := he.cell HC0.out; go_simp; rfl); simp only [Act.put, List.setIfInBounds_toArray, List.set_cons_zero, List.set_cons_succ])
    (refine LexW.pure (v := ?_) rfl rfl (fun w1 he => ?_) ?_; rotate_left; ( have e1 := he.cell HS0.out; have e2 := he.cell HS1.out; have e3 := he.cell HT0.out; have e4 := he.cell HT1.out; have e5 := he.cell HC0.out; go_simp; rfl); simp only [Act.put, List.setIfInBounds_toArray, List.set_cons_zero, List.set_cons_succ])
    (refine LexW.pure (v := ?_) rfl rfl (fun w1 he => ?_) ?_; rotate_left; ( have e1 := he.cell HS0.out; have e2 := he.cell HS1.out; have e3 := he.cell HT0.out; have e4 := he.cell HT1.out; have e5 := he.cell HC0.out; go_simp; rfl); simp only [Act.put, List.setIfInBounds_toArray, List.set_cons_zero, List.set_cons_succ])
    (refine LexW.pure (v := ?_) rfl rfl (fun w1 he => ?_) ?_; rotate_left; ( have e1 := he.cell HS0.out; have e2 := he.cell HS1.out; have e3 := he.cell HT0.out; have e4 := he.cell HT1.out; have e5 := he.cell HC0.out; go_simp; rfl); simp only [Act.put, List.setIfInBounds_toArray, List.set_cons_zero, List.set_cons_succ])
    (refine LexW.pure (v := ?_) rfl rfl (fun w1 he => ?_) ?_; rotate_left; ( have e1 := he.cell HS0.out; have e2 := he.cell HS1.out; have e3 := he.cell HT0.out; have e4 := he.cell HT1.out; have e5 := he.cell HC0.out; go_simp; rfl); simp only [Act.put, List.setIfInBounds_toArray, List.set_cons_zero, List.set_cons_succ])
    (refine LexW.pure (v := ?_) rfl rfl (fun w1 he => ?_) ?_; rotate_left; ( have e1 := he.cell HS0.out; have e2 := he.cell HS1.out; have e3 := he.cell HT0.out; have e4 := he.cell HT1.out; have e5 := he.cell HC0.out; go_simp; rfl); simp only [Act.put, List.setIfInBounds_toArray, List.set_cons_zero, List.set_cons_succ])
    (refine LexW.call (f := ?_) (args := ?_) rfl rfl (fun w1 => ?_) (fun w1 he hdep => ?_) ?_; rotate_left 2; (go_simp; refine ⟨?_, ?_⟩ <;> rfl); ( exact c_dim _ _ _ _ _); simp only [Act.put, List.setIfInBounds_toArray, List.set_cons_zero, List.set_cons_succ])
    (refine LexW.pure (v := ?_) rfl rfl (fun w1 he => ?_) ?_; rotate_left; ( have e1 := he.cell HS0.out; have e2 := he.cell HS1.out; have e3 := he.cell HT0.out; have e4 := he.cell HT1.out; have e5 := he.cell HC0.out; go_simp; rfl); simp only [Act.put, List.setIfInBounds_toArray, List.set_cons_zero, List.set_cons_succ])
    (refine LexW.call (f := ?_) (args := ?_) rfl rfl (fun w1 => ?_) (fun w1 he hdep => ?_) ?_; rotate_left 2; (go_simp; refine ⟨?_, ?_⟩ <;> rfl); ( exact c_dim _ _ _ _ _); simp only [Act.put, List.setIfInBounds_toArray, List.set_cons_zero, List.set_cons_succ])
    (refine LexW.pure (v := ?_) rfl rfl (fun w1 he => ?_) ?_; rotate_left; ( have e1 := he.cell HS0.out; have e2 := he.cell HS1.out; have e3 := he.cell HT0.out; have e4 := he.cell HT1.out; have e5 := he.cell HC0.out; go_simp; rfl); simp only [Act.put, List.setIfInBounds_toArray, List.set_cons_zero, List.set_cons_succ])
    (refine LexW.pure (v := ?_) rfl rfl (fun w1 he => ?_) ?_; rotate_left; ( have e1 := he.cell HS0.out; have e2 := he.cell HS1.out; have e3 := he.cell HT0.out; have e4 := he.cell HT1.out; have e5 := he.cell HC0.out; go_simp; rfl); simp only [Act.put, List.setIfInBounds_toArray, List.set_cons_zero, List.set_cons_succ])
    (refine LexW.pure (v := ?_) rfl rfl (fun w1 he => ?_) ?_; rotate_left; ( have e1 := he.cell HS0.out; have e2 := he.cell HS1.out; have e3 := he.cell HT0.out; have e4 := he.cell HT1.out; have e5 := he.cell HC0.out; go_simp; rfl); simp only [Act.put, List.setIfInBounds_toArray, List.set_cons_zero, List.set_cons_succ])
    (refine LexW.pure (v := ?_) rfl rfl (fun w1 he => ?_) ?_; rotate_left; ( have e1 := he.cell HS0.out; have e2 := he.cell HS1.out; have e3 := he.cell HT0.out; have e4 := he.cell HT1.out; have e5 := he.cell HC0.out; go_simp; rfl); simp only [Act.put, List.setIfInBounds_toArray, List.set_cons_zero, List.set_cons_succ])
    (refine LexW.call (f := ?_) (args := ?_) rfl rfl (fun w1 => ?_) (fun w1 he hdep => ?_) ?_; rotate_left 2; (go_simp; refine ⟨?_, ?_⟩ <;> rfl); ( exact c_field p _ w1); simp only [Act.put, List.setIfInBounds_toArray, List.set_cons_zero, List.set_cons_succ])
    (refine LexW.pure (v := ?_) rfl rfl (fun w1 he => ?_) ?_; rotate_left; ( have e1 := he.cell HS0.out; have e2 := he.cell HS1.out; have e3 := he.cell HT0.out; have e4 := he.cell HT1.out; have e5 := he.cell HC0.out; go_simp; rfl); simp only [Act.put, List.setIfInBounds_toArray, List.set_cons_zero, List.set_cons_succ])
    (refine LexW.call (f := ?_) (args := ?_) rfl rfl (fun w1 => ?_) (fun w1 he hdep => ?_) ?_; rotate_left 2; (go_simp; refine ⟨?_, ?_⟩ <;> rfl); ( rw [← HMT.out]; exact c_isMatrix p _ mw cm rows w1 (by omega) (by omega) hl HR.out (HX.out.ext (GW.out.trans he))); simp only [Act.put, List.setIfInBounds_toArray, List.set_cons_zero, List.set_cons_succ])
    (refine LexW.pure (v := ?_) rfl rfl (fun w1 he => ?_) ?_; rotate_left; ( have e1 := he.cell HS0.out; have e2 := he.cell HS1.out; have e3 := he.cell HT0.out; have e4 := he.cell HT1.out; have e5 := he.cell HC0.out; go_simp; rfl); simp only [Act.put, List.setIfInBounds_toArray, List.set_cons_zero, List.set_cons_succ])
    (refine LexW.pure (v := ?_) rfl rfl (fun w1 he => ?_) ?_; rotate_left; ( have e1 := he.cell HS0.out; have e2 := he.cell HS1.out; have e3 := he.cell HT0.out; have e4 := he.cell HT1.out; have e5 := he.cell HC0.out; go_simp; rfl); simp only [Act.put, List.setIfInBounds_toArray, List.set_cons_zero, List.set_cons_succ])
    (refine LexW.pure (v := ?_) rfl rfl (fun w1 he => ?_) ?_; rotate_left; ( have e1 := he.cell HS0.out; have e2 := he.cell HS1.out; have e3 := he.cell HT0.out; have e4 := he.cell HT1.out; have e5 := he.cell HC0.out; go_simp; rfl); simp only [Act.put, List.setIfInBounds_toArray, List.set_cons_zero, List.set_cons_succ])
    (refine LexW.pure (v := ?_) rfl rfl (fun w1 he => ?_) ?_; rotate_left; ( have e1 := he.cell HS0.out; have e2 := he.cell HS1.out; have e3 := he.cell HT0.out; have e4 := he.cell HT1.out; have e5 := he.cell HC0.out; go_simp; rfl); simp only [Act.put, List.setIfInBounds_toArray, List.set_cons_zero, List.set_cons_succ])
    (refine LexW.pure (v := ?_) rfl rfl (fun w1 he => ?_) ?_; rotate_left; ( have e1 := he.cell HS0.out; have e2 := he.cell HS1.out; have e3 := he.cell HT0.out; have e4 := he.cell HT1.out; have e5 := he.cell HC0.out; go_simp; rfl); simp only [Act.put, List.setIfInBounds_toArray, List.set_cons_zero, List.set_cons_succ])
    (refine LexW.pure (v := ?_) rfl rfl (fun w1 he => ?_) ?_; rotate_left; ( have e1 := he.cell HS0.out; have e2 := he.cell HS1.out; have e3 := he.cell HT0.out; have e4 := he.cell HT1.out; have e5 := he.cell HC0.out; go_simp; rfl); simp only [Act.put, List.setIfInBounds_toArray, List.set_cons_zero, List.set_cons_succ])
    (refine LexW.call (f := ?_) (args := ?_) rfl rfl (fun w1 => ?_) (fun w1 he hdep => ?_) ?_; rotate_left 2; (go_simp; refine ⟨?_, ?_⟩ <;> rfl); ( exact c_dim _ _ _ _ _); simp only [Act.put, List.setIfInBounds_toArray, List.set_cons_zero, List.set_cons_succ])
    (refine LexW.pure (v := ?_) rfl rfl (fun w1 he => ?_) ?_; rotate_left; ( have e1 := he.cell HS0.out; have e2 := he.cell HS1.out; have e3 := he.cell HT0.out; have e4 := he.cell HT1.out; have e5 := he.cell HC0.out; go_simp; rfl); simp only [Act.put, List.setIfInBounds_toArray, List.set_cons_zero, List.set_cons_succ])
    (refine LexW.pure (v := ?_) rfl rfl (fun w1 he => ?_) ?_; rotate_left; ( have e1 := he.cell HS0.out; have e2 := he.cell HS1.out; have e3 := he.cell HT0.out; have e4 := he.cell HT1.out; have e5 := he.cell HC0.out; go_simp; rfl); simp only [Act.put, List.setIfInBounds_toArray, List.set_cons_zero, List.set_cons_succ])
    (refine LexW.pure (v := ?_) rfl rfl (fun w1 he => ?_) ?_; rotate_left; ( have e1 := he.cell HS0.out; have e2 := he.cell HS1.out; have e3 := he.cell HT0.out; have e4 := he.cell HT1.out; have e5 := he.cell HC0.out; go_simp; rfl); simp only [Act.put, List.setIfInBounds_toArray, List.set_cons_zero, List.set_cons_succ])
    (refine LexW.pure (v := ?_) rfl rfl (fun w1 he => ?_) ?_; rotate_left; ( have e1 := he.cell HS0.out; have e2 := he.cell HS1.out; have e3 := he.cell HT0.out; have e4 := he.cell HT1.out; have e5 := he.cell HC0.out; go_simp; rfl); simp only [Act.put, List.setIfInBounds_toArray, List.set_cons_zero, List.set_cons_succ])
    (refine LexW.pure (v := ?_) rfl rfl (fun w1 he => ?_) ?_; rotate_left; ( have e1 := he.cell HS0.out; have e2 := he.cell HS1.out; have e3 := he.cell HT0.out; have e4 := he.cell HT1.out; have e5 := he.cell HC0.out; go_simp; rfl); simp only [Act.put, List.setIfInBounds_toArray, List.set_cons_zero, List.set_cons_succ])
    (refine LexW.pure (v := ?_) rfl rfl (fun w1 he => ?_) ?_; rotate_left; ( have e1 := he.cell HS0.out; have e2 := he.cell HS1.out; have e3 := he.cell HT0.out; have e4 := he.cell HT1.out; have e5 := he.cell HC0.out; go_simp; rfl); simp only [Act.put, List.setIfInBounds_toArray, List.set_cons_zero, List.set_cons_succ])
    (refine LexW.pure (v := ?_) rfl rfl (fun w1 he => ?_) ?_; rotate_left; ( have e1 := he.cell HS0.out; have e2 := he.cell HS1.out; have e3 := he.cell HT0.out; have e4 := he.cell HT1.out; have e5 := he.cell HC0.out; go_simp; rfl); simp only [Act.put, List.setIfInBounds_toArray, List.set_cons_zero, List.set_cons_succ])
    (refine LexW.pure (v := ?_) rfl rfl (fun w1 he => ?_) ?_; rotate_left; ( have e1 := he.cell HS0.out; have e2 := he.cell HS1.out; have e3 := he.cell HT0.out; have e4 := he.cell HT1.out; have e5 := he.cell HC0.out; go_simp; rfl); simp only [Act.put, List.setIfInBounds_toArray, List.set_cons_zero, List.set_cons_succ])
    (refine LexW.call (f := ?_) (args := ?_) rfl rfl (fun w1 => ?_) (fun w1 he hdep => ?_) ?_; rotate_left 2; (go_simp; refine ⟨?_, ?_⟩ <;> rfl); ( exact c_dim _ _ _ _ _); simp only [Act.put, List.setIfInBounds_toArray, List.set_cons_zero, List.set_cons_succ])
    (refine LexW.pure (v := ?_) rfl rfl (fun w1 he => ?_) ?_; rotate_left; ( have e1 := he.cell HS0.out; have e2 := he.cell HS1.out; have e3 := he.cell HT0.out; have e4 := he.cell HT1.out; have e5 := he.cell HC0.out; go_simp; rfl); simp only [Act.put, List.setIfInBounds_toArray, List.set_cons_zero, List.set_cons_succ])
    (refine LexW.pure (v := ?_) rfl rfl (fun w1 he => ?_) ?_; rotate_left; ( have e1 := he.cell HS0.out; have e2 := he.cell HS1.out; have e3 := he.cell HT0.out; have e4 := he.cell HT1.out; have e5 := he.cell HC0.out; go_simp; rfl); simp only [Act.put, List.setIfInBounds_toArray, List.set_cons_zero, List.set_cons_succ])
    (refine LexW.pure (v := ?_) rfl rfl (fun w1 he => ?_) ?_; rotate_left; ( have e1 := he.cell HS0.out; have e2 := he.cell HS1.out; have e3 := he.cell HT0.out; have e4 := he.cell HT1.out; have e5 := he.cell HC0.out; go_simp; rfl); simp only [Act.put, List.setIfInBounds_toArray, List.set_cons_zero, List.set_cons_succ])
    (refine LexW.pure (v := ?_) rfl rfl (fun w1 he => ?_) ?_; rotate_left; ( have e1 := he.cell HS0.out; have e2 := he.cell HS1.out; have e3 := he.cell HT0.out; have e4 := he.cell HT1.out; have e5 := he.cell HC0.out; go_simp; rfl); simp only [Act.put, List.setIfInBounds_toArray, List.set_cons_zero, List.set_cons_succ])
    (refine LexW.call (f := ?_) (args := ?_) rfl rfl (fun w1 => ?_) (fun w1 he hdep => ?_) ?_; rotate_left 2; (go_simp; refine ⟨?_, ?_⟩ <;> rfl); ( exact c_field p _ w1); simp only [Act.put, List.setIfInBounds_toArray, List.set_cons_zero, List.set_cons_succ])
    (refine LexW.pure (v := ?_) rfl rfl (fun w1 he => ?_) ?_; rotate_left; ( have e1 := he.cell HS0.out; have e2 := he.cell HS1.out; have e3 := he.cell HT0.out; have e4 := he.cell HT1.out; have e5 := he.cell HC0.out; go_simp; rfl); simp only [Act.put, List.setIfInBounds_toArray, List.set_cons_zero, List.set_cons_succ])
    (refine LexW.call (f := ?_) (args := ?_) rfl rfl (fun w1 => ?_) (fun w1 he hdep => ?_) ?_; rotate_left 2; (go_simp; refine ⟨?_, ?_⟩ <;> rfl); ( rw [← HDZ.out]; exact c_det p _ _ cm mw rows w1 HPR.out (by omega) (Nat.le_refl _) (by omega) (HX.out.ext (GW.out.trans he)) HGR.out); simp only [Act.put, List.setIfInBounds_toArray, List.set_cons_zero, List.set_cons_succ])
    (refine LexW.pure (v := ?_) rfl rfl (fun w1 he => ?_) ?_; rotate_left; ( have e1 := he.cell HS0.out; have e2 := he.cell HS1.out; have e3 := he.cell HT0.out; have e4 := he.cell HT1.out; have e5 := he.cell HC0.out; go_simp; rfl); simp only [Act.put, List.setIfInBounds_toArray, List.set_cons_zero, List.set_cons_succ])
    (refine LexW.pure (v := ?_) rfl rfl (fun w1 he => ?_) ?_; rotate_left; ( have e1 := he.cell HS0.out; have e2 := he.cell HS1.out; have e3 := he.cell HT0.out; have e4 := he.cell HT1.out; have e5 := he.cell HC0.out; go_simp; rfl); simp only [Act.put, List.setIfInBounds_toArray, List.set_cons_zero, List.set_cons_succ])
    refine LexW.nil (fun w3 he hkn => ?_)
    have HE := Lib.hid (GW.out.trans he)
    clear he hkn 
    go_wp2_with (fail)
    go_ret
    exact ⟨ret_bool HB.out.symm, HE.out⟩
  have HDZ := Lib.hid hdz
  obtain ⟨dt, hdt⟩ : ∃ x, x = detL p mw rows := ⟨_, rfl⟩
  have hdn : (dt == 0) = false := by rw [hdt]; simp [hdz]
  have HDT := Lib.hid hdt
  clear hdz hdt
  refine wp_region_lex [(7, .val (.int .i64 mw)), (9, .val (.int .i64 mw)), (14, .val (.int .i64 p)), (16, .val (.bool true)), (23, .val (.int .i64 mw)), (32, .val (.int .i64 mw)), (37, .val (.int .i64 p)), (39, .val (.int .i64 dt))] (by kernel_rfl) (by kernel_rfl) ?_
  (refine LexW.pure (v := ?_) rfl rfl (fun w1 he => ?_) ?_; rotate_left; ( have e1 := he.cell HS0.out; have e2 := he.cell HS1.out; have e3 := he.cell HT0.out; have e4 := he.cell HT1.out; have e5 := he.cell HC0.out; go_simp; rfl); simp only [Act.put, List.setIfInBounds_toArray, List.set_cons_zero, List.set_cons_succ])
  (refine LexW.pure (v := ?_) rfl rfl (fun w1 he => ?_) ?_; rotate_left; ( have e1 := he.cell HS0.out; have e2 := he.cell HS1.out; have e3 := he.cell HT0.out; have e4 := he.cell HT1.out; have e5 := he.cell HC0.out; go_simp; rfl); simp only [Act.put, List.setIfInBounds_toArray, List.set_cons_zero, List.set_cons_succ])
  (refine LexW.pure (v := ?_) rfl rfl (fun w1 he => ?_) ?_; rotate_left; ( have e1 := he.cell HS0.out; have e2 := he.cell HS1.out; have e3 := he.cell HT0.out; have e4 := he.cell HT1.out; have e5 := he.cell HC0.out; go_simp; rfl); simp only [Act.put, List.setIfInBounds_toArray, List.set_cons_zero, List.set_cons_succ])
  (refine LexW.pure (v := ?_) rfl rfl (fun w1 he => ?_) ?_; rotate_left; ( have e1 := he.cell HS0.out; have e2 := he.cell HS1.out; have e3 := he.cell HT0.out; have e4 := he.cell HT1.out; have e5 := he.cell HC0.out; go_simp; rfl); simp only [Act.put, List.setIfInBounds_toArray, List.set_cons_zero, List.set_cons_succ])
  (refine LexW.pure (v := ?_) rfl rfl (fun w1 he => ?_) ?_; rotate_left; ( have e1 := he.cell HS0.out; have e2 := he.cell HS1.out; have e3 := he.cell HT0.out; have e4 := he.cell HT1.out; have e5 := he.cell HC0.out; go_simp; rfl); simp only [Act.put, List.setIfInBounds_toArray, List.set_cons_zero, List.set_cons_succ])
  (refine LexW.pure (v := ?_) rfl rfl (fun w1 he => ?_) ?_; rotate_left; ( have e1 := he.cell HS0.out; have e2 := he.cell HS1.out; have e3 := he.cell HT0.out; have e4 := he.cell HT1.out; have e5 := he.cell HC0.out; go_simp; rfl); simp only [Act.put, List.setIfInBounds_toArray, List.set_cons_zero, List.set_cons_succ])
  (refine LexW.pure (v := ?_) rfl rfl (fun w1 he => ?_) ?_; rotate_left; ( have e1 := he.cell HS0.out; have e2 := he.cell HS1.out; have e3 := he.cell HT0.out; have e4 := he.cell HT1.out; have e5 := he.cell HC0.out; go_simp; rfl); simp only [Act.put, List.setIfInBounds_toArray, List.set_cons_zero, List.set_cons_succ])
  (refine LexW.call (f := ?_) (args := ?_) rfl rfl (fun w1 => ?_) (fun w1 he hdep => ?_) ?_; rotate_left 2; (go_simp; refine ⟨?_, ?_⟩ <;> rfl); ( exact c_dim _ _ _ _ _); simp only [Act.put, List.setIfInBounds_toArray, List.set_cons_zero, List.set_cons_succ])
  (refine LexW.pure (v := ?_) rfl rfl (fun w1 he => ?_) ?_; rotate_left; ( have e1 := he.cell HS0.out; have e2 := he.cell HS1.out; have e3 := he.cell HT0.out; have e4 := he.cell HT1.out; have e5 := he.cell HC0.out; go_simp; rfl); simp only [Act.put, List.setIfInBounds_toArray, List.set_cons_zero, List.set_cons_succ])
  (refine LexW.call (f := ?_) (args := ?_) rfl rfl (fun w1 => ?_) (fun w1 he hdep => ?_) ?_; rotate_left 2; (go_simp; refine ⟨?_, ?_⟩ <;> rfl); ( exact c_dim _ _ _ _ _); simp only [Act.put, List.setIfInBounds_toArray, List.set_cons_zero, List.set_cons_succ])
  (refine LexW.pure (v := ?_) rfl rfl (fun w1 he => ?_) ?_; rotate_left; ( have e1 := he.cell HS0.out; have e2 := he.cell HS1.out; have e3 := he.cell HT0.out; have e4 := he.cell HT1.out; have e5 := he.cell HC0.out; go_simp; rfl); simp only [Act.put, List.setIfInBounds_toArray, List.set_cons_zero, List.set_cons_succ])
  (refine LexW.pure (v := ?_) rfl rfl (fun w1 he => ?_) ?_; rotate_left; ( have e1 := he.cell HS0.out; have e2 := he.cell HS1.out; have e3 := he.cell HT0.out; have e4 := he.cell HT1.out; have e5 := he.cell HC0.out; go_simp; rfl); simp only [Act.put, List.setIfInBounds_toArray, List.set_cons_zero, List.set_cons_succ])
  (refine LexW.pure (v := ?_) rfl rfl (fun w1 he => ?_) ?_; rotate_left; ( have e1 := he.cell HS0.out; have e2 := he.cell HS1.out; have e3 := he.cell HT0.out; have e4 := he.cell HT1.out; have e5 := he.cell HC0.out; go_simp; rfl); simp only [Act.put, List.setIfInBounds_toArray, List.set_cons_zero, List.set_cons_succ])
  (refine LexW.pure (v := ?_) rfl rfl (fun w1 he => ?_) ?_; rotate_left; ( have e1 := he.cell HS0.out; have e2 := he.cell HS1.out; have e3 := he.cell HT0.out; have e4 := he.cell HT1.out; have e5 := he.cell HC0.out; go_simp; rfl); simp only [Act.put, List.setIfInBounds_toArray, List.set_cons_zero, List.set_cons_succ])
  (refine LexW.call (f := ?_) (args := ?_) rfl rfl (fun w1 => ?_) (fun w1 he hdep => ?_) ?_; rotate_left 2; (go_simp; refine ⟨?_, ?_⟩ <;> rfl); ( exact c_field p _ w1); simp only [Act.put, List.setIfInBounds_toArray, List.set_cons_zero, List.set_cons_succ])
  (refine LexW.pure (v := ?_) rfl rfl (fun w1 he => ?_) ?_; rotate_left; ( have e1 := he.cell HS0.out; have e2 := he.cell HS1.out; have e3 := he.cell HT0.out; have e4 := he.cell HT1.out; have e5 := he.cell HC0.out; go_simp; rfl); simp only [Act.put, List.setIfInBounds_toArray, List.set_cons_zero, List.set_cons_succ])
  (refine LexW.call (f := ?_) (args := ?_) rfl rfl (fun w1 => ?_) (fun w1 he hdep => ?_) ?_; rotate_left 2; (go_simp; refine ⟨?_, ?_⟩ <;> rfl); ( rw [← HMT.out]; exact c_isMatrix p _ mw cm rows w1 (by omega) (by omega) hl HR.out (HX.out.ext (GW.out.trans he))); simp only [Act.put, List.setIfInBounds_toArray, List.set_cons_zero, List.set_cons_succ])
  (refine LexW.pure (v := ?_) rfl rfl (fun w1 he => ?_) ?_; rotate_left; ( have e1 := he.cell HS0.out; have e2 := he.cell HS1.out; have e3 := he.cell HT0.out; have e4 := he.cell HT1.out; have e5 := he.cell HC0.out; go_simp; rfl); simp only [Act.put, List.setIfInBounds_toArray, List.set_cons_zero, List.set_cons_succ])
  (refine LexW.pure (v := ?_) rfl rfl (fun w1 he => ?_) ?_; rotate_left; ( have e1 := he.cell HS0.out; have e2 := he.cell HS1.out; have e3 := he.cell HT0.out; have e4 := he.cell HT1.out; have e5 := he.cell HC0.out; go_simp; rfl); simp only [Act.put, List.setIfInBounds_toArray, List.set_cons_zero, List.set_cons_succ])
  (refine LexW.pure (v := ?_) rfl rfl (fun w1 he => ?_) ?_; rotate_left; ( have e1 := he.cell HS0.out; have e2 := he.cell HS1.out; have e3 := he.cell HT0.out; have e4 := he.cell HT1.out; have e5 := he.cell HC0.out; go_simp; rfl); simp only [Act.put, List.setIfInBounds_toArray, List.set_cons_zero, List.set_cons_succ])
  (refine LexW.pure (v := ?_) rfl rfl (fun w1 he => ?_) ?_; rotate_left; ( have e1 := he.cell HS0.out; have e2 := he.cell HS1.out; have e3 := he.cell HT0.out; have e4 := he.cell HT1.out; have e5 := he.cell HC0.out; go_simp; rfl); simp only [Act.put, List.setIfInBounds_toArray, List.set_cons_zero, List.set_cons_succ])
  (refine LexW.pure (v := ?_) rfl rfl (fun w1 he => ?_) ?_; rotate_left; ( have e1 := he.cell HS0.out; have e2 := he.cell HS1.out; have e3 := he.cell HT0.out; have e4 := he.cell HT1.out; have e5 := he.cell HC0.out; go_simp; rfl); simp only [Act.put, List.setIfInBounds_toArray, List.set_cons_zero, List.set_cons_succ])
  (refine LexW.pure (v := ?_) rfl rfl (fun w1 he => ?_) ?_; rotate_left; ( have e1 := he.cell HS0.out; have e2 := he.cell HS1.out; have e3 := he.cell HT0.out; have e4 := he.cell HT1.out; have e5 := he.cell HC0.out; go_simp; rfl); simp only [Act.put, List.setIfInBounds_toArray, List.set_cons_zero, List.set_cons_succ])
  (refine LexW.call (f := ?_) (args := ?_) rfl rfl (fun w1 => ?_) (fun w1 he hdep => ?_) ?_; rotate_left 2; (go_simp; refine ⟨?_, ?_⟩ <;> rfl); ( exact c_dim _ _ _ _ _); simp only [Act.put, List.setIfInBounds_toArray, List.set_cons_zero, List.set_cons_succ])
  (refine LexW.pure (v := ?_) rfl rfl (fun w1 he => ?_) ?_; rotate_left; ( have e1 := he.cell HS0.out; have e2 := he.cell HS1.out; have e3 := he.cell HT0.out; have e4 := he.cell HT1.out; have e5 := he.cell HC0.out; go_simp; rfl); simp only [Act.put, List.setIfInBounds_toArray, List.set_cons_zero, List.set_cons_succ])
  (refine LexW.pure (v := ?_) rfl rfl (fun w1 he => ?_) ?_; rotate_left; ( have e1 := he.cell HS0.out; have e2 := he.cell HS1.out; have e3 := he.cell HT0.out; have e4 := he.cell HT1.out; have e5 := he.cell HC0.out; go_simp; rfl); simp only [Act.put, List.setIfInBounds_toArray, List.set_cons_zero, List.set_cons_succ])
  (refine LexW.pure (v := ?_) rfl rfl (fun w1 he => ?_) ?_; rotate_left; ( have e1 := he.cell HS0.out; have e2 := he.cell HS1.out; have e3 := he.cell HT0.out; have e4 := he.cell HT1.out; have e5 := he.cell HC0.out; go_simp; rfl); simp only [Act.put, List.setIfInBounds_toArray, List.set_cons_zero, List.set_cons_succ])
  (refine LexW.pure (v := ?_) rfl rfl (fun w1 he => ?_) ?_; rotate_left; ( have e1 := he.cell HS0.out; have e2 := he.cell HS1.out; have e3 := he.cell HT0.out; have e4 := he.cell HT1.out; have e5 := he.cell HC0.out; go_simp; rfl); simp only [Act.put, List.setIfInBounds_toArray, List.set_cons_zero, List.set_cons_succ])
  (refine LexW.pure (v := ?_) rfl rfl (fun w1 he => ?_) ?_; rotate_left; ( have e1 := he.cell HS0.out; have e2 := he.cell HS1.out; have e3 := he.cell HT0.out; have e4 := he.cell HT1.out; have e5 := he.cell HC0.out; go_simp; rfl); simp only [Act.put, List.setIfInBounds_toArray, List.set_cons_zero, List.set_cons_succ])
  (refine LexW.pure (v := ?_) rfl rfl (fun w1 he => ?_) ?_; rotate_left; ( have e1 := he.cell HS0.out; have e2 := he.cell HS1.out; have e3 := he.cell HT0.out; have e4 := he.cell HT1.out; have e5 := he.cell HC0.out; go_simp; rfl); simp only [Act.put, List.setIfInBounds_toArray, List.set_cons_zero, List.set_cons_succ])
  (refine LexW.pure (v := ?_) rfl rfl (fun w1 he => ?_) ?_; rotate_left; ( have e1 := he.cell HS0.out; have e2 := he.cell HS1.out; have e3 := he.cell HT0.out; have e4 := he.cell HT1.out; have e5 := he.cell HC0.out; go_simp; rfl); simp only [Act.put, List.setIfInBounds_toArray, List.set_cons_zero, List.set_cons_succ])
  (refine LexW.pure (v := ?_) rfl rfl (fun w1 he => ?_) ?_; rotate_left; ( have e1 := he.cell HS0.out; have e2 := he.cell HS1.out; have e3 := he.cell HT0.out; have e4 := he.cell HT1.out; have e5 := he.cell HC0.out; go_simp; rfl); simp only [Act.put, List.setIfInBounds_toArray, List.set_cons_zero, List.set_cons_succ])
  (refine LexW.call (f := ?_) (args := ?_) rfl rfl (fun w1 => ?_) (fun w1 he hdep => ?_) ?_; rotate_left 2; (go_simp; refine ⟨?_, ?_⟩ <;> rfl); ( exact c_dim _ _ _ _ _); simp only [Act.put, List.setIfInBounds_toArray, List.set_cons_zero, List.set_cons_succ])
  (refine LexW.pure (v := ?_) rfl rfl (fun w1 he => ?_) ?_; rotate_left; ( have e1 := he.cell HS0.out; have e2 := he.cell HS1.out; have e3 := he.cell HT0.out; have e4 := he.cell HT1.out; have e5 := he.cell HC0.out; go_simp; rfl); simp only [Act.put, List.setIfInBounds_toArray, List.set_cons_zero, List.set_cons_succ])
  (refine LexW.pure (v := ?_) rfl rfl (fun w1 he => ?_) ?_; rotate_left; ( have e1 := he.cell HS0.out; have e2 := he.cell HS1.out; have e3 := he.cell HT0.out; have e4 := he.cell HT1.out; have e5 := he.cell HC0.out; go_simp; rfl); simp only [Act.put, List.setIfInBounds_toArray, List.set_cons_zero, List.set_cons_succ])
  (refine LexW.pure (v := ?_) rfl rfl (fun w1 he => ?_) ?_; rotate_left; ( have e1 := he.cell HS0.out; have e2 := he.cell HS1.out; have e3 := he.cell HT0.out; have e4 := he.cell HT1.out; have e5 := he.cell HC0.out; go_simp; rfl); simp only [Act.put, List.setIfInBounds_toArray, List.set_cons_zero, List.set_cons_succ])
  (refine LexW.pure (v := ?_) rfl rfl (fun w1 he => ?_) ?_; rotate_left; ( have e1 := he.cell HS0.out; have e2 := he.cell HS1.out; have e3 := he.cell HT0.out; have e4 := he.cell HT1.out; have e5 := he.cell HC0.out; go_simp; rfl); simp only [Act.put, List.setIfInBounds_toArray, List.set_cons_zero, List.set_cons_succ])
  (refine LexW.call (f := ?_) (args := ?_) rfl rfl (fun w1 => ?_) (fun w1 he hdep => ?_) ?_; rotate_left 2; (go_simp; refine ⟨?_, ?_⟩ <;> rfl); ( exact c_field p _ w1); simp only [Act.put, List.setIfInBounds_toArray, List.set_cons_zero, List.set_cons_succ])
  (refine LexW.pure (v := ?_) rfl rfl (fun w1 he => ?_) ?_; rotate_left; ( have e1 := he.cell HS0.out; have e2 := he.cell HS1.out; have e3 := he.cell HT0.out; have e4 := he.cell HT1.out; have e5 := he.cell HC0.out; go_simp; rfl); simp only [Act.put, List.setIfInBounds_toArray, List.set_cons_zero, List.set_cons_succ])
  (refine LexW.call (f := ?_) (args := ?_) rfl rfl (fun w1 => ?_) (fun w1 he hdep => ?_) ?_; rotate_left 2; (go_simp; refine ⟨?_, ?_⟩ <;> rfl); ( rw [HDT.out]; exact c_det p _ _ cm mw rows w1 HPR.out (by omega) (Nat.le_refl _) (by omega) (HX.out.ext (GW.out.trans he)) HGR.out); simp only [Act.put, List.setIfInBounds_toArray, List.set_cons_zero, List.set_cons_succ])
  (refine LexW.pure (v := ?_) rfl rfl (fun w1 he => ?_) ?_; rotate_left; ( have e1 := he.cell HS0.out; have e2 := he.cell HS1.out; have e3 := he.cell HT0.out; have e4 := he.cell HT1.out; have e5 := he.cell HC0.out; go_simp; rfl); simp only [Act.put, List.setIfInBounds_toArray, List.set_cons_zero, List.set_cons_succ])
  (refine LexW.pure (v := ?_) rfl rfl (fun w1 he => ?_) ?_; rotate_left; ( have e1 := he.cell HS0.out; have e2 := he.cell HS1.out; have e3 := he.cell HT0.out; have e4 := he.cell HT1.out; have e5 := he.cell HC0.out; go_simp; rfl); simp only [Act.put, List.setIfInBounds_toArray, List.set_cons_zero, List.set_cons_succ])
  refine LexW.nil (fun w3 he hkn => ?_)
  have HE := Lib.hid (GW.out.trans he)
  have HEX := Lib.hid he
  clear he hkn 
  clear HC0 HDT
  rename World => V
  have HS0' := Lib.hid HE.out
  clear HS0'
  go_wp2_with (fail)
  refine Calls.mono (c_transpose _ mw cm mw rows V hn0 (by omega) (by omega) (fun i hi => (HGR.out i (by rw [HLN.out]; exact hi)).1) (HX.out.ext HE.out)) ?_
  rintro e V2 ⟨g, rc, rfl, ho, x2⟩
  have HO := Lib.hid ho
  have HE2 := Lib.hid (HE.out.trans x2)
  have HB0 := Lib.hid ((HEX.out.trans x2).cell HS0.out)
  have HB1 := Lib.hid ((HEX.out.trans x2).cell HS1.out)
  have HD0 := Lib.hid ((HEX.out.trans x2).cell HT0.out)
  have HD1 := Lib.hid ((HEX.out.trans x2).cell HT1.out)
  clear ho x2
  have HCG := Lib.hid (show ∀ i, i < mw → Good p mw (nthR (turnL rows mw mw) i) from turn_goodS HGR.out HLN.out)
  go_wp2_with (fail)
  go_loopw [59] (fun x wr => ∃ (i : Nat), i ≤ mw ∧ x = .int .i64 i ∧ Hid (∀ i', i' < i → ∀ k, k < mw → isoAt p qs (turnL rows mw mw) mw i' k) ∧ Hid (Ext V2 wr)) (fun x _ => mw - (intOf x).toNat)
  case atStart => exact ⟨0, Nat.zero_le _, rfl, Lib.hid (fun i' h => by omega), Lib.hid (Ext.refl _)⟩
  case round =>
    rename World => y1
    obtain ⟨i, hi, rfl, HA, HY⟩ := hrel
    by_cases hlt : i < mw
    · obtain ⟨ai, ci, hci, hoi⟩ := HO.out.at hlt
      rw [(HCG.out i hlt).1] at hci hoi
      have hcy := HY.out.cell hci
      have HRI := Lib.hid hoi.rd
      have HCI := Lib.hid hci
      clear hci hoi
      go_wp2_with (fail)
      clear hcy
      go_loopw [66] (fun x wr => ∃ (k : Nat), k ≤ mw ∧ x = .int .i64 k ∧ Hid (∀ k', k' < k → isoAt p qs (turnL rows mw mw) mw i k') ∧ Hid (Ext V2 wr)) (fun x _ => mw - (intOf x).toNat)
      case atStart => exact ⟨0, Nat.zero_le _, rfl, Lib.hid (fun k' h => by omega), HY⟩
      case round =>
        rename World => y2
        obtain ⟨k, hk, rfl, HK, HZ⟩ := hrel
        clear HY
        by_cases hkt : k < mw
        · have hkm : k < mw := by omega
          have hcond : True := by trivial
          obtain ⟨ak, ck, hck, hok⟩ := HO.out.at hkm
          rw [(HCG.out k hkm).1] at hck hok
          have HRK := Lib.hid hok.rd
          have HCK := Lib.hid hck
          have hcy := HZ.out.cell hck
          have s0 := HZ.out.cell HB0.out
          have s1 := HZ.out.cell HB1.out
          have s2 := HZ.out.cell HD0.out
          have s3 := HZ.out.cell HD1.out
          obtain ⟨bq, oq, hba, hcq⟩ := (HQ.out.ext (HE2.out.trans HZ.out)).2 i hlt
          subst hba
          clear hck hok hcq
          have HPC := Lib.hid (fun (W : World) (h : Ext V2 W) => c_pair p (some ⟨bq, oq, none⟩) mw cap qs ai ci (nthR (turnL rows mw mw) i) ak ck (nthR (turnL rows mw mw) k) W (by omega) (by omega) (by omega) (HQ.out.ext (HE2.out.trans h)) HQB.out (HRI.out.ext h) (HCG.out i hlt) (HRK.out.ext h) (HCG.out k hkm))
          obtain ⟨pr, hpr⟩ : ∃ x, x = pairL p qs (nthR (turnL rows mw mw) i) (nthR (turnL rows mw mw) k) mw := ⟨_, rfl⟩
          rw [← hpr] at HPC
          have HPE := Lib.hid hpr
          clear hpr
          by_cases hik : i = k
          · skip
            subst hik
            have hkk : ((i : Int) == (i : Int)) = true := by simp
            have hcqi := (HQ.out.ext (HE2.out.trans HZ.out)).2 i hlt
            obtain ⟨bq', oq', hba', hcq⟩ := hcqi
            cases hba'
            have HWN := Lib.hid (show wantN qs i i = nth qs i by unfold wantN; rw [if_pos rfl])
            by_cases hok : pr = nth qs i
            · have hnb : (pr != nth qs i) = false := by simp [hok]
              have HOK := Lib.hid (show isoAt p qs (turnL rows mw mw) mw i i by unfold isoAt; rw [HWN.out, ← HPE.out]; exact hok)
              clear hok
              go_wp2_with (fail)
              refine Calls.mono (HPC.out _ HZ.out) ?_
              rintro e y3 ⟨rfl, x3⟩
              have HZ3 := Lib.hid (HZ.out.trans x3)
              clear x3
              go_wp2_with (fail)
              go_roundw
              case rel => exact ⟨i + 1, by omega, by go_num, Lib.hid (fun k' h => by
                by_cases hkk' : k' = i
                · subst hkk'; exact HOK.out
                · exact HK.out k' (by omega)), HZ3⟩
              case measure => simp [intOf] <;> omega
            · have hnb : (pr != nth qs i) = true := by simp [hok]
              have HB := Lib.hid (isoB_at (p := p) (qs := qs) (rows := rows) (i := i) (k := i) hlt hkm (by unfold isoAt; rw [HWN.out, ← HPE.out]; exact hok))
              clear hok
              go_wp2_with (fail)
              refine Calls.mono (HPC.out _ HZ.out) ?_
              rintro e y3 ⟨rfl, x3⟩
              have HZ3 := Lib.hid (HZ.out.trans x3)
              clear x3
              go_wp2_with (fail)
              go_ret
              exact ⟨ret_bool HB.out.symm, HE2.out.trans HZ3.out⟩
          · skip
            have hkk : ((i : Int) == (k : Int)) = false := by simp; omega
            have HWN := Lib.hid (show wantN qs i k = (0 : Int) by unfold wantN; rw [if_neg hik])
            by_cases hok : pr = (0 : Int)
            · have hnb : (pr != (0 : Int)) = false := by simp [hok]
              have HOK := Lib.hid (show isoAt p qs (turnL rows mw mw) mw i k by unfold isoAt; rw [HWN.out, ← HPE.out]; exact hok)
              clear hok
              go_wp2_with (fail)
              refine Calls.mono (HPC.out _ HZ.out) ?_
              rintro e y3 ⟨rfl, x3⟩
              have HZ3 := Lib.hid (HZ.out.trans x3)
              clear x3
              go_wp2_with (fail)
              go_roundw
              case rel => exact ⟨k + 1, by omega, by go_num, Lib.hid (fun k' h => by
                by_cases hkk' : k' = k
                · subst hkk'; exact HOK.out
                · exact HK.out k' (by omega)), HZ3⟩
              case measure => simp [intOf] <;> omega
            · have hnb : (pr != (0 : Int)) = true := by simp [hok]
              have HB := Lib.hid (isoB_at (p := p) (qs := qs) (rows := rows) (i := i) (k := k) hlt hkm (by unfold isoAt; rw [HWN.out, ← HPE.out]; exact hok))
              clear hok
              go_wp2_with (fail)
              refine Calls.mono (HPC.out _ HZ.out) ?_
              rintro e y3 ⟨rfl, x3⟩
              have HZ3 := Lib.hid (HZ.out.trans x3)
              clear x3
              go_wp2_with (fail)
              go_ret
              exact ⟨ret_bool HB.out.symm, HE2.out.trans HZ3.out⟩
        · have hcond : ¬ (k : Int) < (mw : Int) := by omega
          obtain rfl : k = mw := by omega
          go_wp2_with (fail)
          go_roundw
          case rel => exact ⟨i + 1, by omega, by go_num, Lib.hid (fun i' h => by
            by_cases hii : i' = i
            · subst hii; exact HK.out
            · exact HA.out i' (by omega)), HZ⟩
          case measure => simp [intOf]; omega
    · obtain rfl : i = mw := by omega
      have HB := Lib.hid (isoB_yes (p := p) HMT.out HLN.out HW0.out HDZ.out HA.out)
      go_wp2_with (fail)
      go_ret
      exact ⟨ret_bool HB.out.symm, HE2.out.trans HY.out⟩
set_option maxHeartbeats 16000000 in
set_option maxRecDepth 100000 in
theorem s_isometry (p : Int) (a : Option Addr) (d cap : Nat) (qs : List Int) (am : Option Addr) (n cm : Nat) (rows : List (List Int)) (w : World) (hs : spaceB p qs = true) (hl : n ≤ 4194304) (hr : ∀ i, i < n → (nthR rows i).length ≤ 4194304) (hq : RdC w a d qs) (hx : RdR w am n rows) :
    Calls Try.prog 98 #[.agg #[.int .i64 p, .slice a d cap], .agg #[.int .i64 p, .slice a d cap], .slice am n cm] w fun e w' => e = .returned (.bool (isoB p qs rows d)) ∧ Ext w w' := by
  obtain ⟨hpr, hd1, hd6, hqb⟩ := space_of hs
  have hpb := prime_bd hpr
  have hpz : ¬ p = 0 := by omega
  rw [hq.1] at hd1 hd6
  have HPR := Lib.hid hpr
  have HQB := Lib.hid hqb
  have HQ := Lib.hid hq
  have HX := Lib.hid hx
  have HR := Lib.hid hr
  have HLN := Lib.hid hx.1
  have hpp : (p != p) = false := by simp
  have hdd : ((d : Int) != (d : Int)) = false := by simp
  clear hs hpr hqb hq hx hr
  by_cases hnd : n ≠ d
  · have HB := Lib.hid (isoB_len (p := p) (qs := qs) (rows := rows) (d := d) (by rw [HLN.out]; exact hnd))
    have hne : ((n : Int) != (d : Int)) = true := by simp; omega
    clear hnd
    go_enter Try.func98, Try.ntmps98
    go_wp2_with (fail)
    go_ret
    exact ⟨ret_bool HB.out.symm, (ext_alloc _ _).alloc _⟩
  obtain rfl : n = d := by omega
  clear hnd
  go_enter Try.func98, Try.ntmps98
  go_wp2_with (fail)
  obtain ⟨V1, hV1⟩ : ∃ W, W = w.alloc (.cells #[.int .i64 p, .slice a n cap] 30) := ⟨_, rfl⟩
  obtain ⟨W, hW⟩ : ∃ W, W = V1.alloc (.cells #[.int .i64 p, .slice a n cap] 30) := ⟨_, rfl⟩
  have hsz : V1.heap.size = w.heap.size + 1 := by rw [hV1]; simp
  obtain ⟨O1, hO1⟩ : ∃ O, O = w.heap.size := ⟨_, rfl⟩
  obtain ⟨O2, hO2⟩ : ∃ O, O = w.heap.size + 1 := ⟨_, rfl⟩
  have hv0 : V1.cell? ⟨O1, 0, none⟩ = some (.int .i64 p) := by rw [hV1, hO1]; simp
  have hv1 : V1.cell? ⟨O1, 1, none⟩ = some (.slice a n cap) := by rw [hV1, hO1]; simp
  have gV : Ext V1 W := by rw [hW]; exact ext_alloc _ _
  have gW : Ext w W := by rw [hV1] at gV; exact (ext_alloc _ _).trans gV
  have hs0 : W.cell? ⟨O1, 0, none⟩ = some (.int .i64 p) := gV.cell hv0
  have hs1 : W.cell? ⟨O1, 1, none⟩ = some (.slice a n cap) := gV.cell hv1
  have ht0 : W.cell? ⟨O2, 0, none⟩ = some (.int .i64 p) := by rw [hW, hO2, ← hsz]; simp
  have ht1 : W.cell? ⟨O2, 1, none⟩ = some (.slice a n cap) := by rw [hW, hO2, ← hsz]; simp
  rw [← hV1, ← hW, ← hO2, ← hO1]
  have HS0 := Lib.hid hs0
  have HS1 := Lib.hid hs1
  have HT0 := Lib.hid ht0
  have HT1 := Lib.hid ht1
  have GW := Lib.hid gW
  clear hW hV1 hO1 hO2 hsz hv0 hv1 gV gW hs0 hs1 ht0 ht1
  refine Calls.mono (s_isMat p am n cm rows W HPR.out hl HR.out (HX.out.ext GW.out)) ?_
  rintro e V ⟨rfl, x1⟩
  have HEX := Lib.hid x1
  have HE := Lib.hid (GW.out.trans x1)
  clear x1
  cases hmt : matB p rows
  · have HB := Lib.hid (isoB_mat (p := p) (qs := qs) (d := n) hmt)
    clear hmt
    go_wp2_with (fail)
    go_ret
    exact ⟨ret_bool HB.out.symm, HE.out⟩
  have HMT := Lib.hid hmt
  obtain ⟨hn0, hn16, mw, hmw1, hmw16, hmg⟩ := matB_of hmt
  rw [HLN.out] at hn0 hn16
  clear hmt
  obtain ⟨bm, om, am0, cm0, rfl, hc0, hr0⟩ := HX.out.2 0 hn0
  rw [Nat.add_zero] at hc0
  have HC0 := Lib.hid (HE.out.cell hc0)
  have HW0 := Lib.hid ((hmg 0 (by rw [HLN.out]; exact hn0)).1)
  rw [HW0.out] at HC0
  clear hc0 hr0
  have e5 := HC0.out
  have s0 := HEX.out.cell HS0.out
  by_cases hwd : mw ≠ n
  · have HB := Lib.hid (isoB_wid (p := p) (qs := qs) (rows := rows) (d := n) (by rw [HW0.out]; exact hwd))
    have hne : ((mw : Int) != (n : Int)) = true := by simp; omega
    clear hmg hwd
    go_wp2_with (fail)
    go_ret
    exact ⟨ret_bool HB.out.symm, HE.out⟩
  obtain rfl : mw = n := by omega
  clear hwd
  have HGR := Lib.hid (show RowsG p mw rows from fun i hi => hmg i hi)
  clear hmg
  go_wp2_with (fail)
  refine Calls.mono (s_det p _ mw cm mw rows V HPR.out hn0 (Nat.le_refl _) (by omega) (HX.out.ext HE.out) HGR.out) ?_
  rintro e V0 ⟨rfl, x1⟩
  replace HEX := Lib.hid (HEX.out.trans x1)
  replace HE := Lib.hid (HE.out.trans x1)
  clear x1 e5 s0 HC0
  by_cases hdz : detL p mw rows = 0
  · have HB := Lib.hid (isoB_det (qs := qs) hdz)
    rw [hdz]
    clear hdz
    go_wp2_with (fail)
    go_ret
    exact ⟨ret_bool HB.out.symm, HE.out⟩
  have HDZ := Lib.hid hdz
  obtain ⟨dt, hdt⟩ : ∃ x, x = detL p mw rows := ⟨_, rfl⟩
  have hdn : (dt == 0) = false := by rw [hdt]; simp [hdz]
  rw [← hdt]
  clear hdz hdt
  go_wp2_with (fail)
  refine Calls.mono (s_turn _ mw cm mw rows V0 hn0 (by omega) (by omega) (fun i hi => (HGR.out i (by rw [HLN.out]; exact hi)).1) (HX.out.ext HE.out)) ?_
  rintro e V2 ⟨g, rc, rfl, ho, x2⟩
  have HO := Lib.hid ho
  have HE2 := Lib.hid (HE.out.trans x2)
  have HB0 := Lib.hid ((HEX.out.trans x2).cell HS0.out)
  have HB1 := Lib.hid ((HEX.out.trans x2).cell HS1.out)
  have HD0 := Lib.hid ((HEX.out.trans x2).cell HT0.out)
  have HD1 := Lib.hid ((HEX.out.trans x2).cell HT1.out)
  clear ho x2
  have HCG := Lib.hid (show ∀ i, i < mw → Good p mw (nthR (turnL rows mw mw) i) from turn_goodS HGR.out HLN.out)
  go_wp2_with (fail)
  go_loopw [9] (fun x wr => ∃ (i : Nat), i ≤ mw ∧ x = .int .i64 i ∧ Hid (∀ i', i' < i → ∀ k, k < i' + 1 → isoAt p qs (turnL rows mw mw) mw i' k) ∧ Hid (Ext V2 wr)) (fun x _ => mw - (intOf x).toNat)
  case atStart => exact ⟨0, Nat.zero_le _, rfl, Lib.hid (fun i' h => by omega), Lib.hid (Ext.refl _)⟩
  case round =>
    rename World => y1
    obtain ⟨i, hi, rfl, HA, HY⟩ := hrel
    by_cases hlt : i < mw
    · obtain ⟨ai, ci, hci, hoi⟩ := HO.out.at hlt
      rw [(HCG.out i hlt).1] at hci hoi
      have hcy := HY.out.cell hci
      have HRI := Lib.hid hoi.rd
      have HCI := Lib.hid hci
      clear hci hoi
      go_wp2_with (fail)
      clear hcy
      go_loopw [10] (fun x wr => ∃ (k : Nat), k ≤ i + 1 ∧ x = .int .i64 k ∧ Hid (∀ k', k' < k → isoAt p qs (turnL rows mw mw) mw i k') ∧ Hid (Ext V2 wr)) (fun x _ => i + 1 - (intOf x).toNat)
      case atStart => exact ⟨0, Nat.zero_le _, rfl, Lib.hid (fun k' h => by omega), HY⟩
      case round =>
        rename World => y2
        obtain ⟨k, hk, rfl, HK, HZ⟩ := hrel
        clear HY
        by_cases hkt : k < i + 1
        · have hkm : k < mw := by omega
          have hcond : (k : Int) ≤ (i : Int) := by omega
          obtain ⟨ak, ck, hck, hok⟩ := HO.out.at hkm
          rw [(HCG.out k hkm).1] at hck hok
          have HRK := Lib.hid hok.rd
          have HCK := Lib.hid hck
          have hcy := HZ.out.cell hck
          have s0 := HZ.out.cell HB0.out
          have s1 := HZ.out.cell HB1.out
          have s2 := HZ.out.cell HD0.out
          have s3 := HZ.out.cell HD1.out
          obtain ⟨bq, oq, hba, hcq⟩ := (HQ.out.ext (HE2.out.trans HZ.out)).2 i hlt
          subst hba
          clear hck hok hcq
          have HPC := Lib.hid (fun (W : World) (h : Ext V2 W) => s_pair p (some ⟨bq, oq, none⟩) mw cap qs ai ci (nthR (turnL rows mw mw) i) ak ck (nthR (turnL rows mw mw) k) W (by omega) (by omega) (by omega) (HQ.out.ext (HE2.out.trans h)) HQB.out (HRI.out.ext h) (HCG.out i hlt) (HRK.out.ext h) (HCG.out k hkm))
          obtain ⟨pr, hpr⟩ : ∃ x, x = pairL p qs (nthR (turnL rows mw mw) i) (nthR (turnL rows mw mw) k) mw := ⟨_, rfl⟩
          rw [← hpr] at HPC
          have HPE := Lib.hid hpr
          clear hpr
          by_cases hik : i = k
          · skip
            subst hik
            have hkk : ((i : Int) == (i : Int)) = true := by simp
            have hcqi := (HQ.out.ext (HE2.out.trans HZ.out)).2 i hlt
            obtain ⟨bq', oq', hba', hcq⟩ := hcqi
            cases hba'
            clear HPC HCK HRK hcy
            have hcy := HZ.out.cell HCI.out
            have HPC := Lib.hid (fun (W : World) (h : Ext V2 W) => s_pair p (some ⟨bq, oq, none⟩) mw cap qs ai ci (nthR (turnL rows mw mw) i) ai ci (nthR (turnL rows mw mw) i) W (by omega) (by omega) (by omega) (HQ.out.ext (HE2.out.trans h)) HQB.out (HRI.out.ext h) (HCG.out i hlt) (HRI.out.ext h) (HCG.out i hlt))
            rw [← HPE.out] at HPC
            have HWN := Lib.hid (show wantN qs i i = nth qs i by unfold wantN; rw [if_pos rfl])
            by_cases hok : pr = nth qs i
            · have hnb : (pr != nth qs i) = false := by simp [hok]
              have HOK := Lib.hid (show isoAt p qs (turnL rows mw mw) mw i i by unfold isoAt; rw [HWN.out, ← HPE.out]; exact hok)
              clear hok
              go_wp2_with (fail)
              refine wp_region_lex [(9, .val (.int .i64 pr))] (by kernel_rfl) (by kernel_rfl) ?_
              (refine LexW.pure (v := ?_) rfl rfl (fun w1 he => ?_) ?_; rotate_left; ( have c1 := (((HZ.out.trans (ext_drew _)).trans he)).cell HCI.out; have c2 := (((HZ.out.trans (ext_drew _)).trans he)).cell HCI.out; have c3 := ((HZ.out.trans (ext_drew _)).trans he).cell HD0.out; have c4 := ((HZ.out.trans (ext_drew _)).trans he).cell HD1.out; go_simp; rfl); simp only [Act.put, List.setIfInBounds_toArray, List.set_cons_zero, List.set_cons_succ])
              (refine LexW.pure (v := ?_) rfl rfl (fun w1 he => ?_) ?_; rotate_left; ( have c1 := (((HZ.out.trans (ext_drew _)).trans he)).cell HCI.out; have c2 := (((HZ.out.trans (ext_drew _)).trans he)).cell HCI.out; have c3 := ((HZ.out.trans (ext_drew _)).trans he).cell HD0.out; have c4 := ((HZ.out.trans (ext_drew _)).trans he).cell HD1.out; go_simp; rfl); simp only [Act.put, List.setIfInBounds_toArray, List.set_cons_zero, List.set_cons_succ])
              (refine LexW.pure (v := ?_) rfl rfl (fun w1 he => ?_) ?_; rotate_left; ( have c1 := (((HZ.out.trans (ext_drew _)).trans he)).cell HCI.out; have c2 := (((HZ.out.trans (ext_drew _)).trans he)).cell HCI.out; have c3 := ((HZ.out.trans (ext_drew _)).trans he).cell HD0.out; have c4 := ((HZ.out.trans (ext_drew _)).trans he).cell HD1.out; go_simp; rfl); simp only [Act.put, List.setIfInBounds_toArray, List.set_cons_zero, List.set_cons_succ])
              (refine LexW.pure (v := ?_) rfl rfl (fun w1 he => ?_) ?_; rotate_left; ( have c1 := (((HZ.out.trans (ext_drew _)).trans he)).cell HCI.out; have c2 := (((HZ.out.trans (ext_drew _)).trans he)).cell HCI.out; have c3 := ((HZ.out.trans (ext_drew _)).trans he).cell HD0.out; have c4 := ((HZ.out.trans (ext_drew _)).trans he).cell HD1.out; go_simp; rfl); simp only [Act.put, List.setIfInBounds_toArray, List.set_cons_zero, List.set_cons_succ])
              (refine LexW.pure (v := ?_) rfl rfl (fun w1 he => ?_) ?_; rotate_left; ( have c1 := (((HZ.out.trans (ext_drew _)).trans he)).cell HCI.out; have c2 := (((HZ.out.trans (ext_drew _)).trans he)).cell HCI.out; have c3 := ((HZ.out.trans (ext_drew _)).trans he).cell HD0.out; have c4 := ((HZ.out.trans (ext_drew _)).trans he).cell HD1.out; go_simp; rfl); simp only [Act.put, List.setIfInBounds_toArray, List.set_cons_zero, List.set_cons_succ])
              (refine LexW.pure (v := ?_) rfl rfl (fun w1 he => ?_) ?_; rotate_left; ( have c1 := (((HZ.out.trans (ext_drew _)).trans he)).cell HCI.out; have c2 := (((HZ.out.trans (ext_drew _)).trans he)).cell HCI.out; have c3 := ((HZ.out.trans (ext_drew _)).trans he).cell HD0.out; have c4 := ((HZ.out.trans (ext_drew _)).trans he).cell HD1.out; go_simp; rfl); simp only [Act.put, List.setIfInBounds_toArray, List.set_cons_zero, List.set_cons_succ])
              (refine LexW.pure (v := ?_) rfl rfl (fun w1 he => ?_) ?_; rotate_left; ( have c1 := (((HZ.out.trans (ext_drew _)).trans he)).cell HCI.out; have c2 := (((HZ.out.trans (ext_drew _)).trans he)).cell HCI.out; have c3 := ((HZ.out.trans (ext_drew _)).trans he).cell HD0.out; have c4 := ((HZ.out.trans (ext_drew _)).trans he).cell HD1.out; go_simp; rfl); simp only [Act.put, List.setIfInBounds_toArray, List.set_cons_zero, List.set_cons_succ])
              (refine LexW.pure (v := ?_) rfl rfl (fun w1 he => ?_) ?_; rotate_left; ( have c1 := (((HZ.out.trans (ext_drew _)).trans he)).cell HCI.out; have c2 := (((HZ.out.trans (ext_drew _)).trans he)).cell HCI.out; have c3 := ((HZ.out.trans (ext_drew _)).trans he).cell HD0.out; have c4 := ((HZ.out.trans (ext_drew _)).trans he).cell HD1.out; go_simp; rfl); simp only [Act.put, List.setIfInBounds_toArray, List.set_cons_zero, List.set_cons_succ])
              (refine LexW.pure (v := ?_) rfl rfl (fun w1 he => ?_) ?_; rotate_left; ( have c1 := (((HZ.out.trans (ext_drew _)).trans he)).cell HCI.out; have c2 := (((HZ.out.trans (ext_drew _)).trans he)).cell HCI.out; have c3 := ((HZ.out.trans (ext_drew _)).trans he).cell HD0.out; have c4 := ((HZ.out.trans (ext_drew _)).trans he).cell HD1.out; go_simp; rfl); simp only [Act.put, List.setIfInBounds_toArray, List.set_cons_zero, List.set_cons_succ])
              (refine LexW.call (f := ?_) (args := ?_) rfl rfl (fun w1 => ?_) (fun w1 he hdep => ?_) ?_; rotate_left 2; (go_simp; refine ⟨?_, ?_⟩ <;> rfl); ( exact HPC.out _ ((HZ.out.trans (ext_drew _)).trans he)); simp only [Act.put, List.setIfInBounds_toArray, List.set_cons_zero, List.set_cons_succ])
              (refine LexW.pure (v := ?_) rfl rfl (fun w1 he => ?_) ?_; rotate_left; ( have c1 := (((HZ.out.trans (ext_drew _)).trans he)).cell HCI.out; have c2 := (((HZ.out.trans (ext_drew _)).trans he)).cell HCI.out; have c3 := ((HZ.out.trans (ext_drew _)).trans he).cell HD0.out; have c4 := ((HZ.out.trans (ext_drew _)).trans he).cell HD1.out; go_simp; rfl); simp only [Act.put, List.setIfInBounds_toArray, List.set_cons_zero, List.set_cons_succ])
              (refine LexW.pure (v := ?_) rfl rfl (fun w1 he => ?_) ?_; rotate_left; ( have c1 := (((HZ.out.trans (ext_drew _)).trans he)).cell HCI.out; have c2 := (((HZ.out.trans (ext_drew _)).trans he)).cell HCI.out; have c3 := ((HZ.out.trans (ext_drew _)).trans he).cell HD0.out; have c4 := ((HZ.out.trans (ext_drew _)).trans he).cell HD1.out; go_simp; rfl); simp only [Act.put, List.setIfInBounds_toArray, List.set_cons_zero, List.set_cons_succ])
              refine LexW.nil (fun w3 he hkn => ?_)
              have HZ3 := Lib.hid ((HZ.out.trans (ext_drew _)).trans he)
              clear he hkn 
              go_wp2_with (fail)
              go_roundw
              case rel => exact ⟨i + 1, by omega, by go_num, Lib.hid (fun k' h => by
                by_cases hkk' : k' = i
                · subst hkk'; exact HOK.out
                · exact HK.out k' (by omega)), HZ3⟩
              case measure => simp [intOf] <;> omega
            · have hnb : (pr != nth qs i) = true := by simp [hok]
              have HB := Lib.hid (isoB_at (p := p) (qs := qs) (rows := rows) (i := i) (k := i) hlt hkm (by unfold isoAt; rw [HWN.out, ← HPE.out]; exact hok))
              clear hok
              go_wp2_with (fail)
              refine wp_region_lex [(9, .val (.int .i64 pr))] (by kernel_rfl) (by kernel_rfl) ?_
              (refine LexW.pure (v := ?_) rfl rfl (fun w1 he => ?_) ?_; rotate_left; ( have c1 := (((HZ.out.trans (ext_drew _)).trans he)).cell HCI.out; have c2 := (((HZ.out.trans (ext_drew _)).trans he)).cell HCI.out; have c3 := ((HZ.out.trans (ext_drew _)).trans he).cell HD0.out; have c4 := ((HZ.out.trans (ext_drew _)).trans he).cell HD1.out; go_simp; rfl); simp only [Act.put, List.setIfInBounds_toArray, List.set_cons_zero, List.set_cons_succ])
              (refine LexW.pure (v := ?_) rfl rfl (fun w1 he => ?_) ?_; rotate_left; ( have c1 := (((HZ.out.trans (ext_drew _)).trans he)).cell HCI.out; have c2 := (((HZ.out.trans (ext_drew _)).trans he)).cell HCI.out; have c3 := ((HZ.out.trans (ext_drew _)).trans he).cell HD0.out; have c4 := ((HZ.out.trans (ext_drew _)).trans he).cell HD1.out; go_simp; rfl); simp only [Act.put, List.setIfInBounds_toArray, List.set_cons_zero, List.set_cons_succ])
              (refine LexW.pure (v := ?_) rfl rfl (fun w1 he => ?_) ?_; rotate_left; ( have c1 := (((HZ.out.trans (ext_drew _)).trans he)).cell HCI.out; have c2 := (((HZ.out.trans (ext_drew _)).trans he)).cell HCI.out; have c3 := ((HZ.out.trans (ext_drew _)).trans he).cell HD0.out; have c4 := ((HZ.out.trans (ext_drew _)).trans he).cell HD1.out; go_simp; rfl); simp only [Act.put, List.setIfInBounds_toArray, List.set_cons_zero, List.set_cons_succ])
              (refine LexW.pure (v := ?_) rfl rfl (fun w1 he => ?_) ?_; rotate_left; ( have c1 := (((HZ.out.trans (ext_drew _)).trans he)).cell HCI.out; have c2 := (((HZ.out.trans (ext_drew _)).trans he)).cell HCI.out; have c3 := ((HZ.out.trans (ext_drew _)).trans he).cell HD0.out; have c4 := ((HZ.out.trans (ext_drew _)).trans he).cell HD1.out; go_simp; rfl); simp only [Act.put, List.setIfInBounds_toArray, List.set_cons_zero, List.set_cons_succ])
              (refine LexW.pure (v := ?_) rfl rfl (fun w1 he => ?_) ?_; rotate_left; ( have c1 := (((HZ.out.trans (ext_drew _)).trans he)).cell HCI.out; have c2 := (((HZ.out.trans (ext_drew _)).trans he)).cell HCI.out; have c3 := ((HZ.out.trans (ext_drew _)).trans he).cell HD0.out; have c4 := ((HZ.out.trans (ext_drew _)).trans he).cell HD1.out; go_simp; rfl); simp only [Act.put, List.setIfInBounds_toArray, List.set_cons_zero, List.set_cons_succ])
              (refine LexW.pure (v := ?_) rfl rfl (fun w1 he => ?_) ?_; rotate_left; ( have c1 := (((HZ.out.trans (ext_drew _)).trans he)).cell HCI.out; have c2 := (((HZ.out.trans (ext_drew _)).trans he)).cell HCI.out; have c3 := ((HZ.out.trans (ext_drew _)).trans he).cell HD0.out; have c4 := ((HZ.out.trans (ext_drew _)).trans he).cell HD1.out; go_simp; rfl); simp only [Act.put, List.setIfInBounds_toArray, List.set_cons_zero, List.set_cons_succ])
              (refine LexW.pure (v := ?_) rfl rfl (fun w1 he => ?_) ?_; rotate_left; ( have c1 := (((HZ.out.trans (ext_drew _)).trans he)).cell HCI.out; have c2 := (((HZ.out.trans (ext_drew _)).trans he)).cell HCI.out; have c3 := ((HZ.out.trans (ext_drew _)).trans he).cell HD0.out; have c4 := ((HZ.out.trans (ext_drew _)).trans he).cell HD1.out; go_simp; rfl); simp only [Act.put, List.setIfInBounds_toArray, List.set_cons_zero, List.set_cons_succ])
              (refine LexW.pure (v := ?_) rfl rfl (fun w1 he => ?_) ?_; rotate_left; ( have c1 := (((HZ.out.trans (ext_drew _)).trans he)).cell HCI.out; have c2 := (((HZ.out.trans (ext_drew _)).trans he)).cell HCI.out; have c3 := ((HZ.out.trans (ext_drew _)).trans he).cell HD0.out; have c4 := ((HZ.out.trans (ext_drew _)).trans he).cell HD1.out; go_simp; rfl); simp only [Act.put, List.setIfInBounds_toArray, List.set_cons_zero, List.set_cons_succ])
              (refine LexW.pure (v := ?_) rfl rfl (fun w1 he => ?_) ?_; rotate_left; ( have c1 := (((HZ.out.trans (ext_drew _)).trans he)).cell HCI.out; have c2 := (((HZ.out.trans (ext_drew _)).trans he)).cell HCI.out; have c3 := ((HZ.out.trans (ext_drew _)).trans he).cell HD0.out; have c4 := ((HZ.out.trans (ext_drew _)).trans he).cell HD1.out; go_simp; rfl); simp only [Act.put, List.setIfInBounds_toArray, List.set_cons_zero, List.set_cons_succ])
              (refine LexW.call (f := ?_) (args := ?_) rfl rfl (fun w1 => ?_) (fun w1 he hdep => ?_) ?_; rotate_left 2; (go_simp; refine ⟨?_, ?_⟩ <;> rfl); ( exact HPC.out _ ((HZ.out.trans (ext_drew _)).trans he)); simp only [Act.put, List.setIfInBounds_toArray, List.set_cons_zero, List.set_cons_succ])
              (refine LexW.pure (v := ?_) rfl rfl (fun w1 he => ?_) ?_; rotate_left; ( have c1 := (((HZ.out.trans (ext_drew _)).trans he)).cell HCI.out; have c2 := (((HZ.out.trans (ext_drew _)).trans he)).cell HCI.out; have c3 := ((HZ.out.trans (ext_drew _)).trans he).cell HD0.out; have c4 := ((HZ.out.trans (ext_drew _)).trans he).cell HD1.out; go_simp; rfl); simp only [Act.put, List.setIfInBounds_toArray, List.set_cons_zero, List.set_cons_succ])
              (refine LexW.pure (v := ?_) rfl rfl (fun w1 he => ?_) ?_; rotate_left; ( have c1 := (((HZ.out.trans (ext_drew _)).trans he)).cell HCI.out; have c2 := (((HZ.out.trans (ext_drew _)).trans he)).cell HCI.out; have c3 := ((HZ.out.trans (ext_drew _)).trans he).cell HD0.out; have c4 := ((HZ.out.trans (ext_drew _)).trans he).cell HD1.out; go_simp; rfl); simp only [Act.put, List.setIfInBounds_toArray, List.set_cons_zero, List.set_cons_succ])
              refine LexW.nil (fun w3 he hkn => ?_)
              have HZ3 := Lib.hid ((HZ.out.trans (ext_drew _)).trans he)
              clear he hkn 
              go_wp2_with (fail)
              go_ret
              exact ⟨ret_bool HB.out.symm, HE2.out.trans HZ3.out⟩
          · skip
            have hkk : ((i : Int) == (k : Int)) = false := by simp; omega
            have HWN := Lib.hid (show wantN qs i k = (0 : Int) by unfold wantN; rw [if_neg hik])
            by_cases hok : pr = (0 : Int)
            · have hnb : (pr != (0 : Int)) = false := by simp [hok]
              have HOK := Lib.hid (show isoAt p qs (turnL rows mw mw) mw i k by unfold isoAt; rw [HWN.out, ← HPE.out]; exact hok)
              clear hok
              go_wp2_with (fail)
              refine wp_region_lex [(9, .val (.int .i64 pr))] (by kernel_rfl) (by kernel_rfl) ?_
              (refine LexW.pure (v := ?_) rfl rfl (fun w1 he => ?_) ?_; rotate_left; ( have c1 := (((HZ.out.trans (ext_drew _)).trans he)).cell HCI.out; have c2 := (((HZ.out.trans (ext_drew _)).trans he)).cell HCK.out; have c3 := ((HZ.out.trans (ext_drew _)).trans he).cell HD0.out; have c4 := ((HZ.out.trans (ext_drew _)).trans he).cell HD1.out; go_simp; rfl); simp only [Act.put, List.setIfInBounds_toArray, List.set_cons_zero, List.set_cons_succ])
              (refine LexW.pure (v := ?_) rfl rfl (fun w1 he => ?_) ?_; rotate_left; ( have c1 := (((HZ.out.trans (ext_drew _)).trans he)).cell HCI.out; have c2 := (((HZ.out.trans (ext_drew _)).trans he)).cell HCK.out; have c3 := ((HZ.out.trans (ext_drew _)).trans he).cell HD0.out; have c4 := ((HZ.out.trans (ext_drew _)).trans he).cell HD1.out; go_simp; rfl); simp only [Act.put, List.setIfInBounds_toArray, List.set_cons_zero, List.set_cons_succ])
              (refine LexW.pure (v := ?_) rfl rfl (fun w1 he => ?_) ?_; rotate_left; ( have c1 := (((HZ.out.trans (ext_drew _)).trans he)).cell HCI.out; have c2 := (((HZ.out.trans (ext_drew _)).trans he)).cell HCK.out; have c3 := ((HZ.out.trans (ext_drew _)).trans he).cell HD0.out; have c4 := ((HZ.out.trans (ext_drew _)).trans he).cell HD1.out; go_simp; rfl); simp only [Act.put, List.setIfInBounds_toArray, List.set_cons_zero, List.set_cons_succ])
              (refine LexW.pure (v := ?_) rfl rfl (fun w1 he => ?_) ?_; rotate_left; ( have c1 := (((HZ.out.trans (ext_drew _)).trans he)).cell HCI.out; have c2 := (((HZ.out.trans (ext_drew _)).trans he)).cell HCK.out; have c3 := ((HZ.out.trans (ext_drew _)).trans he).cell HD0.out; have c4 := ((HZ.out.trans (ext_drew _)).trans he).cell HD1.out; go_simp; rfl); simp only [Act.put, List.setIfInBounds_toArray, List.set_cons_zero, List.set_cons_succ])
              (refine LexW.pure (v := ?_) rfl rfl (fun w1 he => ?_) ?_; rotate_left; ( have c1 := (((HZ.out.trans (ext_drew _)).trans he)).cell HCI.out; have c2 := (((HZ.out.trans (ext_drew _)).trans he)).cell HCK.out; have c3 := ((HZ.out.trans (ext_drew _)).trans he).cell HD0.out; have c4 := ((HZ.out.trans (ext_drew _)).trans he).cell HD1.out; go_simp; rfl); simp only [Act.put, List.setIfInBounds_toArray, List.set_cons_zero, List.set_cons_succ])
              (refine LexW.pure (v := ?_) rfl rfl (fun w1 he => ?_) ?_; rotate_left; ( have c1 := (((HZ.out.trans (ext_drew _)).trans he)).cell HCI.out; have c2 := (((HZ.out.trans (ext_drew _)).trans he)).cell HCK.out; have c3 := ((HZ.out.trans (ext_drew _)).trans he).cell HD0.out; have c4 := ((HZ.out.trans (ext_drew _)).trans he).cell HD1.out; go_simp; rfl); simp only [Act.put, List.setIfInBounds_toArray, List.set_cons_zero, List.set_cons_succ])
              (refine LexW.pure (v := ?_) rfl rfl (fun w1 he => ?_) ?_; rotate_left; ( have c1 := (((HZ.out.trans (ext_drew _)).trans he)).cell HCI.out; have c2 := (((HZ.out.trans (ext_drew _)).trans he)).cell HCK.out; have c3 := ((HZ.out.trans (ext_drew _)).trans he).cell HD0.out; have c4 := ((HZ.out.trans (ext_drew _)).trans he).cell HD1.out; go_simp; rfl); simp only [Act.put, List.setIfInBounds_toArray, List.set_cons_zero, List.set_cons_succ])
              (refine LexW.pure (v := ?_) rfl rfl (fun w1 he => ?_) ?_; rotate_left; ( have c1 := (((HZ.out.trans (ext_drew _)).trans he)).cell HCI.out; have c2 := (((HZ.out.trans (ext_drew _)).trans he)).cell HCK.out; have c3 := ((HZ.out.trans (ext_drew _)).trans he).cell HD0.out; have c4 := ((HZ.out.trans (ext_drew _)).trans he).cell HD1.out; go_simp; rfl); simp only [Act.put, List.setIfInBounds_toArray, List.set_cons_zero, List.set_cons_succ])
              (refine LexW.pure (v := ?_) rfl rfl (fun w1 he => ?_) ?_; rotate_left; ( have c1 := (((HZ.out.trans (ext_drew _)).trans he)).cell HCI.out; have c2 := (((HZ.out.trans (ext_drew _)).trans he)).cell HCK.out; have c3 := ((HZ.out.trans (ext_drew _)).trans he).cell HD0.out; have c4 := ((HZ.out.trans (ext_drew _)).trans he).cell HD1.out; go_simp; rfl); simp only [Act.put, List.setIfInBounds_toArray, List.set_cons_zero, List.set_cons_succ])
              (refine LexW.call (f := ?_) (args := ?_) rfl rfl (fun w1 => ?_) (fun w1 he hdep => ?_) ?_; rotate_left 2; (go_simp; refine ⟨?_, ?_⟩ <;> rfl); ( exact HPC.out _ ((HZ.out.trans (ext_drew _)).trans he)); simp only [Act.put, List.setIfInBounds_toArray, List.set_cons_zero, List.set_cons_succ])
              (refine LexW.pure (v := ?_) rfl rfl (fun w1 he => ?_) ?_; rotate_left; ( have c1 := (((HZ.out.trans (ext_drew _)).trans he)).cell HCI.out; have c2 := (((HZ.out.trans (ext_drew _)).trans he)).cell HCK.out; have c3 := ((HZ.out.trans (ext_drew _)).trans he).cell HD0.out; have c4 := ((HZ.out.trans (ext_drew _)).trans he).cell HD1.out; go_simp; rfl); simp only [Act.put, List.setIfInBounds_toArray, List.set_cons_zero, List.set_cons_succ])
              (refine LexW.pure (v := ?_) rfl rfl (fun w1 he => ?_) ?_; rotate_left; ( have c1 := (((HZ.out.trans (ext_drew _)).trans he)).cell HCI.out; have c2 := (((HZ.out.trans (ext_drew _)).trans he)).cell HCK.out; have c3 := ((HZ.out.trans (ext_drew _)).trans he).cell HD0.out; have c4 := ((HZ.out.trans (ext_drew _)).trans he).cell HD1.out; go_simp; rfl); simp only [Act.put, List.setIfInBounds_toArray, List.set_cons_zero, List.set_cons_succ])
              refine LexW.nil (fun w3 he hkn => ?_)
              have HZ3 := Lib.hid ((HZ.out.trans (ext_drew _)).trans he)
              clear he hkn 
              go_wp2_with (fail)
              go_roundw
              case rel => exact ⟨k + 1, by omega, by go_num, Lib.hid (fun k' h => by
                by_cases hkk' : k' = k
                · subst hkk'; exact HOK.out
                · exact HK.out k' (by omega)), HZ3⟩
              case measure => simp [intOf] <;> omega
            · have hnb : (pr != (0 : Int)) = true := by simp [hok]
              have HB := Lib.hid (isoB_at (p := p) (qs := qs) (rows := rows) (i := i) (k := k) hlt hkm (by unfold isoAt; rw [HWN.out, ← HPE.out]; exact hok))
              clear hok
              go_wp2_with (fail)
              refine wp_region_lex [(9, .val (.int .i64 pr))] (by kernel_rfl) (by kernel_rfl) ?_
              (refine LexW.pure (v := ?_) rfl rfl (fun w1 he => ?_) ?_; rotate_left; ( have c1 := (((HZ.out.trans (ext_drew _)).trans he)).cell HCI.out; have c2 := (((HZ.out.trans (ext_drew _)).trans he)).cell HCK.out; have c3 := ((HZ.out.trans (ext_drew _)).trans he).cell HD0.out; have c4 := ((HZ.out.trans (ext_drew _)).trans he).cell HD1.out; go_simp; rfl); simp only [Act.put, List.setIfInBounds_toArray, List.set_cons_zero, List.set_cons_succ])
              (refine LexW.pure (v := ?_) rfl rfl (fun w1 he => ?_) ?_; rotate_left; ( have c1 := (((HZ.out.trans (ext_drew _)).trans he)).cell HCI.out; have c2 := (((HZ.out.trans (ext_drew _)).trans he)).cell HCK.out; have c3 := ((HZ.out.trans (ext_drew _)).trans he).cell HD0.out; have c4 := ((HZ.out.trans (ext_drew _)).trans he).cell HD1.out; go_simp; rfl); simp only [Act.put, List.setIfInBounds_toArray, List.set_cons_zero, List.set_cons_succ])
              (refine LexW.pure (v := ?_) rfl rfl (fun w1 he => ?_) ?_; rotate_left; ( have c1 := (((HZ.out.trans (ext_drew _)).trans he)).cell HCI.out; have c2 := (((HZ.out.trans (ext_drew _)).trans he)).cell HCK.out; have c3 := ((HZ.out.trans (ext_drew _)).trans he).cell HD0.out; have c4 := ((HZ.out.trans (ext_drew _)).trans he).cell HD1.out; go_simp; rfl); simp only [Act.put, List.setIfInBounds_toArray, List.set_cons_zero, List.set_cons_succ])
              (refine LexW.pure (v := ?_) rfl rfl (fun w1 he => ?_) ?_; rotate_left; ( have c1 := (((HZ.out.trans (ext_drew _)).trans he)).cell HCI.out; have c2 := (((HZ.out.trans (ext_drew _)).trans he)).cell HCK.out; have c3 := ((HZ.out.trans (ext_drew _)).trans he).cell HD0.out; have c4 := ((HZ.out.trans (ext_drew _)).trans he).cell HD1.out; go_simp; rfl); simp only [Act.put, List.setIfInBounds_toArray, List.set_cons_zero, List.set_cons_succ])
              (refine LexW.pure (v := ?_) rfl rfl (fun w1 he => ?_) ?_; rotate_left; ( have c1 := (((HZ.out.trans (ext_drew _)).trans he)).cell HCI.out; have c2 := (((HZ.out.trans (ext_drew _)).trans he)).cell HCK.out; have c3 := ((HZ.out.trans (ext_drew _)).trans he).cell HD0.out; have c4 := ((HZ.out.trans (ext_drew _)).trans he).cell HD1.out; go_simp; rfl); simp only [Act.put, List.setIfInBounds_toArray, List.set_cons_zero, List.set_cons_succ])
              (refine LexW.pure (v := ?_) rfl rfl (fun w1 he => ?_) ?_; rotate_left; ( have c1 := (((HZ.out.trans (ext_drew _)).trans he)).cell HCI.out; have c2 := (((HZ.out.trans (ext_drew _)).trans he)).cell HCK.out; have c3 := ((HZ.out.trans (ext_drew _)).trans he).cell HD0.out; have c4 := ((HZ.out.trans (ext_drew _)).trans he).cell HD1.out; go_simp; rfl); simp only [Act.put, List.setIfInBounds_toArray, List.set_cons_zero, List.set_cons_succ])
              (refine LexW.pure (v := ?_) rfl rfl (fun w1 he => ?_) ?_; rotate_left; ( have c1 := (((HZ.out.trans (ext_drew _)).trans he)).cell HCI.out; have c2 := (((HZ.out.trans (ext_drew _)).trans he)).cell HCK.out; have c3 := ((HZ.out.trans (ext_drew _)).trans he).cell HD0.out; have c4 := ((HZ.out.trans (ext_drew _)).trans he).cell HD1.out; go_simp; rfl); simp only [Act.put, List.setIfInBounds_toArray, List.set_cons_zero, List.set_cons_succ])
              (refine LexW.pure (v := ?_) rfl rfl (fun w1 he => ?_) ?_; rotate_left; ( have c1 := (((HZ.out.trans (ext_drew _)).trans he)).cell HCI.out; have c2 := (((HZ.out.trans (ext_drew _)).trans he)).cell HCK.out; have c3 := ((HZ.out.trans (ext_drew _)).trans he).cell HD0.out; have c4 := ((HZ.out.trans (ext_drew _)).trans he).cell HD1.out; go_simp; rfl); simp only [Act.put, List.setIfInBounds_toArray, List.set_cons_zero, List.set_cons_succ])
              (refine LexW.pure (v := ?_) rfl rfl (fun w1 he => ?_) ?_; rotate_left; ( have c1 := (((HZ.out.trans (ext_drew _)).trans he)).cell HCI.out; have c2 := (((HZ.out.trans (ext_drew _)).trans he)).cell HCK.out; have c3 := ((HZ.out.trans (ext_drew _)).trans he).cell HD0.out; have c4 := ((HZ.out.trans (ext_drew _)).trans he).cell HD1.out; go_simp; rfl); simp only [Act.put, List.setIfInBounds_toArray, List.set_cons_zero, List.set_cons_succ])
              (refine LexW.call (f := ?_) (args := ?_) rfl rfl (fun w1 => ?_) (fun w1 he hdep => ?_) ?_; rotate_left 2; (go_simp; refine ⟨?_, ?_⟩ <;> rfl); ( exact HPC.out _ ((HZ.out.trans (ext_drew _)).trans he)); simp only [Act.put, List.setIfInBounds_toArray, List.set_cons_zero, List.set_cons_succ])
              (refine LexW.pure (v := ?_) rfl rfl (fun w1 he => ?_) ?_; rotate_left; ( have c1 := (((HZ.out.trans (ext_drew _)).trans he)).cell HCI.out; have c2 := (((HZ.out.trans (ext_drew _)).trans he)).cell HCK.out; have c3 := ((HZ.out.trans (ext_drew _)).trans he).cell HD0.out; have c4 := ((HZ.out.trans (ext_drew _)).trans he).cell HD1.out; go_simp; rfl); simp only [Act.put, List.setIfInBounds_toArray, List.set_cons_zero, List.set_cons_succ])
              (refine LexW.pure (v := ?_) rfl rfl (fun w1 he => ?_) ?_; rotate_left; ( have c1 := (((HZ.out.trans (ext_drew _)).trans he)).cell HCI.out; have c2 := (((HZ.out.trans (ext_drew _)).trans he)).cell HCK.out; have c3 := ((HZ.out.trans (ext_drew _)).trans he).cell HD0.out; have c4 := ((HZ.out.trans (ext_drew _)).trans he).cell HD1.out; go_simp; rfl); simp only [Act.put, List.setIfInBounds_toArray, List.set_cons_zero, List.set_cons_succ])
              refine LexW.nil (fun w3 he hkn => ?_)
              have HZ3 := Lib.hid ((HZ.out.trans (ext_drew _)).trans he)
              clear he hkn 
              go_wp2_with (fail)
              go_ret
              exact ⟨ret_bool HB.out.symm, HE2.out.trans HZ3.out⟩
        · have hcond : ¬ (k : Int) ≤ (i : Int) := by omega
          obtain rfl : k = i + 1 := by omega
          go_wp2_with (fail)
          go_roundw
          case rel => exact ⟨i + 1, by omega, by go_num, Lib.hid (fun i' h => by
            by_cases hii : i' = i
            · subst hii; exact HK.out
            · exact HA.out i' (by omega)), HZ⟩
          case measure => simp [intOf]; omega
    · obtain rfl : i = mw := by omega
      have HB := Lib.hid (isoB_yes2 (p := p) HMT.out HLN.out HW0.out HDZ.out HA.out)
      go_wp2_with (fail)
      go_ret
      exact ⟨ret_bool HB.out.symm, HE2.out.trans HY.out⟩
end Go.Proofs.Ytnabpmafcflljaa
