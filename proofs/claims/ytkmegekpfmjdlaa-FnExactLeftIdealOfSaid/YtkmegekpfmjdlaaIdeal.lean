/-
  The listed function LeftIdealOf.
  No condition.
-/
import Derived.Test.YtkmegekpfmjdlaaMat
import Derived.Test.YtkmegekpfmjdlaaBasis
import Derived.Test.YtkmegekpfmjdlaaBasisS
import Derived.Test.YtkmegekpfmjdlaaRows3
namespace Go.Proofs.Ytkmegekpfmjdlaa
set_option maxRecDepth 100000
open Go.RowKit

def idealL (p : Int) (qs x : List Int) : List (List Int) := basisL p (2 ^ qs.length) (turnL (matM p qs x false) (2 ^ qs.length) (2 ^ qs.length))
theorem turn_good {p : Int} {n m : Nat} {rows : List (List Int)} (h : RowsG p m rows) (hn : n = rows.length) : RowsG p n (turnL rows n m) := fun i hi => by
  rw [turnL_len] at hi
  rw [turnL_nth hi]
  exact ⟨colL_len _ _ _, fun j hj => by rw [colL_nth hj]; exact (h j (by omega)).2 i hi⟩
theorem ideal_cnt {p : Int} {qs x : List Int} (hp : primeB p = true) (hd : qs.length ≤ 6) : (idealL p qs x).length ≤ 1048576 ∧ cntR (idealL p qs x) (idealL p qs x).length ≤ 1048576 := by
  have hpb := prime_bd hp
  have h64 := pow_le64 hd
  obtain ⟨c, hb⟩ := basis_red hp (turn_good (matM_good (qs := qs) (x := x) (left := false) (show 1 ≤ p by omega)) (matM_len p qs x false).symm)
  have hl : (idealL p qs x).length ≤ 2 ^ qs.length := hb.len
  refine ⟨by omega, ?_⟩
  rw [cnt_good (show RowsG p (2 ^ qs.length) (idealL p qs x) from hb.good) _ (Nat.le_refl _)]
  exact Nat.le_trans (Nat.mul_le_mul hl (Nat.le_refl _)) (Nat.le_trans (Nat.mul_le_mul h64 h64) (by omega))

set_option maxHeartbeats 400000 in
theorem c_LeftIdealOf_bad (p : Int) (a : Option Addr) (d cap : Nat) (qs : List Int) (ax1 : Option Addr) (n1 cx1 : Nat) (xs1 : List Int) (w : World) (hd : d ≤ 4194304) (hn1 : n1 ≤ 4194304) (hq : RdC w a d qs) (hx1 : RdC w ax1 n1 xs1) (hc : codeA p qs [xs1] ≠ 0) :
    Calls Try.prog 56 #[.agg #[.int .i64 p, .slice a d cap], .slice ax1 n1 cx1] w fun e w' => ∃ ra rc, e = .returned (.tuple #[.slice ra 0 rc, .int .i64 (codeA p qs [xs1])]) ∧ OwnR w.heap.size w' ra 0 rc [] ∧ Ext w w' := by
  have hcb : (codeA p qs [xs1] != 0) = true := by simp [hc]
  clear hc
  go_enter Try.func56, Try.ntmps56
  go_wp2_with (go_at_call 68; refine (c_checkAlgebra p a d cap qs _ 1 _ [xs1] _ hd (by omega) (len_one (by rw [hx1.1]; exact hn1)) (hq.ext ((ext_alloc _ _).alloc _)) (rdR_one (a := ax1) (n := _) (cap := cx1) (by simp) (hx1.ext ((ext_alloc _ _).alloc _)))).mono ?_; rintro e w1 ⟨rfl, g1⟩)
  go_ret2
  exact ⟨none, 0, rfl, OwnR.nil _ _, ((ext_alloc _ _).alloc _).trans g1⟩
set_option maxHeartbeats 2000000 in
theorem c_LeftIdealOf_ok (p : Int) (a : Option Addr) (d cap : Nat) (qs : List Int) (ax1 : Option Addr) (n1 cx1 : Nat) (xs1 : List Int) (w : World) (hd : d ≤ 4194304) (hn1 : n1 ≤ 4194304) (hq : RdC w a d qs) (hx1 : RdC w ax1 n1 xs1) (hc : codeA p qs [xs1] = 0) :
    Calls Try.prog 56 #[.agg #[.int .i64 p, .slice a d cap], .slice ax1 n1 cx1] w fun e w' => ∃ ra rc, e = .returned (.tuple #[.slice ra ((idealL p qs xs1).length) rc, .int .i64 0]) ∧ OwnR w.heap.size w' ra ((idealL p qs xs1).length) rc (idealL p qs xs1) ∧ Ext w w' := by
  obtain ⟨hcm, hq4⟩ := codeA_zero hc
  obtain ⟨hs, hm⟩ := codeM_one hcm
  obtain ⟨hpr, hd1, hd6, hqb⟩ := space_of hs
  have hpb := prime_bd hpr
  obtain ⟨hxl, hxb⟩ := multi_of hm
  have hN0 := hx1.1.symm.trans hxl
  rw [hq.1] at hd6 hxl
  have HN := Lib.hid (show n1 = 2 ^ d from hx1.1.symm.trans hxl)
  have hn64 : n1 ≤ 64 := by rw [HN.out]; exact pow_le64 hd6
  have hnp : 0 < n1 := by rw [HN.out]; exact pow_pos' d
  have HD := Lib.hid hN0
  have HQB := Lib.hid hqb
  have HPR := Lib.hid hpr
  have HGX := Lib.hid (good_isB hx1.1 hxb)
  have HMG : Hid (RowsG p n1 (matM p qs xs1 false)) := Lib.hid (by rw [HD.out]; exact matM_good (by omega))
  have HML : Hid ((matM p qs xs1 false).length = n1) := Lib.hid (by rw [HD.out]; exact matM_len _ _ _ _)
  have HTG : Hid (RowsG p n1 (turnL (matM p qs xs1 false) n1 n1)) := Lib.hid (turn_good HMG.out HML.out.symm)
  have HID : Hid (idealL p qs xs1 = basisL p n1 (turnL (matM p qs xs1 false) n1 n1)) := Lib.hid (by unfold idealL; rw [HD.out])
  have HC := Lib.hid hc
  have HQ := Lib.hid hq
  have HX := Lib.hid hx1
  have hcb : ((0 : Int) != 0) = false := by simp
  clear hc hcm hq4 hs hm hpr hd1 hqb hxl hxb hN0
  go_enter Try.func56, Try.ntmps56
  go_wp2_with (go_at_call 68; refine (c_checkAlgebra p a d cap qs _ 1 _ [xs1] _ hd (by omega) (len_one (by rw [hx1.1]; exact hn1)) (hq.ext ((ext_alloc _ _).alloc _)) (rdR_one (a := ax1) (n := _) (cap := cx1) (by simp) (hx1.ext ((ext_alloc _ _).alloc _)))).mono ?_; rintro e w1 ⟨rfl, g1⟩; rw [HC.out]; have hq0 : w1.cell? ⟨w.heap.size, 0, none⟩ = some (.int .i64 p) := g1.cell (by simp); have hq1 : w1.cell? ⟨w.heap.size, 1, none⟩ = some (.slice a d cap) := g1.cell (by simp))
  have HS0 := Lib.hid ((ext_drew _).cell hq0)
  have HS1 := Lib.hid ((ext_drew _).cell hq1)
  have GW := Lib.hid ((((ext_alloc w (.cells #[.int .i64 p, .slice a d cap] 30)).alloc (.cells #[.slice ax1 n1 cx1] 22)).trans g1).trans (ext_drew _))
  clear g1 hq0 hq1 hq hx1
  refine wp_region_lex [(1, .val (.int .i64 p)), (4, .ownR w.heap.size n1 (matM p qs xs1 false)), (5, .ownR w.heap.size n1 (turnL (matM p qs xs1 false) n1 n1)), (6, .ownR w.heap.size (basisL p n1 (turnL (matM p qs xs1 false) n1 n1)).length (basisL p n1 (turnL (matM p qs xs1 false) n1 n1)))] (by kernel_rfl) (by kernel_rfl) ?_
  (refine LexW.pure (v := ?_) rfl rfl (fun w1 he => ?_) ?_; rotate_left; ( have e1 := he.cell HS0.out; have e2 := he.cell HS1.out; go_simp; rfl); simp only [Act.put, List.setIfInBounds_toArray, List.set_cons_zero, List.set_cons_succ])
  (refine LexW.call (f := ?_) (args := ?_) rfl rfl (fun w1 => ?_) (fun w1 he hdep => ?_) ?_; rotate_left 2; (go_simp; refine ⟨?_, ?_⟩ <;> rfl); ( exact c_field p _ w1); simp only [Act.put, List.setIfInBounds_toArray, List.set_cons_zero, List.set_cons_succ])
  (refine LexW.pure (v := ?_) rfl rfl (fun w1 he => ?_) ?_; rotate_left; ( have e1 := he.cell HS0.out; have e2 := he.cell HS1.out; go_simp; rfl); simp only [Act.put, List.setIfInBounds_toArray, List.set_cons_zero, List.set_cons_succ])
  (refine LexW.pure (v := ?_) rfl rfl (fun w1 he => ?_) ?_; rotate_left; ( have e1 := he.cell HS0.out; have e2 := he.cell HS1.out; go_simp; rfl); simp only [Act.put, List.setIfInBounds_toArray, List.set_cons_zero, List.set_cons_succ])
  (refine LexW.callR (f := ?_) (args := ?_) rfl rfl (fun w1 => ?_) (fun w1 he hdep => ?_) (fun v hv => ?_); rotate_left 2; (go_simp; refine ⟨?_, ?_⟩ <;> rfl); ( refine (c_rightMatrix HN.out p a cap qs ax1 cx1 xs1 w1 (by omega) (by omega) (by omega) (HQ.out.ext (GW.out.trans he)) HQB.out (HX.out.ext (GW.out.trans he)) HGX.out).mono ?_; rintro e w2 ⟨g, rc, rfl, ho, g2⟩; exact ⟨_, rfl, g2, g, rc, rfl, ho.mono (Nat.le_trans GW.out.size he.size)⟩); simp only [Act.put, List.setIfInBounds_toArray, List.set_cons_zero, List.set_cons_succ])
  obtain ⟨_, g18, c18, rfl, _⟩ := hv
  (refine LexW.callR (f := ?_) (args := ?_) rfl rfl (fun w1 => ?_) (fun w1 he hdep => ?_) (fun v hv => ?_); rotate_left 2; (go_simp; refine ⟨?_, ?_⟩ <;> rfl); ( obtain ⟨_, _, q18, r18⟩ : (SPred.ownR w.heap.size n1 (matM p qs xs1 false)).holds (.slice (some ⟨g18, 0, none⟩) n1 c18) w1 := hdep (4, 18) (by decide +kernel); cases q18; refine (c_transpose _ n1 _ n1 (matM p qs xs1 false) w1 hnp (by omega) (by omega) (fun i hi => (HMG.out i (by rw [HML.out]; exact hi)).1) r18.rd).mono ?_; rintro e w2 ⟨g, rc, rfl, ho, g2⟩; exact ⟨_, rfl, g2, g, rc, rfl, ho.mono (Nat.le_trans GW.out.size he.size)⟩); simp only [Act.put, List.setIfInBounds_toArray, List.set_cons_zero, List.set_cons_succ])
  obtain ⟨_, g19, c19, rfl, _⟩ := hv
  (refine LexW.callR (f := ?_) (args := ?_) rfl rfl (fun w1 => ?_) (fun w1 he hdep => ?_) (fun v hv => ?_); rotate_left 2; (go_simp; refine ⟨?_, ?_⟩ <;> rfl); ( obtain ⟨_, _, q19, r19⟩ : (SPred.ownR w.heap.size n1 (turnL (matM p qs xs1 false) n1 n1)).holds (.slice (some ⟨g19, 0, none⟩) n1 c19) w1 := hdep (5, 19) (by decide +kernel); cases q19; refine (c_basis p _ n1 _ n1 (turnL (matM p qs xs1 false) n1 n1) w1 HPR.out hnp (by omega) (by omega) r19.rd HTG.out).mono ?_; rintro e w2 ⟨g, rc, r, rfl, ho, g2⟩; obtain rfl := ho.len; exact ⟨_, rfl, g2, g, rc, rfl, ho.mono (Nat.le_trans GW.out.size he.size)⟩); simp only [Act.put, List.setIfInBounds_toArray, List.set_cons_zero, List.set_cons_succ])
  obtain ⟨_, g20, c20, rfl, _⟩ := hv
  (refine LexW.pure (v := ?_) rfl rfl (fun w1 he => ?_) ?_; rotate_left; ( have e1 := he.cell HS0.out; have e2 := he.cell HS1.out; go_simp; rfl); simp only [Act.put, List.setIfInBounds_toArray, List.set_cons_zero, List.set_cons_succ])
  (refine LexW.pure (v := ?_) rfl rfl (fun w1 he => ?_) ?_; rotate_left; ( have e1 := he.cell HS0.out; have e2 := he.cell HS1.out; go_simp; rfl); simp only [Act.put, List.setIfInBounds_toArray, List.set_cons_zero, List.set_cons_succ])
  refine LexW.nil (fun w3 he hkn => ?_)
  obtain ⟨_, _, q20, r20⟩ : (SPred.ownR w.heap.size (basisL p n1 (turnL (matM p qs xs1 false) n1 n1)).length (basisL p n1 (turnL (matM p qs xs1 false) n1 n1))).holds (.slice (some ⟨g20, 0, none⟩) (basisL p n1 (turnL (matM p qs xs1 false) n1 n1)).length c20) w3 := hkn (6, _) (by simp)
  cases q20
  have R20 := Lib.hid r20
  have HE := Lib.hid (GW.out.trans he)
  clear he hkn r20
  go_wp2_with (fail)
  go_ret2
  rw [HID.out]
  exact ⟨_, _, rfl, R20.out, HE.out⟩

set_option maxHeartbeats 2000000 in
theorem s_ideal {N d : Nat} (hN : N = 2 ^ d) (p : Int) (a : Option Addr) (cap : Nat) (qs : List Int) (ax : Option Addr) (cx : Nat) (x : List Int) (w : World) (hd : d ≤ 6) (hpr : primeB p = true) (hq : RdC w a d qs) (hqb : isB p qs = true) (hx : RdC w ax N x) (hgx : Good p N x) :
    Calls Try.prog 102 #[.agg #[.int .i64 p, .slice a d cap], .slice ax N cx] w fun e w' => ∃ g rc, e = .returned (.slice (some ⟨g, 0, none⟩) (idealL p qs x).length rc) ∧ OwnR w.heap.size w' (some ⟨g, 0, none⟩) (idealL p qs x).length rc (idealL p qs x) ∧ Ext w w' := by
  have hpb := prime_bd hpr
  have hn64 : N ≤ 64 := by rw [hN]; exact pow_le64 hd
  have hnp : 0 < N := by rw [hN]; exact pow_pos' d
  have HD := Lib.hid (show N = 2 ^ qs.length by rw [hq.1]; exact hN)
  have HN := Lib.hid hN
  have HPR := Lib.hid hpr
  have HQ := Lib.hid hq
  have HQB := Lib.hid hqb
  have HX := Lib.hid hx
  have HGX := Lib.hid hgx
  have HMG : Hid (RowsG p N (matM p qs x false)) := Lib.hid (by rw [HD.out]; exact matM_good (by omega))
  have HML : Hid ((matM p qs x false).length = N) := Lib.hid (by rw [HD.out]; exact matM_len _ _ _ _)
  have HTG : Hid (RowsG p N (turnL (matM p qs x false) N N)) := Lib.hid (turn_good HMG.out HML.out.symm)
  have HID : Hid (idealL p qs x = basisL p N (turnL (matM p qs x false) N N)) := Lib.hid (by unfold idealL; rw [HD.out])
  clear hN hq hqb hx hgx hpr
  obtain ⟨W, hW⟩ : ∃ W, W = w.alloc (.cells #[.int .i64 p, .slice a d cap] 30) := ⟨_, rfl⟩
  have gW : Ext w W := by rw [hW]; exact ext_alloc _ _
  have hs0 : W.cell? ⟨w.heap.size, 0, none⟩ = some (.int .i64 p) := by rw [hW]; simp
  have hs1 : W.cell? ⟨w.heap.size, 1, none⟩ = some (.slice a d cap) := by rw [hW]; simp
  have HS0 := Lib.hid ((ext_drew _).cell hs0)
  have HS1 := Lib.hid ((ext_drew _).cell hs1)
  have GW := Lib.hid (gW.trans (ext_drew _))
  have HW := Lib.hid hW
  clear hs0 hs1 gW hW
  go_enter Try.func102, Try.ntmps102
  go_wp2_with (fail)
  rw [← HW.out]
  refine wp_region_lex [(4, .ownR w.heap.size N (matM p qs x false)), (5, .ownR w.heap.size N (turnL (matM p qs x false) N N)), (6, .ownR w.heap.size (basisL p N (turnL (matM p qs x false) N N)).length (basisL p N (turnL (matM p qs x false) N N)))] (by kernel_rfl) (by kernel_rfl) ?_
  (refine LexW.pure (v := ?_) rfl rfl (fun w1 he => ?_) ?_; rotate_left; ( have e1 := he.cell HS0.out; have e2 := he.cell HS1.out; go_simp; rfl); simp only [Act.put, List.setIfInBounds_toArray, List.set_cons_zero, List.set_cons_succ])
  (refine LexW.pure (v := ?_) rfl rfl (fun w1 he => ?_) ?_; rotate_left; ( have e1 := he.cell HS0.out; have e2 := he.cell HS1.out; go_simp; rfl); simp only [Act.put, List.setIfInBounds_toArray, List.set_cons_zero, List.set_cons_succ])
  (refine LexW.pure (v := ?_) rfl rfl (fun w1 he => ?_) ?_; rotate_left; ( have e1 := he.cell HS0.out; have e2 := he.cell HS1.out; go_simp; rfl); simp only [Act.put, List.setIfInBounds_toArray, List.set_cons_zero, List.set_cons_succ])
  (refine LexW.pure (v := ?_) rfl rfl (fun w1 he => ?_) ?_; rotate_left; ( have e1 := he.cell HS0.out; have e2 := he.cell HS1.out; go_simp; rfl); simp only [Act.put, List.setIfInBounds_toArray, List.set_cons_zero, List.set_cons_succ])
  (refine LexW.callR (f := ?_) (args := ?_) rfl rfl (fun w1 => ?_) (fun w1 he hdep => ?_) (fun v hv => ?_); rotate_left 2; (go_simp; refine ⟨?_, ?_⟩ <;> rfl); ( refine (s_rightMatrix HN.out p a cap qs ax cx x w1 (by omega) (by omega) (by omega) (HQ.out.ext (GW.out.trans he)) HQB.out (HX.out.ext (GW.out.trans he)) HGX.out).mono ?_; rintro e w2 ⟨g, rc, rfl, ho, g2⟩; exact ⟨_, rfl, g2, g, rc, rfl, ho.mono (Nat.le_trans GW.out.size he.size)⟩); simp only [Act.put, List.setIfInBounds_toArray, List.set_cons_zero, List.set_cons_succ])
  obtain ⟨_, g9, c9, rfl, _⟩ := hv
  (refine LexW.callR (f := ?_) (args := ?_) rfl rfl (fun w1 => ?_) (fun w1 he hdep => ?_) (fun v hv => ?_); rotate_left 2; (go_simp; refine ⟨?_, ?_⟩ <;> rfl); ( obtain ⟨_, _, q9, r9⟩ : (SPred.ownR w.heap.size N (matM p qs x false)).holds (.slice (some ⟨g9, 0, none⟩) N c9) w1 := hdep (4, 9) (by decide +kernel); cases q9; refine (s_turn _ N _ N (matM p qs x false) w1 hnp (by omega) (by omega) (fun i hi => (HMG.out i (by rw [HML.out]; exact hi)).1) r9.rd).mono ?_; rintro e w2 ⟨g, rc, rfl, ho, g2⟩; exact ⟨_, rfl, g2, g, rc, rfl, ho.mono (Nat.le_trans GW.out.size he.size)⟩); simp only [Act.put, List.setIfInBounds_toArray, List.set_cons_zero, List.set_cons_succ])
  obtain ⟨_, g10, c10, rfl, _⟩ := hv
  (refine LexW.callR (f := ?_) (args := ?_) rfl rfl (fun w1 => ?_) (fun w1 he hdep => ?_) (fun v hv => ?_); rotate_left 2; (go_simp; refine ⟨?_, ?_⟩ <;> rfl); ( obtain ⟨_, _, q10, r10⟩ : (SPred.ownR w.heap.size N (turnL (matM p qs x false) N N)).holds (.slice (some ⟨g10, 0, none⟩) N c10) w1 := hdep (5, 10) (by decide +kernel); cases q10; refine (s_basis p _ N _ N (turnL (matM p qs x false) N N) w1 HPR.out hnp (by omega) (by omega) r10.rd HTG.out).mono ?_; rintro e w2 ⟨g, rc, r, rfl, ho, g2⟩; obtain rfl := ho.len; exact ⟨_, rfl, g2, g, rc, rfl, ho.mono (Nat.le_trans GW.out.size he.size)⟩); simp only [Act.put, List.setIfInBounds_toArray, List.set_cons_zero, List.set_cons_succ])
  obtain ⟨_, g11, c11, rfl, _⟩ := hv
  (refine LexW.pure (v := ?_) rfl rfl (fun w1 he => ?_) ?_; rotate_left; ( have e1 := he.cell HS0.out; have e2 := he.cell HS1.out; go_simp; rfl); simp only [Act.put, List.setIfInBounds_toArray, List.set_cons_zero, List.set_cons_succ])
  refine LexW.nil (fun w3 he hkn => ?_)
  obtain ⟨_, _, q11, r11⟩ : (SPred.ownR w.heap.size (basisL p N (turnL (matM p qs x false) N N)).length (basisL p N (turnL (matM p qs x false) N N))).holds (.slice (some ⟨g11, 0, none⟩) (basisL p N (turnL (matM p qs x false) N N)).length c11) w3 := hkn (6, _) (by simp)
  cases q11
  have R11 := Lib.hid r11
  have HE := Lib.hid (GW.out.trans he)
  clear he hkn r11
  go_wp2_with (fail)
  go_ret
  rw [HID.out]
  exact ⟨_, _, rfl, R11.out, HE.out⟩

set_option maxHeartbeats 400000 in
theorem s_LeftIdealOf_bad (p : Int) (a : Option Addr) (d cap : Nat) (qs : List Int) (ax1 : Option Addr) (n1 cx1 : Nat) (xs1 : List Int) (w : World) (hd : d ≤ 4194304) (hn1 : n1 ≤ 4194304) (hq : RdC w a d qs) (hx1 : RdC w ax1 n1 xs1) (hc : codeA p qs [xs1] ≠ 0) :
    Calls Try.prog 55 #[.agg #[.int .i64 p, .slice a d cap], .slice ax1 n1 cx1] w fun e w' => ∃ ra rc, e = .returned (.tuple #[.slice ra 0 rc, .int .i64 (codeA p qs [xs1])]) ∧ OwnR w.heap.size w' ra 0 rc [] ∧ Ext w w' := by
  have hcb : (codeA p qs [xs1] != 0) = true := by simp [hc]
  clear hc
  go_enter Try.func55, Try.ntmps55
  go_wp2_with (go_at_call 66; refine (s_code9 p a d cap qs _ 1 _ [xs1] _ hd (by omega) (len_one (by rw [hx1.1]; exact hn1)) (hq.ext ((ext_alloc _ _).alloc _)) (rdR_one (a := ax1) (n := _) (cap := cx1) (by simp) (hx1.ext ((ext_alloc _ _).alloc _)))).mono ?_; rintro e w1 ⟨rfl, g1⟩)
  go_ret2
  exact ⟨none, 0, rfl, OwnR.nil _ _, ((ext_alloc _ _).alloc _).trans g1⟩
set_option maxHeartbeats 2000000 in
theorem s_LeftIdealOf_ok (p : Int) (a : Option Addr) (d cap : Nat) (qs : List Int) (ax1 : Option Addr) (n1 cx1 : Nat) (xs1 : List Int) (w : World) (hd : d ≤ 4194304) (hn1 : n1 ≤ 4194304) (hq : RdC w a d qs) (hx1 : RdC w ax1 n1 xs1) (hc : codeA p qs [xs1] = 0) :
    Calls Try.prog 55 #[.agg #[.int .i64 p, .slice a d cap], .slice ax1 n1 cx1] w fun e w' => ∃ ra rc, e = .returned (.tuple #[.slice ra ((idealL p qs xs1).length) rc, .int .i64 0]) ∧ OwnR w.heap.size w' ra ((idealL p qs xs1).length) rc (idealL p qs xs1) ∧ Ext w w' := by
  obtain ⟨hcm, hq4⟩ := codeA_zero hc
  obtain ⟨hs, hm⟩ := codeM_one hcm
  obtain ⟨hpr, hd1, hd6, hqb⟩ := space_of hs
  have hpb := prime_bd hpr
  obtain ⟨hxl, hxb⟩ := multi_of hm
  have hN0 := hx1.1.symm.trans hxl
  rw [hq.1] at hd6 hxl
  have HN := Lib.hid (show n1 = 2 ^ d from hx1.1.symm.trans hxl)
  have hn64 : n1 ≤ 64 := by rw [HN.out]; exact pow_le64 hd6
  have hnp : 0 < n1 := by rw [HN.out]; exact pow_pos' d
  have HD := Lib.hid hN0
  have HQB := Lib.hid hqb
  have HPR := Lib.hid hpr
  have HGX := Lib.hid (good_isB hx1.1 hxb)
  have HMG : Hid (RowsG p n1 (matM p qs xs1 false)) := Lib.hid (by rw [HD.out]; exact matM_good (by omega))
  have HML : Hid ((matM p qs xs1 false).length = n1) := Lib.hid (by rw [HD.out]; exact matM_len _ _ _ _)
  have HTG : Hid (RowsG p n1 (turnL (matM p qs xs1 false) n1 n1)) := Lib.hid (turn_good HMG.out HML.out.symm)
  have HID : Hid (idealL p qs xs1 = basisL p n1 (turnL (matM p qs xs1 false) n1 n1)) := Lib.hid (by unfold idealL; rw [HD.out])
  have HLI := Lib.hid (show ∀ i, i < (idealL p qs xs1).length → (nthR (idealL p qs xs1) i).length = n1 from fun i hi => by
    obtain ⟨cc, hb⟩ := basis_red HPR.out HTG.out
    rw [HID.out] at hi ⊢
    exact (hb.good i hi).1)
  have HCN := Lib.hid (show (idealL p qs xs1).length ≤ 4194303 by have := (ideal_cnt (x := xs1) HPR.out (show qs.length ≤ 6 by rw [hq.1]; exact hd6)).1; omega)
  have HC := Lib.hid hc
  have HQ := Lib.hid hq
  have HX := Lib.hid hx1
  have hcb : ((0 : Int) != 0) = false := by simp
  clear hc hcm hq4 hs hm hpr hd1 hqb hxl hxb hN0
  go_enter Try.func55, Try.ntmps55
  go_wp2_with (go_at_call 66; refine (s_code9 p a d cap qs _ 1 _ [xs1] _ hd (by omega) (len_one (by rw [hx1.1]; exact hn1)) (hq.ext ((ext_alloc _ _).alloc _)) (rdR_one (a := ax1) (n := _) (cap := cx1) (by simp) (hx1.ext ((ext_alloc _ _).alloc _)))).mono ?_; rintro e w1 ⟨rfl, g1⟩; rw [HC.out]; have hq0 : w1.cell? ⟨w.heap.size, 0, none⟩ = some (.int .i64 p) := g1.cell (by simp); have hq1 : w1.cell? ⟨w.heap.size, 1, none⟩ = some (.slice a d cap) := g1.cell (by simp))
  have GW := Lib.hid (((ext_alloc w (.cells #[.int .i64 p, .slice a d cap] 30)).alloc (.cells #[.slice ax1 n1 cx1] 22)).trans g1)
  clear g1 hq0 hq1 hq hx1
  refine (s_ideal HN.out p a cap qs ax1 cx1 xs1 w1 hd6 HPR.out (HQ.out.ext GW.out) HQB.out (HX.out.ext GW.out) HGX.out).mono ?_
  rintro e w2 ⟨g, rc, rfl, ho, g2⟩
  have HO := Lib.hid ho
  have G2 := Lib.hid (GW.out.trans g2)
  clear ho g2
  obtain ⟨z, hz⟩ : ∃ z, z = (idealL p qs xs1).length := ⟨_, rfl⟩
  rw [← hz] at HO HCN HLI ⊢
  have HZ := Lib.hid hz
  clear hz
  go_wp2_with (fail)
  refine (s_own2 _ z rc n1 (idealL p qs xs1) w2 hnp (by omega) HCN.out HLI.out HO.out.rd).mono ?_
  rintro e w3 ⟨g3, rc3, rfl, ho3, g3x⟩
  have HO3 := Lib.hid (ho3.mono G2.out.size)
  have G3 := Lib.hid (G2.out.trans g3x)
  clear ho3 g3x
  go_wp2_with (fail)
  go_ret2
  have hz := HZ.out
  subst hz
  exact ⟨_, _, rfl, HO3.out, G3.out⟩

end Go.Proofs.Ytkmegekpfmjdlaa
