/-
  Spinor norms; the listed function SpinorNormOf.
  No condition.
-/
import Derived.Test.YtlchmkaaogokiaaVersC
import Derived.Test.YtlchmkaaogokiaaUndual
namespace Go.Proofs.Ytlchmkaaogokiaa
set_option maxRecDepth 100000
open Go.RowKit

def spinL (p : Int) (qs x : List Int) : Int := nth (prodL p qs tkA x (signL p revB x (2 ^ qs.length))) 0

set_option maxHeartbeats 4000000 in
set_option maxRecDepth 100000 in
theorem s_spinorNorm {N d : Nat} (hN : N = 2 ^ d) (p : Int) (a : Option Addr) (cap : Nat) (qs : List Int) (ax : Option Addr) (cx : Nat) (x : List Int) (w : World) (hd : d ≤ 6) (hp1 : 3 ≤ p) (hp2 : p ≤ 1000) (hq : RdC w a d qs) (hqb : isB p qs = true) (hx : RdC w ax N x) (hxb : isB p x = true) :
    Calls Try.prog 70 #[.agg #[.int .i64 p, .slice a d cap], .slice ax N cx] w fun e w' => e = .returned (.int .i64 (spinL p qs x)) ∧ Ext w w' := by
  have HN := Lib.hid hN
  have hN1 : 1 ≤ N := by rw [hN]; exact pow_pos' d
  have hN0 : ¬ N = 0 := by omega
  obtain ⟨b1, o1, hax, _⟩ := hx.2 0 (by omega)
  subst hax
  have HQ := Lib.hid hq
  have HQB := Lib.hid hqb
  have HX := Lib.hid hx
  have HXB := Lib.hid hxb
  clear hN hq hqb hx hxb
  obtain ⟨V, hV⟩ : ∃ V, V = spinL p qs x := ⟨_, rfl⟩
  rw [← hV]
  have HGX := Lib.hid (good_isB HX.out.1 HXB.out)
  have HV := Lib.hid (show nth (prodL p qs tkA x (signL p revB x N)) 0 = V by rw [hV, spinL, HQ.out.1, HN.out])
  have hN6 : N ≤ 64 := by rw [HN.out]; exact pow_le64 hd
  clear hV
  obtain ⟨W, hW⟩ : ∃ W, W = w.alloc (.cells #[.int .i64 p, .slice a d cap] 28) := ⟨_, rfl⟩
  have gW : Ext w W := by rw [hW]; exact ext_alloc _ _
  have hs0 : W.cell? ⟨w.heap.size, 0, none⟩ = some (.int .i64 p) := by rw [hW]; simp
  have hs1 : W.cell? ⟨w.heap.size, 1, none⟩ = some (.slice a d cap) := by rw [hW]; simp
  have HS0 := Lib.hid ((ext_drew _).cell hs0)
  have HS1 := Lib.hid ((ext_drew _).cell hs1)
  have GW := Lib.hid (gW.trans (ext_drew _))
  have HW := Lib.hid hW
  clear hs0 hs1 gW hW
  go_enter Try.func70, Try.ntmps70
  go_wp2_with (fail)
  rw [← HW.out]
  refine wp_region_lex [(4, .ownS w.heap.size N (signL p revB x N)), (5, .ownG w.heap.size N (prodL p qs tkA x (signL p revB x N))), (6, .cell (V)), (7, .val (.int .i64 (V)))] (by kernel_rfl) (by kernel_rfl) ?_
  (refine LexW.pure (v := ?_) rfl rfl (fun w1 he => ?_) ?_; rotate_left; ( have e1 := he.cell HS0.out; have e2 := he.cell HS1.out; go_simp; rfl); simp only [Act.put, List.setIfInBounds_toArray, List.set_cons_zero, List.set_cons_succ])
  (refine LexW.pure (v := ?_) rfl rfl (fun w1 he => ?_) ?_; rotate_left; ( have e1 := he.cell HS0.out; have e2 := he.cell HS1.out; go_simp; rfl); simp only [Act.put, List.setIfInBounds_toArray, List.set_cons_zero, List.set_cons_succ])
  (refine LexW.pure (v := ?_) rfl rfl (fun w1 he => ?_) ?_; rotate_left; ( have e1 := he.cell HS0.out; have e2 := he.cell HS1.out; go_simp; rfl); simp only [Act.put, List.setIfInBounds_toArray, List.set_cons_zero, List.set_cons_succ])
  (refine LexW.pure (v := ?_) rfl rfl (fun w1 he => ?_) ?_; rotate_left; ( have e1 := he.cell HS0.out; have e2 := he.cell HS1.out; go_simp; rfl); simp only [Act.put, List.setIfInBounds_toArray, List.set_cons_zero, List.set_cons_succ])
  (refine LexW.callR (f := ?_) (args := ?_) rfl rfl (fun w1 => ?_) (fun w1 he hdep => ?_) (fun v hv => ?_); rotate_left 2; (go_simp; refine ⟨?_, ?_⟩ <;> rfl); ( refine (s_reverse p a d cap (some ⟨b1, o1, none⟩) N cx x w1 hp1 hp2 hN6 (HX.out.ext (GW.out.trans he)) HGX.out).mono ?_; rintro e w2 ⟨g, rc, rfl, ho, g2⟩; exact ⟨_, rfl, g2, g, rc, rfl, ho.mono (Nat.le_trans GW.out.size he.size)⟩); simp only [Act.put, List.setIfInBounds_toArray, List.set_cons_zero, List.set_cons_succ])
  obtain ⟨_, g9, c9, rfl, _⟩ := hv
  (refine LexW.callR (f := ?_) (args := ?_) rfl rfl (fun w1 => ?_) (fun w1 he hdep => ?_) (fun v hv => ?_); rotate_left 2; (go_simp; refine ⟨?_, ?_⟩ <;> rfl); ( obtain ⟨_, _, q9, r9⟩ : (SPred.ownS w.heap.size N (signL p revB x N)).holds (.slice (some ⟨g9, 0, none⟩) N c9) w1 := hdep (4, 9) (by decide +kernel); cases q9; refine (s_timesN HN.out p a cap qs (some ⟨b1, o1, none⟩) _ cx c9 x (signL p revB x N) w1 hd hp1 hp2 (HQ.out.ext (GW.out.trans he)) HQB.out (HX.out.ext (GW.out.trans he)) r9.rd HXB.out (sign_good (by omega) HGX.out).isB).mono ?_; rintro e w2 ⟨g, rfl, ho, g2⟩; exact ⟨_, rfl, g2, g, rfl, ho.mono (Nat.le_trans GW.out.size he.size)⟩); simp only [Act.put, List.setIfInBounds_toArray, List.set_cons_zero, List.set_cons_succ])
  obtain ⟨_, g10, rfl, _⟩ := hv
  (refine LexW.rel rfl rfl (fun w1 he hdep => ?_) (fun v hv => ?_); ( obtain ⟨_, q10, r10⟩ : (SPred.ownG w.heap.size N (prodL p qs tkA x (signL p revB x N))).holds (.slice (some ⟨g10, 0, none⟩) N N) w1 := hdep (5, 10) (by decide +kernel); cases q10; exact ⟨.pointer (some ⟨g10, 0, none⟩), w1, (by go_simp), Ext.refl _, g10, 0, rfl, ((r10.cell hN1).trans (by rw [HV.out]))⟩); simp only [Act.put, List.setIfInBounds_toArray, List.set_cons_zero, List.set_cons_succ])
  obtain ⟨_, b11, o11, rfl, _⟩ := hv
  (refine LexW.relV rfl rfl (fun w1 he hdep => ?_) ?_; ( obtain ⟨_, _, q11, r11⟩ : (SPred.cell (V)).holds (.pointer (some ⟨b11, o11, none⟩)) w1 := hdep (6, 11) (by decide +kernel); cases q11; exact ⟨w1, (by go_simp), Ext.refl _⟩); simp only [Act.put, List.setIfInBounds_toArray, List.set_cons_zero, List.set_cons_succ])
  (refine LexW.pure (v := ?_) rfl rfl (fun w1 he => ?_) ?_; rotate_left; ( have e1 := he.cell HS0.out; have e2 := he.cell HS1.out; go_simp; rfl); simp only [Act.put, List.setIfInBounds_toArray, List.set_cons_zero, List.set_cons_succ])
  refine LexW.nil (fun w3 he hkn => ?_)
  have HE := Lib.hid (GW.out.trans he)
  clear he hkn 
  go_wp2_with (fail)
  go_ret
  exact ⟨rfl, HE.out⟩

set_option maxHeartbeats 4000000 in
set_option maxRecDepth 100000 in
theorem c_spinorNorm {N d : Nat} (hN : N = 2 ^ d) (p : Int) (a : Option Addr) (cap : Nat) (qs : List Int) (ax : Option Addr) (cx : Nat) (x : List Int) (w : World) (hd : d ≤ 6) (hp1 : 3 ≤ p) (hp2 : p ≤ 1000) (hq : RdC w a d qs) (hqb : isB p qs = true) (hx : RdC w ax N x) (hxb : isB p x = true) :
    Calls Try.prog 72 #[.agg #[.int .i64 p, .slice a d cap], .slice ax N cx] w fun e w' => e = .returned (.int .i64 (spinL p qs x)) ∧ Ext w w' := by
  have HN := Lib.hid hN
  have hN1 : 1 ≤ N := by rw [hN]; exact pow_pos' d
  have hN0 : ¬ N = 0 := by omega
  obtain ⟨b1, o1, hax, _⟩ := hx.2 0 (by omega)
  subst hax
  have HQ := Lib.hid hq
  have HQB := Lib.hid hqb
  have HX := Lib.hid hx
  have HXB := Lib.hid hxb
  clear hN hq hqb hx hxb
  obtain ⟨V, hV⟩ : ∃ V, V = spinL p qs x := ⟨_, rfl⟩
  rw [← hV]
  have HGX := Lib.hid (good_isB HX.out.1 HXB.out)
  have HV := Lib.hid (show nth (timesL p qs [x, signL p revB x N]) 0 = V by rw [prod_two (by rw [HQ.out.1, HN.out]) (by omega) HGX.out, hV, spinL, HQ.out.1, HN.out])
  have hN6 : N ≤ 64 := by rw [HN.out]; exact pow_le64 hd
  clear hV
  obtain ⟨W, hW⟩ : ∃ W, W = w.alloc (.cells #[.int .i64 p, .slice a d cap] 28) := ⟨_, rfl⟩
  have gW : Ext w W := by rw [hW]; exact ext_alloc _ _
  have hs0 : W.cell? ⟨w.heap.size, 0, none⟩ = some (.int .i64 p) := by rw [hW]; simp
  have hs1 : W.cell? ⟨w.heap.size, 1, none⟩ = some (.slice a d cap) := by rw [hW]; simp
  have HS0 := Lib.hid ((ext_drew _).cell hs0)
  have HS1 := Lib.hid ((ext_drew _).cell hs1)
  have GW := Lib.hid (gW.trans (ext_drew _))
  have HW := Lib.hid hW
  clear hs0 hs1 gW hW
  go_enter Try.func72, Try.ntmps72
  go_wp2_with (fail)
  rw [← HW.out]
  refine wp_region_lex [(4, .ownS w.heap.size N (signL p revB x N)), (5, .rows 2 [x, signL p revB x N]), (6, .ownG w.heap.size N (timesL p qs [x, signL p revB x N])), (7, .cell (V)), (8, .val (.int .i64 (V)))] (by kernel_rfl) (by kernel_rfl) ?_
  (refine LexW.pure (v := ?_) rfl rfl (fun w1 he => ?_) ?_; rotate_left; ( have e1 := he.cell HS0.out; have e2 := he.cell HS1.out; go_simp; rfl); simp only [Act.put, List.setIfInBounds_toArray, List.set_cons_zero, List.set_cons_succ])
  (refine LexW.pure (v := ?_) rfl rfl (fun w1 he => ?_) ?_; rotate_left; ( have e1 := he.cell HS0.out; have e2 := he.cell HS1.out; go_simp; rfl); simp only [Act.put, List.setIfInBounds_toArray, List.set_cons_zero, List.set_cons_succ])
  (refine LexW.pure (v := ?_) rfl rfl (fun w1 he => ?_) ?_; rotate_left; ( have e1 := he.cell HS0.out; have e2 := he.cell HS1.out; go_simp; rfl); simp only [Act.put, List.setIfInBounds_toArray, List.set_cons_zero, List.set_cons_succ])
  (refine LexW.pure (v := ?_) rfl rfl (fun w1 he => ?_) ?_; rotate_left; ( have e1 := he.cell HS0.out; have e2 := he.cell HS1.out; go_simp; rfl); simp only [Act.put, List.setIfInBounds_toArray, List.set_cons_zero, List.set_cons_succ])
  (refine LexW.callR (f := ?_) (args := ?_) rfl rfl (fun w1 => ?_) (fun w1 he hdep => ?_) (fun v hv => ?_); rotate_left 2; (go_simp; refine ⟨?_, ?_⟩ <;> rfl); ( refine (c_reverse p a d cap b1 o1 N cx x w1 hp1 hp2 (by omega) hN6 (HX.out.ext (GW.out.trans he)) HGX.out).mono ?_; rintro e w2 ⟨g, rc, rfl, ho, g2⟩; exact ⟨_, rfl, g2, g, rc, rfl, ho.mono (Nat.le_trans GW.out.size he.size)⟩); simp only [Act.put, List.setIfInBounds_toArray, List.set_cons_zero, List.set_cons_succ])
  obtain ⟨_, g9, c9, rfl, _⟩ := hv
  (refine LexW.rel rfl rfl (fun w1 he hdep => ?_) (fun v hv => ?_); ( obtain ⟨_, _, q9, r9⟩ : (SPred.ownS w.heap.size N (signL p revB x N)).holds (.slice (some ⟨g9, 0, none⟩) N c9) w1 := hdep (4, 9) (by decide +kernel); cases q9; exact ⟨.slice (some ⟨w1.heap.size, 0, none⟩) 2 2, w1.alloc (.cells #[.slice (some ⟨b1, o1, none⟩) N cx, .slice (some ⟨g9, 0, none⟩) N c9] 22), (by go_simp), ext_alloc _ _, _, rfl, rdR_two (a := (some ⟨b1, o1, none⟩)) (b := (some ⟨g9, 0, none⟩)) (n := N) (m := N) (ca := cx) (cb := c9) (by simp) (by simp) ((HX.out.ext (GW.out.trans he)).ext (ext_alloc _ _)) ((r9.rd).ext (ext_alloc _ _))⟩); simp only [Act.put, List.setIfInBounds_toArray, List.set_cons_zero, List.set_cons_succ])
  obtain ⟨_, g10, rfl, _⟩ := hv
  (refine LexW.callR (f := ?_) (args := ?_) rfl rfl (fun w1 => ?_) (fun w1 he hdep => ?_) (fun v hv => ?_); rotate_left 2; (go_simp; refine ⟨?_, ?_⟩ <;> rfl); ( obtain ⟨_, q10, r10⟩ : (SPred.rows 2 [x, signL p revB x N]).holds (.slice (some ⟨g10, 0, none⟩) 2 2) w1 := hdep (5, 10) (by decide +kernel); cases q10; refine (c_timesN HN.out p a cap qs _ 2 2 [x, signL p revB x N] w1 hd hp1 hp2 (by omega) (HQ.out.ext (GW.out.trans he)) HQB.out r10 (good_pair HGX.out (sign_good (by omega) HGX.out))).mono ?_; rintro e w2 ⟨g, rfl, ho, g2⟩; exact ⟨_, rfl, g2, g, rfl, ho.mono (Nat.le_trans GW.out.size he.size)⟩); simp only [Act.put, List.setIfInBounds_toArray, List.set_cons_zero, List.set_cons_succ])
  obtain ⟨_, g11, rfl, _⟩ := hv
  (refine LexW.rel rfl rfl (fun w1 he hdep => ?_) (fun v hv => ?_); ( obtain ⟨_, q11, r11⟩ : (SPred.ownG w.heap.size N (timesL p qs [x, signL p revB x N])).holds (.slice (some ⟨g11, 0, none⟩) N N) w1 := hdep (6, 11) (by decide +kernel); cases q11; exact ⟨.pointer (some ⟨g11, 0, none⟩), w1, (by go_simp), Ext.refl _, g11, 0, rfl, ((r11.cell hN1).trans (by rw [HV.out]))⟩); simp only [Act.put, List.setIfInBounds_toArray, List.set_cons_zero, List.set_cons_succ])
  obtain ⟨_, b12, o12, rfl, _⟩ := hv
  (refine LexW.relV rfl rfl (fun w1 he hdep => ?_) ?_; ( obtain ⟨_, _, q12, r12⟩ : (SPred.cell (V)).holds (.pointer (some ⟨b12, o12, none⟩)) w1 := hdep (7, 12) (by decide +kernel); cases q12; exact ⟨w1, (by go_simp), Ext.refl _⟩); simp only [Act.put, List.setIfInBounds_toArray, List.set_cons_zero, List.set_cons_succ])
  (refine LexW.pure (v := ?_) rfl rfl (fun w1 he => ?_) ?_; rotate_left; ( have e1 := he.cell HS0.out; have e2 := he.cell HS1.out; go_simp; rfl); simp only [Act.put, List.setIfInBounds_toArray, List.set_cons_zero, List.set_cons_succ])
  refine LexW.nil (fun w3 he hkn => ?_)
  have HE := Lib.hid (GW.out.trans he)
  clear he hkn 
  go_wp2_with (fail)
  go_ret
  exact ⟨rfl, HE.out⟩

set_option maxHeartbeats 400000 in
theorem s_SpinorNormOf_bad (p : Int) (a : Option Addr) (d cap : Nat) (qs : List Int) (ax1 : Option Addr) (n1 cx1 : Nat) (xs1 : List Int) (w : World) (hd : d ≤ 4194304) (hn1 : n1 ≤ 4194304) (hq : RdC w a d qs) (hx1 : RdC w ax1 n1 xs1) (hc : codeR p qs [xs1] ≠ 0) :
    Calls Try.prog 28 #[.agg #[.int .i64 p, .slice a d cap], .slice ax1 n1 cx1] w fun e w' => e = .returned (.tuple #[.int .i64 0, .int .i64 (codeR p qs [xs1])]) ∧ Ext w w' := by
  have hcb : (codeR p qs [xs1] != 0) = true := by simp [hc]
  clear hc
  go_enter Try.func28, Try.ntmps28
  go_wp2_with (go_at_call 46; refine (s_regular p a d cap qs _ 1 _ [xs1] _ hd (by omega) (len_one (by rw [hx1.1]; exact hn1)) (hq.ext ((ext_alloc _ _).alloc _)) (rdR_one (a := ax1) (n := _) (cap := cx1) (by simp) (hx1.ext ((ext_alloc _ _).alloc _)))).mono ?_; rintro e w1 ⟨rfl, g1⟩)
  go_ret2
  exact ⟨rfl, ((ext_alloc _ _).alloc _).trans g1⟩

set_option maxHeartbeats 4000000 in
set_option maxRecDepth 100000 in
theorem s_SpinorNormOf_ok (p : Int) (a : Option Addr) (d cap : Nat) (qs : List Int) (ax1 : Option Addr) (n1 cx1 : Nat) (xs1 : List Int) (w : World) (hd : d ≤ 4194304) (hn1 : n1 ≤ 4194304) (hq : RdC w a d qs) (hx1 : RdC w ax1 n1 xs1) (hc : codeR p qs [xs1] = 0) :
    Calls Try.prog 28 #[.agg #[.int .i64 p, .slice a d cap], .slice ax1 n1 cx1] w fun e w' => e = .returned (.tuple #[.int .i64 (spinL p qs xs1), .int .i64 0]) ∧ Ext w w' := by
  obtain ⟨hcm, hrg⟩ := codeR_zero hc
  have HRG := Lib.hid hrg
  obtain ⟨hs, hxm1⟩ := codeM_one hcm
  clear hcm hrg
  obtain ⟨hpr, hd1, hd6, hqb⟩ := space_of hs
  have hpb := prime_bd hpr
  obtain ⟨hxl1, hxb1⟩ := multi_of hxm1
  rw [hq.1] at hxl1 hd6
  have hN : n1 = 2 ^ d := hx1.1.symm.trans hxl1
  have HN := Lib.hid hN
  have HPR := Lib.hid hpr
  have HQB := Lib.hid hqb
  have HXB1 := Lib.hid hxb1
  clear hs hxm1 hqb hxb1 hxl1 hpr hd1 hN
  have HC := Lib.hid hc
  have hcb : ((0 : Int) != 0) = false := by simp
  clear hc
  go_enter Try.func28, Try.ntmps28
  go_wp2_with (go_at_call 46; refine (s_regular p a d cap qs _ 1 _ [xs1] _ hd (by omega) (len_one (by rw [hx1.1]; exact hn1)) (hq.ext ((ext_alloc _ _).alloc _)) (rdR_one (a := ax1) (n := _) (cap := cx1) (by simp) (hx1.ext ((ext_alloc _ _).alloc _)))).mono ?_; rintro e w1 ⟨rfl, g1⟩; rw [HC.out]; have hq0 : w1.cell? ⟨w.heap.size, 0, none⟩ = some (.int .i64 p) := g1.cell (by simp); have hq1 : w1.cell? ⟨w.heap.size, 1, none⟩ = some (.slice a d cap) := g1.cell (by simp))
  have G1 := Lib.hid (((ext_alloc w (.cells #[.int .i64 p, .slice a d cap] 28)).alloc (.cells #[.slice ax1 n1 cx1] 22)).trans g1)
  clear g1 hq0 hq1
  refine (s_spinorNorm HN.out p a cap qs ax1 cx1 xs1 w1 (by omega) (by omega) (by omega) (hq.ext G1.out) HQB.out (hx1.ext G1.out) HXB1.out).mono ?_
  rintro e w2 ⟨rfl, g2⟩
  have G2 := Lib.hid g2
  clear g2
  go_wp2_with (fail)
  go_ret2
  exact ⟨rfl, G1.out.trans G2.out⟩

set_option maxHeartbeats 400000 in
theorem c_SpinorNormOf_bad (p : Int) (a : Option Addr) (d cap : Nat) (qs : List Int) (ax1 : Option Addr) (n1 cx1 : Nat) (xs1 : List Int) (w : World) (hd : d ≤ 4194304) (hn1 : n1 ≤ 4194304) (hq : RdC w a d qs) (hx1 : RdC w ax1 n1 xs1) (hc : codeR p qs [xs1] ≠ 0) :
    Calls Try.prog 29 #[.agg #[.int .i64 p, .slice a d cap], .slice ax1 n1 cx1] w fun e w' => e = .returned (.tuple #[.int .i64 0, .int .i64 (codeR p qs [xs1])]) ∧ Ext w w' := by
  have hcb : (codeR p qs [xs1] != 0) = true := by simp [hc]
  clear hc
  go_enter Try.func29, Try.ntmps29
  go_wp2_with (go_at_call 71; refine (c_checkVersM p a d cap qs _ 1 _ [xs1] _ hd (by omega) (len_one (by rw [hx1.1]; exact hn1)) (hq.ext ((ext_alloc _ _).alloc _)) (rdR_one (a := ax1) (n := _) (cap := cx1) (by simp) (hx1.ext ((ext_alloc _ _).alloc _)))).mono ?_; rintro e w1 ⟨rfl, g1⟩)
  go_ret2
  exact ⟨rfl, ((ext_alloc _ _).alloc _).trans g1⟩

set_option maxHeartbeats 4000000 in
set_option maxRecDepth 100000 in
theorem c_SpinorNormOf_ok (p : Int) (a : Option Addr) (d cap : Nat) (qs : List Int) (ax1 : Option Addr) (n1 cx1 : Nat) (xs1 : List Int) (w : World) (hd : d ≤ 4194304) (hn1 : n1 ≤ 4194304) (hq : RdC w a d qs) (hx1 : RdC w ax1 n1 xs1) (hc : codeR p qs [xs1] = 0) :
    Calls Try.prog 29 #[.agg #[.int .i64 p, .slice a d cap], .slice ax1 n1 cx1] w fun e w' => e = .returned (.tuple #[.int .i64 (spinL p qs xs1), .int .i64 0]) ∧ Ext w w' := by
  obtain ⟨hcm, hrg⟩ := codeR_zero hc
  have HRG := Lib.hid hrg
  obtain ⟨hs, hxm1⟩ := codeM_one hcm
  clear hcm hrg
  obtain ⟨hpr, hd1, hd6, hqb⟩ := space_of hs
  have hpb := prime_bd hpr
  obtain ⟨hxl1, hxb1⟩ := multi_of hxm1
  rw [hq.1] at hxl1 hd6
  have hN : n1 = 2 ^ d := hx1.1.symm.trans hxl1
  have HN := Lib.hid hN
  have HPR := Lib.hid hpr
  have HQB := Lib.hid hqb
  have HXB1 := Lib.hid hxb1
  clear hs hxm1 hqb hxb1 hxl1 hpr hd1 hN
  have HC := Lib.hid hc
  have hcb : ((0 : Int) != 0) = false := by simp
  clear hc
  go_enter Try.func29, Try.ntmps29
  go_wp2_with (go_at_call 71; refine (c_checkVersM p a d cap qs _ 1 _ [xs1] _ hd (by omega) (len_one (by rw [hx1.1]; exact hn1)) (hq.ext ((ext_alloc _ _).alloc _)) (rdR_one (a := ax1) (n := _) (cap := cx1) (by simp) (hx1.ext ((ext_alloc _ _).alloc _)))).mono ?_; rintro e w1 ⟨rfl, g1⟩; rw [HC.out]; have hq0 : w1.cell? ⟨w.heap.size, 0, none⟩ = some (.int .i64 p) := g1.cell (by simp); have hq1 : w1.cell? ⟨w.heap.size, 1, none⟩ = some (.slice a d cap) := g1.cell (by simp))
  have G1 := Lib.hid (((ext_alloc w (.cells #[.int .i64 p, .slice a d cap] 28)).alloc (.cells #[.slice ax1 n1 cx1] 22)).trans g1)
  clear g1 hq0 hq1
  refine (c_spinorNorm HN.out p a cap qs ax1 cx1 xs1 w1 (by omega) (by omega) (by omega) (hq.ext G1.out) HQB.out (hx1.ext G1.out) HXB1.out).mono ?_
  rintro e w2 ⟨rfl, g2⟩
  have G2 := Lib.hid g2
  clear g2
  go_wp2_with (fail)
  go_ret2
  exact ⟨rfl, G1.out.trans G2.out⟩

end Go.Proofs.Ytlchmkaaogokiaa
