/-
  Contracts and plain laws, part 7: Dual, AlgC, AlgD, LawVectorSquares, Power.
  No condition.
-/
import Derived.Test.YtbgnfjckbjmgbaaPart3
import Derived.Test.YtbgnfjckbjmgbaaPart4
import Derived.Test.YtbgnfjckbjmgbaaPart6
import Derived.Test.YtbgnfjckbjmgbaaPart2
/-
  Duals; the listed function DualOf.
  No condition.
-/
namespace Go.Proofs.Ytbgnfjckbjmgbaa
set_option maxRecDepth 100000
open Go.RowKit

set_option maxHeartbeats 4000000 in
set_option maxRecDepth 100000 in
theorem c_dual {N d : Nat} (hN : N = 2 ^ d) (p : Int) (a : Option Addr) (cap : Nat) (qs : List Int) (ax : Option Addr) (cx : Nat) (x : List Int) (w : World) (hd : d ≤ 6) (hp1 : 3 ≤ p) (hp2 : p ≤ 1000) (hq : RdC w a d qs) (hqb : isB p qs = true) (hx : RdC w ax N x) (hxb : isB p x = true) (hpr : primeB p = true) (hrg : regB qs = true) :
    Calls Try.prog 113 #[.agg #[.int .i64 p, .slice a d cap], .slice ax N cx] w fun e w' => ∃ g, e = .returned (.slice (some ⟨g, 0, none⟩) N N) ∧ OwnC w.heap.size w' (some ⟨g, 0, none⟩) N N (dualL p qs x) ∧ Ext w w' := by
  have HN := Lib.hid hN
  have hN1 : 1 ≤ N := by rw [hN]; exact pow_pos' d
  have hN0 : ¬ N = 0 := by omega
  have HQ := Lib.hid hq
  have HQB := Lib.hid hqb
  have HX := Lib.hid hx
  have HXB := Lib.hid hxb
  clear hN hq hqb hx hxb
  have hN6 : N ≤ 64 := by rw [HN.out]; exact pow_le64 hd
  have hsb := sqFull_bd (p := p) (qs := qs) hp1
  have hsn : sqFull p qs ≠ 0 := sqFull_ne hpr HQB.out (by rw [HQ.out.1]; exact hd) hrg
  have hib := invN_bd (p := p) (a := sqFull p qs) hp1
  obtain ⟨sq, hsq⟩ : ∃ sq, sq = sqFull p qs := ⟨_, rfl⟩
  rw [← hsq] at hsb hsn hib
  obtain ⟨iv, hiv⟩ : ∃ iv, iv = invN p sq := ⟨_, rfl⟩
  rw [← hiv] at hib
  have HSQ := Lib.hid hsq
  have HIV := Lib.hid hiv
  have HD := Lib.hid (show dualL p qs x = prodL p qs tkL x (topL d iv) by unfold dualL; rw [HQ.out.1, ← hsq, ← hiv])
  have HSC := Lib.hid (show scaleL p (fullL d) iv N = topL d iv by rw [HN.out]; exact scale_full hib.1 hib.2)
  have HPR := Lib.hid hpr
  clear hsq hiv hpr hrg
  obtain ⟨W, hW⟩ : ∃ W, W = w.alloc (.cells #[.int .i64 p, .slice a d cap] 26) := ⟨_, rfl⟩
  have gW : Ext w W := by rw [hW]; exact ext_alloc _ _
  have hs0 : W.cell? ⟨w.heap.size, 0, none⟩ = some (.int .i64 p) := by rw [hW]; simp
  have hs1 : W.cell? ⟨w.heap.size, 1, none⟩ = some (.slice a d cap) := by rw [hW]; simp
  have HS0 := Lib.hid ((ext_drew _).cell hs0)
  have HS1 := Lib.hid ((ext_drew _).cell hs1)
  have GW := Lib.hid (gW.trans (ext_drew _))
  have HW := Lib.hid hW
  clear hs0 hs1 gW hW
  go_enter Try.func113, Try.ntmps113
  go_wp2_with (fail)
  rw [← HW.out]
  refine wp_region_lex [(3, .val (.int .i64 p)), (5, .ownG w.heap.size N (fullL d)), (7, .val (.int .i64 p)), (9, .val (.int .i64 sq)), (10, .val (.int .i64 iv)), (11, .ownS w.heap.size N (scaleL p (fullL d) iv N)), (12, .ownG w.heap.size N (prodL p qs tkL x (scaleL p (fullL d) iv N)))] (by kernel_rfl) (by kernel_rfl) ?_
  (refine LexW.pure (v := ?_) rfl rfl (fun w1 he => ?_) ?_; rotate_left; ( have e1 := he.cell HS0.out; have e2 := he.cell HS1.out; go_simp; rfl); simp only [Act.put, List.setIfInBounds_toArray, List.set_cons_zero, List.set_cons_succ])
  (refine LexW.pure (v := ?_) rfl rfl (fun w1 he => ?_) ?_; rotate_left; ( have e1 := he.cell HS0.out; have e2 := he.cell HS1.out; go_simp; rfl); simp only [Act.put, List.setIfInBounds_toArray, List.set_cons_zero, List.set_cons_succ])
  (refine LexW.pure (v := ?_) rfl rfl (fun w1 he => ?_) ?_; rotate_left; ( have e1 := he.cell HS0.out; have e2 := he.cell HS1.out; go_simp; rfl); simp only [Act.put, List.setIfInBounds_toArray, List.set_cons_zero, List.set_cons_succ])
  (refine LexW.call (f := ?_) (args := ?_) rfl rfl (fun w1 => ?_) (fun w1 he hdep => ?_) ?_; rotate_left 2; (go_simp; refine ⟨?_, ?_⟩ <;> rfl); ( exact c_field _ _ _); simp only [Act.put, List.setIfInBounds_toArray, List.set_cons_zero, List.set_cons_succ])
  (refine LexW.pure (v := ?_) rfl rfl (fun w1 he => ?_) ?_; rotate_left; ( have e1 := he.cell HS0.out; have e2 := he.cell HS1.out; go_simp; rfl); simp only [Act.put, List.setIfInBounds_toArray, List.set_cons_zero, List.set_cons_succ])
  (refine LexW.callR (f := ?_) (args := ?_) rfl rfl (fun w1 => ?_) (fun w1 he hdep => ?_) (fun v hv => ?_); rotate_left 2; (go_simp; refine ⟨?_, ?_⟩ <;> rfl); ( refine (c_fullN HN.out p a cap w1 hd).mono ?_; rintro e w2 ⟨g, rfl, ho, g2⟩; exact ⟨_, rfl, g2, g, rfl, ho.mono (Nat.le_trans GW.out.size he.size)⟩); simp only [Act.put, List.setIfInBounds_toArray, List.set_cons_zero, List.set_cons_succ])
  obtain ⟨_, g10, rfl, _⟩ := hv
  (refine LexW.pure (v := ?_) rfl rfl (fun w1 he => ?_) ?_; rotate_left; ( have e1 := he.cell HS0.out; have e2 := he.cell HS1.out; go_simp; rfl); simp only [Act.put, List.setIfInBounds_toArray, List.set_cons_zero, List.set_cons_succ])
  (refine LexW.call (f := ?_) (args := ?_) rfl rfl (fun w1 => ?_) (fun w1 he hdep => ?_) ?_; rotate_left 2; (go_simp; refine ⟨?_, ?_⟩ <;> rfl); ( exact c_field _ _ _); simp only [Act.put, List.setIfInBounds_toArray, List.set_cons_zero, List.set_cons_succ])
  (refine LexW.pure (v := ?_) rfl rfl (fun w1 he => ?_) ?_; rotate_left; ( have e1 := he.cell HS0.out; have e2 := he.cell HS1.out; go_simp; rfl); simp only [Act.put, List.setIfInBounds_toArray, List.set_cons_zero, List.set_cons_succ])
  (refine LexW.call (f := ?_) (args := ?_) rfl rfl (fun w1 => ?_) (fun w1 he hdep => ?_) ?_; rotate_left 2; (go_simp; refine ⟨?_, ?_⟩ <;> rfl); ( rw [HSQ.out]; exact c_fullSquare p a d cap qs w1 hd hp1 hp2 (HQ.out.ext (GW.out.trans he)) HQB.out); simp only [Act.put, List.setIfInBounds_toArray, List.set_cons_zero, List.set_cons_succ])
  (refine LexW.call (f := ?_) (args := ?_) rfl rfl (fun w1 => ?_) (fun w1 he hdep => ?_) ?_; rotate_left 2; (go_simp; refine ⟨?_, ?_⟩ <;> rfl); ( rw [HIV.out]; exact c_inv p sq w1 hp1 hp2 (by omega) (by omega)); simp only [Act.put, List.setIfInBounds_toArray, List.set_cons_zero, List.set_cons_succ])
  (refine LexW.callR (f := ?_) (args := ?_) rfl rfl (fun w1 => ?_) (fun w1 he hdep => ?_) (fun v hv => ?_); rotate_left 2; (go_simp; refine ⟨?_, ?_⟩ <;> rfl); ( obtain ⟨_, q10, r10⟩ : (SPred.ownG w.heap.size N (fullL d)).holds (.slice (some ⟨g10, 0, none⟩) N N) w1 := hdep (5, 10) (by decide +kernel); cases q10; refine (c_scaled p _ N N (fullL d) iv w1 hp1 hp2 (by omega) (by omega) r10.rd (by rw [HN.out]; exact full_good hp1)).mono ?_; rintro e w2 ⟨g, rc, rfl, ho, g2⟩; exact ⟨_, rfl, g2, g, rc, rfl, ho.mono (Nat.le_trans GW.out.size he.size)⟩); simp only [Act.put, List.setIfInBounds_toArray, List.set_cons_zero, List.set_cons_succ])
  obtain ⟨_, g16, c16, rfl, _⟩ := hv
  (refine LexW.callR (f := ?_) (args := ?_) rfl rfl (fun w1 => ?_) (fun w1 he hdep => ?_) (fun v hv => ?_); rotate_left 2; (go_simp; refine ⟨?_, ?_⟩ <;> rfl); ( obtain ⟨_, _, q16, r16⟩ : (SPred.ownS w.heap.size N (scaleL p (fullL d) iv N)).holds (.slice (some ⟨g16, 0, none⟩) N c16) w1 := hdep (11, 16) (by decide +kernel); cases q16; refine (c_contractN HN.out p a cap qs ax _ cx c16 x (scaleL p (fullL d) iv N) w1 hd hp1 hp2 (HQ.out.ext (GW.out.trans he)) HQB.out (HX.out.ext (GW.out.trans he)) r16.rd HXB.out (scale_good (by omega)).isB).mono ?_; rintro e w2 ⟨g, rfl, ho, g2⟩; exact ⟨_, rfl, g2, g, rfl, ho.mono (Nat.le_trans GW.out.size he.size)⟩); simp only [Act.put, List.setIfInBounds_toArray, List.set_cons_zero, List.set_cons_succ])
  obtain ⟨_, g17, rfl, _⟩ := hv
  (refine LexW.pure (v := ?_) rfl rfl (fun w1 he => ?_) ?_; rotate_left; ( have e1 := he.cell HS0.out; have e2 := he.cell HS1.out; go_simp; rfl); simp only [Act.put, List.setIfInBounds_toArray, List.set_cons_zero, List.set_cons_succ])
  refine LexW.nil (fun w3 he hkn => ?_)
  obtain ⟨_, q17, r17⟩ : (SPred.ownG w.heap.size N (prodL p qs tkL x (scaleL p (fullL d) iv N))).holds (.slice (some ⟨g17, 0, none⟩) N N) w3 := hkn (12, _) (by simp)
  cases q17
  have R17 := Lib.hid r17
  have HE := Lib.hid (GW.out.trans he)
  clear he hkn r17
  go_wp2_with (fail)
  go_ret
  exact ⟨g17, rfl, by rw [HD.out, ← HSC.out]; exact R17.out, HE.out⟩

set_option maxHeartbeats 4000000 in
set_option maxRecDepth 100000 in
theorem s_dual {N d : Nat} (hN : N = 2 ^ d) (p : Int) (a : Option Addr) (cap : Nat) (qs : List Int) (ax : Option Addr) (cx : Nat) (x : List Int) (w : World) (hd : d ≤ 6) (hp1 : 3 ≤ p) (hp2 : p ≤ 1000) (hq : RdC w a d qs) (hqb : isB p qs = true) (hx : RdC w ax N x) (hxb : isB p x = true) (hpr : primeB p = true) (hrg : regB qs = true) :
    Calls Try.prog 117 #[.agg #[.int .i64 p, .slice a d cap], .slice ax N cx] w fun e w' => ∃ g, e = .returned (.slice (some ⟨g, 0, none⟩) N N) ∧ OwnC w.heap.size w' (some ⟨g, 0, none⟩) N N (dualL p qs x) ∧ Ext w w' := by
  have HN := Lib.hid hN
  have hN1 : 1 ≤ N := by rw [hN]; exact pow_pos' d
  have hN0 : ¬ N = 0 := by omega
  have HQ := Lib.hid hq
  have HQB := Lib.hid hqb
  have HX := Lib.hid hx
  have HXB := Lib.hid hxb
  clear hN hq hqb hx hxb
  have hN6 : N ≤ 64 := by rw [HN.out]; exact pow_le64 hd
  have hsb := sqFull_bd (p := p) (qs := qs) hp1
  have hsn : sqFull p qs ≠ 0 := sqFull_ne hpr HQB.out (by rw [HQ.out.1]; exact hd) hrg
  have hib := invN_bd (p := p) (a := sqFull p qs) hp1
  obtain ⟨sq, hsq⟩ : ∃ sq, sq = sqFull p qs := ⟨_, rfl⟩
  rw [← hsq] at hsb hsn hib
  obtain ⟨iv, hiv⟩ : ∃ iv, iv = invN p sq := ⟨_, rfl⟩
  rw [← hiv] at hib
  have HSQ := Lib.hid hsq
  have HIV := Lib.hid hiv
  have HD := Lib.hid (show dualL p qs x = prodL p qs tkL x (topL d iv) by unfold dualL; rw [HQ.out.1, ← hsq, ← hiv])
  have HSC := Lib.hid (show scaleL p (fullL d) iv N = topL d iv by rw [HN.out]; exact scale_full hib.1 hib.2)
  have HPR := Lib.hid hpr
  clear hsq hiv hpr hrg
  obtain ⟨W, hW⟩ : ∃ W, W = w.alloc (.cells #[.int .i64 p, .slice a d cap] 26) := ⟨_, rfl⟩
  have gW : Ext w W := by rw [hW]; exact ext_alloc _ _
  have hs0 : W.cell? ⟨w.heap.size, 0, none⟩ = some (.int .i64 p) := by rw [hW]; simp
  have hs1 : W.cell? ⟨w.heap.size, 1, none⟩ = some (.slice a d cap) := by rw [hW]; simp
  have HS0 := Lib.hid ((ext_drew _).cell hs0)
  have HS1 := Lib.hid ((ext_drew _).cell hs1)
  have GW := Lib.hid (gW.trans (ext_drew _))
  have HW := Lib.hid hW
  clear hs0 hs1 gW hW
  go_enter Try.func117, Try.ntmps117
  go_wp2_with (fail)
  rw [← HW.out]
  refine wp_region_lex [(6, .val (.int .i64 sq)), (7, .val (.int .i64 iv)), (8, .ownG w.heap.size N (topL d iv)), (9, .ownG w.heap.size N (prodL p qs tkL x (topL d iv)))] (by kernel_rfl) (by kernel_rfl) ?_
  (refine LexW.pure (v := ?_) rfl rfl (fun w1 he => ?_) ?_; rotate_left; ( have e1 := he.cell HS0.out; have e2 := he.cell HS1.out; go_simp; rfl); simp only [Act.put, List.setIfInBounds_toArray, List.set_cons_zero, List.set_cons_succ])
  (refine LexW.pure (v := ?_) rfl rfl (fun w1 he => ?_) ?_; rotate_left; ( have e1 := he.cell HS0.out; have e2 := he.cell HS1.out; go_simp; rfl); simp only [Act.put, List.setIfInBounds_toArray, List.set_cons_zero, List.set_cons_succ])
  (refine LexW.pure (v := ?_) rfl rfl (fun w1 he => ?_) ?_; rotate_left; ( have e1 := he.cell HS0.out; have e2 := he.cell HS1.out; go_simp; rfl); simp only [Act.put, List.setIfInBounds_toArray, List.set_cons_zero, List.set_cons_succ])
  (refine LexW.pure (v := ?_) rfl rfl (fun w1 he => ?_) ?_; rotate_left; ( have e1 := he.cell HS0.out; have e2 := he.cell HS1.out; go_simp; rfl); simp only [Act.put, List.setIfInBounds_toArray, List.set_cons_zero, List.set_cons_succ])
  (refine LexW.pure (v := ?_) rfl rfl (fun w1 he => ?_) ?_; rotate_left; ( have e1 := he.cell HS0.out; have e2 := he.cell HS1.out; go_simp; rfl); simp only [Act.put, List.setIfInBounds_toArray, List.set_cons_zero, List.set_cons_succ])
  (refine LexW.pure (v := ?_) rfl rfl (fun w1 he => ?_) ?_; rotate_left; ( have e1 := he.cell HS0.out; have e2 := he.cell HS1.out; go_simp; rfl); simp only [Act.put, List.setIfInBounds_toArray, List.set_cons_zero, List.set_cons_succ])
  (refine LexW.call (f := ?_) (args := ?_) rfl rfl (fun w1 => ?_) (fun w1 he hdep => ?_) ?_; rotate_left 2; (go_simp; refine ⟨?_, ?_⟩ <;> rfl); ( rw [HSQ.out]; exact s_square p a d cap qs w1 hd hp1 hp2 (HQ.out.ext (GW.out.trans he)) HQB.out); simp only [Act.put, List.setIfInBounds_toArray, List.set_cons_zero, List.set_cons_succ])
  (refine LexW.call (f := ?_) (args := ?_) rfl rfl (fun w1 => ?_) (fun w1 he hdep => ?_) ?_; rotate_left 2; (go_simp; refine ⟨?_, ?_⟩ <;> rfl); ( rw [HIV.out]; exact s_inv p sq w1 HPR.out (by omega) (by omega)); simp only [Act.put, List.setIfInBounds_toArray, List.set_cons_zero, List.set_cons_succ])
  (refine LexW.callR (f := ?_) (args := ?_) rfl rfl (fun w1 => ?_) (fun w1 he hdep => ?_) (fun v hv => ?_); rotate_left 2; (go_simp; refine ⟨?_, ?_⟩ <;> rfl); ( refine (s_topN HN.out p a cap iv w1 hd).mono ?_; rintro e w2 ⟨g, rfl, ho, g2⟩; exact ⟨_, rfl, g2, g, rfl, ho.mono (Nat.le_trans GW.out.size he.size)⟩); simp only [Act.put, List.setIfInBounds_toArray, List.set_cons_zero, List.set_cons_succ])
  obtain ⟨_, g13, rfl, _⟩ := hv
  (refine LexW.callR (f := ?_) (args := ?_) rfl rfl (fun w1 => ?_) (fun w1 he hdep => ?_) (fun v hv => ?_); rotate_left 2; (go_simp; refine ⟨?_, ?_⟩ <;> rfl); ( obtain ⟨_, q13, r13⟩ : (SPred.ownG w.heap.size N (topL d iv)).holds (.slice (some ⟨g13, 0, none⟩) N N) w1 := hdep (8, 13) (by decide +kernel); cases q13; refine (s_leftN HN.out p a cap qs ax _ cx N x (topL d iv) w1 hd hp1 hp2 (HQ.out.ext (GW.out.trans he)) HQB.out (HX.out.ext (GW.out.trans he)) r13.rd HXB.out (top_good hp1 hib.1 hib.2).isB).mono ?_; rintro e w2 ⟨g, rfl, ho, g2⟩; exact ⟨_, rfl, g2, g, rfl, ho.mono (Nat.le_trans GW.out.size he.size)⟩); simp only [Act.put, List.setIfInBounds_toArray, List.set_cons_zero, List.set_cons_succ])
  obtain ⟨_, g14, rfl, _⟩ := hv
  (refine LexW.pure (v := ?_) rfl rfl (fun w1 he => ?_) ?_; rotate_left; ( have e1 := he.cell HS0.out; have e2 := he.cell HS1.out; go_simp; rfl); simp only [Act.put, List.setIfInBounds_toArray, List.set_cons_zero, List.set_cons_succ])
  refine LexW.nil (fun w3 he hkn => ?_)
  obtain ⟨_, q14, r14⟩ : (SPred.ownG w.heap.size N (prodL p qs tkL x (topL d iv))).holds (.slice (some ⟨g14, 0, none⟩) N N) w3 := hkn (9, _) (by simp)
  cases q14
  have R14 := Lib.hid r14
  have HE := Lib.hid (GW.out.trans he)
  clear he hkn r14
  go_wp2_with (fail)
  go_ret
  exact ⟨g14, rfl, by rw [HD.out]; exact R14.out, HE.out⟩


set_option maxHeartbeats 400000 in
theorem c_DualOf_bad (p : Int) (a : Option Addr) (d cap : Nat) (qs : List Int) (ax1 : Option Addr) (n1 cx1 : Nat) (xs1 : List Int) (w : World) (hd : d ≤ 4194304) (hn1 : n1 ≤ 4194304) (hq : RdC w a d qs) (hx1 : RdC w ax1 n1 xs1) (hc : codeR p qs [xs1] ≠ 0) :
    Calls Try.prog 49 #[.agg #[.int .i64 p, .slice a d cap], .slice ax1 n1 cx1] w fun e w' => ∃ ra rc, e = .returned (.tuple #[.slice ra 0 rc, .int .i64 (codeR p qs [xs1])]) ∧ OwnC w.heap.size w' ra 0 rc [] ∧ Ext w w' := by
  have hcb : (codeR p qs [xs1] != 0) = true := by simp [hc]
  clear hc
  go_enter Try.func49, Try.ntmps49
  go_wp2_with (go_at_call 111; refine (c_checkRegular p a d cap qs _ 1 _ [xs1] _ hd (by omega) (len_one (by rw [hx1.1]; exact hn1)) (hq.ext ((ext_alloc _ _).alloc _)) (rdR_one (a := ax1) (n := _) (cap := cx1) (by simp) (hx1.ext ((ext_alloc _ _).alloc _)))).mono ?_; rintro e w1 ⟨rfl, g1⟩)
  go_ret2
  exact ⟨none, 0, rfl, own_nil _ _, ((ext_alloc _ _).alloc _).trans g1⟩

set_option maxHeartbeats 4000000 in
set_option maxRecDepth 100000 in
theorem c_DualOf_ok (p : Int) (a : Option Addr) (d cap : Nat) (qs : List Int) (ax1 : Option Addr) (n1 cx1 : Nat) (xs1 : List Int) (w : World) (hd : d ≤ 4194304) (hn1 : n1 ≤ 4194304) (hq : RdC w a d qs) (hx1 : RdC w ax1 n1 xs1) (hc : codeR p qs [xs1] = 0) :
    Calls Try.prog 49 #[.agg #[.int .i64 p, .slice a d cap], .slice ax1 n1 cx1] w fun e w' => ∃ ra rc, e = .returned (.tuple #[.slice ra n1 rc, .int .i64 0]) ∧ OwnC w.heap.size w' ra n1 rc (dualL p qs xs1) ∧ Ext w w' := by
  obtain ⟨hcm, hrg⟩ := codeR_zero hc
  have HRG := Lib.hid hrg
  obtain ⟨hs, hxm1⟩ := codeM_one hcm
  clear hcm hrg
  obtain ⟨hpr, hd1, hd6, hqb⟩ := space_of hs
  have hpb := prime_bd hpr
  obtain ⟨hxl1, hxb1⟩ := multi_of hxm1
  rw [hq.1] at hxl1 hd6
  have hN : n1 = 2 ^ d := hx1.1.symm.trans hxl1
  have HN := Lib.hid hN
  have HPR := Lib.hid hpr
  have HQB := Lib.hid hqb
  have HXB1 := Lib.hid hxb1
  clear hs hxm1 hqb hxb1 hxl1 hpr hd1 hN
  have HC := Lib.hid hc
  have hcb : ((0 : Int) != 0) = false := by simp
  clear hc
  go_enter Try.func49, Try.ntmps49
  go_wp2_with (go_at_call 111; refine (c_checkRegular p a d cap qs _ 1 _ [xs1] _ hd (by omega) (len_one (by rw [hx1.1]; exact hn1)) (hq.ext ((ext_alloc _ _).alloc _)) (rdR_one (a := ax1) (n := _) (cap := cx1) (by simp) (hx1.ext ((ext_alloc _ _).alloc _)))).mono ?_; rintro e w1 ⟨rfl, g1⟩; rw [HC.out]; have hq0 : w1.cell? ⟨w.heap.size, 0, none⟩ = some (.int .i64 p) := g1.cell (by simp); have hq1 : w1.cell? ⟨w.heap.size, 1, none⟩ = some (.slice a d cap) := g1.cell (by simp))
  have G1 := Lib.hid (((ext_alloc w (.cells #[.int .i64 p, .slice a d cap] 26)).alloc (.cells #[.slice ax1 n1 cx1] 24)).trans g1)
  clear g1 hq0 hq1
  refine (c_dual HN.out p a cap qs ax1 cx1 xs1 w1 (by omega) (by omega) (by omega) (hq.ext G1.out) HQB.out (hx1.ext G1.out) HXB1.out HPR.out HRG.out).mono ?_
  rintro e w2 ⟨g, rfl, ho, g2⟩
  have G2 := Lib.hid g2
  clear g2
  go_wp2_with (fail)
  go_ret2
  exact ⟨some ⟨g, 0, none⟩, _, rfl, ho.mono G1.out.size, G1.out.trans G2.out⟩

end Go.Proofs.Ytbgnfjckbjmgbaa

/-
  Reverses of products, and products with the pseudoscalar, in plain numbers.
  No condition. No program in sight.
-/
namespace Go.Proofs.Ytbgnfjckbjmgbaa
set_option maxRecDepth 100000
open Go.RowKit

/-! ### Signs and squares apart -/
def sgS (a b : Nat) : Nat → Int
  | 0 => 1
  | k + 1 => sgS a b k * (if b.testBit k then sgZ a k else 1)
def sqS (qs : List Int) (a b : Nat) : Nat → Int
  | 0 => 1
  | k + 1 => sqS qs a b k * (if (a.testBit k && b.testBit k) = true then nth qs k else 1)
theorem facZ_parts (qs : List Int) (a b : Nat) : ∀ k, facZ qs a b k = sgS a b k * sqS qs a b k
  | 0 => rfl
  | k + 1 => by
    rw [facZ, facZ_parts qs a b k, sgS, sqS, stZ]
    cases a.testBit k <;> cases b.testBit k <;> simp <;> ac_rfl
theorem sqS_comm (qs : List Int) (a b : Nat) : ∀ k, sqS qs a b k = sqS qs b a k
  | 0 => rfl
  | k + 1 => by rw [sqS, sqS, sqS_comm qs a b k, Bool.and_comm]
theorem sgS_rest {a b d : Nat} (hb : b < 2 ^ d) : ∀ k, sgS a b (d + k) = sgS a b d
  | 0 => rfl
  | k + 1 => by
    rw [← Nat.add_assoc, sgS, sgS_rest hb k]
    have : b.testBit (d + k) = false := Nat.testBit_lt_two_pow (Nat.lt_of_lt_of_le hb (Nat.pow_le_pow_right (by omega) (by omega)))
    simp [this]
def rvS (a : Nat) : Int := if revB (popc a) = true then -1 else 1
theorem rvS_sq (a : Nat) : rvS a * rvS a = 1 := by unfold rvS; split <;> rfl
theorem rev_sign (a b : Nat) (ha : a < 64) (hb : b < 64) : sgS b a 6 * (rvS a * rvS b) = rvS (a ^^^ b) * sgS a b 6 := by
  have : ∀ a : Nat, a < 64 → ∀ b : Nat, b < 64 → sgS b a 6 * (rvS a * rvS b) = rvS (a ^^^ b) * sgS a b 6 := by decide +kernel
  exact this a ha b hb
theorem facZ_rev {qs : List Int} {a b : Nat} (hd : qs.length ≤ 6) (ha : a < 2 ^ qs.length) (hb : b < 2 ^ qs.length) : facZ qs b a qs.length * (rvS a * rvS b) = rvS (a ^^^ b) * facZ qs a b qs.length := by
  have hN := pow_le64 hd
  have h1 := sgS_rest (a := b) ha (6 - qs.length)
  have h2 := sgS_rest (a := a) hb (6 - qs.length)
  rw [Nat.add_sub_cancel' hd] at h1 h2
  rw [facZ_parts, facZ_parts, ← h1, ← h2, sqS_comm qs b a, show sgS b a 6 * sqS qs a b qs.length * (rvS a * rvS b) = sgS b a 6 * (rvS a * rvS b) * sqS qs a b qs.length by ac_rfl, rev_sign a b (by omega) (by omega), Int.mul_assoc]
theorem sign_emod {p : Int} {x : List Int} {n i : Nat} (h : i < n) : nth (signL p revB x n) i % p = (rvS i * nth x i) % p := by
  rw [signL_nth h]
  unfold signN rvS
  split
  · rw [Int.emod_emod]; congr 1; omega
  · rw [Int.one_mul]
/-- The reverse of a product is the product of the reverses in the other order. -/
theorem rev_prod {p : Int} {qs x y : List Int} {tk tk' : Nat → Nat → Bool} (hp : 1 ≤ p) (hd : qs.length ≤ 6) (ht : ∀ a b, tk' b a = tk a b) :
    signL p revB (prodL p qs tk x y) (2 ^ qs.length) = prodL p qs tk' (signL p revB y (2 ^ qs.length)) (signL p revB x (2 ^ qs.length)) := by
  have g1 : Good p (2 ^ qs.length) (signL p revB (prodL p qs tk x y) (2 ^ qs.length)) := sign_good hp (prod_good hp)
  have g2 : Good p (2 ^ qs.length) (prodL p qs tk' (signL p revB y (2 ^ qs.length)) (signL p revB x (2 ^ qs.length))) := prod_good hp
  refine ext_nth (by rw [g1.1, g2.1]) fun k hk => ?_
  rw [g1.1] at hk
  have b1 := g1.2 k hk
  have b2 := g2.2 k hk
  rw [← Int.emod_eq_of_lt b1.1 b1.2, ← Int.emod_eq_of_lt b2.1 b2.2, sign_emod hk, prodT_nth hp hk, prodT_nth hp hk, Int.emod_emod, Int.mul_emod, Int.emod_emod, ← Int.mul_emod, ← sumN_mul, ← sumN_xor hd hk]
  refine sumN_emod fun i hi => ?_
  have hki := Nat.xor_lt_two_pow hk hi
  have x1 : k ^^^ i ^^^ k = i := by rw [Nat.xor_comm k i, Nat.xor_assoc, Nat.xor_self, Nat.xor_zero]
  rw [x1]
  have x2 : i ^^^ k = k ^^^ i := Nat.xor_comm _ _
  have hf := facZ_rev (qs := qs) hd hki hi
  rw [show k ^^^ i ^^^ i = k by rw [Nat.xor_assoc, Nat.xor_self, Nat.xor_zero]] at hf
  rw [x2, show tkI tk' i (k ^^^ i) = tkI tk (k ^^^ i) i by unfold tkI; rw [ht]]
  have e : (tkI tk (k ^^^ i) i * (nth (signL p revB y (2 ^ qs.length)) i * nth (signL p revB x (2 ^ qs.length)) (k ^^^ i) * facZ qs i (k ^^^ i) qs.length)) % p =
      (tkI tk (k ^^^ i) i * ((rvS i * nth y i) * (rvS (k ^^^ i) * nth x (k ^^^ i)) * facZ qs i (k ^^^ i) qs.length)) % p :=
    mul_emod_congr rfl (mul_emod_congr (mul_emod_congr (sign_emod hi) (sign_emod hki)) rfl)
  rw [e]
  congr 1
  rw [show tkI tk (k ^^^ i) i * ((rvS i * nth y i) * (rvS (k ^^^ i) * nth x (k ^^^ i)) * facZ qs i (k ^^^ i) qs.length) = tkI tk (k ^^^ i) i * nth x (k ^^^ i) * nth y i * (facZ qs i (k ^^^ i) qs.length * (rvS (k ^^^ i) * rvS i)) by ac_rfl, hf]
  ac_rfl

/-! ### The pseudoscalar -/
theorem topL_len (d : Nat) (k : Int) : (topL d k).length = 2 ^ d := by simp [topL]
theorem topL_nth {d i : Nat} {k : Int} (hi : i < 2 ^ d) : nth (topL d k) i = if i = 2 ^ d - 1 then k else 0 := by
  have := pow_pos' d
  unfold topL
  rw [nth_set (by simp; omega), nth_replicate hi]
  by_cases h : 2 ^ d - 1 = i
  · rw [if_pos h, if_pos h.symm]
  · rw [if_neg h, if_neg (Ne.symm h)]
theorem and_full {d i : Nat} (hi : i < 2 ^ d) : i &&& (2 ^ d - 1) = i := by
  rw [Nat.and_two_pow_sub_one_eq_mod, Nat.mod_eq_of_lt hi]
/-- The left contraction into a multiple of the pseudoscalar is the geometric product. -/
theorem left_top {p k : Int} {qs x : List Int} (hp : 1 ≤ p) : prodL p qs tkL x (topL qs.length k) = prodL p qs tkA x (topL qs.length k) := by
  refine ext_nth (by rw [(prod_good hp).1, (prod_good hp).1]) fun i hi => ?_
  rw [(prod_good hp).1] at hi
  rw [prodT_nth hp hi, prodT_nth hp hi]
  congr 1
  refine sumN_congr fun j hj => ?_
  have hji := Nat.xor_lt_two_pow hj hi
  rw [topL_nth hji]
  by_cases h : j ^^^ i = 2 ^ qs.length - 1
  · rw [h]
    have : tkI tkL j (2 ^ qs.length - 1) = tkI tkA j (2 ^ qs.length - 1) := by
      unfold tkI tkL tkA
      rw [and_full hj]; simp
    rw [this]
  · rw [if_neg h]; simp
theorem top_top {p j k : Int} {qs : List Int} (hp : 3 ≤ p) (hd : qs.length ≤ 6) (h : (j * k * sqFull p qs) % p = 1) : prodL p qs tkA (topL qs.length j) (topL qs.length k) = bladeL (2 ^ qs.length) 0 := by
  have hN := pow_pos' qs.length
  refine ext_nth (by rw [(prod_good (by omega)).1, bladeL_len]) fun i hi => ?_
  rw [(prod_good (by omega)).1] at hi
  rw [bladeL_nth (by omega) hi, prodA_nth (by omega) hi, sumN_single (k := 2 ^ qs.length - 1) (by omega) (fun m hm hne => by rw [topL_nth hm, if_neg hne]; simp)]
  rw [topL_nth (by omega), if_pos rfl, topL_nth (Nat.xor_lt_two_pow (by omega) hi)]
  by_cases h0 : 0 = i
  · subst h0
    rw [Nat.xor_zero, if_pos rfl, if_pos rfl, ← h, sqFull_eq hp hd]
    exact mul_emod_congr rfl (fac_emod.symm)
  · rw [if_neg h0, if_neg (fun e => h0 (by
      have := xor_eq_iff.1 e
      rw [Nat.xor_self] at this; exact this.symm))]
    simp
/-- The undual of the dual. -/
theorem undual_dual {p : Int} {qs x : List Int} (hp : primeB p = true) (hq : isB p qs = true) (hd : qs.length ≤ 6) (hr : regB qs = true) (hx : Good p (2 ^ qs.length) x) :
    prodL p qs tkL (dualL p qs x) (fullL qs.length) = x := by
  have hpb := prime_bd hp
  have hb := sqFull_bd (p := p) (qs := qs) (by omega)
  have hne := sqFull_ne hp hq hd hr
  have hi := (inv_spec hp (show 0 < sqFull p qs by omega) hb.2).2.1
  unfold dualL
  rw [← topL_one, left_top (by omega), left_top (by omega), prod_assoc (by omega) hd, top_top (by omega) hd (by rw [Int.mul_one, Int.mul_comm]; exact hi), times_one (by omega) hx]
theorem dual_undual {p : Int} {qs x : List Int} (hp : primeB p = true) (hq : isB p qs = true) (hd : qs.length ≤ 6) (hr : regB qs = true) (hx : Good p (2 ^ qs.length) x) :
    dualL p qs (prodL p qs tkL x (fullL qs.length)) = x := by
  have hpb := prime_bd hp
  have hb := sqFull_bd (p := p) (qs := qs) (by omega)
  have hne := sqFull_ne hp hq hd hr
  have hi := (inv_spec hp (show 0 < sqFull p qs by omega) hb.2).2.1
  unfold dualL
  rw [← topL_one, left_top (by omega), left_top (by omega), prod_assoc (by omega) hd, top_top (by omega) hd (by rw [Int.one_mul, Int.mul_comm]; exact hi), times_one (by omega) hx]

end Go.Proofs.Ytbgnfjckbjmgbaa

/-
  Vectors in products, and matrices of multiplications, in plain numbers.
  No condition. No program in sight.
-/
namespace Go.Proofs.Ytbgnfjckbjmgbaa
set_option maxRecDepth 100000
open Go.RowKit

theorem vecS_nth {N d : Nat} {v : List Int} (hN : N = 2 ^ d) : ∀ k, k ≤ d → ∀ m, m < N → (∀ i, i < k → m = 2 ^ i → nth (vecS N v k) m = nth v i) ∧ ((∀ i, i < k → m ≠ 2 ^ i) → nth (vecS N v k) m = 0)
  | 0, _, m, hm => ⟨fun i hi => absurd hi (Nat.not_lt_zero _), fun _ => nth_replicate hm⟩
  | k + 1, hk, m, hm => by
    obtain ⟨h1, h2⟩ := vecS_nth hN k (by omega) m hm (v := v)
    have hl : (vecS N v k).length = N := by
      have : ∀ j, (vecS N v j).length = N := fun j => by
        induction j with
        | zero => simp [vecS]
        | succ j ih => simp [vecS, ih]
      exact this k
    have hkN : 2 ^ k < N := by rw [hN]; exact Nat.pow_lt_pow_right (by omega) (by omega)
    unfold vecS
    rw [nth_set (by rw [hl]; exact hkN)]
    constructor
    · intro i hi he
      by_cases hik : i = k
      · subst hik; rw [if_pos he.symm]
      · have : ¬ 2 ^ k = m := fun h => by have : 2 ^ i < 2 ^ k := Nat.pow_lt_pow_right (by omega) (by omega); omega
        rw [if_neg this]; exact h1 i (by omega) he
    · intro h
      rw [if_neg (fun e => h k (by omega) e.symm)]
      exact h2 fun i hi => h i (by omega)
theorem vec_bit {d i : Nat} {v : List Int} (hv : v.length = d) (hi : i < d) : nth (vecL (2 ^ d) v) (2 ^ i) = nth v i := by
  unfold vecL
  exact (vecS_nth rfl v.length (by omega) (2 ^ i) (Nat.pow_lt_pow_right (by omega) (by omega))).1 i (by omega) rfl
theorem vec_no {d m : Nat} {v : List Int} (hv : v.length = d) (hm : m < 2 ^ d) (h : ∀ i, i < d → m ≠ 2 ^ i) : nth (vecL (2 ^ d) v) m = 0 := by
  unfold vecL
  exact (vecS_nth rfl v.length (by omega) m hm).2 fun i hi => h i (by omega)
/-- A sum over blades with a vector is a sum over its numbers. -/
theorem sum_bits (g : Nat → Int) : ∀ d, (∀ m, m < 2 ^ d → (∀ i, i < d → m ≠ 2 ^ i) → g m = 0) → sumN (2 ^ d) g = sumN d fun i => g (2 ^ i)
  | 0, h => by
    show sumN 0 g + g 0 = 0
    rw [h 0 (by decide) (fun i hi => absurd hi (Nat.not_lt_zero _))]; rfl
  | d + 1, h => by
    have split : ∀ n m, sumN (n + m) g = sumN n g + sumN m fun i => g (n + i) := fun n m => by
      induction m with
      | zero => simp [sumN]
      | succ m ih => rw [← Nat.add_assoc]; simp only [sumN]; rw [ih, Int.add_assoc]
    have hpos : 0 < 2 ^ d := Nat.pos_of_ne_zero (by simp)
    rw [Nat.pow_succ, Nat.mul_two, split]
    have h1 : sumN (2 ^ d) g = sumN d fun i => g (2 ^ i) := sum_bits g d fun m hm hno => h m (by rw [Nat.pow_succ]; omega) fun i hi => by
      by_cases hid : i = d
      · subst hid; omega
      · exact hno i (by omega)
    rw [h1, sumN_single (k := 0) hpos (fun m hm hne => h (2 ^ d + m) (by rw [Nat.pow_succ]; omega) fun i hi => by
      by_cases hid : i = d
      · subst hid; omega
      · have : 2 ^ i < 2 ^ d := Nat.pow_lt_pow_right (by omega) (by omega)
        omega)]
    rfl
theorem sum_vec {d : Nat} {v : List Int} (hv : v.length = d) (g : Nat → Int) : sumN (2 ^ d) (fun m => nth (vecL (2 ^ d) v) m * g m) = sumN d fun i => nth v i * g (2 ^ i) := by
  rw [sum_bits _ d fun m hm hno => by rw [vec_no hv hm hno, Int.zero_mul]]
  exact sumN_congr fun i hi => by rw [vec_bit hv hi]

/-- The product of two vectors of a space. -/
def pairZ (qs v w : List Int) : Int := sumN qs.length fun i => nth v i * nth w i * nth qs i
theorem sgS_bits (i j : Nat) (hi : i < 6) (hj : j < 6) : (i ≠ j → sgS (2 ^ i) (2 ^ j) 6 = - sgS (2 ^ j) (2 ^ i) 6) ∧ sgS (2 ^ i) (2 ^ i) 6 = 1 := by
  have : ∀ i : Nat, i < 6 → ∀ j : Nat, j < 6 → (i ≠ j → sgS (2 ^ i) (2 ^ j) 6 = - sgS (2 ^ j) (2 ^ i) 6) ∧ sgS (2 ^ i) (2 ^ i) 6 = 1 := by decide +kernel
  exact this i hi j hj
theorem sqS_one (qs : List Int) {a b : Nat} : ∀ k, (∀ i, i < k → (a.testBit i && b.testBit i) = false) → sqS qs a b k = 1
  | 0, _ => rfl
  | k + 1, h => by
    rw [sqS, sqS_one qs k fun i hi => h i (by omega), h k (by omega)]; rfl
theorem sqS_bit (qs : List Int) {i : Nat} : ∀ k, sqS qs (2 ^ i) (2 ^ i) k = if i < k then nth qs i else 1
  | 0 => rfl
  | k + 1 => by
    rw [sqS, sqS_bit qs k, Nat.testBit_two_pow]
    by_cases hik : i = k
    · subst hik; simp
    · have : ¬ (i = k) := hik
      simp only [this, decide_false, Bool.and_false, Bool.false_eq_true, if_false, Int.mul_one]
      by_cases h : i < k
      · rw [if_pos h, if_pos (by omega)]
      · rw [if_neg h, if_neg (by omega)]
theorem facZ_bits {qs : List Int} {i j : Nat} (hd : qs.length ≤ 6) (hi : i < qs.length) (hj : j < qs.length) : (i ≠ j → facZ qs (2 ^ i) (2 ^ j) qs.length = - facZ qs (2 ^ j) (2 ^ i) qs.length) ∧ facZ qs (2 ^ i) (2 ^ i) qs.length = nth qs i := by
  obtain ⟨h1, h2⟩ := sgS_bits i j (by omega) (by omega)
  have lt : ∀ i, i < qs.length → (2 : Nat) ^ i < 2 ^ qs.length := fun i hi => Nat.pow_lt_pow_right (by omega) hi
  have e1 := sgS_rest (a := 2 ^ i) (lt j hj) (6 - qs.length)
  have e2 := sgS_rest (a := 2 ^ j) (lt i hi) (6 - qs.length)
  have e3 := sgS_rest (a := 2 ^ i) (lt i hi) (6 - qs.length)
  rw [Nat.add_sub_cancel' hd] at e1 e2 e3
  rw [facZ_parts, facZ_parts, facZ_parts, ← e1, ← e2, ← e3, h2, sqS_bit, if_pos hi, Int.one_mul]
  refine ⟨fun hne => ?_, rfl⟩
  rw [h1 hne, sqS_comm qs (2 ^ j)]
  exact Int.neg_mul _ _
/-- v w + w v -/
theorem vec_anti {p : Int} {qs v w : List Int} (hp : 1 ≤ p) (hd : qs.length ≤ 6) (hv : v.length = qs.length) (hw : w.length = qs.length) :
    plusL p (prodL p qs tkA (vecL (2 ^ qs.length) v) (vecL (2 ^ qs.length) w)) (prodL p qs tkA (vecL (2 ^ qs.length) w) (vecL (2 ^ qs.length) v)) 1 (2 ^ qs.length) = (List.replicate (2 ^ qs.length) 0).set 0 ((2 * pairZ qs v w) % p) := by
  have hN := pow_pos' qs.length
  refine ext_nth (by rw [plusL_len]; simp) fun k hk => ?_
  rw [plusL_len] at hk
  rw [plusL_nth hk, plusN, prodA_nth hp hk, prodA_nth hp hk, Int.one_mul, Int.emod_add_emod, Int.add_emod_emod, nth_set (by simp; omega), nth_replicate hk]
  have e : ∀ x y : List Int, sumN (2 ^ qs.length) (fun i => nth (vecL (2 ^ qs.length) x) i * nth (vecL (2 ^ qs.length) y) (i ^^^ k) * facZ qs i (i ^^^ k) qs.length) = sumN (2 ^ qs.length) (fun i => nth (vecL (2 ^ qs.length) x) i * (nth (vecL (2 ^ qs.length) y) (i ^^^ k) * facZ qs i (i ^^^ k) qs.length)) := fun x y => sumN_congr fun i _ => Int.mul_assoc _ _ _
  have lt : ∀ i, i < qs.length → (2 : Nat) ^ i < 2 ^ qs.length := fun i hi => Nat.pow_lt_pow_right (by omega) hi
  by_cases h0 : 0 = k
  · subst h0
    rw [if_pos rfl, e, e, sum_vec hv, sum_vec hw]
    simp only [Nat.xor_zero]
    congr 1
    unfold pairZ
    rw [← sumN_add, ← sumN_mul]
    refine sumN_congr fun i hi => ?_
    rw [vec_bit hv hi, vec_bit hw hi, (facZ_bits hd hi hi).2, Int.two_mul]
    congr 1
    · exact (Int.mul_assoc _ _ _).symm
    · ac_rfl
  · rw [if_neg h0]
    -- the second sum, blade by blade, is the first one's opposite
    rw [← sumN_xor hd hk (fun i => nth (vecL (2 ^ qs.length) w) i * nth (vecL (2 ^ qs.length) v) (i ^^^ k) * facZ qs i (i ^^^ k) qs.length), ← sumN_add]
    have : ∀ i, i < 2 ^ qs.length → nth (vecL (2 ^ qs.length) v) i * nth (vecL (2 ^ qs.length) w) (i ^^^ k) * facZ qs i (i ^^^ k) qs.length + nth (vecL (2 ^ qs.length) w) (k ^^^ i) * nth (vecL (2 ^ qs.length) v) (k ^^^ i ^^^ k) * facZ qs (k ^^^ i) (k ^^^ i ^^^ k) qs.length = 0 := fun i hi => by
      have x1 : k ^^^ i ^^^ k = i := by rw [Nat.xor_comm k i, Nat.xor_assoc, Nat.xor_self, Nat.xor_zero]
      rw [x1, Nat.xor_comm k i]
      have hik := Nat.xor_lt_two_pow hi hk
      by_cases hb : ∃ s, s < qs.length ∧ i = 2 ^ s
      · obtain ⟨s, hs, rfl⟩ := hb
        by_cases hc : ∃ t, t < qs.length ∧ 2 ^ s ^^^ k = 2 ^ t
        · obtain ⟨t, ht, hst⟩ := hc
          rw [hst]
          have hne : s ≠ t := fun h => by
            subst h
            exact h0 (by have := xor_eq_iff.1 hst; rw [Nat.xor_self] at this; exact this.symm)
          rw [(facZ_bits hd hs ht).1 hne]
          rw [Int.mul_comm (nth (vecL (2 ^ qs.length) w) _), Int.mul_neg]
          omega
        · rw [vec_no hw hik (fun t ht h => hc ⟨t, ht, h⟩)]; simp
      · rw [vec_no hv hi (fun s hs h => hb ⟨s, hs, h⟩)]; simp
    rw [sumN_zero this]; rfl

/-- The geometric product of a vector is its left contraction and its wedge product together. -/
theorem vec_prod {p : Int} {qs v y : List Int} (hp : 1 ≤ p) (hv : v.length = qs.length) :
    prodL p qs tkA (vecL (2 ^ qs.length) v) y = plusL p (prodL p qs tkL (vecL (2 ^ qs.length) v) y) (prodL p qs tkW (vecL (2 ^ qs.length) v) y) 1 (2 ^ qs.length) := by
  refine ext_nth (by rw [(prod_good hp).1, plusL_len]) fun k hk => ?_
  rw [(prod_good hp).1] at hk
  rw [plusL_nth hk, plusN, prodT_nth hp hk, prodT_nth hp hk, prodT_nth hp hk, Int.one_mul, Int.emod_add_emod, Int.add_emod_emod, ← sumN_add]
  congr 1
  refine sumN_congr fun i hi => ?_
  by_cases hb : ∃ s, s < qs.length ∧ i = 2 ^ s
  · obtain ⟨s, hs, rfl⟩ := hb
    have : tkI tkA (2 ^ s) (2 ^ s ^^^ k) = tkI tkL (2 ^ s) (2 ^ s ^^^ k) + tkI tkW (2 ^ s) (2 ^ s ^^^ k) := by
      unfold tkI
      rw [if_pos (show tkA (2 ^ s) (2 ^ s ^^^ k) = true from rfl)]
      cases hbit : (2 ^ s ^^^ k).testBit s
      · have hw : tkW (2 ^ s) (2 ^ s ^^^ k) = true := tkW_iff.2 fun i => by
          rw [Nat.testBit_two_pow]
          by_cases h : s = i
          · subst h; rw [hbit]; simp
          · simp [h]
        have hl : tkL (2 ^ s) (2 ^ s ^^^ k) = false := by
          cases h : tkL (2 ^ s) (2 ^ s ^^^ k)
          · rfl
          · have := tkL_iff.1 h s (by simp)
            rw [hbit] at this; cases this
        simp [hw, hl]
      · have hl : tkL (2 ^ s) (2 ^ s ^^^ k) = true := tkL_iff.2 fun i hi => by
          rw [Nat.testBit_two_pow] at hi
          simp only [decide_eq_true_eq] at hi
          subst hi; exact hbit
        have hw : tkW (2 ^ s) (2 ^ s ^^^ k) = false := by
          cases h : tkW (2 ^ s) (2 ^ s ^^^ k)
          · rfl
          · have := tkW_iff.1 h s
            rw [hbit] at this; simp at this
        simp [hw, hl]
    rw [this, Int.add_mul]
  · rw [vec_no hv hi (fun s hs h => hb ⟨s, hs, h⟩)]; simp
end Go.Proofs.Ytbgnfjckbjmgbaa

/-
  The law FnVectorSquares returns true.
  No condition.
-/
namespace Go.Proofs.Ytbgnfjckbjmgbaa
set_option maxRecDepth 100000
open Go.RowKit

theorem dotS_sum (x y : List Int) : ∀ n, dotS x y n = sumN n fun i => nth x i * nth y i
  | 0 => rfl
  | n + 1 => by rw [dotS, sumN, dotS_sum x y n]
theorem pairL_Z {p : Int} {qs v w : List Int} : pairL p qs v w qs.length = pairZ qs v w % p := by
  unfold pairL dotL pairZ
  rw [dotS_sum]
  refine sumN_emod fun i hi => ?_
  rw [wtL_nth hi, wtN, Int.mul_emod, Int.emod_emod, ← Int.mul_emod]
  congr 1
  ac_rfl
theorem half_mod {p a n : Int} (hp : primeB p = true) (h0 : 0 ≤ a) (h1 : a < p) (h : (a + a) % p = (2 * n) % p) : a = n % p := by
  simp only [primeB, Bool.or_eq_true, beq_iff_eq] at hp
  rcases hp with (((rfl | rfl) | rfl) | rfl) | rfl <;> omega
theorem vec_sym {p : Int} {qs v w : List Int} (hp : 1 ≤ p) (hd : qs.length ≤ 6) (hv : v.length = qs.length) (hw : w.length = qs.length) :
    plusL p (prodL p qs tkA (vecL (2 ^ qs.length) v) (vecL (2 ^ qs.length) w)) (prodL p qs tkA (vecL (2 ^ qs.length) w) (vecL (2 ^ qs.length) v)) 1 (2 ^ qs.length) = (List.replicate (2 ^ qs.length) 0).set 0 ((2 * pairL p qs v w qs.length) % p) := by
  rw [vec_anti hp hd hv hw, pairL_Z, Int.mul_emod 2 (pairZ qs v w % p), Int.emod_emod, ← Int.mul_emod]
theorem vec_square {p : Int} {qs v : List Int} (hp : primeB p = true) (hd : qs.length ≤ 6) (hv : v.length = qs.length) :
    prodL p qs tkA (vecL (2 ^ qs.length) v) (vecL (2 ^ qs.length) v) = (List.replicate (2 ^ qs.length) 0).set 0 (pairL p qs v v qs.length) := by
  have hp1 := (prime_bd hp).1
  have h := vec_anti (p := p) (by omega) hd hv hv
  have hg : Good p (2 ^ qs.length) (prodL p qs tkA (vecL (2 ^ qs.length) v) (vecL (2 ^ qs.length) v)) := prod_good (by omega)
  refine ext_nth (by rw [hg.1]; simp) fun k hk => ?_
  rw [hg.1] at hk
  have hk1 := congrArg (fun l => nth l k) h
  have hN := pow_pos' qs.length
  rw [plusL_nth hk, plusN, Int.one_mul, nth_set (by simp; omega), nth_replicate hk] at hk1
  rw [nth_set (by simp; omega), nth_replicate hk]
  have hb := hg.2 k hk
  by_cases h0 : 0 = k
  · rw [if_pos h0] at hk1 ⊢
    rw [pairL_Z]
    exact half_mod hp hb.1 hb.2 hk1
  · rw [if_neg h0] at hk1 ⊢
    have := half_mod (n := 0) hp hb.1 hb.2 (by rw [hk1]; simp)
    simpa using this

set_option maxHeartbeats 8000000 in
set_option maxRecDepth 100000 in
theorem law_VectorSquares (w : World) (ac : Option Addr) (nc cc : Nat) (hb : RdY w ac nc) :
    Calls Try.prog 3 #[.slice ac nc cc] w fun e w' => e = .returned (.bool true) ∧ Ext w w' := by
  have HB := Lib.hid hb
  clear hb
  go_enter Try.func3, Try.ntmps3
  go_wp2_with (fail)
  refine Calls.mono (l_big ac nc cc w) ?_
  rintro e w1 ⟨rfl, g0⟩
  have E := Lib.hid g0
  by_cases hbig : 4096 < nc
  · have hbb : decide (4096 < nc) = true := by simp [hbig]
    rw [hbb]
    go_wp2_with (fail)
    go_ret
    exact ⟨rfl, E.out⟩
  have hbb : decide (4096 < nc) = false := by simp [hbig]
  rw [hbb]
  clear g0 hbb
  go_wp2_with (fail)
  refine Calls.mono (s_drawPairOf ac nc cc w1 (by omega) (HB.out.ext E.out)) ?_
  rintro e w2 ⟨p, a, d, cap, qs, av, n1, cv, v, au, n2, cu, u, rfl, hp0, hp1, hd, hn1, hn2, hq, hv, hu, g1⟩
  replace E := Lib.hid (E.out.trans g1)
  have HQ := Lib.hid hq.rd
  have HV := Lib.hid hv.rd
  have HU := Lib.hid hu.rd
  clear hq hv hu g1 HB
  go_wp2_with (fail)
  obtain ⟨O, hO⟩ : ∃ O, O = w2.heap.size := ⟨_, rfl⟩
  obtain ⟨W, hW⟩ : ∃ W, W = w2.alloc (.cells #[.int .i64 p, .slice a d cap] 26) := ⟨_, rfl⟩
  have C0 := Lib.hid (show W.cell? ⟨O, 0, none⟩ = some (.int .i64 p) by rw [hW, hO]; simp)
  have C1 := Lib.hid (show W.cell? ⟨O, 1, none⟩ = some (.slice a d cap) by rw [hW, hO]; simp)
  have gg : Ext w2 W := by rw [hW]; exact ext_alloc _ _
  rw [← hO, ← hW]
  clear hO hW
  replace E := Lib.hid (E.out.trans gg)
  replace HQ := Lib.hid (HQ.out.ext gg)
  replace HV := Lib.hid (HV.out.ext gg)
  replace HU := Lib.hid (HU.out.ext gg)
  clear gg
  refine Calls.mono (s_PairOf p a d cap qs av n1 cv v au n2 cu u W (by omega) (by omega) (by omega) HQ.out HV.out HU.out) ?_
  rintro e v1 ⟨rfl, gg⟩
  replace E := Lib.hid (E.out.trans gg)
  replace HQ := Lib.hid (HQ.out.ext gg)
  replace HV := Lib.hid (HV.out.ext gg)
  replace HU := Lib.hid (HU.out.ext gg)
  replace C0 := Lib.hid (gg.cell (p := ⟨O, 0, none⟩) C0.out)
  replace C1 := Lib.hid (gg.cell (p := ⟨O, 1, none⟩) C1.out)
  clear gg
  by_cases hc : codeV p qs [v, u] ≠ 0
  · have hcb : (codeV p qs [v, u] != 0) = true := by simp [hc]
    clear hc
    have c0 := C0.out
    have c1 := C1.out
    go_wp2_with (fail)
    clear c0 c1
    refine Calls.mono (c_PairOf p a d cap qs av n1 cv v au n2 cu u v1 (by omega) (by omega) (by omega) HQ.out HV.out HU.out) ?_
    rintro e v2 ⟨rfl, gg⟩
    replace E := Lib.hid (E.out.trans gg)
    replace HQ := Lib.hid (HQ.out.ext gg)
    replace HV := Lib.hid (HV.out.ext gg)
    replace HU := Lib.hid (HU.out.ext gg)
    replace C0 := Lib.hid (gg.cell (p := ⟨O, 0, none⟩) C0.out)
    replace C1 := Lib.hid (gg.cell (p := ⟨O, 1, none⟩) C1.out)
    clear gg
    go_wp2_with (fail)
    go_ret
    exact ⟨by simp, E.out⟩
  have hc0 : codeV p qs [v, u] = 0 := by simpa using hc
  have HP := Lib.hid (show pairV p qs v u = pairL p qs v u qs.length by rw [pairV, if_pos hc0])
  obtain ⟨hs, hgv, hgu⟩ := codeV_two_of hc0
  have HS := Lib.hid hs
  rw [HP.out, hc0]
  obtain ⟨hpr, hd1, hd6, hqb⟩ := space_of hs
  have hpb := prime_bd hpr
  have HPR := Lib.hid hpr
  have hdl := HQ.out.1
  obtain rfl : n1 = d := by rw [← HV.out.1, hgv.1, hdl]
  obtain rfl : n2 = n1 := by rw [← HU.out.1, hgu.1, hdl]
  have HD := Lib.hid hdl
  rw [hdl] at hgv hgu hd6
  have HGV := Lib.hid hgv
  have HGU := Lib.hid hgu
  obtain ⟨N, hN⟩ : ∃ N, N = 2 ^ n2 := ⟨_, rfl⟩
  have HN := Lib.hid hN
  have hN6 : N ≤ 64 := by rw [hN]; exact pow_le64 hd6
  have hN1 : 1 ≤ N := by rw [hN]; exact pow_pos' n2
  have HGX := Lib.hid (show Good p N (vecL N v) by rw [hN]; exact vec_good (by omega) hgv)
  have HGY := Lib.hid (show Good p N (vecL N u) by rw [hN]; exact vec_good (by omega) hgu)
  have HSYM := Lib.hid (show plusL p (prodL p qs tkA (vecL N v) (vecL N u)) (prodL p qs tkA (vecL N u) (vecL N v)) 1 N = (List.replicate N 0).set 0 ((2 * pairL p qs v u qs.length) % p) by
    have := vec_sym (p := p) (qs := qs) (v := v) (w := u) (by omega) (by rw [hdl]; exact hd6) (by rw [hgv.1, hdl]) (by rw [hgu.1, hdl])
    rw [hdl] at this ⊢
    rw [hN]; exact this)
  have HSQ := Lib.hid (show prodL p qs tkA (vecL N v) (vecL N v) = (List.replicate N 0).set 0 (pairL p qs v v qs.length) by
    have := vec_square (p := p) (qs := qs) (v := v) hpr (by rw [hdl]; exact hd6) (by rw [hgv.1, hdl])
    rw [hdl] at this ⊢
    rw [hN]; exact this)
  have hpl : 0 ≤ pairL p qs v u qs.length ∧ pairL p qs v u qs.length < p := pairL_bd (by omega)
  obtain ⟨m0, hm0⟩ : ∃ m0, m0 = pairL p qs v u qs.length := ⟨_, rfl⟩
  obtain ⟨m1, hm1⟩ : ∃ m1, m1 = pairL p qs v v n2 := ⟨_, rfl⟩
  rw [← hm0] at hpl ⊢
  rw [← hm0] at HSYM
  have HM1 := Lib.hid (show pairL p qs v v qs.length = m1 by rw [hm1, hdl])
  have HM1' := Lib.hid hm1
  have HPG := fun (x y : List Int) => Lib.hid (show Good p N (prodL p qs tkA x y) by rw [hN, ← hdl]; exact prod_good (by omega))
  have hw2 : wrap64 (2 * m0) = 2 * m0 := by unfold wrap64; omega
  clear hc hc0 HP hs hpr hdl hgv hgu hN hm0 hm1 hqb
  have c0 := C0.out
  have c1 := C1.out
  go_wp2_with (fail)
  clear c0 c1
  replace E := Lib.hid (E.out.trans (ext_drew v1))
  replace HQ := Lib.hid (HQ.out.ext (ext_drew v1))
  replace HV := Lib.hid (HV.out.ext (ext_drew v1))
  replace HU := Lib.hid (HU.out.ext (ext_drew v1))
  replace C0 := Lib.hid ((ext_drew v1).cell (p := ⟨O, 0, none⟩) C0.out)
  replace C1 := Lib.hid ((ext_drew v1).cell (p := ⟨O, 1, none⟩) C1.out)
  refine wp_region_lex [(2, .ownG 0 N (vecL N v)), (5, .ownG 0 N (vecL N u))] (by kernel_rfl) (by kernel_rfl) ?_
  (refine LexW.pure (v := ?_) rfl rfl (fun w1 he => ?_) ?_; rotate_left; ( have x0 := he.cell (p := ⟨O, 0, none⟩) C0.out; have x1 := he.cell (p := ⟨O, 1, none⟩) C1.out; go_simp; rfl); simp only [Act.put, List.setIfInBounds_toArray, List.set_cons_zero, List.set_cons_succ])
  (refine LexW.pure (v := ?_) rfl rfl (fun w1 he => ?_) ?_; rotate_left; ( have x0 := he.cell (p := ⟨O, 0, none⟩) C0.out; have x1 := he.cell (p := ⟨O, 1, none⟩) C1.out; go_simp; rfl); simp only [Act.put, List.setIfInBounds_toArray, List.set_cons_zero, List.set_cons_succ])
  (refine LexW.callR (f := ?_) (args := ?_) rfl rfl (fun w1 => ?_) (fun w1 he hdep => ?_) (fun v hv => ?_); rotate_left 2; (go_simp; refine ⟨?_, ?_⟩ <;> rfl); ( refine (l_vector5 p a n2 cap qs av cv v w1 HN.out HS.out (HQ.out.ext he) (HV.out.ext he) HGV.out).mono ?_; rintro e w2 ⟨g, rfl, ho, g2⟩; exact ⟨_, rfl, g2, g, rfl, ho.mono (Nat.zero_le _)⟩); simp only [Act.put, List.setIfInBounds_toArray, List.set_cons_zero, List.set_cons_succ])
  obtain ⟨_, g48, rfl, _⟩ := hv
  (refine LexW.pure (v := ?_) rfl rfl (fun w1 he => ?_) ?_; rotate_left; ( have x0 := he.cell (p := ⟨O, 0, none⟩) C0.out; have x1 := he.cell (p := ⟨O, 1, none⟩) C1.out; go_simp; rfl); simp only [Act.put, List.setIfInBounds_toArray, List.set_cons_zero, List.set_cons_succ])
  (refine LexW.pure (v := ?_) rfl rfl (fun w1 he => ?_) ?_; rotate_left; ( have x0 := he.cell (p := ⟨O, 0, none⟩) C0.out; have x1 := he.cell (p := ⟨O, 1, none⟩) C1.out; go_simp; rfl); simp only [Act.put, List.setIfInBounds_toArray, List.set_cons_zero, List.set_cons_succ])
  (refine LexW.callR (f := ?_) (args := ?_) rfl rfl (fun w1 => ?_) (fun w1 he hdep => ?_) (fun v hv => ?_); rotate_left 2; (go_simp; refine ⟨?_, ?_⟩ <;> rfl); ( refine (l_vector5 p a n2 cap qs au cu u w1 HN.out HS.out (HQ.out.ext he) (HU.out.ext he) HGU.out).mono ?_; rintro e w2 ⟨g, rfl, ho, g2⟩; exact ⟨_, rfl, g2, g, rfl, ho.mono (Nat.zero_le _)⟩); simp only [Act.put, List.setIfInBounds_toArray, List.set_cons_zero, List.set_cons_succ])
  obtain ⟨_, g51, rfl, _⟩ := hv
  (refine LexW.pure (v := ?_) rfl rfl (fun w1 he => ?_) ?_; rotate_left; ( have x0 := he.cell (p := ⟨O, 0, none⟩) C0.out; have x1 := he.cell (p := ⟨O, 1, none⟩) C1.out; go_simp; rfl); simp only [Act.put, List.setIfInBounds_toArray, List.set_cons_zero, List.set_cons_succ])
  (refine LexW.pure (v := ?_) rfl rfl (fun w1 he => ?_) ?_; rotate_left; ( have x0 := he.cell (p := ⟨O, 0, none⟩) C0.out; have x1 := he.cell (p := ⟨O, 1, none⟩) C1.out; go_simp; rfl); simp only [Act.put, List.setIfInBounds_toArray, List.set_cons_zero, List.set_cons_succ])
  refine LexW.nil (fun w3 he hkn => ?_)
  obtain ⟨_, q48, r48⟩ : (SPred.ownG 0 N (vecL N v)).holds (.slice (some ⟨g48, 0, none⟩) N N) w3 := hkn (2, _) (by simp)
  cases q48
  have R48 := Lib.hid r48
  obtain ⟨_, q51, r51⟩ : (SPred.ownG 0 N (vecL N u)).holds (.slice (some ⟨g51, 0, none⟩) N N) w3 := hkn (5, _) (by simp)
  cases q51
  have R51 := Lib.hid r51
  have HE := Lib.hid he
  clear he hkn r48 r51
  rename World => v2
  replace E := Lib.hid (E.out.trans HE.out)
  replace HQ := Lib.hid (HQ.out.ext HE.out)
  replace HV := Lib.hid (HV.out.ext HE.out)
  replace HU := Lib.hid (HU.out.ext HE.out)
  replace C0 := Lib.hid (HE.out.cell (p := ⟨O, 0, none⟩) C0.out)
  replace C1 := Lib.hid (HE.out.cell (p := ⟨O, 1, none⟩) C1.out)
  clear HE
  have c0 := C0.out
  have c1 := C1.out
  go_wp2_with (fail)
  clear c0 c1
  replace E := Lib.hid (E.out.trans (ext_drew v2))
  replace HQ := Lib.hid (HQ.out.ext (ext_drew v2))
  replace HV := Lib.hid (HV.out.ext (ext_drew v2))
  replace HU := Lib.hid (HU.out.ext (ext_drew v2))
  replace R48 := Lib.hid (R48.out.ext (ext_drew v2))
  replace R51 := Lib.hid (R51.out.ext (ext_drew v2))
  replace C0 := Lib.hid ((ext_drew v2).cell (p := ⟨O, 0, none⟩) C0.out)
  replace C1 := Lib.hid ((ext_drew v2).cell (p := ⟨O, 1, none⟩) C1.out)
  refine wp_region_lex [(5, .ownS 0 N (prodL p qs tkA (vecL N v) (vecL N u))), (9, .ownS 0 N (prodL p qs tkA (vecL N u) (vecL N v))), (10, .ownS 0 N (plusL p (prodL p qs tkA (vecL N v) (vecL N u)) (prodL p qs tkA (vecL N u) (vecL N v)) 1 N))] (by kernel_rfl) (by kernel_rfl) ?_
  (refine LexW.pure (v := ?_) rfl rfl (fun w1 he => ?_) ?_; rotate_left; ( have x0 := he.cell (p := ⟨O, 0, none⟩) C0.out; have x1 := he.cell (p := ⟨O, 1, none⟩) C1.out; go_simp; rfl); simp only [Act.put, List.setIfInBounds_toArray, List.set_cons_zero, List.set_cons_succ])
  (refine LexW.pure (v := ?_) rfl rfl (fun w1 he => ?_) ?_; rotate_left; ( have x0 := he.cell (p := ⟨O, 0, none⟩) C0.out; have x1 := he.cell (p := ⟨O, 1, none⟩) C1.out; go_simp; rfl); simp only [Act.put, List.setIfInBounds_toArray, List.set_cons_zero, List.set_cons_succ])
  (refine LexW.pure (v := ?_) rfl rfl (fun w1 he => ?_) ?_; rotate_left; ( have x0 := he.cell (p := ⟨O, 0, none⟩) C0.out; have x1 := he.cell (p := ⟨O, 1, none⟩) C1.out; go_simp; rfl); simp only [Act.put, List.setIfInBounds_toArray, List.set_cons_zero, List.set_cons_succ])
  (refine LexW.pure (v := ?_) rfl rfl (fun w1 he => ?_) ?_; rotate_left; ( have x0 := he.cell (p := ⟨O, 0, none⟩) C0.out; have x1 := he.cell (p := ⟨O, 1, none⟩) C1.out; go_simp; rfl); simp only [Act.put, List.setIfInBounds_toArray, List.set_cons_zero, List.set_cons_succ])
  (refine LexW.pure (v := ?_) rfl rfl (fun w1 he => ?_) ?_; rotate_left; ( have x0 := he.cell (p := ⟨O, 0, none⟩) C0.out; have x1 := he.cell (p := ⟨O, 1, none⟩) C1.out; go_simp; rfl); simp only [Act.put, List.setIfInBounds_toArray, List.set_cons_zero, List.set_cons_succ])
  (refine LexW.callR (f := ?_) (args := ?_) rfl rfl (fun w1 => ?_) (fun w1 he hdep => ?_) (fun v hv => ?_); rotate_left 2; (go_simp; refine ⟨?_, ?_⟩ <;> rfl); ( refine (l_times5 p a n2 cap qs (some ⟨g48, 0, none⟩) N (vecL N v) (some ⟨g51, 0, none⟩) N (vecL N u) w1 HN.out HS.out (HQ.out.ext he) (R48.out.rd.ext he) (R51.out.rd.ext he) HGX.out HGY.out).mono ?_; rintro e w2 ⟨g, rc, rfl, ho, g2⟩; exact ⟨_, rfl, g2, g, rc, rfl, ho.mono (Nat.zero_le _)⟩); simp only [Act.put, List.setIfInBounds_toArray, List.set_cons_zero, List.set_cons_succ])
  obtain ⟨_, g57, c57, rfl, _⟩ := hv
  (refine LexW.pure (v := ?_) rfl rfl (fun w1 he => ?_) ?_; rotate_left; ( have x0 := he.cell (p := ⟨O, 0, none⟩) C0.out; have x1 := he.cell (p := ⟨O, 1, none⟩) C1.out; go_simp; rfl); simp only [Act.put, List.setIfInBounds_toArray, List.set_cons_zero, List.set_cons_succ])
  (refine LexW.pure (v := ?_) rfl rfl (fun w1 he => ?_) ?_; rotate_left; ( have x0 := he.cell (p := ⟨O, 0, none⟩) C0.out; have x1 := he.cell (p := ⟨O, 1, none⟩) C1.out; go_simp; rfl); simp only [Act.put, List.setIfInBounds_toArray, List.set_cons_zero, List.set_cons_succ])
  (refine LexW.pure (v := ?_) rfl rfl (fun w1 he => ?_) ?_; rotate_left; ( have x0 := he.cell (p := ⟨O, 0, none⟩) C0.out; have x1 := he.cell (p := ⟨O, 1, none⟩) C1.out; go_simp; rfl); simp only [Act.put, List.setIfInBounds_toArray, List.set_cons_zero, List.set_cons_succ])
  (refine LexW.callR (f := ?_) (args := ?_) rfl rfl (fun w1 => ?_) (fun w1 he hdep => ?_) (fun v hv => ?_); rotate_left 2; (go_simp; refine ⟨?_, ?_⟩ <;> rfl); ( refine (l_times5 p a n2 cap qs (some ⟨g51, 0, none⟩) N (vecL N u) (some ⟨g48, 0, none⟩) N (vecL N v) w1 HN.out HS.out (HQ.out.ext he) (R51.out.rd.ext he) (R48.out.rd.ext he) HGY.out HGX.out).mono ?_; rintro e w2 ⟨g, rc, rfl, ho, g2⟩; exact ⟨_, rfl, g2, g, rc, rfl, ho.mono (Nat.zero_le _)⟩); simp only [Act.put, List.setIfInBounds_toArray, List.set_cons_zero, List.set_cons_succ])
  obtain ⟨_, g61, c61, rfl, _⟩ := hv
  (refine LexW.callR (f := ?_) (args := ?_) rfl rfl (fun w1 => ?_) (fun w1 he hdep => ?_) (fun v hv => ?_); rotate_left 2; (go_simp; refine ⟨?_, ?_⟩ <;> rfl); ( obtain ⟨_, _, q57, r57⟩ : (SPred.ownS 0 N (prodL p qs tkA (vecL N v) (vecL N u))).holds (.slice (some ⟨g57, 0, none⟩) N c57) w1 := hdep (5, 57) (by decide +kernel); cases q57; obtain ⟨_, _, q61, r61⟩ : (SPred.ownS 0 N (prodL p qs tkA (vecL N u) (vecL N v))).holds (.slice (some ⟨g61, 0, none⟩) N c61) w1 := hdep (9, 61) (by decide +kernel); cases q61; refine (l_plus5 p _ _ N _ _ (prodL p qs tkA (vecL N v) (vecL N u)) (prodL p qs tkA (vecL N u) (vecL N v)) 1 w1 (by omega) (by omega) (by omega) (by omega) r57.rd r61.rd (HPG _ _).out (HPG _ _).out).mono ?_; rintro e w2 ⟨g, rc, rfl, ho, g2⟩; exact ⟨_, rfl, g2, g, rc, rfl, ho.mono (Nat.zero_le _)⟩); simp only [Act.put, List.setIfInBounds_toArray, List.set_cons_zero, List.set_cons_succ])
  obtain ⟨_, g62, c62, rfl, _⟩ := hv
  (refine LexW.pure (v := ?_) rfl rfl (fun w1 he => ?_) ?_; rotate_left; ( have x0 := he.cell (p := ⟨O, 0, none⟩) C0.out; have x1 := he.cell (p := ⟨O, 1, none⟩) C1.out; go_simp; rfl); simp only [Act.put, List.setIfInBounds_toArray, List.set_cons_zero, List.set_cons_succ])
  refine LexW.nil (fun w3 he hkn => ?_)
  obtain ⟨_, _, q62, r62⟩ : (SPred.ownS 0 N (plusL p (prodL p qs tkA (vecL N v) (vecL N u)) (prodL p qs tkA (vecL N u) (vecL N v)) 1 N)).holds (.slice (some ⟨g62, 0, none⟩) N c62) w3 := hkn (10, _) (by simp)
  cases q62
  have R62 := Lib.hid r62
  have HE := Lib.hid he
  clear he hkn r62
  rename World => v3
  replace E := Lib.hid (E.out.trans HE.out)
  replace HQ := Lib.hid (HQ.out.ext HE.out)
  replace HV := Lib.hid (HV.out.ext HE.out)
  replace HU := Lib.hid (HU.out.ext HE.out)
  replace R48 := Lib.hid (R48.out.ext HE.out)
  replace R51 := Lib.hid (R51.out.ext HE.out)
  replace C0 := Lib.hid (HE.out.cell (p := ⟨O, 0, none⟩) C0.out)
  replace C1 := Lib.hid (HE.out.cell (p := ⟨O, 1, none⟩) C1.out)
  clear HE
  have c0 := C0.out
  have c1 := C1.out
  go_wp2_with (fail)
  clear c0 c1
  refine Calls.mono (l_size5 p a n2 cap v3 (by omega) HN.out) ?_
  rintro e v4 ⟨rfl, gg⟩
  replace E := Lib.hid (E.out.trans gg)
  replace HQ := Lib.hid (HQ.out.ext gg)
  replace HV := Lib.hid (HV.out.ext gg)
  replace HU := Lib.hid (HU.out.ext gg)
  replace R48 := Lib.hid (R48.out.ext gg)
  replace R51 := Lib.hid (R51.out.ext gg)
  replace R62 := Lib.hid (R62.out.ext gg)
  replace C0 := Lib.hid (gg.cell (p := ⟨O, 0, none⟩) C0.out)
  replace C1 := Lib.hid (gg.cell (p := ⟨O, 1, none⟩) C1.out)
  clear gg
  have c0 := C0.out
  have c1 := C1.out
  go_wp2_with (fail)
  clear c0 c1
  have G := Lib.hid (Ext.refl v4)
  obtain ⟨w9, hmk, ho, gg⟩ := make_ints v4 N (by omega)
  rw [hmk]
  obtain ⟨zD1, hzD1⟩ : ∃ z, z = v4.heap.size := ⟨_, rfl⟩
  have BD1 : v4.heap.size ≤ zD1 := by have := G.out.size; omega
  rw [← hzD1] at ho ⊢
  have D1 := Lib.hid ho
  obtain ⟨v5, hv9⟩ : ∃ x, x = w9 := ⟨_, rfl⟩
  rw [← hv9] at gg D1 ⊢
  clear hmk ho hv9 hzD1
  replace G := Lib.hid (G.out.trans gg)
  clear gg
  have c0 := G.out.cell (p := ⟨O, 0, none⟩) C0.out
  have c1 := G.out.cell (p := ⟨O, 1, none⟩) C1.out
  go_wp2_with (fail)
  clear c0 c1
  refine Calls.mono (l_mod5 p (2 * m0) v5 (by omega) (by omega)) ?_
  rintro e v6 ⟨rfl, gg⟩
  replace G := Lib.hid (G.out.trans gg)
  replace D1 := Lib.hid (D1.out.ext gg)
  clear gg
  have hne : O ≠ zD1 := by have := lt_of_cell C0.out; dsimp only at this; omega
  have hne2 : zD1 ≠ O := fun h => hne h.symm
  have cz := D1.out.cell (j := 0) (by omega)
  have fz := D1.out.frozen 0
  have c0 := G.out.cell (p := ⟨O, 0, none⟩) C0.out
  have c1 := G.out.cell (p := ⟨O, 1, none⟩) C1.out
  go_wp2_with (fail)
  clear c0 c1
  clear cz fz hne hne2
  obtain ⟨v7, hv9⟩ : ∃ x, x = v6.setCell ⟨zD1, 0, none⟩ (.int .i64 ((2 * m0) % p)) := ⟨_, rfl⟩
  replace G := Lib.hid (G.out.setCell (p := ⟨zD1, 0, none⟩) BD1 (.int .i64 ((2 * m0) % p)))
  replace D1 := Lib.hid (D1.out.store (j := 0) (by omega) ((2 * m0) % p))
  rw [← hv9] at G D1 ⊢
  replace E := Lib.hid (E.out.trans G.out)
  replace HQ := Lib.hid (HQ.out.ext G.out)
  replace HV := Lib.hid (HV.out.ext G.out)
  replace HU := Lib.hid (HU.out.ext G.out)
  replace R48 := Lib.hid (R48.out.ext G.out)
  replace R51 := Lib.hid (R51.out.ext G.out)
  replace R62 := Lib.hid (R62.out.ext G.out)
  replace C0 := Lib.hid (G.out.cell (p := ⟨O, 0, none⟩) C0.out)
  replace C1 := Lib.hid (G.out.cell (p := ⟨O, 1, none⟩) C1.out)
  clear G hv9 BD1
  replace D1 := Lib.hid (D1.out.mono (Nat.zero_le _))
  refine Calls.mono (c_BracketOf_ok p a n2 cap qs _ N _ (vecL N v) _ N _ (vecL N u) v7 (by omega) (by omega) (by omega) HQ.out R48.out.rd R51.out.rd (codeM_two0 HS.out (by rw [HD.out, ← HN.out]; exact HGX.out) (by rw [HD.out, ← HN.out]; exact HGY.out))) ?_
  rintro e v8 ⟨ra, rc, rfl, ho, gg⟩
  obtain ⟨gB, _, rfl, _⟩ := ho.row (by omega)
  have RB := Lib.hid (ho.mono (Nat.zero_le _))
  clear ho
  replace E := Lib.hid (E.out.trans gg)
  replace HQ := Lib.hid (HQ.out.ext gg)
  replace HV := Lib.hid (HV.out.ext gg)
  replace HU := Lib.hid (HU.out.ext gg)
  replace R48 := Lib.hid (R48.out.ext gg)
  replace R51 := Lib.hid (R51.out.ext gg)
  replace R62 := Lib.hid (R62.out.ext gg)
  replace D1 := Lib.hid (D1.out.ext gg)
  replace C0 := Lib.hid (gg.cell (p := ⟨O, 0, none⟩) C0.out)
  replace C1 := Lib.hid (gg.cell (p := ⟨O, 1, none⟩) C1.out)
  clear gg
  have c0 := C0.out
  have c1 := C1.out
  go_wp2_with (fail)
  clear c0 c1
  replace E := Lib.hid (E.out.trans (ext_drew v8))
  replace HQ := Lib.hid (HQ.out.ext (ext_drew v8))
  replace HV := Lib.hid (HV.out.ext (ext_drew v8))
  replace HU := Lib.hid (HU.out.ext (ext_drew v8))
  replace R48 := Lib.hid (R48.out.ext (ext_drew v8))
  replace R51 := Lib.hid (R51.out.ext (ext_drew v8))
  replace R62 := Lib.hid (R62.out.ext (ext_drew v8))
  replace D1 := Lib.hid (D1.out.ext (ext_drew v8))
  replace RB := Lib.hid (RB.out.ext (ext_drew v8))
  replace C0 := Lib.hid ((ext_drew v8).cell (p := ⟨O, 0, none⟩) C0.out)
  replace C1 := Lib.hid ((ext_drew v8).cell (p := ⟨O, 1, none⟩) C1.out)
  refine wp_region_lex [(5, .val (.bool true)), (15, .ownS 0 N (prodL p qs tkA (vecL N v) (vecL N u))), (19, .ownS 0 N (prodL p qs tkA (vecL N u) (vecL N v))), (20, .ownS 0 N (plusL p (prodL p qs tkA (vecL N v) (vecL N u)) (prodL p qs tkA (vecL N u) (vecL N v)) (-1) N)), (21, .val (.bool true))] (by kernel_rfl) (by kernel_rfl) ?_
  (refine LexW.pure (v := ?_) rfl rfl (fun w1 he => ?_) ?_; rotate_left; ( have x0 := he.cell (p := ⟨O, 0, none⟩) C0.out; have x1 := he.cell (p := ⟨O, 1, none⟩) C1.out; go_simp; rfl); simp only [Act.put, List.setIfInBounds_toArray, List.set_cons_zero, List.set_cons_succ])
  (refine LexW.pure (v := ?_) rfl rfl (fun w1 he => ?_) ?_; rotate_left; ( have x0 := he.cell (p := ⟨O, 0, none⟩) C0.out; have x1 := he.cell (p := ⟨O, 1, none⟩) C1.out; go_simp; rfl); simp only [Act.put, List.setIfInBounds_toArray, List.set_cons_zero, List.set_cons_succ])
  (refine LexW.pure (v := ?_) rfl rfl (fun w1 he => ?_) ?_; rotate_left; ( have x0 := he.cell (p := ⟨O, 0, none⟩) C0.out; have x1 := he.cell (p := ⟨O, 1, none⟩) C1.out; go_simp; rfl); simp only [Act.put, List.setIfInBounds_toArray, List.set_cons_zero, List.set_cons_succ])
  (refine LexW.pure (v := ?_) rfl rfl (fun w1 he => ?_) ?_; rotate_left; ( have x0 := he.cell (p := ⟨O, 0, none⟩) C0.out; have x1 := he.cell (p := ⟨O, 1, none⟩) C1.out; go_simp; rfl); simp only [Act.put, List.setIfInBounds_toArray, List.set_cons_zero, List.set_cons_succ])
  (refine LexW.pure (v := ?_) rfl rfl (fun w1 he => ?_) ?_; rotate_left; ( have x0 := he.cell (p := ⟨O, 0, none⟩) C0.out; have x1 := he.cell (p := ⟨O, 1, none⟩) C1.out; go_simp; rfl); simp only [Act.put, List.setIfInBounds_toArray, List.set_cons_zero, List.set_cons_succ])
  (refine LexW.call (f := ?_) (args := ?_) rfl rfl (fun w1 => ?_) (fun w1 he hdep => ?_) ?_; rotate_left 2; (go_simp; refine ⟨?_, ?_⟩ <;> rfl); ( have H := l_like (some ⟨g62, 0, none⟩) (some ⟨zD1, 0, none⟩) N N c62 N _ _ w1 (by omega) (by omega) (R62.out.rd.ext he) (D1.out.rd.ext he); rw [HSYM.out, eqB_self] at H; exact H); simp only [Act.put, List.setIfInBounds_toArray, List.set_cons_zero, List.set_cons_succ])
  (refine LexW.pure (v := ?_) rfl rfl (fun w1 he => ?_) ?_; rotate_left; ( have x0 := he.cell (p := ⟨O, 0, none⟩) C0.out; have x1 := he.cell (p := ⟨O, 1, none⟩) C1.out; go_simp; rfl); simp only [Act.put, List.setIfInBounds_toArray, List.set_cons_zero, List.set_cons_succ])
  (refine LexW.pure (v := ?_) rfl rfl (fun w1 he => ?_) ?_; rotate_left; ( have x0 := he.cell (p := ⟨O, 0, none⟩) C0.out; have x1 := he.cell (p := ⟨O, 1, none⟩) C1.out; go_simp; rfl); simp only [Act.put, List.setIfInBounds_toArray, List.set_cons_zero, List.set_cons_succ])
  (refine LexW.pure (v := ?_) rfl rfl (fun w1 he => ?_) ?_; rotate_left; ( have x0 := he.cell (p := ⟨O, 0, none⟩) C0.out; have x1 := he.cell (p := ⟨O, 1, none⟩) C1.out; go_simp; rfl); simp only [Act.put, List.setIfInBounds_toArray, List.set_cons_zero, List.set_cons_succ])
  (refine LexW.pure (v := ?_) rfl rfl (fun w1 he => ?_) ?_; rotate_left; ( have x0 := he.cell (p := ⟨O, 0, none⟩) C0.out; have x1 := he.cell (p := ⟨O, 1, none⟩) C1.out; go_simp; rfl); simp only [Act.put, List.setIfInBounds_toArray, List.set_cons_zero, List.set_cons_succ])
  (refine LexW.pure (v := ?_) rfl rfl (fun w1 he => ?_) ?_; rotate_left; ( have x0 := he.cell (p := ⟨O, 0, none⟩) C0.out; have x1 := he.cell (p := ⟨O, 1, none⟩) C1.out; go_simp; rfl); simp only [Act.put, List.setIfInBounds_toArray, List.set_cons_zero, List.set_cons_succ])
  (refine LexW.pure (v := ?_) rfl rfl (fun w1 he => ?_) ?_; rotate_left; ( have x0 := he.cell (p := ⟨O, 0, none⟩) C0.out; have x1 := he.cell (p := ⟨O, 1, none⟩) C1.out; go_simp; rfl); simp only [Act.put, List.setIfInBounds_toArray, List.set_cons_zero, List.set_cons_succ])
  (refine LexW.pure (v := ?_) rfl rfl (fun w1 he => ?_) ?_; rotate_left; ( have x0 := he.cell (p := ⟨O, 0, none⟩) C0.out; have x1 := he.cell (p := ⟨O, 1, none⟩) C1.out; go_simp; rfl); simp only [Act.put, List.setIfInBounds_toArray, List.set_cons_zero, List.set_cons_succ])
  (refine LexW.pure (v := ?_) rfl rfl (fun w1 he => ?_) ?_; rotate_left; ( have x0 := he.cell (p := ⟨O, 0, none⟩) C0.out; have x1 := he.cell (p := ⟨O, 1, none⟩) C1.out; go_simp; rfl); simp only [Act.put, List.setIfInBounds_toArray, List.set_cons_zero, List.set_cons_succ])
  (refine LexW.pure (v := ?_) rfl rfl (fun w1 he => ?_) ?_; rotate_left; ( have x0 := he.cell (p := ⟨O, 0, none⟩) C0.out; have x1 := he.cell (p := ⟨O, 1, none⟩) C1.out; go_simp; rfl); simp only [Act.put, List.setIfInBounds_toArray, List.set_cons_zero, List.set_cons_succ])
  (refine LexW.callR (f := ?_) (args := ?_) rfl rfl (fun w1 => ?_) (fun w1 he hdep => ?_) (fun v hv => ?_); rotate_left 2; (go_simp; refine ⟨?_, ?_⟩ <;> rfl); ( refine (l_times5 p a n2 cap qs (some ⟨g48, 0, none⟩) N (vecL N v) (some ⟨g51, 0, none⟩) N (vecL N u) w1 HN.out HS.out (HQ.out.ext he) (R48.out.rd.ext he) (R51.out.rd.ext he) HGX.out HGY.out).mono ?_; rintro e w2 ⟨g, rc, rfl, ho, g2⟩; exact ⟨_, rfl, g2, g, rc, rfl, ho.mono (Nat.zero_le _)⟩); simp only [Act.put, List.setIfInBounds_toArray, List.set_cons_zero, List.set_cons_succ])
  obtain ⟨_, g95, c95, rfl, _⟩ := hv
  (refine LexW.pure (v := ?_) rfl rfl (fun w1 he => ?_) ?_; rotate_left; ( have x0 := he.cell (p := ⟨O, 0, none⟩) C0.out; have x1 := he.cell (p := ⟨O, 1, none⟩) C1.out; go_simp; rfl); simp only [Act.put, List.setIfInBounds_toArray, List.set_cons_zero, List.set_cons_succ])
  (refine LexW.pure (v := ?_) rfl rfl (fun w1 he => ?_) ?_; rotate_left; ( have x0 := he.cell (p := ⟨O, 0, none⟩) C0.out; have x1 := he.cell (p := ⟨O, 1, none⟩) C1.out; go_simp; rfl); simp only [Act.put, List.setIfInBounds_toArray, List.set_cons_zero, List.set_cons_succ])
  (refine LexW.pure (v := ?_) rfl rfl (fun w1 he => ?_) ?_; rotate_left; ( have x0 := he.cell (p := ⟨O, 0, none⟩) C0.out; have x1 := he.cell (p := ⟨O, 1, none⟩) C1.out; go_simp; rfl); simp only [Act.put, List.setIfInBounds_toArray, List.set_cons_zero, List.set_cons_succ])
  (refine LexW.callR (f := ?_) (args := ?_) rfl rfl (fun w1 => ?_) (fun w1 he hdep => ?_) (fun v hv => ?_); rotate_left 2; (go_simp; refine ⟨?_, ?_⟩ <;> rfl); ( refine (l_times5 p a n2 cap qs (some ⟨g51, 0, none⟩) N (vecL N u) (some ⟨g48, 0, none⟩) N (vecL N v) w1 HN.out HS.out (HQ.out.ext he) (R51.out.rd.ext he) (R48.out.rd.ext he) HGY.out HGX.out).mono ?_; rintro e w2 ⟨g, rc, rfl, ho, g2⟩; exact ⟨_, rfl, g2, g, rc, rfl, ho.mono (Nat.zero_le _)⟩); simp only [Act.put, List.setIfInBounds_toArray, List.set_cons_zero, List.set_cons_succ])
  obtain ⟨_, g99, c99, rfl, _⟩ := hv
  (refine LexW.callR (f := ?_) (args := ?_) rfl rfl (fun w1 => ?_) (fun w1 he hdep => ?_) (fun v hv => ?_); rotate_left 2; (go_simp; refine ⟨?_, ?_⟩ <;> rfl); ( obtain ⟨_, _, q95, r95⟩ : (SPred.ownS 0 N (prodL p qs tkA (vecL N v) (vecL N u))).holds (.slice (some ⟨g95, 0, none⟩) N c95) w1 := hdep (15, 95) (by decide +kernel); cases q95; obtain ⟨_, _, q99, r99⟩ : (SPred.ownS 0 N (prodL p qs tkA (vecL N u) (vecL N v))).holds (.slice (some ⟨g99, 0, none⟩) N c99) w1 := hdep (19, 99) (by decide +kernel); cases q99; refine (l_plus5 p _ _ N _ _ (prodL p qs tkA (vecL N v) (vecL N u)) (prodL p qs tkA (vecL N u) (vecL N v)) (-1) w1 (by omega) (by omega) (by omega) (by omega) r95.rd r99.rd (HPG _ _).out (HPG _ _).out).mono ?_; rintro e w2 ⟨g, rc, rfl, ho, g2⟩; exact ⟨_, rfl, g2, g, rc, rfl, ho.mono (Nat.zero_le _)⟩); simp only [Act.put, List.setIfInBounds_toArray, List.set_cons_zero, List.set_cons_succ])
  obtain ⟨_, g100, c100, rfl, _⟩ := hv
  (refine LexW.call (f := ?_) (args := ?_) rfl rfl (fun w1 => ?_) (fun w1 he hdep => ?_) ?_; rotate_left 2; (go_simp; refine ⟨?_, ?_⟩ <;> rfl); ( obtain ⟨_, _, q100, r100⟩ : (SPred.ownS 0 N (plusL p (prodL p qs tkA (vecL N v) (vecL N u)) (prodL p qs tkA (vecL N u) (vecL N v)) (-1) N)).holds (.slice (some ⟨g100, 0, none⟩) N c100) w1 := hdep (20, 100) (by decide +kernel); cases q100; have H := l_like (some ⟨gB, 0, none⟩) (some ⟨g100, 0, none⟩) N N rc c100 _ _ w1 (by omega) (by omega) (RB.out.rd.ext he) r100.rd; rw [eqB_self] at H; exact H); simp only [Act.put, List.setIfInBounds_toArray, List.set_cons_zero, List.set_cons_succ])
  (refine LexW.pure (v := ?_) rfl rfl (fun w1 he => ?_) ?_; rotate_left; ( have x0 := he.cell (p := ⟨O, 0, none⟩) C0.out; have x1 := he.cell (p := ⟨O, 1, none⟩) C1.out; go_simp; rfl); simp only [Act.put, List.setIfInBounds_toArray, List.set_cons_zero, List.set_cons_succ])
  (refine LexW.pure (v := ?_) rfl rfl (fun w1 he => ?_) ?_; rotate_left; ( have x0 := he.cell (p := ⟨O, 0, none⟩) C0.out; have x1 := he.cell (p := ⟨O, 1, none⟩) C1.out; go_simp; rfl); simp only [Act.put, List.setIfInBounds_toArray, List.set_cons_zero, List.set_cons_succ])
  refine LexW.nil (fun w3 he hkn => ?_)
  have HE := Lib.hid he
  clear he hkn 
  rename World => v9
  replace E := Lib.hid (E.out.trans HE.out)
  replace HQ := Lib.hid (HQ.out.ext HE.out)
  replace HV := Lib.hid (HV.out.ext HE.out)
  replace HU := Lib.hid (HU.out.ext HE.out)
  replace R48 := Lib.hid (R48.out.ext HE.out)
  replace R51 := Lib.hid (R51.out.ext HE.out)
  replace R62 := Lib.hid (R62.out.ext HE.out)
  replace D1 := Lib.hid (D1.out.ext HE.out)
  replace RB := Lib.hid (RB.out.ext HE.out)
  replace C0 := Lib.hid (HE.out.cell (p := ⟨O, 0, none⟩) C0.out)
  replace C1 := Lib.hid (HE.out.cell (p := ⟨O, 1, none⟩) C1.out)
  clear HE
  have c0 := C0.out
  have c1 := C1.out
  go_wp2_with (fail)
  clear c0 c1
  refine Calls.mono (c_NormOf_ok p a n2 cap qs av cv v v9 HS.out HQ.out HV.out HGV.out) ?_
  rintro e v10 ⟨rfl, gg⟩
  replace E := Lib.hid (E.out.trans gg)
  replace HQ := Lib.hid (HQ.out.ext gg)
  replace HV := Lib.hid (HV.out.ext gg)
  replace HU := Lib.hid (HU.out.ext gg)
  replace R48 := Lib.hid (R48.out.ext gg)
  replace R51 := Lib.hid (R51.out.ext gg)
  replace C0 := Lib.hid (gg.cell (p := ⟨O, 0, none⟩) C0.out)
  replace C1 := Lib.hid (gg.cell (p := ⟨O, 1, none⟩) C1.out)
  clear gg
  rw [← HM1'.out]
  have c0 := C0.out
  have c1 := C1.out
  go_wp2_with (fail)
  clear c0 c1
  refine Calls.mono (l_size5 p a n2 cap v10 (by omega) HN.out) ?_
  rintro e v11 ⟨rfl, gg⟩
  replace E := Lib.hid (E.out.trans gg)
  replace HQ := Lib.hid (HQ.out.ext gg)
  replace HV := Lib.hid (HV.out.ext gg)
  replace HU := Lib.hid (HU.out.ext gg)
  replace R48 := Lib.hid (R48.out.ext gg)
  replace R51 := Lib.hid (R51.out.ext gg)
  replace C0 := Lib.hid (gg.cell (p := ⟨O, 0, none⟩) C0.out)
  replace C1 := Lib.hid (gg.cell (p := ⟨O, 1, none⟩) C1.out)
  clear gg
  have c0 := C0.out
  have c1 := C1.out
  go_wp2_with (fail)
  clear c0 c1
  have G := Lib.hid (Ext.refl v11)
  obtain ⟨w9, hmk, ho, gg⟩ := make_ints v11 N (by omega)
  rw [hmk]
  obtain ⟨zD2, hzD2⟩ : ∃ z, z = v11.heap.size := ⟨_, rfl⟩
  have BD2 : v11.heap.size ≤ zD2 := by have := G.out.size; omega
  rw [← hzD2] at ho ⊢
  have D2 := Lib.hid ho
  obtain ⟨v12, hv9⟩ : ∃ x, x = w9 := ⟨_, rfl⟩
  rw [← hv9] at gg D2 ⊢
  clear hmk ho hv9 hzD2
  replace G := Lib.hid (G.out.trans gg)
  clear gg
  have hne : O ≠ zD2 := by have := lt_of_cell C0.out; dsimp only at this; omega
  have hne2 : zD2 ≠ O := fun h => hne h.symm
  have cz := D2.out.cell (j := 0) (by omega)
  have fz := D2.out.frozen 0
  have c0 := G.out.cell (p := ⟨O, 0, none⟩) C0.out
  have c1 := G.out.cell (p := ⟨O, 1, none⟩) C1.out
  go_wp2_with (fail)
  clear c0 c1
  clear cz fz hne hne2
  obtain ⟨v13, hv9⟩ : ∃ x, x = v12.setCell ⟨zD2, 0, none⟩ (.int .i64 (m1)) := ⟨_, rfl⟩
  replace G := Lib.hid (G.out.setCell (p := ⟨zD2, 0, none⟩) BD2 (.int .i64 (m1)))
  replace D2 := Lib.hid (D2.out.store (j := 0) (by omega) (m1))
  rw [← hv9] at G D2 ⊢
  replace E := Lib.hid (E.out.trans G.out)
  replace HQ := Lib.hid (HQ.out.ext G.out)
  replace HV := Lib.hid (HV.out.ext G.out)
  replace HU := Lib.hid (HU.out.ext G.out)
  replace R48 := Lib.hid (R48.out.ext G.out)
  replace R51 := Lib.hid (R51.out.ext G.out)
  replace C0 := Lib.hid (G.out.cell (p := ⟨O, 0, none⟩) C0.out)
  replace C1 := Lib.hid (G.out.cell (p := ⟨O, 1, none⟩) C1.out)
  clear G hv9 BD2
  replace D2 := Lib.hid (D2.out.mono (Nat.zero_le _))
  refine Calls.mono (l_times5 p a n2 cap qs (some ⟨g48, 0, none⟩) N (vecL N v) (some ⟨g48, 0, none⟩) N (vecL N v) v13 HN.out HS.out HQ.out R48.out.rd R48.out.rd HGX.out HGX.out) ?_
  rintro e v14 ⟨g9, c9, rfl, ho, gg⟩
  have R9 := Lib.hid (ho.mono (Nat.zero_le _))
  clear ho
  replace E := Lib.hid (E.out.trans gg)
  replace HQ := Lib.hid (HQ.out.ext gg)
  replace HV := Lib.hid (HV.out.ext gg)
  replace HU := Lib.hid (HU.out.ext gg)
  replace R48 := Lib.hid (R48.out.ext gg)
  replace R51 := Lib.hid (R51.out.ext gg)
  replace D2 := Lib.hid (D2.out.ext gg)
  replace C0 := Lib.hid (gg.cell (p := ⟨O, 0, none⟩) C0.out)
  replace C1 := Lib.hid (gg.cell (p := ⟨O, 1, none⟩) C1.out)
  clear gg
  have c0 := C0.out
  have c1 := C1.out
  go_wp2_with (fail)
  clear c0 c1
  have H := l_like (some ⟨g9, 0, none⟩) (some ⟨zD2, 0, none⟩) N N c9 N _ _ v14 (by omega) (by omega) R9.out.rd D2.out.rd
  rw [HSQ.out, HM1.out, eqB_self] at H
  refine Calls.mono H ?_
  rintro e v99 ⟨rfl, gg⟩
  go_wp2_with (fail)
  go_ret
  exact ⟨rfl, E.out.trans gg⟩
end Go.Proofs.Ytbgnfjckbjmgbaa

/-
  The listed function PowerOf.
  No condition.
-/
namespace Go.Proofs.Ytbgnfjckbjmgbaa
set_option maxRecDepth 100000
open Go.RowKit

def codeP (p : Int) (qs : List Int) (rows : List (List Int)) (v : Int) : Int := if codeM p qs rows = 0 then (if inB v 0 100 = true then 0 else 2) else codeM p qs rows
theorem codeP_zero {p : Int} {qs : List Int} {rows : List (List Int)} {v : Int} (h : codeP p qs rows v = 0) : codeM p qs rows = 0 ∧ inB v 0 100 = true := by
  unfold codeP at h
  split at h
  · rename_i hm
    split at h
    · rename_i hr; exact ⟨hm, hr⟩
    · omega
  · rename_i hm; exact absurd h hm
theorem pow_odd {u t k K : Nat} (h : u + t * k = K) (ho : k % 2 = 1) : u + t + (t + t) * (k / 2) = K := by
  obtain ⟨m, hm⟩ : ∃ m, k = 2 * m + 1 := ⟨k / 2, by omega⟩
  subst hm
  rw [show (2 * m + 1) / 2 = m by omega, Nat.add_mul, ← h, Nat.mul_add, Nat.mul_one, Nat.mul_left_comm]
  omega
theorem pow_even {u t k K : Nat} (h : u + t * k = K) (ho : ¬ k % 2 = 1) : u + (t + t) * (k / 2) = K := by
  obtain ⟨m, hm⟩ : ∃ m, k = 2 * m := ⟨k / 2, by omega⟩
  subst hm
  rw [show 2 * m / 2 = m by omega, Nat.add_mul, ← h, Nat.mul_left_comm]
  omega
theorem in_bd {v l h : Int} (hh : inB v l h = true) : l ≤ v ∧ v ≤ h := by simpa [inB] using hh


set_option maxHeartbeats 400000 in
theorem c_PowerOf_bad (p : Int) (a : Option Addr) (d cap : Nat) (qs : List Int) (ax1 : Option Addr) (n1 cx1 : Nat) (xs1 : List Int) (v2 : Int) (w : World) (hd : d ≤ 4194304) (hn1 : n1 ≤ 4194304) (hq : RdC w a d qs) (hx1 : RdC w ax1 n1 xs1) (hc : codeP p qs [xs1] v2 ≠ 0) :
    Calls Try.prog 32 #[.agg #[.int .i64 p, .slice a d cap], .slice ax1 n1 cx1, .int .i64 v2] w fun e w' => ∃ ra rc, e = .returned (.tuple #[.slice ra 0 rc, .int .i64 (codeP p qs [xs1] v2)]) ∧ OwnC w.heap.size w' ra 0 rc [] ∧ Ext w w' := by
  by_cases hm : codeM p qs [xs1] = 0
  · have hi : inB v2 0 100 = false := by
      cases h : inB v2 0 100
      · rfl
      · exact absurd (by simp [codeP, hm, h]) hc
    have HC := Lib.hid (show codeP p qs [xs1] v2 = 2 by simp [codeP, hm, hi])
    have HI := Lib.hid hi
    have HM := Lib.hid hm
    rw [HC.out]
    clear hc hi hm
    go_enter Try.func32, Try.ntmps32
    go_wp2_with (first | (go_at_call 79; refine (c_checkMultis p a d cap qs _ 1 _ [xs1] _ hd (by omega) (len_one (by rw [hx1.1]; exact hn1)) (hq.ext ((ext_alloc _ _).alloc _)) (rdR_one (a := ax1) (n := _) (cap := cx1) (by simp) (hx1.ext ((ext_alloc _ _).alloc _)))).mono ?_; rintro e w1 ⟨rfl, g1⟩; rw [HM.out]) | (go_at_call 91; refine (c_inRange _ _ _ _).mono ?_; rintro e w2 ⟨rfl, g2⟩; rw [HI.out]))
    go_ret2
    exact ⟨none, 0, rfl, own_nil _ _, ((ext_alloc _ _).alloc _).trans (g1.trans g2)⟩
  · have hcb : (codeM p qs [xs1] != 0) = true := by simp [hm]
    have hcb2 : (codeM p qs [xs1] == 0) = false := by simp [hm]
    have HC := Lib.hid (show codeP p qs [xs1] v2 = codeM p qs [xs1] by simp [codeP, hm])
    rw [HC.out]
    clear hc hm
    go_enter Try.func32, Try.ntmps32
    go_wp2_with (go_at_call 79; refine (c_checkMultis p a d cap qs _ 1 _ [xs1] _ hd (by omega) (len_one (by rw [hx1.1]; exact hn1)) (hq.ext ((ext_alloc _ _).alloc _)) (rdR_one (a := ax1) (n := _) (cap := cx1) (by simp) (hx1.ext ((ext_alloc _ _).alloc _)))).mono ?_; rintro e w1 ⟨rfl, g1⟩)
    go_ret2
    exact ⟨none, 0, rfl, own_nil _ _, ((ext_alloc _ _).alloc _).trans g1⟩

set_option maxHeartbeats 4000000 in
set_option maxRecDepth 100000 in
theorem c_PowerOf_ok (p : Int) (a : Option Addr) (d cap : Nat) (qs : List Int) (ax1 : Option Addr) (n1 cx1 : Nat) (xs1 : List Int) (v2 : Int) (w : World) (hd : d ≤ 4194304) (hn1 : n1 ≤ 4194304) (hq : RdC w a d qs) (hx1 : RdC w ax1 n1 xs1) (hc : codeP p qs [xs1] v2 = 0) :
    Calls Try.prog 32 #[.agg #[.int .i64 p, .slice a d cap], .slice ax1 n1 cx1, .int .i64 v2] w fun e w' => ∃ ra rc, e = .returned (.tuple #[.slice ra n1 rc, .int .i64 0]) ∧ OwnC w.heap.size w' ra n1 rc (powL p qs xs1 v2.toNat) ∧ Ext w w' := by
  obtain ⟨hcm, hin⟩ := codeP_zero hc
  have hvb := in_bd hin
  have HM := Lib.hid hcm
  have HI := Lib.hid hin
  obtain ⟨hs, hxm1⟩ := codeM_one hcm
  obtain ⟨hpr, hd1, hd6, hqb⟩ := space_of hs
  have hpb := prime_bd hpr
  obtain ⟨hxl1, hxb1⟩ := multi_of hxm1
  rw [hq.1] at hxl1 hd6
  have hN : n1 = 2 ^ d := hx1.1.symm.trans hxl1
  have HN := Lib.hid hN
  have HQB := Lib.hid hqb
  have HXB1 := Lib.hid hxb1
  clear hs hxm1 hqb hxb1 hxl1 hpr hd1 hN hcm hin hc
  obtain ⟨K, rfl⟩ := Int.eq_ofNat_of_zero_le hvb.1
  rw [Int.toNat_natCast]
  have hK : K ≤ 100 := by omega
  have hN6 : n1 ≤ 64 := by rw [HN.out]; exact pow_le64 (by omega)
  have hN1 : 1 ≤ n1 := by rw [HN.out]; exact pow_pos' d
  have HGX := Lib.hid (show Good p (2 ^ qs.length) xs1 by rw [hq.1, ← HN.out]; exact good_isB hx1.1 HXB1.out)
  have HQL := Lib.hid (show n1 = 2 ^ qs.length by rw [hq.1, HN.out])
  have HPG := Lib.hid (fun k => (by rw [HQL.out]; exact pow_good (by omega) k : Good p n1 (powL p qs xs1 k)))
  go_enter Try.func32, Try.ntmps32
  go_wp2_with (first | (go_at_call 79; refine (c_checkMultis p a d cap qs _ 1 _ [xs1] _ hd (by omega) (len_one (by rw [hx1.1]; exact hn1)) (hq.ext ((ext_alloc _ _).alloc _)) (rdR_one (a := ax1) (n := _) (cap := cx1) (by simp) (hx1.ext ((ext_alloc _ _).alloc _)))).mono ?_; rintro e w1 ⟨rfl, g1⟩; rw [HM.out]; have hq0 : w1.cell? ⟨w.heap.size, 0, none⟩ = some (.int .i64 p) := g1.cell (by simp); have hq1 : w1.cell? ⟨w.heap.size, 1, none⟩ = some (.slice a d cap) := g1.cell (by simp)) | (go_at_call 91; refine (c_inRange _ _ _ _).mono ?_; rintro e w2 ⟨rfl, g2⟩; rw [HI.out]; have hr0 := g2.cell hq0; have hr1 := g2.cell hq1))
  have G2 := Lib.hid ((((ext_alloc w (.cells #[.int .i64 p, .slice a d cap] 26)).alloc (.cells #[.slice ax1 n1 cx1] 24)).trans g1).trans g2)
  have HR0 := Lib.hid hr0
  have HR1 := Lib.hid hr1
  clear g1 g2 hq0 hq1 hr0 hr1
  refine (c_oneN HN.out p a cap w2 (by omega)).mono ?_
  rintro e w3 ⟨g, rfl, ho, g3⟩
  have HO := Lib.hid ho
  have G3 := Lib.hid g3
  clear ho g3
  go_wp2_with (fail)
  go_loopw [9, 23] (fun v i wr => ∃ (k g : Nat), k ≤ K ∧ i = .int .i64 k ∧ v = .slice (some ⟨g, 0, none⟩) n1 n1 ∧ OwnC w.heap.size wr (some ⟨g, 0, none⟩) n1 n1 (powL p qs xs1 k) ∧ Ext w2 wr) (fun _ i _ => K - (intOf i).toNat)
  case atStart => exact ⟨0, g, Nat.zero_le _, rfl, rfl, by show OwnC _ _ _ _ _ (bladeL (2 ^ qs.length) 0); rw [← HQL.out]; exact HO.out.mono G2.out.size, G3.out⟩
  case round =>
    obtain ⟨k, g', hk, rfl, rfl, hown, hext⟩ := hrel
    have HOwn := Lib.hid hown
    have HExt := Lib.hid hext
    clear hown hext
    by_cases hlt : k < K
    · have hs0 := HExt.out.cell HR0.out
      have hs1 := HExt.out.cell HR1.out
      go_wp2_with (fail)
      clear hs0 hs1
      refine (c_timesN HN.out p a cap qs _ 2 _ [powL p qs xs1 k, xs1] (wr.alloc (.cells #[.slice (some ⟨g', 0, none⟩) n1 n1, .slice ax1 n1 cx1] 24)) (by omega) (by omega) (by omega) (by omega) (hq.ext ((G2.out.trans HExt.out).alloc _)) HQB.out (rdR_two (a := some ⟨g', 0, none⟩) (b := ax1) (n := n1) (m := n1) (ca := n1) (cb := cx1) (by simp) (by simp) (HOwn.out.rd.ext (ext_alloc _ _)) (hx1.ext ((G2.out.trans HExt.out).alloc _))) (good_pair (HPG.out k) (by rw [HQL.out]; exact HGX.out))).mono ?_
      rintro e w4 ⟨g4, rfl, ho4, x4⟩
      rw [prod_two HQL.out (by omega) (HPG.out k)] at ho4
      have HO4 := Lib.hid (ho4.mono (B' := w.heap.size) (by have := (G2.out.trans HExt.out).size'; simp; omega))
      have X4 := Lib.hid (HExt.out.trans ((ext_alloc _ _).trans x4))
      clear ho4 x4
      go_wp2_with (fail)
      go_roundw
      case rel => exact ⟨k + 1, g4, by omega, by go_num, rfl, HO4.out, X4.out⟩
      case measure => simp [intOf]; omega
    · go_wp2_with (fail)
      go_ret2
      obtain rfl : k = K := by omega
      exact ⟨_, _, rfl, HOwn.out, G2.out.trans HExt.out⟩


end Go.Proofs.Ytbgnfjckbjmgbaa
