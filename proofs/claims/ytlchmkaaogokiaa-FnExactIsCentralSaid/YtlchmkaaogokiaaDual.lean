/-
  Duals; the listed function DualOf.
  No condition.
-/
import Derived.Test.YtlchmkaaogokiaaInv
import Derived.Test.YtlchmkaaogokiaaUndual
namespace Go.Proofs.Ytlchmkaaogokiaa
set_option maxRecDepth 100000
open Go.RowKit

set_option maxHeartbeats 4000000 in
set_option maxRecDepth 100000 in
theorem c_dual {N d : Nat} (hN : N = 2 ^ d) (p : Int) (a : Option Addr) (cap : Nat) (qs : List Int) (ax : Option Addr) (cx : Nat) (x : List Int) (w : World) (hd : d ≤ 6) (hp1 : 3 ≤ p) (hp2 : p ≤ 1000) (hq : RdC w a d qs) (hqb : isB p qs = true) (hx : RdC w ax N x) (hxb : isB p x = true) (hpr : primeB p = true) (hrg : regB qs = true) :
    Calls Try.prog 53 #[.agg #[.int .i64 p, .slice a d cap], .slice ax N cx] w fun e w' => ∃ g, e = .returned (.slice (some ⟨g, 0, none⟩) N N) ∧ OwnC w.heap.size w' (some ⟨g, 0, none⟩) N N (dualL p qs x) ∧ Ext w w' := by
  have HN := Lib.hid hN
  have hN1 : 1 ≤ N := by rw [hN]; exact pow_pos' d
  have hN0 : ¬ N = 0 := by omega
  have HQ := Lib.hid hq
  have HQB := Lib.hid hqb
  have HX := Lib.hid hx
  have HXB := Lib.hid hxb
  clear hN hq hqb hx hxb
  have hN6 : N ≤ 64 := by rw [HN.out]; exact pow_le64 hd
  have hsb := sqFull_bd (p := p) (qs := qs) hp1
  have hsn : sqFull p qs ≠ 0 := sqFull_ne hpr HQB.out (by rw [HQ.out.1]; exact hd) hrg
  have hib := invN_bd (p := p) (a := sqFull p qs) hp1
  obtain ⟨sq, hsq⟩ : ∃ sq, sq = sqFull p qs := ⟨_, rfl⟩
  rw [← hsq] at hsb hsn hib
  obtain ⟨iv, hiv⟩ : ∃ iv, iv = invN p sq := ⟨_, rfl⟩
  rw [← hiv] at hib
  have HSQ := Lib.hid hsq
  have HIV := Lib.hid hiv
  have HD := Lib.hid (show dualL p qs x = prodL p qs tkL x (topL d iv) by unfold dualL; rw [HQ.out.1, ← hsq, ← hiv])
  have HSC := Lib.hid (show scaleL p (fullL d) iv N = topL d iv by rw [HN.out]; exact scale_full hib.1 hib.2)
  have HPR := Lib.hid hpr
  clear hsq hiv hpr hrg
  obtain ⟨W, hW⟩ : ∃ W, W = w.alloc (.cells #[.int .i64 p, .slice a d cap] 28) := ⟨_, rfl⟩
  have gW : Ext w W := by rw [hW]; exact ext_alloc _ _
  have hs0 : W.cell? ⟨w.heap.size, 0, none⟩ = some (.int .i64 p) := by rw [hW]; simp
  have hs1 : W.cell? ⟨w.heap.size, 1, none⟩ = some (.slice a d cap) := by rw [hW]; simp
  have HS0 := Lib.hid ((ext_drew _).cell hs0)
  have HS1 := Lib.hid ((ext_drew _).cell hs1)
  have GW := Lib.hid (gW.trans (ext_drew _))
  have HW := Lib.hid hW
  clear hs0 hs1 gW hW
  go_enter Try.func53, Try.ntmps53
  go_wp2_with (fail)
  rw [← HW.out]
  refine wp_region_lex [(3, .val (.int .i64 p)), (5, .ownG w.heap.size N (fullL d)), (7, .val (.int .i64 p)), (9, .val (.int .i64 sq)), (10, .val (.int .i64 iv)), (11, .ownS w.heap.size N (scaleL p (fullL d) iv N)), (12, .ownG w.heap.size N (prodL p qs tkL x (scaleL p (fullL d) iv N)))] (by kernel_rfl) (by kernel_rfl) ?_
  (refine LexW.pure (v := ?_) rfl rfl (fun w1 he => ?_) ?_; rotate_left; ( have e1 := he.cell HS0.out; have e2 := he.cell HS1.out; go_simp; rfl); simp only [Act.put, List.setIfInBounds_toArray, List.set_cons_zero, List.set_cons_succ])
  (refine LexW.pure (v := ?_) rfl rfl (fun w1 he => ?_) ?_; rotate_left; ( have e1 := he.cell HS0.out; have e2 := he.cell HS1.out; go_simp; rfl); simp only [Act.put, List.setIfInBounds_toArray, List.set_cons_zero, List.set_cons_succ])
  (refine LexW.pure (v := ?_) rfl rfl (fun w1 he => ?_) ?_; rotate_left; ( have e1 := he.cell HS0.out; have e2 := he.cell HS1.out; go_simp; rfl); simp only [Act.put, List.setIfInBounds_toArray, List.set_cons_zero, List.set_cons_succ])
  (refine LexW.call (f := ?_) (args := ?_) rfl rfl (fun w1 => ?_) (fun w1 he hdep => ?_) ?_; rotate_left 2; (go_simp; refine ⟨?_, ?_⟩ <;> rfl); ( exact c_field _ _ _); simp only [Act.put, List.setIfInBounds_toArray, List.set_cons_zero, List.set_cons_succ])
  (refine LexW.pure (v := ?_) rfl rfl (fun w1 he => ?_) ?_; rotate_left; ( have e1 := he.cell HS0.out; have e2 := he.cell HS1.out; go_simp; rfl); simp only [Act.put, List.setIfInBounds_toArray, List.set_cons_zero, List.set_cons_succ])
  (refine LexW.callR (f := ?_) (args := ?_) rfl rfl (fun w1 => ?_) (fun w1 he hdep => ?_) (fun v hv => ?_); rotate_left 2; (go_simp; refine ⟨?_, ?_⟩ <;> rfl); ( refine (c_fullN HN.out p a cap w1 hd).mono ?_; rintro e w2 ⟨g, rfl, ho, g2⟩; exact ⟨_, rfl, g2, g, rfl, ho.mono (Nat.le_trans GW.out.size he.size)⟩); simp only [Act.put, List.setIfInBounds_toArray, List.set_cons_zero, List.set_cons_succ])
  obtain ⟨_, g10, rfl, _⟩ := hv
  (refine LexW.pure (v := ?_) rfl rfl (fun w1 he => ?_) ?_; rotate_left; ( have e1 := he.cell HS0.out; have e2 := he.cell HS1.out; go_simp; rfl); simp only [Act.put, List.setIfInBounds_toArray, List.set_cons_zero, List.set_cons_succ])
  (refine LexW.call (f := ?_) (args := ?_) rfl rfl (fun w1 => ?_) (fun w1 he hdep => ?_) ?_; rotate_left 2; (go_simp; refine ⟨?_, ?_⟩ <;> rfl); ( exact c_field _ _ _); simp only [Act.put, List.setIfInBounds_toArray, List.set_cons_zero, List.set_cons_succ])
  (refine LexW.pure (v := ?_) rfl rfl (fun w1 he => ?_) ?_; rotate_left; ( have e1 := he.cell HS0.out; have e2 := he.cell HS1.out; go_simp; rfl); simp only [Act.put, List.setIfInBounds_toArray, List.set_cons_zero, List.set_cons_succ])
  (refine LexW.call (f := ?_) (args := ?_) rfl rfl (fun w1 => ?_) (fun w1 he hdep => ?_) ?_; rotate_left 2; (go_simp; refine ⟨?_, ?_⟩ <;> rfl); ( rw [HSQ.out]; exact c_fullSquare p a d cap qs w1 hd hp1 hp2 (HQ.out.ext (GW.out.trans he)) HQB.out); simp only [Act.put, List.setIfInBounds_toArray, List.set_cons_zero, List.set_cons_succ])
  (refine LexW.call (f := ?_) (args := ?_) rfl rfl (fun w1 => ?_) (fun w1 he hdep => ?_) ?_; rotate_left 2; (go_simp; refine ⟨?_, ?_⟩ <;> rfl); ( rw [HIV.out]; exact c_inv p sq w1 hp1 hp2 (by omega) (by omega)); simp only [Act.put, List.setIfInBounds_toArray, List.set_cons_zero, List.set_cons_succ])
  (refine LexW.callR (f := ?_) (args := ?_) rfl rfl (fun w1 => ?_) (fun w1 he hdep => ?_) (fun v hv => ?_); rotate_left 2; (go_simp; refine ⟨?_, ?_⟩ <;> rfl); ( obtain ⟨_, q10, r10⟩ : (SPred.ownG w.heap.size N (fullL d)).holds (.slice (some ⟨g10, 0, none⟩) N N) w1 := hdep (5, 10) (by decide +kernel); cases q10; refine (c_scaled p _ N N (fullL d) iv w1 hp1 hp2 (by omega) (by omega) r10.rd (by rw [HN.out]; exact full_good hp1)).mono ?_; rintro e w2 ⟨g, rc, rfl, ho, g2⟩; exact ⟨_, rfl, g2, g, rc, rfl, ho.mono (Nat.le_trans GW.out.size he.size)⟩); simp only [Act.put, List.setIfInBounds_toArray, List.set_cons_zero, List.set_cons_succ])
  obtain ⟨_, g16, c16, rfl, _⟩ := hv
  (refine LexW.callR (f := ?_) (args := ?_) rfl rfl (fun w1 => ?_) (fun w1 he hdep => ?_) (fun v hv => ?_); rotate_left 2; (go_simp; refine ⟨?_, ?_⟩ <;> rfl); ( obtain ⟨_, _, q16, r16⟩ : (SPred.ownS w.heap.size N (scaleL p (fullL d) iv N)).holds (.slice (some ⟨g16, 0, none⟩) N c16) w1 := hdep (11, 16) (by decide +kernel); cases q16; refine (c_contractN HN.out p a cap qs ax _ cx c16 x (scaleL p (fullL d) iv N) w1 hd hp1 hp2 (HQ.out.ext (GW.out.trans he)) HQB.out (HX.out.ext (GW.out.trans he)) r16.rd HXB.out (scale_good (by omega)).isB).mono ?_; rintro e w2 ⟨g, rfl, ho, g2⟩; exact ⟨_, rfl, g2, g, rfl, ho.mono (Nat.le_trans GW.out.size he.size)⟩); simp only [Act.put, List.setIfInBounds_toArray, List.set_cons_zero, List.set_cons_succ])
  obtain ⟨_, g17, rfl, _⟩ := hv
  (refine LexW.pure (v := ?_) rfl rfl (fun w1 he => ?_) ?_; rotate_left; ( have e1 := he.cell HS0.out; have e2 := he.cell HS1.out; go_simp; rfl); simp only [Act.put, List.setIfInBounds_toArray, List.set_cons_zero, List.set_cons_succ])
  refine LexW.nil (fun w3 he hkn => ?_)
  obtain ⟨_, q17, r17⟩ : (SPred.ownG w.heap.size N (prodL p qs tkL x (scaleL p (fullL d) iv N))).holds (.slice (some ⟨g17, 0, none⟩) N N) w3 := hkn (12, _) (by simp)
  cases q17
  have R17 := Lib.hid r17
  have HE := Lib.hid (GW.out.trans he)
  clear he hkn r17
  go_wp2_with (fail)
  go_ret
  exact ⟨g17, rfl, by rw [HD.out, ← HSC.out]; exact R17.out, HE.out⟩

set_option maxHeartbeats 4000000 in
set_option maxRecDepth 100000 in
theorem s_dual {N d : Nat} (hN : N = 2 ^ d) (p : Int) (a : Option Addr) (cap : Nat) (qs : List Int) (ax : Option Addr) (cx : Nat) (x : List Int) (w : World) (hd : d ≤ 6) (hp1 : 3 ≤ p) (hp2 : p ≤ 1000) (hq : RdC w a d qs) (hqb : isB p qs = true) (hx : RdC w ax N x) (hxb : isB p x = true) (hpr : primeB p = true) (hrg : regB qs = true) :
    Calls Try.prog 49 #[.agg #[.int .i64 p, .slice a d cap], .slice ax N cx] w fun e w' => ∃ g, e = .returned (.slice (some ⟨g, 0, none⟩) N N) ∧ OwnC w.heap.size w' (some ⟨g, 0, none⟩) N N (dualL p qs x) ∧ Ext w w' := by
  have HN := Lib.hid hN
  have hN1 : 1 ≤ N := by rw [hN]; exact pow_pos' d
  have hN0 : ¬ N = 0 := by omega
  have HQ := Lib.hid hq
  have HQB := Lib.hid hqb
  have HX := Lib.hid hx
  have HXB := Lib.hid hxb
  clear hN hq hqb hx hxb
  have hN6 : N ≤ 64 := by rw [HN.out]; exact pow_le64 hd
  have hsb := sqFull_bd (p := p) (qs := qs) hp1
  have hsn : sqFull p qs ≠ 0 := sqFull_ne hpr HQB.out (by rw [HQ.out.1]; exact hd) hrg
  have hib := invN_bd (p := p) (a := sqFull p qs) hp1
  obtain ⟨sq, hsq⟩ : ∃ sq, sq = sqFull p qs := ⟨_, rfl⟩
  rw [← hsq] at hsb hsn hib
  obtain ⟨iv, hiv⟩ : ∃ iv, iv = invN p sq := ⟨_, rfl⟩
  rw [← hiv] at hib
  have HSQ := Lib.hid hsq
  have HIV := Lib.hid hiv
  have HD := Lib.hid (show dualL p qs x = prodL p qs tkL x (topL d iv) by unfold dualL; rw [HQ.out.1, ← hsq, ← hiv])
  have HSC := Lib.hid (show scaleL p (fullL d) iv N = topL d iv by rw [HN.out]; exact scale_full hib.1 hib.2)
  have HPR := Lib.hid hpr
  clear hsq hiv hpr hrg
  obtain ⟨W, hW⟩ : ∃ W, W = w.alloc (.cells #[.int .i64 p, .slice a d cap] 28) := ⟨_, rfl⟩
  have gW : Ext w W := by rw [hW]; exact ext_alloc _ _
  have hs0 : W.cell? ⟨w.heap.size, 0, none⟩ = some (.int .i64 p) := by rw [hW]; simp
  have hs1 : W.cell? ⟨w.heap.size, 1, none⟩ = some (.slice a d cap) := by rw [hW]; simp
  have HS0 := Lib.hid ((ext_drew _).cell hs0)
  have HS1 := Lib.hid ((ext_drew _).cell hs1)
  have GW := Lib.hid (gW.trans (ext_drew _))
  have HW := Lib.hid hW
  clear hs0 hs1 gW hW
  go_enter Try.func49, Try.ntmps49
  go_wp2_with (fail)
  rw [← HW.out]
  refine wp_region_lex [(6, .val (.int .i64 sq)), (7, .val (.int .i64 iv)), (8, .ownG w.heap.size N (topL d iv)), (9, .ownG w.heap.size N (prodL p qs tkL x (topL d iv)))] (by kernel_rfl) (by kernel_rfl) ?_
  (refine LexW.pure (v := ?_) rfl rfl (fun w1 he => ?_) ?_; rotate_left; ( have e1 := he.cell HS0.out; have e2 := he.cell HS1.out; go_simp; rfl); simp only [Act.put, List.setIfInBounds_toArray, List.set_cons_zero, List.set_cons_succ])
  (refine LexW.pure (v := ?_) rfl rfl (fun w1 he => ?_) ?_; rotate_left; ( have e1 := he.cell HS0.out; have e2 := he.cell HS1.out; go_simp; rfl); simp only [Act.put, List.setIfInBounds_toArray, List.set_cons_zero, List.set_cons_succ])
  (refine LexW.pure (v := ?_) rfl rfl (fun w1 he => ?_) ?_; rotate_left; ( have e1 := he.cell HS0.out; have e2 := he.cell HS1.out; go_simp; rfl); simp only [Act.put, List.setIfInBounds_toArray, List.set_cons_zero, List.set_cons_succ])
  (refine LexW.pure (v := ?_) rfl rfl (fun w1 he => ?_) ?_; rotate_left; ( have e1 := he.cell HS0.out; have e2 := he.cell HS1.out; go_simp; rfl); simp only [Act.put, List.setIfInBounds_toArray, List.set_cons_zero, List.set_cons_succ])
  (refine LexW.pure (v := ?_) rfl rfl (fun w1 he => ?_) ?_; rotate_left; ( have e1 := he.cell HS0.out; have e2 := he.cell HS1.out; go_simp; rfl); simp only [Act.put, List.setIfInBounds_toArray, List.set_cons_zero, List.set_cons_succ])
  (refine LexW.pure (v := ?_) rfl rfl (fun w1 he => ?_) ?_; rotate_left; ( have e1 := he.cell HS0.out; have e2 := he.cell HS1.out; go_simp; rfl); simp only [Act.put, List.setIfInBounds_toArray, List.set_cons_zero, List.set_cons_succ])
  (refine LexW.call (f := ?_) (args := ?_) rfl rfl (fun w1 => ?_) (fun w1 he hdep => ?_) ?_; rotate_left 2; (go_simp; refine ⟨?_, ?_⟩ <;> rfl); ( rw [HSQ.out]; exact s_square p a d cap qs w1 hd hp1 hp2 (HQ.out.ext (GW.out.trans he)) HQB.out); simp only [Act.put, List.setIfInBounds_toArray, List.set_cons_zero, List.set_cons_succ])
  (refine LexW.call (f := ?_) (args := ?_) rfl rfl (fun w1 => ?_) (fun w1 he hdep => ?_) ?_; rotate_left 2; (go_simp; refine ⟨?_, ?_⟩ <;> rfl); ( rw [HIV.out]; exact s_inv p sq w1 HPR.out (by omega) (by omega)); simp only [Act.put, List.setIfInBounds_toArray, List.set_cons_zero, List.set_cons_succ])
  (refine LexW.callR (f := ?_) (args := ?_) rfl rfl (fun w1 => ?_) (fun w1 he hdep => ?_) (fun v hv => ?_); rotate_left 2; (go_simp; refine ⟨?_, ?_⟩ <;> rfl); ( refine (s_topN HN.out p a cap iv w1 hd).mono ?_; rintro e w2 ⟨g, rfl, ho, g2⟩; exact ⟨_, rfl, g2, g, rfl, ho.mono (Nat.le_trans GW.out.size he.size)⟩); simp only [Act.put, List.setIfInBounds_toArray, List.set_cons_zero, List.set_cons_succ])
  obtain ⟨_, g13, rfl, _⟩ := hv
  (refine LexW.callR (f := ?_) (args := ?_) rfl rfl (fun w1 => ?_) (fun w1 he hdep => ?_) (fun v hv => ?_); rotate_left 2; (go_simp; refine ⟨?_, ?_⟩ <;> rfl); ( obtain ⟨_, q13, r13⟩ : (SPred.ownG w.heap.size N (topL d iv)).holds (.slice (some ⟨g13, 0, none⟩) N N) w1 := hdep (8, 13) (by decide +kernel); cases q13; refine (s_leftN HN.out p a cap qs ax _ cx N x (topL d iv) w1 hd hp1 hp2 (HQ.out.ext (GW.out.trans he)) HQB.out (HX.out.ext (GW.out.trans he)) r13.rd HXB.out (top_good hp1 hib.1 hib.2).isB).mono ?_; rintro e w2 ⟨g, rfl, ho, g2⟩; exact ⟨_, rfl, g2, g, rfl, ho.mono (Nat.le_trans GW.out.size he.size)⟩); simp only [Act.put, List.setIfInBounds_toArray, List.set_cons_zero, List.set_cons_succ])
  obtain ⟨_, g14, rfl, _⟩ := hv
  (refine LexW.pure (v := ?_) rfl rfl (fun w1 he => ?_) ?_; rotate_left; ( have e1 := he.cell HS0.out; have e2 := he.cell HS1.out; go_simp; rfl); simp only [Act.put, List.setIfInBounds_toArray, List.set_cons_zero, List.set_cons_succ])
  refine LexW.nil (fun w3 he hkn => ?_)
  obtain ⟨_, q14, r14⟩ : (SPred.ownG w.heap.size N (prodL p qs tkL x (topL d iv))).holds (.slice (some ⟨g14, 0, none⟩) N N) w3 := hkn (9, _) (by simp)
  cases q14
  have R14 := Lib.hid r14
  have HE := Lib.hid (GW.out.trans he)
  clear he hkn r14
  go_wp2_with (fail)
  go_ret
  exact ⟨g14, rfl, by rw [HD.out]; exact R14.out, HE.out⟩



end Go.Proofs.Ytlchmkaaogokiaa
