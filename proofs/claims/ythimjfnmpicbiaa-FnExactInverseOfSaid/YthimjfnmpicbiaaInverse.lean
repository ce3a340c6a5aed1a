/-
  Inverses of multivectors.
  No condition.
-/
import Derived.Test.YthimjfnmpicbiaaInvM
namespace Go.Proofs.Ythimjfnmpicbiaa
set_option maxRecDepth 100000
open Go.RowKit

set_option maxHeartbeats 8000000 in
set_option maxRecDepth 100000 in
theorem c_inverse {N d : Nat} (hN : N = 2 ^ d) (p : Int) (a : Option Addr) (cap : Nat) (qs : List Int) (ax : Option Addr) (cx : Nat) (x : List Int) (w : World) (hd : d ≤ 6) (hpr : primeB p = true) (hq : RdC w a d qs) (hqb : isB p qs = true) (hx : RdC w ax N x) (hgx : Good p N x) :
    Calls Try.prog 94 #[.agg #[.int .i64 p, .slice a d cap], .slice ax N cx] w fun e w' => ∃ ra rc, e = .returned (.tuple #[.slice ra (invL p qs x).length rc, .bool (invOk p qs x)]) ∧ OwnC w.heap.size w' ra (invL p qs x).length rc (invL p qs x) ∧ Ext w w' := by
  have hpb := prime_bd hpr
  have hN64 : N ≤ 64 := by rw [hN]; exact pow_le64 hd
  have hN1 : 0 < N := by rw [hN]; exact pow_pos' d
  have HN := Lib.hid hN
  have HPR := Lib.hid hpr
  have HX := Lib.hid hx
  have HQ := Lib.hid hq
  have HQB := Lib.hid hqb
  have HGX := Lib.hid hgx
  have HD := Lib.hid (show N = 2 ^ qs.length by rw [hq.1]; exact hN)
  have HIV : Hid (invL p qs x = solR N (redL p N (turnL (colsM p qs x true N) N N) (bladeL N 0) N) ∧ invOk p qs x = okS N (redL p N (turnL (colsM p qs x true N) N N) (bladeL N 0) N)) := Lib.hid (by unfold invL invOk invRed matM; rw [HD.out]; exact ⟨rfl, rfl⟩)
  have HTG : Hid (RowsG p N (turnL (colsM p qs x true N) N N)) := Lib.hid (by have := matM_good (qs := qs) (x := x) (left := true) (show 1 ≤ p by omega); unfold matM at this; rw [HD.out]; exact this)
  clear hN hx hq hqb hgx hpr
  obtain ⟨W, hW⟩ : ∃ W, W = w.alloc (.cells #[.int .i64 p, .slice a d cap] 30) := ⟨_, rfl⟩
  have gW : Ext w W := by rw [hW]; exact ext_alloc _ _
  have hs0 : W.cell? ⟨w.heap.size, 0, none⟩ = some (.int .i64 p) := by rw [hW]; simp
  have hs1 : W.cell? ⟨w.heap.size, 1, none⟩ = some (.slice a d cap) := by rw [hW]; simp
  have HS0 := Lib.hid (hs0)
  have HS1 := Lib.hid (hs1)
  have GW := Lib.hid (gW)
  have HW := Lib.hid hW
  clear hs0 hs1 gW hW
  go_enter Try.func94, Try.ntmps94
  go_wp2_with (fail)
  rw [← HW.out]
  have hz : w.heap.size + 1 = W.heap.size := by rw [HW.out]; simp
  have HZ := Lib.hid hz
  clear hz
  go_wp2_with (fail)
  go_loopw [6, 11] (fun s i wr => ∃ (k g rc : Nat), k ≤ N ∧ i = .int .i64 k ∧ s = .slice (some ⟨g, 0, none⟩) k rc ∧ OwnR W.heap.size wr (some ⟨g, 0, none⟩) k rc (colsM p qs x true k) ∧ Ext W wr) (fun _ i _ => N - (intOf i).toNat)
  case atStart => exact ⟨0, _, _, Nat.zero_le _, rfl, rfl, by have h := ownR_empty W; rw [HZ.out]; exact h, ext_alloc _ _⟩
  case round =>
    obtain ⟨k, g, rc, hk, rfl, rfl, hown, hext⟩ := hrel
    have HOwn := Lib.hid hown
    have HExt := Lib.hid hext
    clear hown hext
    have GX := Lib.hid (GW.out.trans (HExt.out.trans (ext_drew wr)))
    have HT0 := Lib.hid ((HExt.out.trans (ext_drew wr)).cell HS0.out)
    have HT1 := Lib.hid ((HExt.out.trans (ext_drew wr)).cell HS1.out)
    by_cases hlt : k < N
    · have HGB := Lib.hid (show Good p N (bladeL N k) from blade_good (by omega))
      go_wp2_with (fail)
      refine wp_region_lex_tail1 8 [(5, .ownG wr.drew.heap.size N (bladeL N k)), (6, .rows 2 [x, bladeL N k]), (7, .ownG wr.drew.heap.size N (timesL p qs [x, bladeL N k]))] (.slice (some ⟨g, 0, none⟩) k rc) (by kernel_rfl) (by kernel_rfl) rfl rfl (fun w1 => by go_simp) ?_
      simp only [List.take, List.drop]
      simp only [Act.put, List.setIfInBounds_toArray, List.set_cons_zero, List.set_cons_succ]
      (refine LexW.pure (v := ?_) rfl rfl (fun w1 he => ?_) ?_; rotate_left; ( have e1 := he.cell HT0.out; have e2 := he.cell HT1.out; go_simp; rfl); simp only [Act.put, List.setIfInBounds_toArray, List.set_cons_zero, List.set_cons_succ])
      (refine LexW.pure (v := ?_) rfl rfl (fun w1 he => ?_) ?_; rotate_left; ( have e1 := he.cell HT0.out; have e2 := he.cell HT1.out; go_simp; rfl); simp only [Act.put, List.setIfInBounds_toArray, List.set_cons_zero, List.set_cons_succ])
      (refine LexW.pure (v := ?_) rfl rfl (fun w1 he => ?_) ?_; rotate_left; ( have e1 := he.cell HT0.out; have e2 := he.cell HT1.out; go_simp; rfl); simp only [Act.put, List.setIfInBounds_toArray, List.set_cons_zero, List.set_cons_succ])
      (refine LexW.pure (v := ?_) rfl rfl (fun w1 he => ?_) ?_; rotate_left; ( have e1 := he.cell HT0.out; have e2 := he.cell HT1.out; go_simp; rfl); simp only [Act.put, List.setIfInBounds_toArray, List.set_cons_zero, List.set_cons_succ])
      (refine LexW.callR (f := ?_) (args := ?_) rfl rfl (fun w1 => ?_) (fun w1 he hdep => ?_) (fun v hv => ?_); rotate_left 2; (go_simp; refine ⟨?_, ?_⟩ <;> rfl); ( refine (c_bladeN HN.out p a cap k w1 hd hlt).mono ?_; rintro e w2 ⟨g, rfl, ho, g2⟩; exact ⟨_, rfl, g2, g, rfl, ho.mono he.size⟩); simp only [Act.put, List.setIfInBounds_toArray, List.set_cons_zero, List.set_cons_succ])
      obtain ⟨_, g19, rfl, _⟩ := hv
      (refine LexW.rel rfl rfl (fun w1 he hdep => ?_) (fun v hv => ?_); ( obtain ⟨_, q19, r19⟩ : (SPred.ownG wr.drew.heap.size N (bladeL N k)).holds (.slice (some ⟨g19, 0, none⟩) N N) w1 := hdep (5, 19) (by decide +kernel); cases q19; exact ⟨.slice (some ⟨w1.heap.size, 0, none⟩) 2 2, w1.alloc (.cells #[.slice ax N cx, .slice (some ⟨g19, 0, none⟩) N N] 22), (by go_simp), ext_alloc _ _, _, rfl, rdR_two (a := ax) (b := (some ⟨g19, 0, none⟩)) (n := N) (m := N) (ca := cx) (cb := N) (by simp) (by simp) ((HX.out.ext (GX.out.trans he)).ext (ext_alloc _ _)) ((r19.rd).ext (ext_alloc _ _))⟩); simp only [Act.put, List.setIfInBounds_toArray, List.set_cons_zero, List.set_cons_succ])
      obtain ⟨_, g20, rfl, _⟩ := hv
      (refine LexW.callR (f := ?_) (args := ?_) rfl rfl (fun w1 => ?_) (fun w1 he hdep => ?_) (fun v hv => ?_); rotate_left 2; (go_simp; refine ⟨?_, ?_⟩ <;> rfl); ( obtain ⟨_, q20, r20⟩ : (SPred.rows 2 [x, bladeL N k]).holds (.slice (some ⟨g20, 0, none⟩) 2 2) w1 := hdep (6, 20) (by decide +kernel); cases q20; refine (c_timesN HN.out p a cap qs _ 2 _ [x, bladeL N k] w1 hd (by omega) (by omega) (by omega) (HQ.out.ext (GX.out.trans he)) HQB.out r20 (good_two HGX.out HGB.out)).mono ?_; rintro e w2 ⟨g, rfl, ho, g2⟩; exact ⟨_, rfl, g2, g, rfl, ho.mono he.size⟩); simp only [Act.put, List.setIfInBounds_toArray, List.set_cons_zero, List.set_cons_succ])
      obtain ⟨_, g21, rfl, _⟩ := hv
      refine LexW.nil (fun w3 he hkn => ?_)
      obtain ⟨_, q21, r21⟩ : (SPred.ownG wr.drew.heap.size N (timesL p qs [x, bladeL N k])).holds (.slice (some ⟨g21, 0, none⟩) N N) w3 := hkn (7, _) (by simp)
      cases q21
      have R21 := Lib.hid r21
      have HE := Lib.hid (GX.out.trans he)
      have X3 := Lib.hid ((ext_drew wr).trans he)
      clear he hkn r21
      have HO21 : Hid (OwnC wr.heap.size w3 (some ⟨g21, 0, none⟩) N N (mulC p qs x true k)) := Lib.hid (by
        have h := R21.out.mono (B' := wr.heap.size) (ext_drew wr).size
        rw [prod_two HD.out (by omega) HGX.out] at h
        rw [mulC, if_pos rfl, ← HD.out]; exact h)
      go_wp2_with (at_builtin; refine wpList_pushR (w0 := wr) rfl (.tmp 14) (.tmp 22) rfl rfl rfl HOwn.out (X3.out.trans (ext_alloc _ _)) (HO21.out.ext (ext_alloc _ _)) ?hc (by omega) HExt.out.size ?hk)
      case hc => exact cell_new _ _ rfl _ _
      case hk =>
        intro g5 c5 w5 ho5 hg5 he5
        have HO5 := Lib.hid ho5
        have HE5 := Lib.hid (he5 W (Nat.le_refl _) ((HExt.out.trans X3.out).alloc _))
        clear ho5 hg5 he5
        go_wp2_with (fail)
        refine strictQ_normal ?_
        go_wp2_with (fail)
        go_roundw
        case rel => exact ⟨k + 1, g5, c5, by omega, by go_num, rfl, by rw [colsM_succ]; exact HO5.out, HE5.out⟩
        case measure => simp [intOf]; omega
    · obtain rfl : N = k := by omega
      go_wp2_with (fail)
      refine wp_region_lex [(1, .val (.int .i64 p)), (3, .ownR w.heap.size N (turnL (colsM p qs x true N) N N)), (5, .ownG w.heap.size N (bladeL N 0)), (6, .sol w.heap.size ((solR N (redL p N (turnL (colsM p qs x true N) N N) (bladeL N 0) N)).length) (solR N (redL p N (turnL (colsM p qs x true N) N N) (bladeL N 0) N)) (okS N (redL p N (turnL (colsM p qs x true N) N N) (bladeL N 0) N)))] (by kernel_rfl) (by kernel_rfl) ?_
      (refine LexW.pure (v := ?_) rfl rfl (fun w1 he => ?_) ?_; rotate_left; ( have e1 := he.cell HT0.out; have e2 := he.cell HT1.out; go_simp; rfl); simp only [Act.put, List.setIfInBounds_toArray, List.set_cons_zero, List.set_cons_succ])
      (refine LexW.call (f := ?_) (args := ?_) rfl rfl (fun w1 => ?_) (fun w1 he hdep => ?_) ?_; rotate_left 2; (go_simp; refine ⟨?_, ?_⟩ <;> rfl); ( exact c_field p _ w1); simp only [Act.put, List.setIfInBounds_toArray, List.set_cons_zero, List.set_cons_succ])
      (refine LexW.pure (v := ?_) rfl rfl (fun w1 he => ?_) ?_; rotate_left; ( have e1 := he.cell HT0.out; have e2 := he.cell HT1.out; go_simp; rfl); simp only [Act.put, List.setIfInBounds_toArray, List.set_cons_zero, List.set_cons_succ])
      (refine LexW.callR (f := ?_) (args := ?_) rfl rfl (fun w1 => ?_) (fun w1 he hdep => ?_) (fun v hv => ?_); rotate_left 2; (go_simp; refine ⟨?_, ?_⟩ <;> rfl); ( refine (c_transpose _ N rc N (colsM p qs x true N) w1 hN1 (by omega) (by omega) (fun i hi => by rw [colsM_nth hi, (mulC_good (by omega)).1, ← HD.out]) (HOwn.out.rd.ext ((ext_drew wr).trans he))).mono ?_; rintro e w2 ⟨g, rc, rfl, ho, g2⟩; exact ⟨_, rfl, g2, g, rc, rfl, ho.mono (Nat.le_trans GX.out.size he.size)⟩); simp only [Act.put, List.setIfInBounds_toArray, List.set_cons_zero, List.set_cons_succ])
      obtain ⟨_, g28, c28, rfl, _⟩ := hv
      (refine LexW.pure (v := ?_) rfl rfl (fun w1 he => ?_) ?_; rotate_left; ( have e1 := he.cell HT0.out; have e2 := he.cell HT1.out; go_simp; rfl); simp only [Act.put, List.setIfInBounds_toArray, List.set_cons_zero, List.set_cons_succ])
      (refine LexW.callR (f := ?_) (args := ?_) rfl rfl (fun w1 => ?_) (fun w1 he hdep => ?_) (fun v hv => ?_); rotate_left 2; (go_simp; refine ⟨?_, ?_⟩ <;> rfl); ( refine (c_oneN HN.out p a cap w1 hd).mono ?_; rintro e w2 ⟨g, rfl, ho, g2⟩; exact ⟨_, rfl, g2, g, rfl, ho.mono (Nat.le_trans GX.out.size he.size)⟩); simp only [Act.put, List.setIfInBounds_toArray, List.set_cons_zero, List.set_cons_succ])
      obtain ⟨_, g30, rfl, _⟩ := hv
      (refine LexW.callR (f := ?_) (args := ?_) rfl rfl (fun w1 => ?_) (fun w1 he hdep => ?_) (fun v hv => ?_); rotate_left 2; (go_simp; refine ⟨?_, ?_⟩ <;> rfl); ( obtain ⟨_, _, q28, r28⟩ : (SPred.ownR w.heap.size N (turnL (colsM p qs x true N) N N)).holds (.slice (some ⟨g28, 0, none⟩) N c28) w1 := hdep (3, 28) (by decide +kernel); cases q28; obtain ⟨_, q30, r30⟩ : (SPred.ownG w.heap.size N (bladeL N 0)).holds (.slice (some ⟨g30, 0, none⟩) N N) w1 := hdep (5, 30) (by decide +kernel); cases q30; refine (c_solve p _ N _ N (turnL (colsM p qs x true N) N N) _ N (bladeL N 0) w1 HPR.out hN1 (by omega) hN1 (by omega) r28.rd HTG.out r30.rd (blade_good (by omega))).mono ?_; rintro e w2 ⟨ra, rc, rfl, ho, g2⟩; exact ⟨_, rfl, g2, ra, rc, rfl, ho.mono (Nat.le_trans GX.out.size he.size)⟩); simp only [Act.put, List.setIfInBounds_toArray, List.set_cons_zero, List.set_cons_succ])
      obtain ⟨_, ra31, c31, rfl, _⟩ := hv
      (refine LexW.pure (v := ?_) rfl rfl (fun w1 he => ?_) ?_; rotate_left; ( have e1 := he.cell HT0.out; have e2 := he.cell HT1.out; go_simp; rfl); simp only [Act.put, List.setIfInBounds_toArray, List.set_cons_zero, List.set_cons_succ])
      (refine LexW.pure (v := ?_) rfl rfl (fun w1 he => ?_) ?_; rotate_left; ( have e1 := he.cell HT0.out; have e2 := he.cell HT1.out; go_simp; rfl); simp only [Act.put, List.setIfInBounds_toArray, List.set_cons_zero, List.set_cons_succ])
      (refine LexW.pure (v := ?_) rfl rfl (fun w1 he => ?_) ?_; rotate_left; ( have e1 := he.cell HT0.out; have e2 := he.cell HT1.out; go_simp; rfl); simp only [Act.put, List.setIfInBounds_toArray, List.set_cons_zero, List.set_cons_succ])
      (refine LexW.pure (v := ?_) rfl rfl (fun w1 he => ?_) ?_; rotate_left; ( have e1 := he.cell HT0.out; have e2 := he.cell HT1.out; go_simp; rfl); simp only [Act.put, List.setIfInBounds_toArray, List.set_cons_zero, List.set_cons_succ])
      refine LexW.nil (fun w3 he hkn => ?_)
      obtain ⟨_, _, q31, r31⟩ : (SPred.sol w.heap.size ((solR N (redL p N (turnL (colsM p qs x true N) N N) (bladeL N 0) N)).length) (solR N (redL p N (turnL (colsM p qs x true N) N N) (bladeL N 0) N)) (okS N (redL p N (turnL (colsM p qs x true N) N N) (bladeL N 0) N))).holds (.tuple #[.slice ra31 ((solR N (redL p N (turnL (colsM p qs x true N) N N) (bladeL N 0) N)).length) c31, .bool (okS N (redL p N (turnL (colsM p qs x true N) N N) (bladeL N 0) N))]) w3 := hkn (6, _) (by simp)
      cases q31
      have R31 := Lib.hid r31
      have HE := Lib.hid (GX.out.trans he)
      clear he hkn r31
      go_wp2_with (fail)
      go_ret2
      exact ⟨_, _, by rw [HIV.out.1, HIV.out.2]; rfl, by rw [HIV.out.1]; exact R31.out, HE.out⟩

set_option maxHeartbeats 8000000 in
set_option maxRecDepth 100000 in
theorem s_inverse {N d : Nat} (hN : N = 2 ^ d) (p : Int) (a : Option Addr) (cap : Nat) (qs : List Int) (ax : Option Addr) (cx : Nat) (x : List Int) (w : World) (hd : d ≤ 6) (hpr : primeB p = true) (hq : RdC w a d qs) (hqb : isB p qs = true) (hx : RdC w ax N x) (hgx : Good p N x) :
    Calls Try.prog 91 #[.agg #[.int .i64 p, .slice a d cap], .slice ax N cx] w fun e w' => ∃ ra rc, e = .returned (.tuple #[.slice ra (invL p qs x).length rc, .bool (invOk p qs x)]) ∧ OwnC w.heap.size w' ra (invL p qs x).length rc (invL p qs x) ∧ Ext w w' := by
  have hdq := hq.1
  have hpb := prime_bd hpr
  have hN64 : N ≤ 64 := by rw [hN]; exact pow_le64 hd
  have hN1 : 0 < N := by rw [hN]; exact pow_pos' d
  have HN := Lib.hid hN
  have HPR := Lib.hid hpr
  have HX := Lib.hid hx
  have HQ := Lib.hid hq
  have HQB := Lib.hid hqb
  have HGX := Lib.hid hgx
  have HD := Lib.hid (show N = 2 ^ qs.length by rw [hq.1]; exact hN)
  have HIV : Hid (invL p qs x = solR N (redL p N (turnL (colsM p qs x true N) N N) (bladeL N 0) N) ∧ invOk p qs x = okS N (redL p N (turnL (colsM p qs x true N) N N) (bladeL N 0) N)) := Lib.hid (by unfold invL invOk invRed matM; rw [HD.out]; exact ⟨rfl, rfl⟩)
  have HTG : Hid (RowsG p N (turnL (colsM p qs x true N) N N)) := Lib.hid (by have := matM_good (qs := qs) (x := x) (left := true) (show 1 ≤ p by omega); unfold matM at this; rw [HD.out]; exact this)
  clear hN hx hq hqb hgx hpr
  have HMG : Hid (RowsG p N (matM p qs x true)) := Lib.hid (by rw [HD.out]; exact matM_good (by omega))
  have HSol : Hid (∀ (am : Option Addr) (cm : Nat) (au : Option Addr) (cu : Nat) (w1 : World), RdR w1 am N (matM p qs x true) → RdC w1 au N (bladeL N 0) →
      Calls Try.prog 164 #[.int .i64 p, .slice am N cm, .slice au N cu] w1 fun e w' => ∃ ra rc, e = .returned (.tuple #[.slice ra (invL p qs x).length rc, .bool (invOk p qs x)]) ∧ OwnC w1.heap.size w' ra (invL p qs x).length rc (invL p qs x) ∧ Ext w1 w') := Lib.hid (fun am cm au cu w1 h1 h2 => by
    have h := s_solve p am N cm N (matM p qs x true) au cu (bladeL N 0) w1 HPR.out hN1 (by omega) hN1 (by omega) h1 HMG.out h2 (blade_good (by omega))
    have e1 : invL p qs x = solR N (redL p N (matM p qs x true) (bladeL N 0) N) := by unfold invL invRed; rw [HD.out]
    have e2 : invOk p qs x = okS N (redL p N (matM p qs x true) (bladeL N 0) N) := by unfold invOk invRed; rw [HD.out]
    rw [e1, e2]; exact h)
  obtain ⟨ok, hok⟩ : ∃ ok, ok = invOk p qs x := ⟨_, rfl⟩
  have HOk := Lib.hid hok
  rw [← hok] at HSol ⊢
  clear hok
  obtain ⟨W, hW⟩ : ∃ W, W = w.alloc (.cells #[.int .i64 p, .slice a d cap] 30) := ⟨_, rfl⟩
  have gW : Ext w W := by rw [hW]; exact ext_alloc _ _
  have hs0 : W.cell? ⟨w.heap.size, 0, none⟩ = some (.int .i64 p) := by rw [hW]; simp
  have hs1 : W.cell? ⟨w.heap.size, 1, none⟩ = some (.slice a d cap) := by rw [hW]; simp
  have HS0 := Lib.hid ((ext_drew _).cell hs0)
  have HS1 := Lib.hid ((ext_drew _).cell hs1)
  have GW := Lib.hid (gW.trans (ext_drew _))
  have HW := Lib.hid hW
  clear hs0 hs1 gW hW
  go_enter Try.func91, Try.ntmps91
  go_wp2_with (fail)
  rw [← HW.out]
  refine wp_region_lex [(4, .ownR w.heap.size N (matM p qs x true)), (6, .ownG w.heap.size N (bladeL N 0)), (7, .sol w.heap.size ((invL p qs x).length) (invL p qs x) ok)] (by kernel_rfl) (by kernel_rfl) ?_
  (refine LexW.pure (v := ?_) rfl rfl (fun w1 he => ?_) ?_; rotate_left; ( have e1 := he.cell HS0.out; have e2 := he.cell HS1.out; go_simp; rfl); simp only [Act.put, List.setIfInBounds_toArray, List.set_cons_zero, List.set_cons_succ])
  (refine LexW.pure (v := ?_) rfl rfl (fun w1 he => ?_) ?_; rotate_left; ( have e1 := he.cell HS0.out; have e2 := he.cell HS1.out; go_simp; rfl); simp only [Act.put, List.setIfInBounds_toArray, List.set_cons_zero, List.set_cons_succ])
  (refine LexW.pure (v := ?_) rfl rfl (fun w1 he => ?_) ?_; rotate_left; ( have e1 := he.cell HS0.out; have e2 := he.cell HS1.out; go_simp; rfl); simp only [Act.put, List.setIfInBounds_toArray, List.set_cons_zero, List.set_cons_succ])
  (refine LexW.pure (v := ?_) rfl rfl (fun w1 he => ?_) ?_; rotate_left; ( have e1 := he.cell HS0.out; have e2 := he.cell HS1.out; go_simp; rfl); simp only [Act.put, List.setIfInBounds_toArray, List.set_cons_zero, List.set_cons_succ])
  (refine LexW.callR (f := ?_) (args := ?_) rfl rfl (fun w1 => ?_) (fun w1 he hdep => ?_) (fun v hv => ?_); rotate_left 2; (go_simp; refine ⟨?_, ?_⟩ <;> rfl); ( refine (s_leftMatrix HN.out p a cap qs ax cx x w1 hd (by omega) (by omega) (HQ.out.ext (GW.out.trans he)) HQB.out (HX.out.ext (GW.out.trans he)) HGX.out).mono ?_; rintro e w2 ⟨g, rc, rfl, ho, g2⟩; exact ⟨_, rfl, g2, g, rc, rfl, ho.mono (Nat.le_trans GW.out.size he.size)⟩); simp only [Act.put, List.setIfInBounds_toArray, List.set_cons_zero, List.set_cons_succ])
  obtain ⟨_, g13, c13, rfl, _⟩ := hv
  (refine LexW.pure (v := ?_) rfl rfl (fun w1 he => ?_) ?_; rotate_left; ( have e1 := he.cell HS0.out; have e2 := he.cell HS1.out; go_simp; rfl); simp only [Act.put, List.setIfInBounds_toArray, List.set_cons_zero, List.set_cons_succ])
  (refine LexW.callR (f := ?_) (args := ?_) rfl rfl (fun w1 => ?_) (fun w1 he hdep => ?_) (fun v hv => ?_); rotate_left 2; (go_simp; refine ⟨?_, ?_⟩ <;> rfl); ( refine (s_oneN HN.out p a cap w1 hd).mono ?_; rintro e w2 ⟨g, rfl, ho, g2⟩; exact ⟨_, rfl, g2, g, rfl, ho.mono (Nat.le_trans GW.out.size he.size)⟩); simp only [Act.put, List.setIfInBounds_toArray, List.set_cons_zero, List.set_cons_succ])
  obtain ⟨_, g15, rfl, _⟩ := hv
  (refine LexW.callR (f := ?_) (args := ?_) rfl rfl (fun w1 => ?_) (fun w1 he hdep => ?_) (fun v hv => ?_); rotate_left 2; (go_simp; refine ⟨?_, ?_⟩ <;> rfl); ( obtain ⟨_, _, q13, r13⟩ : (SPred.ownR w.heap.size N (matM p qs x true)).holds (.slice (some ⟨g13, 0, none⟩) N c13) w1 := hdep (4, 13) (by decide +kernel); cases q13; obtain ⟨_, q15, r15⟩ : (SPred.ownG w.heap.size N (bladeL N 0)).holds (.slice (some ⟨g15, 0, none⟩) N N) w1 := hdep (6, 15) (by decide +kernel); cases q15; refine (HSol.out _ _ _ _ w1 r13.rd r15.rd).mono ?_; rintro e w2 ⟨ra, rc, rfl, ho, g2⟩; exact ⟨_, rfl, g2, ra, rc, rfl, ho.mono (Nat.le_trans GW.out.size he.size)⟩); simp only [Act.put, List.setIfInBounds_toArray, List.set_cons_zero, List.set_cons_succ])
  obtain ⟨_, ra16, c16, rfl, _⟩ := hv
  (refine LexW.pure (v := ?_) rfl rfl (fun w1 he => ?_) ?_; rotate_left; ( have e1 := he.cell HS0.out; have e2 := he.cell HS1.out; go_simp; rfl); simp only [Act.put, List.setIfInBounds_toArray, List.set_cons_zero, List.set_cons_succ])
  (refine LexW.pure (v := ?_) rfl rfl (fun w1 he => ?_) ?_; rotate_left; ( have e1 := he.cell HS0.out; have e2 := he.cell HS1.out; go_simp; rfl); simp only [Act.put, List.setIfInBounds_toArray, List.set_cons_zero, List.set_cons_succ])
  (refine LexW.pure (v := ?_) rfl rfl (fun w1 he => ?_) ?_; rotate_left; ( have e1 := he.cell HS0.out; have e2 := he.cell HS1.out; go_simp; rfl); simp only [Act.put, List.setIfInBounds_toArray, List.set_cons_zero, List.set_cons_succ])
  (refine LexW.pure (v := ?_) rfl rfl (fun w1 he => ?_) ?_; rotate_left; ( have e1 := he.cell HS0.out; have e2 := he.cell HS1.out; go_simp; rfl); simp only [Act.put, List.setIfInBounds_toArray, List.set_cons_zero, List.set_cons_succ])
  (refine LexW.pure (v := ?_) rfl rfl (fun w1 he => ?_) ?_; rotate_left; ( have e1 := he.cell HS0.out; have e2 := he.cell HS1.out; go_simp; rfl); simp only [Act.put, List.setIfInBounds_toArray, List.set_cons_zero, List.set_cons_succ])
  refine LexW.nil (fun w3 he hkn => ?_)
  obtain ⟨_, _, q16, r16⟩ : (SPred.sol w.heap.size ((invL p qs x).length) (invL p qs x) ok).holds (.tuple #[.slice ra16 ((invL p qs x).length) c16, .bool ok]) w3 := hkn (7, _) (by simp)
  cases q16
  have R16 := Lib.hid r16
  have HE := Lib.hid (GW.out.trans he)
  have HEc := Lib.hid he
  clear he hkn r16
  have HU0 : Hid (w3.drew.cell? ⟨w.heap.size, 0, none⟩ = some (.int .i64 p)) := Lib.hid ((ext_drew w3).cell (HEc.out.cell HS0.out))
  have HU1 : Hid (w3.drew.cell? ⟨w.heap.size, 1, none⟩ = some (.slice a d cap)) := Lib.hid ((ext_drew w3).cell (HEc.out.cell HS1.out))
  have GY := Lib.hid (HE.out.trans (ext_drew w3))
  cases ok
  · have HL0 : Hid (invL p qs x = []) := Lib.hid (by unfold invL solR; rw [show okS (2 ^ qs.length) (invRed p qs x) = false from HOk.out.symm]; rfl)
    go_wp2_with (fail)
    refine wp_region_lex [] (by kernel_rfl) (by kernel_rfl) ?_
    (refine LexW.pure (v := ?_) rfl rfl (fun w1 he => ?_) ?_; rotate_left; ( go_simp; rfl); simp only [Act.put, List.setIfInBounds_toArray, List.set_cons_zero, List.set_cons_succ])
    (refine LexW.pure (v := ?_) rfl rfl (fun w1 he => ?_) ?_; rotate_left; ( go_simp; rfl); simp only [Act.put, List.setIfInBounds_toArray, List.set_cons_zero, List.set_cons_succ])
    (refine LexW.pure (v := ?_) rfl rfl (fun w1 he => ?_) ?_; rotate_left; ( go_simp; rfl); simp only [Act.put, List.setIfInBounds_toArray, List.set_cons_zero, List.set_cons_succ])
    (refine LexW.skip rfl rfl ?_; simp only [Act.put, List.setIfInBounds_toArray, List.set_cons_zero, List.set_cons_succ])
    (refine LexW.skip rfl rfl ?_; simp only [Act.put, List.setIfInBounds_toArray, List.set_cons_zero, List.set_cons_succ])
    (refine LexW.skip rfl rfl ?_; simp only [Act.put, List.setIfInBounds_toArray, List.set_cons_zero, List.set_cons_succ])
    (refine LexW.skip rfl rfl ?_; simp only [Act.put, List.setIfInBounds_toArray, List.set_cons_zero, List.set_cons_succ])
    (refine LexW.skip rfl rfl ?_; simp only [Act.put, List.setIfInBounds_toArray, List.set_cons_zero, List.set_cons_succ])
    (refine LexW.skip rfl rfl ?_; simp only [Act.put, List.setIfInBounds_toArray, List.set_cons_zero, List.set_cons_succ])
    (refine LexW.skip rfl rfl ?_; simp only [Act.put, List.setIfInBounds_toArray, List.set_cons_zero, List.set_cons_succ])
    (refine LexW.skip rfl rfl ?_; simp only [Act.put, List.setIfInBounds_toArray, List.set_cons_zero, List.set_cons_succ])
    (refine LexW.pure (v := ?_) rfl rfl (fun w1 he => ?_) ?_; rotate_left; ( go_simp; rfl); simp only [Act.put, List.setIfInBounds_toArray, List.set_cons_zero, List.set_cons_succ])
    refine LexW.nil (fun w4 he hkn => ?_)
    have X4 := Lib.hid (GY.out.trans he)
    clear he hkn
    go_wp2_with (fail)
    go_ret2
    exact ⟨none, 0, by rw [HL0.out]; rfl, by rw [HL0.out]; exact own_nil _ _, X4.out⟩
  · have HIG := inv_right HPR.out (show qs.length ≤ 6 by omega) HOk.out.symm
    have HIL := inv_left HPR.out (show qs.length ≤ 6 by omega) (by rw [← HD.out]; exact HGX.out) HOk.out.symm
    have hil : (invL p qs x).length = N := by rw [HIG.1.1, HD.out]
    have HIyg := Lib.hid (show Good p N (invL p qs x) by rw [HD.out]; exact HIG.1)
    have HTim : Hid (∀ (ay : Option Addr) (cy : Nat) (w1 : World), True → RdC w1 a d qs → RdC w1 ay N (invL p qs x) → RdC w1 ax N x →
      Calls Try.prog 137 #[.agg #[.int .i64 p, .slice a d cap], .slice ay N cy, .slice ax N cx] w1 fun e w' => ∃ g, e = .returned (.slice (some ⟨g, 0, none⟩) N N) ∧ OwnC w1.heap.size w' (some ⟨g, 0, none⟩) N N (bladeL N 0) ∧ Ext w1 w') := Lib.hid (fun ay cy w1 _ h1 h2 h3 => by
      have h := s_timesN HN.out p a cap qs ay ax cy cx (invL p qs x) x w1 hd (by omega) (by omega) h1 HQB.out h2 h3 HIyg.out.isB HGX.out.isB
      rw [HIL, ← HD.out] at h; exact h)
    rw [hil] at R16 ⊢
    have HIy := R16
    have HLN := Lib.hid hil
    clear HIG HIL hil
    go_wp2_with (fail)
    refine wp_region_lex [(6, .ownG w.heap.size N (bladeL N 0)), (8, .ownG w.heap.size N (bladeL N 0)), (9, .val (.bool true))] (by kernel_rfl) (by kernel_rfl) ?_
    (refine LexW.pure (v := ?_) rfl rfl (fun w1 he => ?_) ?_; rotate_left; ( have e1 := he.cell HU0.out; have e2 := he.cell HU1.out; go_simp; rfl); simp only [Act.put, List.setIfInBounds_toArray, List.set_cons_zero, List.set_cons_succ])
    (refine LexW.pure (v := ?_) rfl rfl (fun w1 he => ?_) ?_; rotate_left; ( have e1 := he.cell HU0.out; have e2 := he.cell HU1.out; go_simp; rfl); simp only [Act.put, List.setIfInBounds_toArray, List.set_cons_zero, List.set_cons_succ])
    (refine LexW.pure (v := ?_) rfl rfl (fun w1 he => ?_) ?_; rotate_left; ( have e1 := he.cell HU0.out; have e2 := he.cell HU1.out; go_simp; rfl); simp only [Act.put, List.setIfInBounds_toArray, List.set_cons_zero, List.set_cons_succ])
    (refine LexW.pure (v := ?_) rfl rfl (fun w1 he => ?_) ?_; rotate_left; ( have e1 := he.cell HU0.out; have e2 := he.cell HU1.out; go_simp; rfl); simp only [Act.put, List.setIfInBounds_toArray, List.set_cons_zero, List.set_cons_succ])
    (refine LexW.pure (v := ?_) rfl rfl (fun w1 he => ?_) ?_; rotate_left; ( have e1 := he.cell HU0.out; have e2 := he.cell HU1.out; go_simp; rfl); simp only [Act.put, List.setIfInBounds_toArray, List.set_cons_zero, List.set_cons_succ])
    (refine LexW.pure (v := ?_) rfl rfl (fun w1 he => ?_) ?_; rotate_left; ( have e1 := he.cell HU0.out; have e2 := he.cell HU1.out; go_simp; rfl); simp only [Act.put, List.setIfInBounds_toArray, List.set_cons_zero, List.set_cons_succ])
    (refine LexW.callR (f := ?_) (args := ?_) rfl rfl (fun w1 => ?_) (fun w1 he hdep => ?_) (fun v hv => ?_); rotate_left 2; (go_simp; refine ⟨?_, ?_⟩ <;> rfl); ( refine (HTim.out _ _ w1 trivial (HQ.out.ext (GY.out.trans he)) (HIy.out.rd.ext ((ext_drew w3).trans he)) (HX.out.ext (GY.out.trans he))).mono ?_; rintro e w2 ⟨g, rfl, ho, g2⟩; exact ⟨_, rfl, g2, g, rfl, ho.mono (Nat.le_trans GY.out.size he.size)⟩); simp only [Act.put, List.setIfInBounds_toArray, List.set_cons_zero, List.set_cons_succ])
    obtain ⟨_, g25, rfl, _⟩ := hv
    (refine LexW.pure (v := ?_) rfl rfl (fun w1 he => ?_) ?_; rotate_left; ( have e1 := he.cell HU0.out; have e2 := he.cell HU1.out; go_simp; rfl); simp only [Act.put, List.setIfInBounds_toArray, List.set_cons_zero, List.set_cons_succ])
    (refine LexW.callR (f := ?_) (args := ?_) rfl rfl (fun w1 => ?_) (fun w1 he hdep => ?_) (fun v hv => ?_); rotate_left 2; (go_simp; refine ⟨?_, ?_⟩ <;> rfl); ( refine (s_oneN HN.out p a cap w1 hd).mono ?_; rintro e w2 ⟨g, rfl, ho, g2⟩; exact ⟨_, rfl, g2, g, rfl, ho.mono (Nat.le_trans GY.out.size he.size)⟩); simp only [Act.put, List.setIfInBounds_toArray, List.set_cons_zero, List.set_cons_succ])
    obtain ⟨_, g27, rfl, _⟩ := hv
    (refine LexW.call (f := ?_) (args := ?_) rfl rfl (fun w1 => ?_) (fun w1 he hdep => ?_) ?_; rotate_left 2; (go_simp; refine ⟨?_, ?_⟩ <;> rfl); ( obtain ⟨_, q25, r25⟩ : (SPred.ownG w.heap.size N (bladeL N 0)).holds (.slice (some ⟨g25, 0, none⟩) N N) w1 := hdep (6, 25) (by decide +kernel); cases q25; obtain ⟨_, q27, r27⟩ : (SPred.ownG w.heap.size N (bladeL N 0)).holds (.slice (some ⟨g27, 0, none⟩) N N) w1 := hdep (8, 27) (by decide +kernel); cases q27; have H := s_same _ _ N N N N (bladeL N 0) (bladeL N 0) w1 (by omega) (by omega) r25.rd r27.rd; rw [eqB_self] at H; exact H); simp only [Act.put, List.setIfInBounds_toArray, List.set_cons_zero, List.set_cons_succ])
    (refine LexW.pure (v := ?_) rfl rfl (fun w1 he => ?_) ?_; rotate_left; ( have e1 := he.cell HU0.out; have e2 := he.cell HU1.out; go_simp; rfl); simp only [Act.put, List.setIfInBounds_toArray, List.set_cons_zero, List.set_cons_succ])
    (refine LexW.pure (v := ?_) rfl rfl (fun w1 he => ?_) ?_; rotate_left; ( have e1 := he.cell HU0.out; have e2 := he.cell HU1.out; go_simp; rfl); simp only [Act.put, List.setIfInBounds_toArray, List.set_cons_zero, List.set_cons_succ])
    refine LexW.nil (fun w4 he hkn => ?_)
    have X4 := Lib.hid (GY.out.trans he)
    have R4 := Lib.hid (HIy.out.ext ((ext_drew w3).trans he))
    clear he hkn
    go_wp2_with (fail)
    go_ret2
    exact ⟨_, _, by rw [HLN.out]; rfl, by rw [HLN.out]; exact R4.out, X4.out⟩

end Go.Proofs.Ythimjfnmpicbiaa
