/-
  Unduals, scalar products, brackets: walks.
  No condition.
-/
import Derived.Test.YtbgnfjckbjmgbaaReverse
import Derived.Test.YtbgnfjckbjmgbaaRegular
namespace Go.Proofs.Ytbgnfjckbjmgbaa
set_option maxRecDepth 100000
open Go.RowKit

set_option maxHeartbeats 4000000 in
set_option maxRecDepth 100000 in
theorem c_undual {N d : Nat} (hN : N = 2 ^ d) (p : Int) (a : Option Addr) (cap : Nat) (qs : List Int) (ax : Option Addr) (cx : Nat) (x : List Int) (w : World) (hd : d ≤ 6) (hp1 : 3 ≤ p) (hp2 : p ≤ 1000) (hq : RdC w a d qs) (hqb : isB p qs = true) (hx : RdC w ax N x) (hxb : isB p x = true) :
    Calls Try.prog 112 #[.agg #[.int .i64 p, .slice a d cap], .slice ax N cx] w fun e w' => ∃ g, e = .returned (.slice (some ⟨g, 0, none⟩) N N) ∧ OwnC w.heap.size w' (some ⟨g, 0, none⟩) N N (prodL p qs tkL x (fullL d)) ∧ Ext w w' := by
  have HN := Lib.hid hN
  have hN1 : 1 ≤ N := by rw [hN]; exact pow_pos' d
  have hN0 : ¬ N = 0 := by omega
  have HQ := Lib.hid hq
  have HQB := Lib.hid hqb
  have HX := Lib.hid hx
  have HXB := Lib.hid hxb
  clear hN hq hqb hx hxb
  obtain ⟨W, hW⟩ : ∃ W, W = w.alloc (.cells #[.int .i64 p, .slice a d cap] 26) := ⟨_, rfl⟩
  have gW : Ext w W := by rw [hW]; exact ext_alloc _ _
  have hs0 : W.cell? ⟨w.heap.size, 0, none⟩ = some (.int .i64 p) := by rw [hW]; simp
  have hs1 : W.cell? ⟨w.heap.size, 1, none⟩ = some (.slice a d cap) := by rw [hW]; simp
  have HS0 := Lib.hid ((ext_drew _).cell hs0)
  have HS1 := Lib.hid ((ext_drew _).cell hs1)
  have GW := Lib.hid (gW.trans (ext_drew _))
  have HW := Lib.hid hW
  clear hs0 hs1 gW hW
  go_enter Try.func112, Try.ntmps112
  go_wp2_with (fail)
  rw [← HW.out]
  refine wp_region_lex [(3, .ownG w.heap.size N (fullL d)), (4, .ownG w.heap.size N (prodL p qs tkL x (fullL d)))] (by kernel_rfl) (by kernel_rfl) ?_
  (refine LexW.pure (v := ?_) rfl rfl (fun w1 he => ?_) ?_; rotate_left; ( have e1 := he.cell HS0.out; have e2 := he.cell HS1.out; go_simp; rfl); simp only [Act.put, List.setIfInBounds_toArray, List.set_cons_zero, List.set_cons_succ])
  (refine LexW.pure (v := ?_) rfl rfl (fun w1 he => ?_) ?_; rotate_left; ( have e1 := he.cell HS0.out; have e2 := he.cell HS1.out; go_simp; rfl); simp only [Act.put, List.setIfInBounds_toArray, List.set_cons_zero, List.set_cons_succ])
  (refine LexW.pure (v := ?_) rfl rfl (fun w1 he => ?_) ?_; rotate_left; ( have e1 := he.cell HS0.out; have e2 := he.cell HS1.out; go_simp; rfl); simp only [Act.put, List.setIfInBounds_toArray, List.set_cons_zero, List.set_cons_succ])
  (refine LexW.callR (f := ?_) (args := ?_) rfl rfl (fun w1 => ?_) (fun w1 he hdep => ?_) (fun v hv => ?_); rotate_left 2; (go_simp; refine ⟨?_, ?_⟩ <;> rfl); ( refine (c_fullN HN.out p a cap w1 hd).mono ?_; rintro e w2 ⟨g, rfl, ho, g2⟩; exact ⟨_, rfl, g2, g, rfl, ho.mono (Nat.le_trans GW.out.size he.size)⟩); simp only [Act.put, List.setIfInBounds_toArray, List.set_cons_zero, List.set_cons_succ])
  obtain ⟨_, g8, rfl, _⟩ := hv
  (refine LexW.callR (f := ?_) (args := ?_) rfl rfl (fun w1 => ?_) (fun w1 he hdep => ?_) (fun v hv => ?_); rotate_left 2; (go_simp; refine ⟨?_, ?_⟩ <;> rfl); ( obtain ⟨_, q8, r8⟩ : (SPred.ownG w.heap.size N (fullL d)).holds (.slice (some ⟨g8, 0, none⟩) N N) w1 := hdep (3, 8) (by decide +kernel); cases q8; refine (c_contractN HN.out p a cap qs ax _ cx N x (fullL d) w1 hd hp1 hp2 (HQ.out.ext (GW.out.trans he)) HQB.out (HX.out.ext (GW.out.trans he)) r8.rd HXB.out (full_good hp1).isB).mono ?_; rintro e w2 ⟨g, rfl, ho, g2⟩; exact ⟨_, rfl, g2, g, rfl, ho.mono (Nat.le_trans GW.out.size he.size)⟩); simp only [Act.put, List.setIfInBounds_toArray, List.set_cons_zero, List.set_cons_succ])
  obtain ⟨_, g9, rfl, _⟩ := hv
  (refine LexW.pure (v := ?_) rfl rfl (fun w1 he => ?_) ?_; rotate_left; ( have e1 := he.cell HS0.out; have e2 := he.cell HS1.out; go_simp; rfl); simp only [Act.put, List.setIfInBounds_toArray, List.set_cons_zero, List.set_cons_succ])
  refine LexW.nil (fun w3 he hkn => ?_)
  obtain ⟨_, q9, r9⟩ : (SPred.ownG w.heap.size N (prodL p qs tkL x (fullL d))).holds (.slice (some ⟨g9, 0, none⟩) N N) w3 := hkn (4, _) (by simp)
  cases q9
  have R9 := Lib.hid r9
  have HE := Lib.hid (GW.out.trans he)
  clear he hkn r9
  go_wp2_with (fail)
  go_ret
  exact ⟨g9, rfl, R9.out, HE.out⟩

set_option maxHeartbeats 4000000 in
set_option maxRecDepth 100000 in
theorem s_undual {N d : Nat} (hN : N = 2 ^ d) (p : Int) (a : Option Addr) (cap : Nat) (qs : List Int) (ax : Option Addr) (cx : Nat) (x : List Int) (w : World) (hd : d ≤ 6) (hp1 : 3 ≤ p) (hp2 : p ≤ 1000) (hq : RdC w a d qs) (hqb : isB p qs = true) (hx : RdC w ax N x) (hxb : isB p x = true) :
    Calls Try.prog 115 #[.agg #[.int .i64 p, .slice a d cap], .slice ax N cx] w fun e w' => ∃ g, e = .returned (.slice (some ⟨g, 0, none⟩) N N) ∧ OwnC w.heap.size w' (some ⟨g, 0, none⟩) N N (prodL p qs tkL x (fullL d)) ∧ Ext w w' := by
  have HN := Lib.hid hN
  have hN1 : 1 ≤ N := by rw [hN]; exact pow_pos' d
  have hN0 : ¬ N = 0 := by omega
  have HQ := Lib.hid hq
  have HQB := Lib.hid hqb
  have HX := Lib.hid hx
  have HXB := Lib.hid hxb
  clear hN hq hqb hx hxb
  obtain ⟨W, hW⟩ : ∃ W, W = w.alloc (.cells #[.int .i64 p, .slice a d cap] 26) := ⟨_, rfl⟩
  have gW : Ext w W := by rw [hW]; exact ext_alloc _ _
  have hs0 : W.cell? ⟨w.heap.size, 0, none⟩ = some (.int .i64 p) := by rw [hW]; simp
  have hs1 : W.cell? ⟨w.heap.size, 1, none⟩ = some (.slice a d cap) := by rw [hW]; simp
  have HS0 := Lib.hid ((ext_drew _).cell hs0)
  have HS1 := Lib.hid ((ext_drew _).cell hs1)
  have GW := Lib.hid (gW.trans (ext_drew _))
  have HW := Lib.hid hW
  clear hs0 hs1 gW hW
  go_enter Try.func115, Try.ntmps115
  go_wp2_with (fail)
  rw [← HW.out]
  refine wp_region_lex [(3, .ownG w.heap.size N (topL d 1)), (4, .ownG w.heap.size N (prodL p qs tkL x (topL d 1)))] (by kernel_rfl) (by kernel_rfl) ?_
  (refine LexW.pure (v := ?_) rfl rfl (fun w1 he => ?_) ?_; rotate_left; ( have e1 := he.cell HS0.out; have e2 := he.cell HS1.out; go_simp; rfl); simp only [Act.put, List.setIfInBounds_toArray, List.set_cons_zero, List.set_cons_succ])
  (refine LexW.pure (v := ?_) rfl rfl (fun w1 he => ?_) ?_; rotate_left; ( have e1 := he.cell HS0.out; have e2 := he.cell HS1.out; go_simp; rfl); simp only [Act.put, List.setIfInBounds_toArray, List.set_cons_zero, List.set_cons_succ])
  (refine LexW.pure (v := ?_) rfl rfl (fun w1 he => ?_) ?_; rotate_left; ( have e1 := he.cell HS0.out; have e2 := he.cell HS1.out; go_simp; rfl); simp only [Act.put, List.setIfInBounds_toArray, List.set_cons_zero, List.set_cons_succ])
  (refine LexW.callR (f := ?_) (args := ?_) rfl rfl (fun w1 => ?_) (fun w1 he hdep => ?_) (fun v hv => ?_); rotate_left 2; (go_simp; refine ⟨?_, ?_⟩ <;> rfl); ( refine (s_topN HN.out p a cap 1 w1 hd).mono ?_; rintro e w2 ⟨g, rfl, ho, g2⟩; exact ⟨_, rfl, g2, g, rfl, ho.mono (Nat.le_trans GW.out.size he.size)⟩); simp only [Act.put, List.setIfInBounds_toArray, List.set_cons_zero, List.set_cons_succ])
  obtain ⟨_, g8, rfl, _⟩ := hv
  (refine LexW.callR (f := ?_) (args := ?_) rfl rfl (fun w1 => ?_) (fun w1 he hdep => ?_) (fun v hv => ?_); rotate_left 2; (go_simp; refine ⟨?_, ?_⟩ <;> rfl); ( obtain ⟨_, q8, r8⟩ : (SPred.ownG w.heap.size N (topL d 1)).holds (.slice (some ⟨g8, 0, none⟩) N N) w1 := hdep (3, 8) (by decide +kernel); cases q8; refine (s_leftN HN.out p a cap qs ax _ cx N x (topL d 1) w1 hd hp1 hp2 (HQ.out.ext (GW.out.trans he)) HQB.out (HX.out.ext (GW.out.trans he)) r8.rd HXB.out (top_good hp1 (by omega) (by omega)).isB).mono ?_; rintro e w2 ⟨g, rfl, ho, g2⟩; exact ⟨_, rfl, g2, g, rfl, ho.mono (Nat.le_trans GW.out.size he.size)⟩); simp only [Act.put, List.setIfInBounds_toArray, List.set_cons_zero, List.set_cons_succ])
  obtain ⟨_, g9, rfl, _⟩ := hv
  (refine LexW.pure (v := ?_) rfl rfl (fun w1 he => ?_) ?_; rotate_left; ( have e1 := he.cell HS0.out; have e2 := he.cell HS1.out; go_simp; rfl); simp only [Act.put, List.setIfInBounds_toArray, List.set_cons_zero, List.set_cons_succ])
  refine LexW.nil (fun w3 he hkn => ?_)
  obtain ⟨_, q9, r9⟩ : (SPred.ownG w.heap.size N (prodL p qs tkL x (topL d 1))).holds (.slice (some ⟨g9, 0, none⟩) N N) w3 := hkn (4, _) (by simp)
  cases q9
  have R9 := Lib.hid r9
  have HE := Lib.hid (GW.out.trans he)
  clear he hkn r9
  go_wp2_with (fail)
  go_ret
  exact ⟨g9, rfl, by rw [← topL_one]; exact R9.out, HE.out⟩

def scalL (p : Int) (qs x y : List Int) : Int := nth (prodL p qs tkA (signL p revB x (2 ^ qs.length)) y) 0


theorem prod_two {p : Int} {qs x y : List Int} {N : Nat} (hN : N = 2 ^ qs.length) (hp : 3 ≤ p) (hx : Good p N x) : timesL p qs [x, y] = prodL p qs tkA x y := timesL_two hp (by rw [← hN]; exact hx)

set_option maxHeartbeats 4000000 in
set_option maxRecDepth 100000 in
theorem c_bracket {N d : Nat} (hN : N = 2 ^ d) (p : Int) (a : Option Addr) (cap : Nat) (qs : List Int) (ax : Option Addr) (cx : Nat) (x : List Int) (ay : Option Addr) (cy : Nat) (y : List Int) (w : World) (hd : d ≤ 6) (hp1 : 3 ≤ p) (hp2 : p ≤ 1000) (hq : RdC w a d qs) (hqb : isB p qs = true) (hx : RdC w ax N x) (hxb : isB p x = true) (hy : RdC w ay N y) (hyb : isB p y = true) :
    Calls Try.prog 80 #[.agg #[.int .i64 p, .slice a d cap], .slice ax N cx, .slice ay N cy] w fun e w' => ∃ g rc, e = .returned (.slice (some ⟨g, 0, none⟩) N rc) ∧ OwnC w.heap.size w' (some ⟨g, 0, none⟩) N rc (plusL p (prodL p qs tkA x y) (prodL p qs tkA y x) (-1) N) ∧ Ext w w' := by
  have HN := Lib.hid hN
  have hN1 : 1 ≤ N := by rw [hN]; exact pow_pos' d
  have hN0 : ¬ N = 0 := by omega
  have HQ := Lib.hid hq
  have HQB := Lib.hid hqb
  have HX := Lib.hid hx
  have HXB := Lib.hid hxb
  have HY := Lib.hid hy
  have HYB := Lib.hid hyb
  clear hN hq hqb hx hxb hy hyb
  have HGX := Lib.hid (good_isB HX.out.1 HXB.out)
  have HGY := Lib.hid (good_isB HY.out.1 HYB.out)
  have HG1 : Hid (Good p N (prodL p qs tkA x y)) := Lib.hid (by rw [HN.out, ← HQ.out.1]; exact prod_good (by omega))
  have HG2 : Hid (Good p N (prodL p qs tkA y x)) := Lib.hid (by rw [HN.out, ← HQ.out.1]; exact prod_good (by omega))
  have hN6 : N ≤ 64 := by rw [HN.out]; exact pow_le64 hd
  have HE1 := Lib.hid (prod_two (y := y) (by rw [HN.out, HQ.out.1]) hp1 HGX.out)
  have HE2 := Lib.hid (prod_two (y := x) (by rw [HN.out, HQ.out.1]) hp1 HGY.out)
  have HT1 : Hid (Good p N (timesL p qs [x, y])) := Lib.hid (by rw [HE1.out]; exact HG1.out)
  have HT2 : Hid (Good p N (timesL p qs [y, x])) := Lib.hid (by rw [HE2.out]; exact HG2.out)
  obtain ⟨W, hW⟩ : ∃ W, W = w.alloc (.cells #[.int .i64 p, .slice a d cap] 26) := ⟨_, rfl⟩
  have gW : Ext w W := by rw [hW]; exact ext_alloc _ _
  have hs0 : W.cell? ⟨w.heap.size, 0, none⟩ = some (.int .i64 p) := by rw [hW]; simp
  have hs1 : W.cell? ⟨w.heap.size, 1, none⟩ = some (.slice a d cap) := by rw [hW]; simp
  have HS0 := Lib.hid ((ext_drew _).cell hs0)
  have HS1 := Lib.hid ((ext_drew _).cell hs1)
  have GW := Lib.hid (gW.trans (ext_drew _))
  have HW := Lib.hid hW
  clear hs0 hs1 gW hW
  go_enter Try.func80, Try.ntmps80
  go_wp2_with (fail)
  rw [← HW.out]
  refine wp_region_lex [(1, .val (.int .i64 p)), (5, .rows 2 [x, y]), (6, .ownG w.heap.size N (timesL p qs [x, y])), (10, .rows 2 [y, x]), (11, .ownG w.heap.size N (timesL p qs [y, x])), (12, .ownS w.heap.size N (plusL p (timesL p qs [x, y]) (timesL p qs [y, x]) (-1) N))] (by kernel_rfl) (by kernel_rfl) ?_
  (refine LexW.pure (v := ?_) rfl rfl (fun w1 he => ?_) ?_; rotate_left; ( have e1 := he.cell HS0.out; have e2 := he.cell HS1.out; go_simp; rfl); simp only [Act.put, List.setIfInBounds_toArray, List.set_cons_zero, List.set_cons_succ])
  (refine LexW.call (f := ?_) (args := ?_) rfl rfl (fun w1 => ?_) (fun w1 he hdep => ?_) ?_; rotate_left 2; (go_simp; refine ⟨?_, ?_⟩ <;> rfl); ( exact c_field _ _ _); simp only [Act.put, List.setIfInBounds_toArray, List.set_cons_zero, List.set_cons_succ])
  (refine LexW.pure (v := ?_) rfl rfl (fun w1 he => ?_) ?_; rotate_left; ( have e1 := he.cell HS0.out; have e2 := he.cell HS1.out; go_simp; rfl); simp only [Act.put, List.setIfInBounds_toArray, List.set_cons_zero, List.set_cons_succ])
  (refine LexW.pure (v := ?_) rfl rfl (fun w1 he => ?_) ?_; rotate_left; ( have e1 := he.cell HS0.out; have e2 := he.cell HS1.out; go_simp; rfl); simp only [Act.put, List.setIfInBounds_toArray, List.set_cons_zero, List.set_cons_succ])
  (refine LexW.pure (v := ?_) rfl rfl (fun w1 he => ?_) ?_; rotate_left; ( have e1 := he.cell HS0.out; have e2 := he.cell HS1.out; go_simp; rfl); simp only [Act.put, List.setIfInBounds_toArray, List.set_cons_zero, List.set_cons_succ])
  (refine LexW.rel rfl rfl (fun w1 he hdep => ?_) (fun v hv => ?_); ( exact ⟨.slice (some ⟨w1.heap.size, 0, none⟩) 2 2, w1.alloc (.cells #[.slice ax N cx, .slice ay N cy] 24), (by go_simp), ext_alloc _ _, _, rfl, rdR_two (a := ax) (b := ay) (n := N) (m := N) (ca := cx) (cb := cy) (by simp) (by simp) ((HX.out.ext (GW.out.trans he)).ext (ext_alloc _ _)) ((HY.out.ext (GW.out.trans he)).ext (ext_alloc _ _))⟩); simp only [Act.put, List.setIfInBounds_toArray, List.set_cons_zero, List.set_cons_succ])
  obtain ⟨_, g12, rfl, _⟩ := hv
  (refine LexW.callR (f := ?_) (args := ?_) rfl rfl (fun w1 => ?_) (fun w1 he hdep => ?_) (fun v hv => ?_); rotate_left 2; (go_simp; refine ⟨?_, ?_⟩ <;> rfl); ( obtain ⟨_, q12, r12⟩ : (SPred.rows 2 [x, y]).holds (.slice (some ⟨g12, 0, none⟩) 2 2) w1 := hdep (5, 12) (by decide +kernel); cases q12; refine (c_timesN HN.out p a cap qs _ 2 2 [x, y] w1 hd hp1 hp2 (by omega) (HQ.out.ext (GW.out.trans he)) HQB.out r12 (good_pair HGX.out HGY.out)).mono ?_; rintro e w2 ⟨g, rfl, ho, g2⟩; exact ⟨_, rfl, g2, g, rfl, ho.mono (Nat.le_trans GW.out.size he.size)⟩); simp only [Act.put, List.setIfInBounds_toArray, List.set_cons_zero, List.set_cons_succ])
  obtain ⟨_, g13, rfl, _⟩ := hv
  (refine LexW.pure (v := ?_) rfl rfl (fun w1 he => ?_) ?_; rotate_left; ( have e1 := he.cell HS0.out; have e2 := he.cell HS1.out; go_simp; rfl); simp only [Act.put, List.setIfInBounds_toArray, List.set_cons_zero, List.set_cons_succ])
  (refine LexW.pure (v := ?_) rfl rfl (fun w1 he => ?_) ?_; rotate_left; ( have e1 := he.cell HS0.out; have e2 := he.cell HS1.out; go_simp; rfl); simp only [Act.put, List.setIfInBounds_toArray, List.set_cons_zero, List.set_cons_succ])
  (refine LexW.pure (v := ?_) rfl rfl (fun w1 he => ?_) ?_; rotate_left; ( have e1 := he.cell HS0.out; have e2 := he.cell HS1.out; go_simp; rfl); simp only [Act.put, List.setIfInBounds_toArray, List.set_cons_zero, List.set_cons_succ])
  (refine LexW.rel rfl rfl (fun w1 he hdep => ?_) (fun v hv => ?_); ( exact ⟨.slice (some ⟨w1.heap.size, 0, none⟩) 2 2, w1.alloc (.cells #[.slice ay N cy, .slice ax N cx] 24), (by go_simp), ext_alloc _ _, _, rfl, rdR_two (a := ay) (b := ax) (n := N) (m := N) (ca := cy) (cb := cx) (by simp) (by simp) ((HY.out.ext (GW.out.trans he)).ext (ext_alloc _ _)) ((HX.out.ext (GW.out.trans he)).ext (ext_alloc _ _))⟩); simp only [Act.put, List.setIfInBounds_toArray, List.set_cons_zero, List.set_cons_succ])
  obtain ⟨_, g17, rfl, _⟩ := hv
  (refine LexW.callR (f := ?_) (args := ?_) rfl rfl (fun w1 => ?_) (fun w1 he hdep => ?_) (fun v hv => ?_); rotate_left 2; (go_simp; refine ⟨?_, ?_⟩ <;> rfl); ( obtain ⟨_, q17, r17⟩ : (SPred.rows 2 [y, x]).holds (.slice (some ⟨g17, 0, none⟩) 2 2) w1 := hdep (10, 17) (by decide +kernel); cases q17; refine (c_timesN HN.out p a cap qs _ 2 2 [y, x] w1 hd hp1 hp2 (by omega) (HQ.out.ext (GW.out.trans he)) HQB.out r17 (good_pair HGY.out HGX.out)).mono ?_; rintro e w2 ⟨g, rfl, ho, g2⟩; exact ⟨_, rfl, g2, g, rfl, ho.mono (Nat.le_trans GW.out.size he.size)⟩); simp only [Act.put, List.setIfInBounds_toArray, List.set_cons_zero, List.set_cons_succ])
  obtain ⟨_, g18, rfl, _⟩ := hv
  (refine LexW.callR (f := ?_) (args := ?_) rfl rfl (fun w1 => ?_) (fun w1 he hdep => ?_) (fun v hv => ?_); rotate_left 2; (go_simp; refine ⟨?_, ?_⟩ <;> rfl); ( obtain ⟨_, q13, r13⟩ : (SPred.ownG w.heap.size N (timesL p qs [x, y])).holds (.slice (some ⟨g13, 0, none⟩) N N) w1 := hdep (6, 13) (by decide +kernel); cases q13; obtain ⟨_, q18, r18⟩ : (SPred.ownG w.heap.size N (timesL p qs [y, x])).holds (.slice (some ⟨g18, 0, none⟩) N N) w1 := hdep (11, 18) (by decide +kernel); cases q18; refine (c_plus p _ _ N N N (timesL p qs [x, y]) (timesL p qs [y, x]) (-1) w1 hp1 hp2 (by omega) (by omega) r13.rd r18.rd HT1.out HT2.out).mono ?_; rintro e w2 ⟨g, rc, rfl, ho, g2⟩; exact ⟨_, rfl, g2, g, rc, rfl, ho.mono (Nat.le_trans GW.out.size he.size)⟩); simp only [Act.put, List.setIfInBounds_toArray, List.set_cons_zero, List.set_cons_succ])
  obtain ⟨_, g19, c19, rfl, _⟩ := hv
  (refine LexW.pure (v := ?_) rfl rfl (fun w1 he => ?_) ?_; rotate_left; ( have e1 := he.cell HS0.out; have e2 := he.cell HS1.out; go_simp; rfl); simp only [Act.put, List.setIfInBounds_toArray, List.set_cons_zero, List.set_cons_succ])
  refine LexW.nil (fun w3 he hkn => ?_)
  obtain ⟨_, _, q19, r19⟩ : (SPred.ownS w.heap.size N (plusL p (timesL p qs [x, y]) (timesL p qs [y, x]) (-1) N)).holds (.slice (some ⟨g19, 0, none⟩) N c19) w3 := hkn (12, _) (by simp)
  cases q19
  have R19 := Lib.hid r19
  have HE := Lib.hid (GW.out.trans he)
  clear he hkn r19
  go_wp2_with (fail)
  go_ret
  exact ⟨g19, c19, rfl, by have := R19.out; rw [HE1.out, HE2.out] at this; exact this, HE.out⟩


end Go.Proofs.Ytbgnfjckbjmgbaa
