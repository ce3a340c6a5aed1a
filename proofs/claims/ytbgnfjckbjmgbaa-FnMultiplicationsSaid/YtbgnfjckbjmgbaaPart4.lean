/-
  Contracts and plain laws, part 4: Undual, Vecs, CodesV, Norm, Top5.
  No condition.
-/
import Derived.Test.YtbgnfjckbjmgbaaPart3
import Derived.Test.YtbgnfjckbjmgbaaPart2
/-
  Unduals, scalar products, brackets: walks.
  No condition.
-/
namespace Go.Proofs.Ytbgnfjckbjmgbaa
set_option maxRecDepth 100000
open Go.RowKit

set_option maxHeartbeats 4000000 in
set_option maxRecDepth 100000 in
theorem c_undual {N d : Nat} (hN : N = 2 ^ d) (p : Int) (a : Option Addr) (cap : Nat) (qs : List Int) (ax : Option Addr) (cx : Nat) (x : List Int) (w : World) (hd : d ≤ 6) (hp1 : 3 ≤ p) (hp2 : p ≤ 1000) (hq : RdC w a d qs) (hqb : isB p qs = true) (hx : RdC w ax N x) (hxb : isB p x = true) :
    Calls Try.prog 112 #[.agg #[.int .i64 p, .slice a d cap], .slice ax N cx] w fun e w' => ∃ g, e = .returned (.slice (some ⟨g, 0, none⟩) N N) ∧ OwnC w.heap.size w' (some ⟨g, 0, none⟩) N N (prodL p qs tkL x (fullL d)) ∧ Ext w w' := by
  have HN := Lib.hid hN
  have hN1 : 1 ≤ N := by rw [hN]; exact pow_pos' d
  have hN0 : ¬ N = 0 := by omega
  have HQ := Lib.hid hq
  have HQB := Lib.hid hqb
  have HX := Lib.hid hx
  have HXB := Lib.hid hxb
  clear hN hq hqb hx hxb
  obtain ⟨W, hW⟩ : ∃ W, W = w.alloc (.cells #[.int .i64 p, .slice a d cap] 26) := ⟨_, rfl⟩
  have gW : Ext w W := by rw [hW]; exact ext_alloc _ _
  have hs0 : W.cell? ⟨w.heap.size, 0, none⟩ = some (.int .i64 p) := by rw [hW]; simp
  have hs1 : W.cell? ⟨w.heap.size, 1, none⟩ = some (.slice a d cap) := by rw [hW]; simp
  have HS0 := Lib.hid ((ext_drew _).cell hs0)
  have HS1 := Lib.hid ((ext_drew _).cell hs1)
  have GW := Lib.hid (gW.trans (ext_drew _))
  have HW := Lib.hid hW
  clear hs0 hs1 gW hW
  go_enter Try.func112, Try.ntmps112
  go_wp2_with (fail)
  rw [← HW.out]
  refine wp_region_lex [(3, .ownG w.heap.size N (fullL d)), (4, .ownG w.heap.size N (prodL p qs tkL x (fullL d)))] (by kernel_rfl) (by kernel_rfl) ?_
  (refine LexW.pure (v := ?_) rfl rfl (fun w1 he => ?_) ?_; rotate_left; ( have e1 := he.cell HS0.out; have e2 := he.cell HS1.out; go_simp; rfl); simp only [Act.put, List.setIfInBounds_toArray, List.set_cons_zero, List.set_cons_succ])
  (refine LexW.pure (v := ?_) rfl rfl (fun w1 he => ?_) ?_; rotate_left; ( have e1 := he.cell HS0.out; have e2 := he.cell HS1.out; go_simp; rfl); simp only [Act.put, List.setIfInBounds_toArray, List.set_cons_zero, List.set_cons_succ])
  (refine LexW.pure (v := ?_) rfl rfl (fun w1 he => ?_) ?_; rotate_left; ( have e1 := he.cell HS0.out; have e2 := he.cell HS1.out; go_simp; rfl); simp only [Act.put, List.setIfInBounds_toArray, List.set_cons_zero, List.set_cons_succ])
  (refine LexW.callR (f := ?_) (args := ?_) rfl rfl (fun w1 => ?_) (fun w1 he hdep => ?_) (fun v hv => ?_); rotate_left 2; (go_simp; refine ⟨?_, ?_⟩ <;> rfl); ( refine (c_fullN HN.out p a cap w1 hd).mono ?_; rintro e w2 ⟨g, rfl, ho, g2⟩; exact ⟨_, rfl, g2, g, rfl, ho.mono (Nat.le_trans GW.out.size he.size)⟩); simp only [Act.put, List.setIfInBounds_toArray, List.set_cons_zero, List.set_cons_succ])
  obtain ⟨_, g8, rfl, _⟩ := hv
  (refine LexW.callR (f := ?_) (args := ?_) rfl rfl (fun w1 => ?_) (fun w1 he hdep => ?_) (fun v hv => ?_); rotate_left 2; (go_simp; refine ⟨?_, ?_⟩ <;> rfl); ( obtain ⟨_, q8, r8⟩ : (SPred.ownG w.heap.size N (fullL d)).holds (.slice (some ⟨g8, 0, none⟩) N N) w1 := hdep (3, 8) (by decide +kernel); cases q8; refine (c_contractN HN.out p a cap qs ax _ cx N x (fullL d) w1 hd hp1 hp2 (HQ.out.ext (GW.out.trans he)) HQB.out (HX.out.ext (GW.out.trans he)) r8.rd HXB.out (full_good hp1).isB).mono ?_; rintro e w2 ⟨g, rfl, ho, g2⟩; exact ⟨_, rfl, g2, g, rfl, ho.mono (Nat.le_trans GW.out.size he.size)⟩); simp only [Act.put, List.setIfInBounds_toArray, List.set_cons_zero, List.set_cons_succ])
  obtain ⟨_, g9, rfl, _⟩ := hv
  (refine LexW.pure (v := ?_) rfl rfl (fun w1 he => ?_) ?_; rotate_left; ( have e1 := he.cell HS0.out; have e2 := he.cell HS1.out; go_simp; rfl); simp only [Act.put, List.setIfInBounds_toArray, List.set_cons_zero, List.set_cons_succ])
  refine LexW.nil (fun w3 he hkn => ?_)
  obtain ⟨_, q9, r9⟩ : (SPred.ownG w.heap.size N (prodL p qs tkL x (fullL d))).holds (.slice (some ⟨g9, 0, none⟩) N N) w3 := hkn (4, _) (by simp)
  cases q9
  have R9 := Lib.hid r9
  have HE := Lib.hid (GW.out.trans he)
  clear he hkn r9
  go_wp2_with (fail)
  go_ret
  exact ⟨g9, rfl, R9.out, HE.out⟩

set_option maxHeartbeats 4000000 in
set_option maxRecDepth 100000 in
theorem s_undual {N d : Nat} (hN : N = 2 ^ d) (p : Int) (a : Option Addr) (cap : Nat) (qs : List Int) (ax : Option Addr) (cx : Nat) (x : List Int) (w : World) (hd : d ≤ 6) (hp1 : 3 ≤ p) (hp2 : p ≤ 1000) (hq : RdC w a d qs) (hqb : isB p qs = true) (hx : RdC w ax N x) (hxb : isB p x = true) :
    Calls Try.prog 115 #[.agg #[.int .i64 p, .slice a d cap], .slice ax N cx] w fun e w' => ∃ g, e = .returned (.slice (some ⟨g, 0, none⟩) N N) ∧ OwnC w.heap.size w' (some ⟨g, 0, none⟩) N N (prodL p qs tkL x (fullL d)) ∧ Ext w w' := by
  have HN := Lib.hid hN
  have hN1 : 1 ≤ N := by rw [hN]; exact pow_pos' d
  have hN0 : ¬ N = 0 := by omega
  have HQ := Lib.hid hq
  have HQB := Lib.hid hqb
  have HX := Lib.hid hx
  have HXB := Lib.hid hxb
  clear hN hq hqb hx hxb
  obtain ⟨W, hW⟩ : ∃ W, W = w.alloc (.cells #[.int .i64 p, .slice a d cap] 26) := ⟨_, rfl⟩
  have gW : Ext w W := by rw [hW]; exact ext_alloc _ _
  have hs0 : W.cell? ⟨w.heap.size, 0, none⟩ = some (.int .i64 p) := by rw [hW]; simp
  have hs1 : W.cell? ⟨w.heap.size, 1, none⟩ = some (.slice a d cap) := by rw [hW]; simp
  have HS0 := Lib.hid ((ext_drew _).cell hs0)
  have HS1 := Lib.hid ((ext_drew _).cell hs1)
  have GW := Lib.hid (gW.trans (ext_drew _))
  have HW := Lib.hid hW
  clear hs0 hs1 gW hW
  go_enter Try.func115, Try.ntmps115
  go_wp2_with (fail)
  rw [← HW.out]
  refine wp_region_lex [(3, .ownG w.heap.size N (topL d 1)), (4, .ownG w.heap.size N (prodL p qs tkL x (topL d 1)))] (by kernel_rfl) (by kernel_rfl) ?_
  (refine LexW.pure (v := ?_) rfl rfl (fun w1 he => ?_) ?_; rotate_left; ( have e1 := he.cell HS0.out; have e2 := he.cell HS1.out; go_simp; rfl); simp only [Act.put, List.setIfInBounds_toArray, List.set_cons_zero, List.set_cons_succ])
  (refine LexW.pure (v := ?_) rfl rfl (fun w1 he => ?_) ?_; rotate_left; ( have e1 := he.cell HS0.out; have e2 := he.cell HS1.out; go_simp; rfl); simp only [Act.put, List.setIfInBounds_toArray, List.set_cons_zero, List.set_cons_succ])
  (refine LexW.pure (v := ?_) rfl rfl (fun w1 he => ?_) ?_; rotate_left; ( have e1 := he.cell HS0.out; have e2 := he.cell HS1.out; go_simp; rfl); simp only [Act.put, List.setIfInBounds_toArray, List.set_cons_zero, List.set_cons_succ])
  (refine LexW.callR (f := ?_) (args := ?_) rfl rfl (fun w1 => ?_) (fun w1 he hdep => ?_) (fun v hv => ?_); rotate_left 2; (go_simp; refine ⟨?_, ?_⟩ <;> rfl); ( refine (s_topN HN.out p a cap 1 w1 hd).mono ?_; rintro e w2 ⟨g, rfl, ho, g2⟩; exact ⟨_, rfl, g2, g, rfl, ho.mono (Nat.le_trans GW.out.size he.size)⟩); simp only [Act.put, List.setIfInBounds_toArray, List.set_cons_zero, List.set_cons_succ])
  obtain ⟨_, g8, rfl, _⟩ := hv
  (refine LexW.callR (f := ?_) (args := ?_) rfl rfl (fun w1 => ?_) (fun w1 he hdep => ?_) (fun v hv => ?_); rotate_left 2; (go_simp; refine ⟨?_, ?_⟩ <;> rfl); ( obtain ⟨_, q8, r8⟩ : (SPred.ownG w.heap.size N (topL d 1)).holds (.slice (some ⟨g8, 0, none⟩) N N) w1 := hdep (3, 8) (by decide +kernel); cases q8; refine (s_leftN HN.out p a cap qs ax _ cx N x (topL d 1) w1 hd hp1 hp2 (HQ.out.ext (GW.out.trans he)) HQB.out (HX.out.ext (GW.out.trans he)) r8.rd HXB.out (top_good hp1 (by omega) (by omega)).isB).mono ?_; rintro e w2 ⟨g, rfl, ho, g2⟩; exact ⟨_, rfl, g2, g, rfl, ho.mono (Nat.le_trans GW.out.size he.size)⟩); simp only [Act.put, List.setIfInBounds_toArray, List.set_cons_zero, List.set_cons_succ])
  obtain ⟨_, g9, rfl, _⟩ := hv
  (refine LexW.pure (v := ?_) rfl rfl (fun w1 he => ?_) ?_; rotate_left; ( have e1 := he.cell HS0.out; have e2 := he.cell HS1.out; go_simp; rfl); simp only [Act.put, List.setIfInBounds_toArray, List.set_cons_zero, List.set_cons_succ])
  refine LexW.nil (fun w3 he hkn => ?_)
  obtain ⟨_, q9, r9⟩ : (SPred.ownG w.heap.size N (prodL p qs tkL x (topL d 1))).holds (.slice (some ⟨g9, 0, none⟩) N N) w3 := hkn (4, _) (by simp)
  cases q9
  have R9 := Lib.hid r9
  have HE := Lib.hid (GW.out.trans he)
  clear he hkn r9
  go_wp2_with (fail)
  go_ret
  exact ⟨g9, rfl, by rw [← topL_one]; exact R9.out, HE.out⟩

def scalL (p : Int) (qs x y : List Int) : Int := nth (prodL p qs tkA (signL p revB x (2 ^ qs.length)) y) 0


theorem prod_two {p : Int} {qs x y : List Int} {N : Nat} (hN : N = 2 ^ qs.length) (hp : 3 ≤ p) (hx : Good p N x) : timesL p qs [x, y] = prodL p qs tkA x y := timesL_two hp (by rw [← hN]; exact hx)

set_option maxHeartbeats 4000000 in
set_option maxRecDepth 100000 in
theorem c_bracket {N d : Nat} (hN : N = 2 ^ d) (p : Int) (a : Option Addr) (cap : Nat) (qs : List Int) (ax : Option Addr) (cx : Nat) (x : List Int) (ay : Option Addr) (cy : Nat) (y : List Int) (w : World) (hd : d ≤ 6) (hp1 : 3 ≤ p) (hp2 : p ≤ 1000) (hq : RdC w a d qs) (hqb : isB p qs = true) (hx : RdC w ax N x) (hxb : isB p x = true) (hy : RdC w ay N y) (hyb : isB p y = true) :
    Calls Try.prog 80 #[.agg #[.int .i64 p, .slice a d cap], .slice ax N cx, .slice ay N cy] w fun e w' => ∃ g rc, e = .returned (.slice (some ⟨g, 0, none⟩) N rc) ∧ OwnC w.heap.size w' (some ⟨g, 0, none⟩) N rc (plusL p (prodL p qs tkA x y) (prodL p qs tkA y x) (-1) N) ∧ Ext w w' := by
  have HN := Lib.hid hN
  have hN1 : 1 ≤ N := by rw [hN]; exact pow_pos' d
  have hN0 : ¬ N = 0 := by omega
  have HQ := Lib.hid hq
  have HQB := Lib.hid hqb
  have HX := Lib.hid hx
  have HXB := Lib.hid hxb
  have HY := Lib.hid hy
  have HYB := Lib.hid hyb
  clear hN hq hqb hx hxb hy hyb
  have HGX := Lib.hid (good_isB HX.out.1 HXB.out)
  have HGY := Lib.hid (good_isB HY.out.1 HYB.out)
  have HG1 : Hid (Good p N (prodL p qs tkA x y)) := Lib.hid (by rw [HN.out, ← HQ.out.1]; exact prod_good (by omega))
  have HG2 : Hid (Good p N (prodL p qs tkA y x)) := Lib.hid (by rw [HN.out, ← HQ.out.1]; exact prod_good (by omega))
  have hN6 : N ≤ 64 := by rw [HN.out]; exact pow_le64 hd
  have HE1 := Lib.hid (prod_two (y := y) (by rw [HN.out, HQ.out.1]) hp1 HGX.out)
  have HE2 := Lib.hid (prod_two (y := x) (by rw [HN.out, HQ.out.1]) hp1 HGY.out)
  have HT1 : Hid (Good p N (timesL p qs [x, y])) := Lib.hid (by rw [HE1.out]; exact HG1.out)
  have HT2 : Hid (Good p N (timesL p qs [y, x])) := Lib.hid (by rw [HE2.out]; exact HG2.out)
  obtain ⟨W, hW⟩ : ∃ W, W = w.alloc (.cells #[.int .i64 p, .slice a d cap] 26) := ⟨_, rfl⟩
  have gW : Ext w W := by rw [hW]; exact ext_alloc _ _
  have hs0 : W.cell? ⟨w.heap.size, 0, none⟩ = some (.int .i64 p) := by rw [hW]; simp
  have hs1 : W.cell? ⟨w.heap.size, 1, none⟩ = some (.slice a d cap) := by rw [hW]; simp
  have HS0 := Lib.hid ((ext_drew _).cell hs0)
  have HS1 := Lib.hid ((ext_drew _).cell hs1)
  have GW := Lib.hid (gW.trans (ext_drew _))
  have HW := Lib.hid hW
  clear hs0 hs1 gW hW
  go_enter Try.func80, Try.ntmps80
  go_wp2_with (fail)
  rw [← HW.out]
  refine wp_region_lex [(1, .val (.int .i64 p)), (5, .rows 2 [x, y]), (6, .ownG w.heap.size N (timesL p qs [x, y])), (10, .rows 2 [y, x]), (11, .ownG w.heap.size N (timesL p qs [y, x])), (12, .ownS w.heap.size N (plusL p (timesL p qs [x, y]) (timesL p qs [y, x]) (-1) N))] (by kernel_rfl) (by kernel_rfl) ?_
  (refine LexW.pure (v := ?_) rfl rfl (fun w1 he => ?_) ?_; rotate_left; ( have e1 := he.cell HS0.out; have e2 := he.cell HS1.out; go_simp; rfl); simp only [Act.put, List.setIfInBounds_toArray, List.set_cons_zero, List.set_cons_succ])
  (refine LexW.call (f := ?_) (args := ?_) rfl rfl (fun w1 => ?_) (fun w1 he hdep => ?_) ?_; rotate_left 2; (go_simp; refine ⟨?_, ?_⟩ <;> rfl); ( exact c_field _ _ _); simp only [Act.put, List.setIfInBounds_toArray, List.set_cons_zero, List.set_cons_succ])
  (refine LexW.pure (v := ?_) rfl rfl (fun w1 he => ?_) ?_; rotate_left; ( have e1 := he.cell HS0.out; have e2 := he.cell HS1.out; go_simp; rfl); simp only [Act.put, List.setIfInBounds_toArray, List.set_cons_zero, List.set_cons_succ])
  (refine LexW.pure (v := ?_) rfl rfl (fun w1 he => ?_) ?_; rotate_left; ( have e1 := he.cell HS0.out; have e2 := he.cell HS1.out; go_simp; rfl); simp only [Act.put, List.setIfInBounds_toArray, List.set_cons_zero, List.set_cons_succ])
  (refine LexW.pure (v := ?_) rfl rfl (fun w1 he => ?_) ?_; rotate_left; ( have e1 := he.cell HS0.out; have e2 := he.cell HS1.out; go_simp; rfl); simp only [Act.put, List.setIfInBounds_toArray, List.set_cons_zero, List.set_cons_succ])
  (refine LexW.rel rfl rfl (fun w1 he hdep => ?_) (fun v hv => ?_); ( exact ⟨.slice (some ⟨w1.heap.size, 0, none⟩) 2 2, w1.alloc (.cells #[.slice ax N cx, .slice ay N cy] 24), (by go_simp), ext_alloc _ _, _, rfl, rdR_two (a := ax) (b := ay) (n := N) (m := N) (ca := cx) (cb := cy) (by simp) (by simp) ((HX.out.ext (GW.out.trans he)).ext (ext_alloc _ _)) ((HY.out.ext (GW.out.trans he)).ext (ext_alloc _ _))⟩); simp only [Act.put, List.setIfInBounds_toArray, List.set_cons_zero, List.set_cons_succ])
  obtain ⟨_, g12, rfl, _⟩ := hv
  (refine LexW.callR (f := ?_) (args := ?_) rfl rfl (fun w1 => ?_) (fun w1 he hdep => ?_) (fun v hv => ?_); rotate_left 2; (go_simp; refine ⟨?_, ?_⟩ <;> rfl); ( obtain ⟨_, q12, r12⟩ : (SPred.rows 2 [x, y]).holds (.slice (some ⟨g12, 0, none⟩) 2 2) w1 := hdep (5, 12) (by decide +kernel); cases q12; refine (c_timesN HN.out p a cap qs _ 2 2 [x, y] w1 hd hp1 hp2 (by omega) (HQ.out.ext (GW.out.trans he)) HQB.out r12 (good_pair HGX.out HGY.out)).mono ?_; rintro e w2 ⟨g, rfl, ho, g2⟩; exact ⟨_, rfl, g2, g, rfl, ho.mono (Nat.le_trans GW.out.size he.size)⟩); simp only [Act.put, List.setIfInBounds_toArray, List.set_cons_zero, List.set_cons_succ])
  obtain ⟨_, g13, rfl, _⟩ := hv
  (refine LexW.pure (v := ?_) rfl rfl (fun w1 he => ?_) ?_; rotate_left; ( have e1 := he.cell HS0.out; have e2 := he.cell HS1.out; go_simp; rfl); simp only [Act.put, List.setIfInBounds_toArray, List.set_cons_zero, List.set_cons_succ])
  (refine LexW.pure (v := ?_) rfl rfl (fun w1 he => ?_) ?_; rotate_left; ( have e1 := he.cell HS0.out; have e2 := he.cell HS1.out; go_simp; rfl); simp only [Act.put, List.setIfInBounds_toArray, List.set_cons_zero, List.set_cons_succ])
  (refine LexW.pure (v := ?_) rfl rfl (fun w1 he => ?_) ?_; rotate_left; ( have e1 := he.cell HS0.out; have e2 := he.cell HS1.out; go_simp; rfl); simp only [Act.put, List.setIfInBounds_toArray, List.set_cons_zero, List.set_cons_succ])
  (refine LexW.rel rfl rfl (fun w1 he hdep => ?_) (fun v hv => ?_); ( exact ⟨.slice (some ⟨w1.heap.size, 0, none⟩) 2 2, w1.alloc (.cells #[.slice ay N cy, .slice ax N cx] 24), (by go_simp), ext_alloc _ _, _, rfl, rdR_two (a := ay) (b := ax) (n := N) (m := N) (ca := cy) (cb := cx) (by simp) (by simp) ((HY.out.ext (GW.out.trans he)).ext (ext_alloc _ _)) ((HX.out.ext (GW.out.trans he)).ext (ext_alloc _ _))⟩); simp only [Act.put, List.setIfInBounds_toArray, List.set_cons_zero, List.set_cons_succ])
  obtain ⟨_, g17, rfl, _⟩ := hv
  (refine LexW.callR (f := ?_) (args := ?_) rfl rfl (fun w1 => ?_) (fun w1 he hdep => ?_) (fun v hv => ?_); rotate_left 2; (go_simp; refine ⟨?_, ?_⟩ <;> rfl); ( obtain ⟨_, q17, r17⟩ : (SPred.rows 2 [y, x]).holds (.slice (some ⟨g17, 0, none⟩) 2 2) w1 := hdep (10, 17) (by decide +kernel); cases q17; refine (c_timesN HN.out p a cap qs _ 2 2 [y, x] w1 hd hp1 hp2 (by omega) (HQ.out.ext (GW.out.trans he)) HQB.out r17 (good_pair HGY.out HGX.out)).mono ?_; rintro e w2 ⟨g, rfl, ho, g2⟩; exact ⟨_, rfl, g2, g, rfl, ho.mono (Nat.le_trans GW.out.size he.size)⟩); simp only [Act.put, List.setIfInBounds_toArray, List.set_cons_zero, List.set_cons_succ])
  obtain ⟨_, g18, rfl, _⟩ := hv
  (refine LexW.callR (f := ?_) (args := ?_) rfl rfl (fun w1 => ?_) (fun w1 he hdep => ?_) (fun v hv => ?_); rotate_left 2; (go_simp; refine ⟨?_, ?_⟩ <;> rfl); ( obtain ⟨_, q13, r13⟩ : (SPred.ownG w.heap.size N (timesL p qs [x, y])).holds (.slice (some ⟨g13, 0, none⟩) N N) w1 := hdep (6, 13) (by decide +kernel); cases q13; obtain ⟨_, q18, r18⟩ : (SPred.ownG w.heap.size N (timesL p qs [y, x])).holds (.slice (some ⟨g18, 0, none⟩) N N) w1 := hdep (11, 18) (by decide +kernel); cases q18; refine (c_plus p _ _ N N N (timesL p qs [x, y]) (timesL p qs [y, x]) (-1) w1 hp1 hp2 (by omega) (by omega) r13.rd r18.rd HT1.out HT2.out).mono ?_; rintro e w2 ⟨g, rc, rfl, ho, g2⟩; exact ⟨_, rfl, g2, g, rc, rfl, ho.mono (Nat.le_trans GW.out.size he.size)⟩); simp only [Act.put, List.setIfInBounds_toArray, List.set_cons_zero, List.set_cons_succ])
  obtain ⟨_, g19, c19, rfl, _⟩ := hv
  (refine LexW.pure (v := ?_) rfl rfl (fun w1 he => ?_) ?_; rotate_left; ( have e1 := he.cell HS0.out; have e2 := he.cell HS1.out; go_simp; rfl); simp only [Act.put, List.setIfInBounds_toArray, List.set_cons_zero, List.set_cons_succ])
  refine LexW.nil (fun w3 he hkn => ?_)
  obtain ⟨_, _, q19, r19⟩ : (SPred.ownS w.heap.size N (plusL p (timesL p qs [x, y]) (timesL p qs [y, x]) (-1) N)).holds (.slice (some ⟨g19, 0, none⟩) N c19) w3 := hkn (12, _) (by simp)
  cases q19
  have R19 := Lib.hid r19
  have HE := Lib.hid (GW.out.trans he)
  clear he hkn r19
  go_wp2_with (fail)
  go_ret
  exact ⟨g19, c19, rfl, by have := R19.out; rw [HE1.out, HE2.out] at this; exact this, HE.out⟩


end Go.Proofs.Ytbgnfjckbjmgbaa

/-
  Products of lists of vectors.
  No condition.
-/
namespace Go.Proofs.Ytbgnfjckbjmgbaa
set_option maxRecDepth 100000
open Go.RowKit

/-- The product of the first k of some vectors. -/
def prodS (p : Int) (qs : List Int) (tk : Nat → Nat → Bool) (rows : List (List Int)) : Nat → List Int
  | 0 => bladeL (2 ^ qs.length) 0
  | k + 1 => prodL p qs tk (prodS p qs tk rows k) (vecL (2 ^ qs.length) (nthR rows k))
theorem prodS_good {p : Int} {qs : List Int} {tk : Nat → Nat → Bool} {rows : List (List Int)} (hp : 3 ≤ p) : ∀ k, Good p (2 ^ qs.length) (prodS p qs tk rows k)
  | 0 => blade_good hp
  | k + 1 => prod_good (by omega)
/-- The code of a space and a list of at most 16 vectors. -/
def codeVR (p : Int) (qs : List Int) (rows : List (List Int)) : Int := if codeV p qs rows = 0 then (if rows.length ≤ 16 then 0 else 2) else codeV p qs rows
theorem codeVR_zero {p : Int} {qs : List Int} {rows : List (List Int)} (h : codeVR p qs rows = 0) : spaceB p qs = true ∧ rows.all (vecB p qs.length) = true ∧ rows.length ≤ 16 := by
  unfold codeVR codeV at h
  cases hs : spaceB p qs
  · simp [hs] at h
  · cases ha : rows.all (vecB p qs.length)
    · simp [hs, ha] at h
    · simp [hs, ha] at h
      exact ⟨rfl, rfl, h⟩
theorem rows_good {p : Int} {d : Nat} {rows : List (List Int)} (h : rows.all (vecB p d) = true) : RowsG p d rows := fun i hi => by
  have := List.all_eq_true.1 h (nthR rows i) (by rw [nthR_eq hi]; exact List.getElem_mem hi)
  obtain ⟨h1, h2⟩ := vec_of this
  exact good_isB h1 h2

set_option maxHeartbeats 2000000 in
theorem c_wedgeAll {N d : Nat} (hN : N = 2 ^ d) (p : Int) (a : Option Addr) (cap : Nat) (qs : List Int) (al : Option Addr) (n cl : Nat) (rows : List (List Int)) (w : World) (hd : d ≤ 6) (hp1 : 3 ≤ p) (hp2 : p ≤ 1000) (hl : n ≤ 4194304) (hq : RdC w a d qs) (hqb : isB p qs = true) (hx : RdR w al n rows) (hg : RowsG p d rows) :
    Calls Try.prog 133 #[.agg #[.int .i64 p, .slice a d cap], .slice al n cl] w fun e w' => ∃ g, e = .returned (.slice (some ⟨g, 0, none⟩) N N) ∧ OwnC w.heap.size w' (some ⟨g, 0, none⟩) N N (prodS p qs tkW rows n) ∧ Ext w w' := by
  have HN := Lib.hid hN
  have HX := Lib.hid hx
  have HQ := Lib.hid hq
  have HQB := Lib.hid hqb
  have HG := Lib.hid hg
  have HD := Lib.hid (show N = 2 ^ qs.length by rw [hq.1]; exact hN)
  have HPA : Hid (∀ k, Good p N (prodS p qs tkW rows k)) := Lib.hid (fun k => by rw [HD.out]; exact prodS_good hp1 k)
  clear hN hx hq hqb hg
  obtain ⟨W, hW⟩ : ∃ W, W = w.alloc (.cells #[.int .i64 p, .slice a d cap] 26) := ⟨_, rfl⟩
  have gW : Ext w W := by rw [hW]; exact ext_alloc _ _
  have hs0 : W.cell? ⟨w.heap.size, 0, none⟩ = some (.int .i64 p) := by rw [hW]; simp
  have hs1 : W.cell? ⟨w.heap.size, 1, none⟩ = some (.slice a d cap) := by rw [hW]; simp
  have HS0 := Lib.hid (hs0)
  have HS1 := Lib.hid (hs1)
  have GW := Lib.hid (gW)
  have HW := Lib.hid hW
  clear hs0 hs1 gW hW
  go_enter Try.func133, Try.ntmps133
  go_wp2_with (fail)
  rw [← HW.out]
  refine (c_oneN HN.out p a cap W hd).mono ?_
  rintro e w1 ⟨g, rfl, ho, g1⟩
  have HO := Lib.hid (ho.mono GW.out.size)
  have G1 := Lib.hid g1
  clear ho g1
  go_wp2_with (fail)
  go_loopw [5, 12] (fun v i wr => ∃ (k g : Nat), k ≤ n ∧ i = .int .i64 k ∧ v = .slice (some ⟨g, 0, none⟩) N N ∧ OwnC w.heap.size wr (some ⟨g, 0, none⟩) N N (prodS p qs tkW rows k) ∧ Ext W wr) (fun _ i _ => n - (intOf i).toNat)
  case atStart => exact ⟨0, g, Nat.zero_le _, rfl, rfl, by show OwnC _ _ _ _ _ (bladeL (2 ^ qs.length) 0); rw [← HD.out]; exact HO.out, G1.out⟩
  case round =>
    obtain ⟨k, g', hk, rfl, rfl, hown, hext⟩ := hrel
    have HOwn := Lib.hid hown
    have HExt := Lib.hid hext
    clear hown hext
    by_cases hlt : k < n
    · obtain ⟨b, off, ai, ci, rfl, hc, hri⟩ := HX.out.2 k hlt
      rw [(HG.out k (by rw [HX.out.1]; exact hlt)).1] at hc hri
      have hc' := (GW.out.trans HExt.out).cell hc
      have HRi := Lib.hid hri
      have HV := Lib.hid (show Good p N (vecL N (nthR rows k)) from vec_good (by omega) (HG.out k (by rw [HX.out.1]; exact hlt)))
      have HPS := Lib.hid (HPA.out k)
      have HCd := Lib.hid ((ext_drew _).cell hc')
      clear hri hc
      go_wp2_with (fail)
      clear hc'
      have GX := Lib.hid (GW.out.trans (HExt.out.trans (ext_drew wr)))
      have HT0 := Lib.hid ((HExt.out.trans (ext_drew wr)).cell HS0.out)
      have HT1 := Lib.hid ((HExt.out.trans (ext_drew wr)).cell HS1.out)
      refine wp_region_lex [(4, .ownG w.heap.size N (vecL N (nthR rows k))), (5, .ownG w.heap.size N (prodL p qs tkW (prodS p qs tkW rows k) (vecL N (nthR rows k))))] (by kernel_rfl) (by kernel_rfl) ?_
      (refine LexW.pure (v := ?_) rfl rfl (fun w1 he => ?_) ?_; rotate_left; ( have e1 := he.cell HT0.out; have e2 := he.cell HT1.out; have e3 := he.cell HCd.out; go_simp; rfl); simp only [Act.put, List.setIfInBounds_toArray, List.set_cons_zero, List.set_cons_succ])
      (refine LexW.pure (v := ?_) rfl rfl (fun w1 he => ?_) ?_; rotate_left; ( have e1 := he.cell HT0.out; have e2 := he.cell HT1.out; have e3 := he.cell HCd.out; go_simp; rfl); simp only [Act.put, List.setIfInBounds_toArray, List.set_cons_zero, List.set_cons_succ])
      (refine LexW.pure (v := ?_) rfl rfl (fun w1 he => ?_) ?_; rotate_left; ( have e1 := he.cell HT0.out; have e2 := he.cell HT1.out; have e3 := he.cell HCd.out; go_simp; rfl); simp only [Act.put, List.setIfInBounds_toArray, List.set_cons_zero, List.set_cons_succ])
      (refine LexW.pure (v := ?_) rfl rfl (fun w1 he => ?_) ?_; rotate_left; ( have e1 := he.cell HT0.out; have e2 := he.cell HT1.out; have e3 := he.cell HCd.out; go_simp; rfl); simp only [Act.put, List.setIfInBounds_toArray, List.set_cons_zero, List.set_cons_succ])
      (refine LexW.callR (f := ?_) (args := ?_) rfl rfl (fun w1 => ?_) (fun w1 he hdep => ?_) (fun v hv => ?_); rotate_left 2; (go_simp; refine ⟨?_, ?_⟩ <;> rfl); ( refine (c_vector HN.out p a cap ai ci (nthR rows k) w1 hd (HRi.out.ext (GX.out.trans he))).mono ?_; rintro e w2 ⟨g, rfl, ho, g2⟩; exact ⟨_, rfl, g2, g, rfl, ho.mono (Nat.le_trans GX.out.size he.size)⟩); simp only [Act.put, List.setIfInBounds_toArray, List.set_cons_zero, List.set_cons_succ])
      obtain ⟨_, g20, rfl, _⟩ := hv
      (refine LexW.callR (f := ?_) (args := ?_) rfl rfl (fun w1 => ?_) (fun w1 he hdep => ?_) (fun v hv => ?_); rotate_left 2; (go_simp; refine ⟨?_, ?_⟩ <;> rfl); ( obtain ⟨_, q20, r20⟩ : (SPred.ownG w.heap.size N (vecL N (nthR rows k))).holds (.slice (some ⟨g20, 0, none⟩) N N) w1 := hdep (4, 20) (by decide +kernel); cases q20; refine (c_wedgeN HN.out p a cap qs _ _ N N (prodS p qs tkW rows k) (vecL N (nthR rows k)) w1 hd hp1 hp2 (HQ.out.ext (GX.out.trans he)) HQB.out (HOwn.out.rd.ext ((ext_drew _).trans he)) r20.rd HPS.out.isB HV.out.isB).mono ?_; rintro e w2 ⟨g, rfl, ho, g2⟩; exact ⟨_, rfl, g2, g, rfl, ho.mono (Nat.le_trans GX.out.size he.size)⟩); simp only [Act.put, List.setIfInBounds_toArray, List.set_cons_zero, List.set_cons_succ])
      obtain ⟨_, g21, rfl, _⟩ := hv
      (refine LexW.pure (v := ?_) rfl rfl (fun w1 he => ?_) ?_; rotate_left; ( have e1 := he.cell HT0.out; have e2 := he.cell HT1.out; have e3 := he.cell HCd.out; go_simp; rfl); simp only [Act.put, List.setIfInBounds_toArray, List.set_cons_zero, List.set_cons_succ])
      refine LexW.nil (fun w3 he hkn => ?_)
      obtain ⟨_, q21, r21⟩ : (SPred.ownG w.heap.size N (prodL p qs tkW (prodS p qs tkW rows k) (vecL N (nthR rows k)))).holds (.slice (some ⟨g21, 0, none⟩) N N) w3 := hkn (5, _) (by simp)
      cases q21
      have R21 := Lib.hid r21
      have HE := Lib.hid (GX.out.trans he)
      have X4 := Lib.hid (HExt.out.trans ((ext_drew _).trans he))
      clear he hkn r21
      go_wp2_with (fail)
      go_roundw
      case rel => exact ⟨k + 1, g21, by omega, by go_num, rfl, (by show OwnC _ _ _ _ _ (prodL p qs tkW _ _); rw [← HD.out]; exact R21.out), X4.out⟩
      case measure => simp [intOf]; omega
    · go_wp2_with (fail)
      go_ret
      obtain rfl : k = n := by omega
      exact ⟨_, rfl, HOwn.out, GW.out.trans HExt.out⟩

set_option maxHeartbeats 2000000 in
theorem s_wedgeAll {N d : Nat} (hN : N = 2 ^ d) (p : Int) (a : Option Addr) (cap : Nat) (qs : List Int) (al : Option Addr) (n cl : Nat) (rows : List (List Int)) (w : World) (hd : d ≤ 6) (hp1 : 3 ≤ p) (hp2 : p ≤ 1000) (hl : n ≤ 4194304) (hq : RdC w a d qs) (hqb : isB p qs = true) (hx : RdR w al n rows) (hg : RowsG p d rows) :
    Calls Try.prog 135 #[.agg #[.int .i64 p, .slice a d cap], .slice al n cl] w fun e w' => ∃ g, e = .returned (.slice (some ⟨g, 0, none⟩) N N) ∧ OwnC w.heap.size w' (some ⟨g, 0, none⟩) N N (prodS p qs tkW rows n) ∧ Ext w w' := by
  have HN := Lib.hid hN
  have HX := Lib.hid hx
  have HQ := Lib.hid hq
  have HQB := Lib.hid hqb
  have HG := Lib.hid hg
  have HD := Lib.hid (show N = 2 ^ qs.length by rw [hq.1]; exact hN)
  have HPA : Hid (∀ k, Good p N (prodS p qs tkW rows k)) := Lib.hid (fun k => by rw [HD.out]; exact prodS_good hp1 k)
  clear hN hx hq hqb hg
  obtain ⟨W, hW⟩ : ∃ W, W = w.alloc (.cells #[.int .i64 p, .slice a d cap] 26) := ⟨_, rfl⟩
  have gW : Ext w W := by rw [hW]; exact ext_alloc _ _
  have hs0 : W.cell? ⟨w.heap.size, 0, none⟩ = some (.int .i64 p) := by rw [hW]; simp
  have hs1 : W.cell? ⟨w.heap.size, 1, none⟩ = some (.slice a d cap) := by rw [hW]; simp
  have HS0 := Lib.hid (hs0)
  have HS1 := Lib.hid (hs1)
  have GW := Lib.hid (gW)
  have HW := Lib.hid hW
  clear hs0 hs1 gW hW
  go_enter Try.func135, Try.ntmps135
  go_wp2_with (fail)
  rw [← HW.out]
  refine (s_oneN HN.out p a cap W hd).mono ?_
  rintro e w1 ⟨g, rfl, ho, g1⟩
  have HO := Lib.hid (ho.mono GW.out.size)
  have G1 := Lib.hid g1
  clear ho g1
  go_wp2_with (fail)
  go_loopw [5, 6] (fun v i wr => ∃ (k g : Nat), k ≤ n ∧ i = .int .i64 k ∧ v = .slice (some ⟨g, 0, none⟩) N N ∧ OwnC w.heap.size wr (some ⟨g, 0, none⟩) N N (prodS p qs tkW rows k) ∧ Ext W wr) (fun _ i _ => n - (intOf i).toNat)
  case atStart => exact ⟨0, g, Nat.zero_le _, rfl, rfl, by show OwnC _ _ _ _ _ (bladeL (2 ^ qs.length) 0); rw [← HD.out]; exact HO.out, G1.out⟩
  case round =>
    obtain ⟨k, g', hk, rfl, rfl, hown, hext⟩ := hrel
    have HOwn := Lib.hid hown
    have HExt := Lib.hid hext
    clear hown hext
    by_cases hlt : k < n
    · obtain ⟨b, off, ai, ci, rfl, hc, hri⟩ := HX.out.2 k hlt
      rw [(HG.out k (by rw [HX.out.1]; exact hlt)).1] at hc hri
      have hc' := (GW.out.trans HExt.out).cell hc
      have HRi := Lib.hid hri
      have HV := Lib.hid (show Good p N (vecL N (nthR rows k)) from vec_good (by omega) (HG.out k (by rw [HX.out.1]; exact hlt)))
      have HPS := Lib.hid (HPA.out k)
      have HCd := Lib.hid ((ext_drew _).cell hc')
      clear hri hc
      go_wp2_with (fail)
      clear hc'
      have GX := Lib.hid (GW.out.trans (HExt.out.trans (ext_drew wr)))
      have HT0 := Lib.hid ((HExt.out.trans (ext_drew wr)).cell HS0.out)
      have HT1 := Lib.hid ((HExt.out.trans (ext_drew wr)).cell HS1.out)
      refine wp_region_lex [(7, .ownG w.heap.size N (vecL N (nthR rows k))), (8, .ownG w.heap.size N (prodL p qs tkW (prodS p qs tkW rows k) (vecL N (nthR rows k))))] (by kernel_rfl) (by kernel_rfl) ?_
      (refine LexW.pure (v := ?_) rfl rfl (fun w1 he => ?_) ?_; rotate_left; ( have e1 := he.cell HT0.out; have e2 := he.cell HT1.out; have e3 := he.cell HCd.out; go_simp; rfl); simp only [Act.put, List.setIfInBounds_toArray, List.set_cons_zero, List.set_cons_succ])
      (refine LexW.pure (v := ?_) rfl rfl (fun w1 he => ?_) ?_; rotate_left; ( have e1 := he.cell HT0.out; have e2 := he.cell HT1.out; have e3 := he.cell HCd.out; go_simp; rfl); simp only [Act.put, List.setIfInBounds_toArray, List.set_cons_zero, List.set_cons_succ])
      (refine LexW.pure (v := ?_) rfl rfl (fun w1 he => ?_) ?_; rotate_left; ( have e1 := he.cell HT0.out; have e2 := he.cell HT1.out; have e3 := he.cell HCd.out; go_simp; rfl); simp only [Act.put, List.setIfInBounds_toArray, List.set_cons_zero, List.set_cons_succ])
      (refine LexW.pure (v := ?_) rfl rfl (fun w1 he => ?_) ?_; rotate_left; ( have e1 := he.cell HT0.out; have e2 := he.cell HT1.out; have e3 := he.cell HCd.out; go_simp; rfl); simp only [Act.put, List.setIfInBounds_toArray, List.set_cons_zero, List.set_cons_succ])
      (refine LexW.pure (v := ?_) rfl rfl (fun w1 he => ?_) ?_; rotate_left; ( have e1 := he.cell HT0.out; have e2 := he.cell HT1.out; have e3 := he.cell HCd.out; go_simp; rfl); simp only [Act.put, List.setIfInBounds_toArray, List.set_cons_zero, List.set_cons_succ])
      (refine LexW.pure (v := ?_) rfl rfl (fun w1 he => ?_) ?_; rotate_left; ( have e1 := he.cell HT0.out; have e2 := he.cell HT1.out; have e3 := he.cell HCd.out; go_simp; rfl); simp only [Act.put, List.setIfInBounds_toArray, List.set_cons_zero, List.set_cons_succ])
      (refine LexW.pure (v := ?_) rfl rfl (fun w1 he => ?_) ?_; rotate_left; ( have e1 := he.cell HT0.out; have e2 := he.cell HT1.out; have e3 := he.cell HCd.out; go_simp; rfl); simp only [Act.put, List.setIfInBounds_toArray, List.set_cons_zero, List.set_cons_succ])
      (refine LexW.callR (f := ?_) (args := ?_) rfl rfl (fun w1 => ?_) (fun w1 he hdep => ?_) (fun v hv => ?_); rotate_left 2; (go_simp; refine ⟨?_, ?_⟩ <;> rfl); ( refine (s_vector HN.out p a cap ai ci (nthR rows k) w1 hd (HRi.out.ext (GX.out.trans he))).mono ?_; rintro e w2 ⟨g, rfl, ho, g2⟩; exact ⟨_, rfl, g2, g, rfl, ho.mono (Nat.le_trans GX.out.size he.size)⟩); simp only [Act.put, List.setIfInBounds_toArray, List.set_cons_zero, List.set_cons_succ])
      obtain ⟨_, g22, rfl, _⟩ := hv
      (refine LexW.callR (f := ?_) (args := ?_) rfl rfl (fun w1 => ?_) (fun w1 he hdep => ?_) (fun v hv => ?_); rotate_left 2; (go_simp; refine ⟨?_, ?_⟩ <;> rfl); ( obtain ⟨_, q22, r22⟩ : (SPred.ownG w.heap.size N (vecL N (nthR rows k))).holds (.slice (some ⟨g22, 0, none⟩) N N) w1 := hdep (7, 22) (by decide +kernel); cases q22; refine (s_wedgeN HN.out p a cap qs _ _ N N (prodS p qs tkW rows k) (vecL N (nthR rows k)) w1 hd hp1 hp2 (HQ.out.ext (GX.out.trans he)) HQB.out (HOwn.out.rd.ext ((ext_drew _).trans he)) r22.rd HPS.out.isB HV.out.isB).mono ?_; rintro e w2 ⟨g, rfl, ho, g2⟩; exact ⟨_, rfl, g2, g, rfl, ho.mono (Nat.le_trans GX.out.size he.size)⟩); simp only [Act.put, List.setIfInBounds_toArray, List.set_cons_zero, List.set_cons_succ])
      obtain ⟨_, g23, rfl, _⟩ := hv
      (refine LexW.pure (v := ?_) rfl rfl (fun w1 he => ?_) ?_; rotate_left; ( have e1 := he.cell HT0.out; have e2 := he.cell HT1.out; have e3 := he.cell HCd.out; go_simp; rfl); simp only [Act.put, List.setIfInBounds_toArray, List.set_cons_zero, List.set_cons_succ])
      refine LexW.nil (fun w3 he hkn => ?_)
      obtain ⟨_, q23, r23⟩ : (SPred.ownG w.heap.size N (prodL p qs tkW (prodS p qs tkW rows k) (vecL N (nthR rows k)))).holds (.slice (some ⟨g23, 0, none⟩) N N) w3 := hkn (8, _) (by simp)
      cases q23
      have R23 := Lib.hid r23
      have HE := Lib.hid (GX.out.trans he)
      have X4 := Lib.hid (HExt.out.trans ((ext_drew _).trans he))
      clear he hkn r23
      go_wp2_with (fail)
      go_roundw
      case rel => exact ⟨k + 1, g23, by omega, by go_num, rfl, (by show OwnC _ _ _ _ _ (prodL p qs tkW _ _); rw [← HD.out]; exact R23.out), X4.out⟩
      case measure => simp [intOf]; omega
    · go_wp2_with (fail)
      go_ret
      obtain rfl : k = n := by omega
      exact ⟨_, rfl, HOwn.out, GW.out.trans HExt.out⟩



end Go.Proofs.Ytbgnfjckbjmgbaa

/-
  The codes of spaces and lists of vectors; the listed function WedgeOfVectors.
  No condition.
-/
namespace Go.Proofs.Ytbgnfjckbjmgbaa
set_option maxRecDepth 100000
open Go.RowKit

theorem codeVR_space {p : Int} {qs : List Int} {rows : List (List Int)} (h : spaceB p qs = false) : codeVR p qs rows = 1 := by simp [codeVR, codeV, h]
theorem codeVR_of {p : Int} {qs : List Int} {rows : List (List Int)} (h : spaceB p qs = true) : codeVR p qs rows = if (rows.all (vecB p qs.length) && decide (rows.length ≤ 16)) = true then 0 else 2 := by
  unfold codeVR codeV
  cases ha : rows.all (vecB p qs.length)
  · simp [h]
  · by_cases hl : rows.length ≤ 16 <;> simp [h, hl]

set_option maxHeartbeats 400000 in
theorem c_checkList (p : Int) (a : Option Addr) (d cap : Nat) (qs : List Int) (al : Option Addr) (n cl : Nat) (rows : List (List Int)) (w : World) (hd : d ≤ 4194304) (hl : n ≤ 4194304) (hr : ∀ i, i < n → (nthR rows i).length ≤ 4194304)
    (hq : RdC w a d qs) (hx : RdR w al n rows) :
    Calls Try.prog 132 #[.agg #[.int .i64 p, .slice a d cap], .slice al n cl] w fun e w' => e = .returned (.int .i64 (codeVR p qs rows)) ∧ Ext w w' := by
  have Hr := Lib.hid hr
  clear hr
  by_cases hc : codeV p qs rows = 0
  · have HC := Lib.hid hc
    have hcb : ((0 : Int) != 0) = false := by simp
    by_cases h16 : n ≤ 16
    · have HF := Lib.hid (show codeVR p qs rows = 0 by simp [codeVR, hc, hx.1, h16])
      clear hc
      go_enter Try.func132, Try.ntmps132
      go_wp2_with (go_at_call 76; refine (c_checkVectors p a d cap qs al n cl rows _ hd hl Hr.out (hq.ext (ext_alloc _ _)) (hx.ext (ext_alloc _ _))).mono ?_; rintro e w1 ⟨rfl, g1⟩; rw [HC.out])
      go_ret
      exact ⟨ret_int HF.out.symm, (ext_alloc _ _).trans g1⟩
    · have HF := Lib.hid (show codeVR p qs rows = 2 by simp [codeVR, hc, hx.1, h16])
      clear hc
      go_enter Try.func132, Try.ntmps132
      go_wp2_with (go_at_call 76; refine (c_checkVectors p a d cap qs al n cl rows _ hd hl Hr.out (hq.ext (ext_alloc _ _)) (hx.ext (ext_alloc _ _))).mono ?_; rintro e w1 ⟨rfl, g1⟩; rw [HC.out])
      go_ret
      exact ⟨ret_int HF.out.symm, (ext_alloc _ _).trans g1⟩
  · have HF := Lib.hid (show codeVR p qs rows = codeV p qs rows by simp [codeVR, hc])
    have hcb : (codeV p qs rows != 0) = true := by simp [hc]
    clear hc
    go_enter Try.func132, Try.ntmps132
    go_wp2_with (go_at_call 76; refine (c_checkVectors p a d cap qs al n cl rows _ hd hl Hr.out (hq.ext (ext_alloc _ _)) (hx.ext (ext_alloc _ _))).mono ?_; rintro e w1 ⟨rfl, g1⟩)
    go_ret
    exact ⟨ret_int HF.out.symm, (ext_alloc _ _).trans g1⟩

set_option maxHeartbeats 400000 in
theorem s_isVector (p : Int) (a : Option Addr) (d cap : Nat) (ax : Option Addr) (n cx : Nat) (xs : List Int) (w : World) (hp1 : 1 ≤ p) (hp2 : p ≤ 1000) (hl : n ≤ 4194304) (hx : RdC w ax n xs) :
    Calls Try.prog 74 #[.agg #[.int .i64 p, .slice a d cap], .slice ax n cx] w fun e w' => e = .returned (.bool (vecB p d xs)) ∧ Ext w w' := by
  by_cases hc : n = d
  · have HF := Lib.hid (show vecB p d xs = isB p xs by simp [vecB, hx.1, hc])
    have hcb : ((n : Int) == (d : Int)) = true := by simp [hc]
    clear hc
    go_enter Try.func74, Try.ntmps74
    go_wp2_with (go_at_call 141; refine (s_numbers _ _ _ _ _ _ hp1 hp2 hl (hx.ext (ext_alloc _ _))).mono ?_; rintro e w3 ⟨rfl, h3⟩)
    go_ret
    exact ⟨ret_bool HF.out.symm, (ext_alloc _ _).trans h3⟩
  · have HF := Lib.hid (show vecB p d xs = false by simp [vecB, hx.1, hc])
    have hcb : ((n : Int) == (d : Int)) = false := by simp; omega
    go_enter Try.func74, Try.ntmps74
    go_wp2_with (fail)
    go_ret
    exact ⟨ret_bool HF.out.symm, ext_alloc _ _⟩

theorem allV_false {p : Int} {d n k : Nat} {rows : List (List Int)} (hn : rows.length = n) (hk : k < n) (h : vecB p d (nthR rows k) = false) : rows.all (vecB p d) = false := by
  rw [List.all_eq_false]
  subst hn
  exact ⟨rows[k], List.getElem_mem hk, by rw [nthR_eq hk] at h; simp [h]⟩
theorem allV_true {p : Int} {d n : Nat} {rows : List (List Int)} (hn : rows.length = n) (h : ∀ j, j < n → vecB p d (nthR rows j) = true) : rows.all (vecB p d) = true := by
  rw [List.all_eq_true]
  intro x hx
  obtain ⟨i, hi, rfl⟩ := List.getElem_of_mem hx
  have := h i (by omega)
  rwa [nthR_eq hi] at this

set_option maxHeartbeats 1000000 in
theorem s_isList (p : Int) (a : Option Addr) (d cap : Nat) (al : Option Addr) (n cl : Nat) (rows : List (List Int)) (w : World) (hp1 : 1 ≤ p) (hp2 : p ≤ 1000) (hl : n ≤ 4194304) (hr : ∀ i, i < n → (nthR rows i).length ≤ 4194304) (hx : RdR w al n rows) :
    Calls Try.prog 187 #[.agg #[.int .i64 p, .slice a d cap], .slice al n cl] w fun e w' => e = .returned (.bool (rows.all (vecB p d) && decide (rows.length ≤ 16))) ∧ Ext w w' := by
  have HL := Lib.hid hx.1
  have HR := Lib.hid hx.2
  have Hr := Lib.hid hr
  clear hx hr
  obtain ⟨W, hW⟩ : ∃ W, W = w.alloc (.cells #[.int .i64 p, .slice a d cap] 26) := ⟨_, rfl⟩
  have gW : Ext w W := by rw [hW]; exact ext_alloc _ _
  have hs0 : W.cell? ⟨w.heap.size, 0, none⟩ = some (.int .i64 p) := by rw [hW]; simp
  have hs1 : W.cell? ⟨w.heap.size, 1, none⟩ = some (.slice a d cap) := by rw [hW]; simp
  have HS0 := Lib.hid (hs0)
  have HS1 := Lib.hid (hs1)
  have GW := Lib.hid (gW)
  have HW := Lib.hid hW
  clear hs0 hs1 gW hW
  go_enter Try.func187, Try.ntmps187
  go_wp2_with (fail)
  rw [← HW.out]
  go_loopw [5] (fun i wr => ∃ k : Nat, k ≤ n ∧ i = .int .i64 k ∧ Hid (∀ j, j < k → vecB p d (nthR rows j) = true) ∧ Ext W wr) (fun i _ => n - (intOf i).toNat)
  case atStart => exact ⟨0, Nat.zero_le _, rfl, Lib.hid (fun j hj => by omega), Ext.refl _⟩
  case round =>
    obtain ⟨k, hk, rfl, HT, hext⟩ := hrel
    have HExt := Lib.hid hext
    clear hext
    by_cases hlt : k < n
    · obtain ⟨b, off, ai, ci, rfl, hc, hrow⟩ := HR.out k hlt
      have g2 := GW.out.trans HExt.out
      have HRow := Lib.hid (hrow.ext g2)
      have Hc0 := Lib.hid ((g2.trans (ext_drew _)).cell hc)
      have Hq0 := Lib.hid ((HExt.out.trans (ext_drew _)).cell HS0.out)
      have Hq1 := Lib.hid ((HExt.out.trans (ext_drew _)).cell HS1.out)
      have G2 := Lib.hid g2
      clear hc hrow g2
      have hl0 := Hr.out k hlt
      cases hb : vecB p d (nthR rows k)
      all_goals
        have HB := Lib.hid hb
        clear hb
        go_wp2_with (fail)
        refine wp_region_lex [(5, .val (.bool (vecB p d (nthR rows k))))] (by kernel_rfl) (by kernel_rfl) ?_
        repeat' first | (refine LexW.pure (v := ?_) rfl rfl (fun w1 he => ?_) ?_; rotate_left; ( have hc0 := he.cell Hc0.out; have hq0 := he.cell Hq0.out; have hq1 := he.cell Hq1.out; go_simp; rfl); simp only [Act.put, List.setIfInBounds_toArray, List.set_cons_zero, List.set_cons_succ]) | (refine LexW.call (f := ?_) (args := ?_) rfl rfl (fun w1 => ?_) (fun w1 he hdep => ?_) ?_; rotate_left 2; (go_simp; refine ⟨?_, ?_⟩ <;> rfl); ( have H := s_isVector p a d cap ai _ ci (nthR rows k) w1 hp1 hp2 hl0 (HRow.out.ext ((ext_drew _).trans he)); exact H); simp only [Act.put, List.setIfInBounds_toArray, List.set_cons_zero, List.set_cons_succ])
        refine LexW.nil (fun w2 he hk => ?_)
        have X2 := Lib.hid (HExt.out.trans ((ext_drew _).trans he))
        clear he hk
        rw [HB.out]
        go_wp2_with (fail)
      · go_ret
        refine ⟨ret_bool ?_, GW.out.trans X2.out⟩
        rw [allV_false HL.out hlt HB.out]; rfl
      · go_roundw
        case rel => exact ⟨k + 1, by omega, by go_num, Lib.hid (fun j hj => by
          by_cases hjk : j = k
          · subst hjk; exact HB.out
          · exact HT.out j (by omega)), X2.out⟩
        case measure => simp [intOf]; omega
    · by_cases h16 : n ≤ 16
      · go_wp2_with (fail)
        go_ret
        refine ⟨ret_bool ?_, GW.out.trans HExt.out⟩
        rw [allV_true HL.out (fun j hj => HT.out j (by omega)), HL.out, Bool.true_and, Bool.eq_iff_iff]; simp; omega
      · go_wp2_with (fail)
        go_ret
        refine ⟨ret_bool ?_, GW.out.trans HExt.out⟩
        rw [allV_true HL.out (fun j hj => HT.out j (by omega)), HL.out, Bool.true_and, Bool.eq_iff_iff]; simp; omega

set_option maxHeartbeats 400000 in
theorem s_list (p : Int) (a : Option Addr) (d cap : Nat) (qs : List Int) (al : Option Addr) (n cl : Nat) (rows : List (List Int)) (w : World) (hd : d ≤ 4194304) (hl : n ≤ 4194304) (hr : ∀ i, i < n → (nthR rows i).length ≤ 4194304)
    (hq : RdC w a d qs) (hx : RdR w al n rows) :
    Calls Try.prog 134 #[.agg #[.int .i64 p, .slice a d cap], .slice al n cl] w fun e w' => e = .returned (.int .i64 (codeVR p qs rows)) ∧ Ext w w' := by
  have Hr := Lib.hid hr
  clear hr
  cases hs : spaceB p qs
  · have HS := Lib.hid hs
    have HC := Lib.hid (codeVR_space (rows := rows) hs)
    clear hs
    go_enter Try.func134, Try.ntmps134
    go_wp2_with (go_at_call 73; refine (s_is _ _ _ _ _ _ hd (hq.ext (ext_alloc _ _))).mono ?_; rintro e w1 ⟨rfl, g1⟩; rw [HS.out]; have hcc := Ext.cells g1)
    go_ret
    exact ⟨ret_int HC.out.symm, (ext_alloc _ _).trans g1⟩
  · obtain ⟨hp, hd1, hd6, _⟩ := space_of hs
    have hpb := prime_bd hp
    have HS := Lib.hid hs
    have HC := Lib.hid (codeVR_of (rows := rows) hs)
    have hdq := hq.1
    rw [hdq] at HC
    clear hs hp hd1 hd6 hdq
    cases hb : (rows.all (vecB p d) && decide (rows.length ≤ 16))
    all_goals
      have HB := Lib.hid hb
      clear hb
      go_enter Try.func134, Try.ntmps134
      go_wp2_with (first | (go_at_call 73; refine (s_is _ _ _ _ _ _ hd (hq.ext (ext_alloc _ _))).mono ?_; rintro e w1 ⟨rfl, g1⟩; rw [HS.out]; have hcc := Ext.cells g1) | (go_at_call 187; refine (s_isList p a d cap al n cl rows _ (by omega) (by omega) hl Hr.out (hx.ext ((ext_alloc _ _).trans g1))).mono ?_; rintro e w2 ⟨rfl, g2⟩; rw [HB.out]))
      go_ret
      refine ⟨ret_int ?_, (ext_alloc _ _).trans (g1.trans g2)⟩
      rw [HC.out, HB.out]; rfl

def wedgeL (p : Int) (qs : List Int) (rows : List (List Int)) (n : Nat) : List Int := prodS p qs tkW rows n
set_option maxHeartbeats 400000 in
theorem c_WedgeOfVectors_bad (p : Int) (a : Option Addr) (d cap : Nat) (qs : List Int) (ax1 : Option Addr) (n1 cx1 : Nat) (xs1 : List (List Int)) (w : World) (hd : d ≤ 4194304) (hn1 : n1 ≤ 4194304) (hr1 : ∀ i, i < n1 → (nthR xs1 i).length ≤ 4194304) (hq : RdC w a d qs) (hx1 : RdR w ax1 n1 xs1) (hc : codeVR p qs xs1 ≠ 0) :
    Calls Try.prog 65 #[.agg #[.int .i64 p, .slice a d cap], .slice ax1 n1 cx1] w fun e w' => ∃ ra rc, e = .returned (.tuple #[.slice ra 0 rc, .int .i64 (codeVR p qs xs1)]) ∧ OwnC w.heap.size w' ra 0 rc [] ∧ Ext w w' := by
  have Hr := Lib.hid hr1
  have hcb : (codeVR p qs xs1 != 0) = true := by simp [hc]
  clear hc hr1
  go_enter Try.func65, Try.ntmps65
  go_wp2_with (go_at_call 132; refine (c_checkList p a d cap qs ax1 n1 cx1 xs1 _ hd hn1 Hr.out (hq.ext (ext_alloc _ _)) (hx1.ext (ext_alloc _ _))).mono ?_; rintro e w1 ⟨rfl, g1⟩)
  go_ret2
  exact ⟨none, 0, rfl, own_nil _ _, (ext_alloc _ _).trans g1⟩
set_option maxHeartbeats 1000000 in
theorem c_WedgeOfVectors_ok (p : Int) (a : Option Addr) (d cap : Nat) (qs : List Int) (ax1 : Option Addr) (n1 cx1 : Nat) (xs1 : List (List Int)) (w : World) (hd : d ≤ 4194304) (hn1 : n1 ≤ 4194304) (hr1 : ∀ i, i < n1 → (nthR xs1 i).length ≤ 4194304) (hq : RdC w a d qs) (hx1 : RdR w ax1 n1 xs1) (hc : codeVR p qs xs1 = 0) :
    Calls Try.prog 65 #[.agg #[.int .i64 p, .slice a d cap], .slice ax1 n1 cx1] w fun e w' => ∃ ra rc, e = .returned (.tuple #[.slice ra (2 ^ d) rc, .int .i64 0]) ∧ OwnC w.heap.size w' ra (2 ^ d) rc (wedgeL p qs xs1 n1) ∧ Ext w w' := by
  obtain ⟨N, hN⟩ : ∃ N, N = 2 ^ d := ⟨_, rfl⟩
  rw [← hN]
  obtain ⟨hs, ha, _⟩ := codeVR_zero hc
  obtain ⟨hpr, hd1, hd6, hqb⟩ := space_of hs
  have hpb := prime_bd hpr
  rw [hq.1] at hd6 ha
  have HG := Lib.hid (rows_good ha)
  have HQB := Lib.hid hqb
  have HN := Lib.hid hN
  have HC := Lib.hid hc
  have Hr := Lib.hid hr1
  have hcb : ((0 : Int) != 0) = false := by simp
  clear hc hr1 hs ha hpr hd1 hqb hN
  go_enter Try.func65, Try.ntmps65
  go_wp2_with (first | (go_at_call 132; refine (c_checkList p a d cap qs ax1 n1 cx1 xs1 _ hd hn1 Hr.out (hq.ext (ext_alloc _ _)) (hx1.ext (ext_alloc _ _))).mono ?_; rintro e w1 ⟨rfl, g1⟩; rw [HC.out]; have hcc := Ext.cells g1) | (go_at_call 133; refine (c_wedgeAll HN.out p a cap qs ax1 n1 cx1 xs1 _ (by omega) (by omega) (by omega) hn1 (hq.ext ((ext_alloc _ _).trans g1)) HQB.out (hx1.ext ((ext_alloc _ _).trans g1)) HG.out).mono ?_; rintro e w2 ⟨g, rfl, ho, g2⟩; have HO := Lib.hid ho; have G2 := Lib.hid (((ext_alloc _ _).trans g1).trans g2); have HB := Lib.hid (((ext_alloc _ _).trans g1).size); clear ho g2))
  go_ret2
  exact ⟨_, _, rfl, HO.out.mono HB.out, G2.out⟩
set_option maxHeartbeats 400000 in
theorem s_WedgeOfVectors_bad (p : Int) (a : Option Addr) (d cap : Nat) (qs : List Int) (ax1 : Option Addr) (n1 cx1 : Nat) (xs1 : List (List Int)) (w : World) (hd : d ≤ 4194304) (hn1 : n1 ≤ 4194304) (hr1 : ∀ i, i < n1 → (nthR xs1 i).length ≤ 4194304) (hq : RdC w a d qs) (hx1 : RdR w ax1 n1 xs1) (hc : codeVR p qs xs1 ≠ 0) :
    Calls Try.prog 66 #[.agg #[.int .i64 p, .slice a d cap], .slice ax1 n1 cx1] w fun e w' => ∃ ra rc, e = .returned (.tuple #[.slice ra 0 rc, .int .i64 (codeVR p qs xs1)]) ∧ OwnC w.heap.size w' ra 0 rc [] ∧ Ext w w' := by
  have Hr := Lib.hid hr1
  have hcb : (codeVR p qs xs1 != 0) = true := by simp [hc]
  clear hc hr1
  go_enter Try.func66, Try.ntmps66
  go_wp2_with (go_at_call 134; refine (s_list p a d cap qs ax1 n1 cx1 xs1 _ hd hn1 Hr.out (hq.ext (ext_alloc _ _)) (hx1.ext (ext_alloc _ _))).mono ?_; rintro e w1 ⟨rfl, g1⟩)
  go_ret2
  exact ⟨none, 0, rfl, own_nil _ _, (ext_alloc _ _).trans g1⟩
set_option maxHeartbeats 1000000 in
theorem s_WedgeOfVectors_ok (p : Int) (a : Option Addr) (d cap : Nat) (qs : List Int) (ax1 : Option Addr) (n1 cx1 : Nat) (xs1 : List (List Int)) (w : World) (hd : d ≤ 4194304) (hn1 : n1 ≤ 4194304) (hr1 : ∀ i, i < n1 → (nthR xs1 i).length ≤ 4194304) (hq : RdC w a d qs) (hx1 : RdR w ax1 n1 xs1) (hc : codeVR p qs xs1 = 0) :
    Calls Try.prog 66 #[.agg #[.int .i64 p, .slice a d cap], .slice ax1 n1 cx1] w fun e w' => ∃ ra rc, e = .returned (.tuple #[.slice ra (2 ^ d) rc, .int .i64 0]) ∧ OwnC w.heap.size w' ra (2 ^ d) rc (wedgeL p qs xs1 n1) ∧ Ext w w' := by
  obtain ⟨N, hN⟩ : ∃ N, N = 2 ^ d := ⟨_, rfl⟩
  rw [← hN]
  obtain ⟨hs, ha, _⟩ := codeVR_zero hc
  obtain ⟨hpr, hd1, hd6, hqb⟩ := space_of hs
  have hpb := prime_bd hpr
  rw [hq.1] at hd6 ha
  have HG := Lib.hid (rows_good ha)
  have HQB := Lib.hid hqb
  have HN := Lib.hid hN
  have HC := Lib.hid hc
  have Hr := Lib.hid hr1
  have hcb : ((0 : Int) != 0) = false := by simp
  clear hc hr1 hs ha hpr hd1 hqb hN
  go_enter Try.func66, Try.ntmps66
  go_wp2_with (first | (go_at_call 134; refine (s_list p a d cap qs ax1 n1 cx1 xs1 _ hd hn1 Hr.out (hq.ext (ext_alloc _ _)) (hx1.ext (ext_alloc _ _))).mono ?_; rintro e w1 ⟨rfl, g1⟩; rw [HC.out]; have hcc := Ext.cells g1) | (go_at_call 135; refine (s_wedgeAll HN.out p a cap qs ax1 n1 cx1 xs1 _ (by omega) (by omega) (by omega) hn1 (hq.ext ((ext_alloc _ _).trans g1)) HQB.out (hx1.ext ((ext_alloc _ _).trans g1)) HG.out).mono ?_; rintro e w2 ⟨g, rfl, ho, g2⟩; have HO := Lib.hid ho; have G2 := Lib.hid (((ext_alloc _ _).trans g1).trans g2); have HB := Lib.hid (((ext_alloc _ _).trans g1).size); clear ho g2))
  go_ret2
  exact ⟨_, _, rfl, HO.out.mono HB.out, G2.out⟩
end Go.Proofs.Ytbgnfjckbjmgbaa

/-
  Products and norms of vectors.
  No condition.
-/
namespace Go.Proofs.Ytbgnfjckbjmgbaa
set_option maxRecDepth 100000
open Go.RowKit

/-- The sum of the first k products. -/
def dotS (x y : List Int) : Nat → Int
  | 0 => 0
  | k + 1 => dotS x y k + nth x k * nth y k
theorem dotS_bd {p : Int} {n : Nat} {x y : List Int} (hp : p ≤ 1000) (hx : Good p n x) (hy : Good p n y) : ∀ k, k ≤ n → 0 ≤ dotS x y k ∧ dotS x y k ≤ 1000000 * k
  | 0, _ => by simp [dotS]
  | k + 1, hk => by
    have ih := dotS_bd hp hx hy k (by omega)
    have h1 := hx.2 k (by omega)
    have h2 := hy.2 k (by omega)
    have h3 := mul_bd hp h1.1 h1.2 h2.1 h2.2
    simp only [dotS, Int.natCast_add]
    omega
def dotL (p : Int) (x y : List Int) (n : Nat) : Int := dotS x y n % p
def wtN (p : Int) (qs v : List Int) (i : Nat) : Int := (nth v i * nth qs i) % p
def wtL (p : Int) (qs v : List Int) (n : Nat) : List Int := (List.range n).map (wtN p qs v)
theorem wtL_succ (p : Int) (qs v : List Int) (n : Nat) : wtL p qs v (n + 1) = wtL p qs v n ++ [wtN p qs v n] := by simp [wtL, List.range_succ]
theorem wtL_nth {p : Int} {qs v : List Int} {n i : Nat} (h : i < n) : nth (wtL p qs v n) i = wtN p qs v i := by
  unfold wtL; rw [nth_map (by simpa using h)]; simp
theorem wt_good {p : Int} {qs v : List Int} {n : Nat} (hp : 1 ≤ p) : Good p n (wtL p qs v n) := ⟨by simp [wtL], fun i hi => by
  rw [wtL_nth hi]; exact ⟨Int.emod_nonneg _ (by omega), Int.emod_lt_of_pos _ (by omega)⟩⟩
/-- The product of two vectors. -/
def pairL (p : Int) (qs v w : List Int) (n : Nat) : Int := dotL p (wtL p qs v n) w n
theorem pairL_bd {p : Int} {qs v w : List Int} {n : Nat} (hp : 1 ≤ p) : 0 ≤ pairL p qs v w n ∧ pairL p qs v w n < p := ⟨Int.emod_nonneg _ (by omega), Int.emod_lt_of_pos _ (by omega)⟩
/-- As the reference sums it. -/
def pairS (p : Int) (qs v w : List Int) : Nat → Int
  | 0 => 0
  | k + 1 => (pairS p qs v w k + nth v k * nth w k % p * nth qs k) % p
theorem dotS_congr {p : Int} {x x' y : List Int} : ∀ k, (∀ i, i < k → nth x i % p = nth x' i % p) → dotS x y k % p = dotS x' y k % p
  | 0, _ => rfl
  | k + 1, h => by
    simp only [dotS]
    rw [Int.add_emod, dotS_congr k (fun i hi => h i (by omega)), Int.mul_emod, h k (by omega), ← Int.mul_emod, ← Int.add_emod]
theorem pairS_eq {p : Int} {qs v w : List Int} {n : Nat} : ∀ k, k ≤ n → pairS p qs v w k = dotS (wtL p qs v n) w k % p
  | 0, _ => by simp [pairS, dotS]
  | k + 1, hk => by
    simp only [pairS, dotS]
    rw [pairS_eq k (by omega) (n := n), wtL_nth (by omega), wtN, Int.emod_add_emod, Int.add_emod, Int.add_emod (dotS _ _ _)]
    congr 1
    congr 1
    rw [Int.mul_emod, Int.emod_emod, ← Int.mul_emod, Int.mul_emod (_ % p), Int.emod_emod, ← Int.mul_emod]
    congr 1
    ac_rfl
theorem pairS_bd {p : Int} {qs v w : List Int} (hp : 1 ≤ p) : ∀ k, 0 ≤ pairS p qs v w k ∧ pairS p qs v w k < p
  | 0 => by simp only [pairS]; omega
  | k + 1 => ⟨Int.emod_nonneg _ (by omega), Int.emod_lt_of_pos _ (by omega)⟩

set_option maxHeartbeats 1000000 in
theorem c_dot (p : Int) (ax ay : Option Addr) (n cx cy : Nat) (x y : List Int) (w : World) (hp1 : 1 ≤ p) (hp2 : p ≤ 1000) (hn : n ≤ 1048576) (hx : RdC w ax n x) (hy : RdC w ay n y) (hgx : Good p n x) (hgy : Good p n y) :
    Calls Try.prog 145 #[.int .i64 p, .slice ax n cx, .slice ay n cy] w fun e w' => e = .returned (.int .i64 (dotL p x y n)) ∧ Ext w w' := by
  have HX := Lib.hid hx
  have HY := Lib.hid hy
  have HB := Lib.hid (fun k (hk : k ≤ n) => dotS_bd hp2 hgx hgy k hk)
  have HGX := Lib.hid hgx
  have HGY := Lib.hid hgy
  clear hx hy hgx hgy
  go_enter Try.func145, Try.ntmps145
  go_wp2_with (fail)
  go_loop [7, 12] (fun s i => ∃ (j : Nat) (z : Int), j ≤ n ∧ i = .int .i64 j ∧ s = .int .i64 z ∧ Hid (z = dotS x y j)) (fun _ i => n - (intOf i).toNat)
  case atStart => exact ⟨0, 0, Nat.zero_le _, rfl, rfl, Lib.hid rfl⟩
  case round =>
    obtain ⟨j, z, hj, rfl, rfl, HZ⟩ := hrel
    by_cases hlt : j < n
    · obtain ⟨bx, ox, rfl, hcx⟩ := HX.out.2 j hlt
      obtain ⟨by', oy, rfl, hcy⟩ := HY.out.2 j hlt
      have hbx := HGX.out.2 j hlt
      have hby := HGY.out.2 j hlt
      have hm := mul_bd hp2 hbx.1 hbx.2 hby.1 hby.2
      have hz := HB.out j hj
      rw [← HZ.out] at hz
      have hw1 : IntKind.i64.wrap (nth x j * nth y j) = nth x j * nth y j := IntWalk.i64_in _ (by omega)
      have hw2 : IntKind.i64.wrap (z + nth x j * nth y j) = z + nth x j * nth y j := IntWalk.i64_in _ (by omega)
      have HS : Hid (z + nth x j * nth y j = dotS x y (j + 1)) := Lib.hid (by simp only [dotS]; rw [HZ.out])
      clear hm hz
      go_wp2_with (fail)
      go_round
      case rel => exact ⟨j + 1, _, by omega, by go_num, rfl, HS⟩
      case measure => simp [intOf]; omega
    · obtain rfl : j = n := by omega
      have HR := Lib.hid (show z % p = dotL p x y j by unfold dotL; rw [HZ.out])
      go_wp2_with (go_at_call 154; refine (c_num _ _ _ hp1 hp2).mono ?_; rintro e w2 ⟨rfl, g2⟩; rw [HR.out])
      go_ret
      exact ⟨rfl, g2⟩

set_option maxHeartbeats 1000000 in
theorem c_weighted (p : Int) (a : Option Addr) (d cap : Nat) (qs : List Int) (av : Option Addr) (cv : Nat) (v : List Int) (w : World) (hp1 : 3 ≤ p) (hp2 : p ≤ 1000) (hd : d ≤ 1048576) (hq : RdC w a d qs) (hqb : isB p qs = true) (hv : RdC w av d v) (hg : Good p d v) :
    Calls Try.prog 146 #[.agg #[.int .i64 p, .slice a d cap], .slice av d cv] w fun e w' => ∃ g rc, e = .returned (.slice (some ⟨g, 0, none⟩) d rc) ∧ OwnC w.heap.size w' (some ⟨g, 0, none⟩) d rc (wtL p qs v d) ∧ Ext w w' := by
  have HQ := Lib.hid hq
  have HV := Lib.hid hv
  have HG := Lib.hid hg
  have HGQ := Lib.hid (good_isB hq.1 hqb)
  clear hq hv hg hqb
  obtain ⟨W, hW⟩ : ∃ W, W = w.alloc (.cells #[.int .i64 p, .slice a d cap] 26) := ⟨_, rfl⟩
  have gW : Ext w W := by rw [hW]; exact ext_alloc _ _
  have hs0 : W.cell? ⟨w.heap.size, 0, none⟩ = some (.int .i64 p) := by rw [hW]; simp
  have hs1 : W.cell? ⟨w.heap.size, 1, none⟩ = some (.slice a d cap) := by rw [hW]; simp
  have HS0 := Lib.hid (hs0)
  have HS1 := Lib.hid (hs1)
  have GW := Lib.hid (gW)
  have HW := Lib.hid hW
  clear hs0 hs1 gW hW
  go_enter Try.func146, Try.ntmps146
  go_wp2_with (fail)
  rw [← HW.out]
  go_wp2_with (fail)
  go_loopw [5, 11] (fun s i wr => ∃ (j g rc : Nat), j ≤ d ∧ i = .int .i64 j ∧ s = .slice (some ⟨g, 0, none⟩) j rc ∧ OwnC W.heap.size wr (some ⟨g, 0, none⟩) j rc (wtL p qs v j) ∧ Ext W wr) (fun _ i _ => d - (intOf i).toNat)
  case atStart => exact ⟨0, _, _, Nat.zero_le _, rfl, rfl, by have h := own_empty W; have hz : w.heap.size + 1 = W.heap.size := by rw [HW.out]; simp
                                                              rw [hz]; exact h, ext_alloc _ _⟩
  case round =>
    obtain ⟨j, g, rc, hj, rfl, rfl, hown, hext⟩ := hrel
    have HOwn := Lib.hid hown
    have HExt := Lib.hid hext
    clear hown hext
    by_cases hlt : j < d
    · obtain ⟨bv, ov, rfl, hcv⟩ := HV.out.2 j hlt
      obtain ⟨bq, oq, rfl, hcq⟩ := HQ.out.2 j hlt
      have hcv' := (GW.out.trans HExt.out).cell hcv
      have HCq := Lib.hid ((GW.out.trans (HExt.out.trans (ext_drew _))).cell hcq)
      have HT0 := Lib.hid ((HExt.out.trans (ext_drew _)).cell HS0.out)
      have HT1 := Lib.hid ((HExt.out.trans (ext_drew _)).cell HS1.out)
      have hbv := HG.out.2 j hlt
      have hbq := HGQ.out.2 j hlt
      have hm := mul_bd hp2 hbv.1 hbv.2 hbq.1 hbq.2
      have HW1 : Hid (IntKind.i64.wrap (nth v j * nth qs j) = nth v j * nth qs j) := Lib.hid (IntWalk.i64_in _ (by omega))
      clear hcv hcq hm hbv hbq
      go_wp2_with (fail)
      clear hcv'
      refine wp_region_lex_tail 12 [(11, .one (wtN p qs v j)), (2, .val (.int .i64 p)), (10, .val (.int .i64 (wtN p qs v j)))] (by kernel_rfl) (by kernel_rfl) ?_
      simp only [List.take, List.drop]
      (refine LexW.pure (v := ?_) rfl rfl (fun w1 he => ?_) ?_; rotate_left; ( have e1 := he.cell HT0.out; have e2 := he.cell HT1.out; have e3 := he.cell HCq.out; have e4 := HW1.out; go_simp; rfl); simp only [Act.put, List.setIfInBounds_toArray, List.set_cons_zero, List.set_cons_succ])
      (refine LexW.pure (v := ?_) rfl rfl (fun w1 he => ?_) ?_; rotate_left; ( have e1 := he.cell HT0.out; have e2 := he.cell HT1.out; have e3 := he.cell HCq.out; have e4 := HW1.out; go_simp; rfl); simp only [Act.put, List.setIfInBounds_toArray, List.set_cons_zero, List.set_cons_succ])
      (refine LexW.call (f := ?_) (args := ?_) rfl rfl (fun w1 => ?_) (fun w1 he hdep => ?_) ?_; rotate_left 2; (go_simp; refine ⟨?_, ?_⟩ <;> rfl); ( exact c_field p _ w1); simp only [Act.put, List.setIfInBounds_toArray, List.set_cons_zero, List.set_cons_succ])
      (refine LexW.pure (v := ?_) rfl rfl (fun w1 he => ?_) ?_; rotate_left; ( have e1 := he.cell HT0.out; have e2 := he.cell HT1.out; have e3 := he.cell HCq.out; have e4 := HW1.out; go_simp; rfl); simp only [Act.put, List.setIfInBounds_toArray, List.set_cons_zero, List.set_cons_succ])
      (refine LexW.pure (v := ?_) rfl rfl (fun w1 he => ?_) ?_; rotate_left; ( have e1 := he.cell HT0.out; have e2 := he.cell HT1.out; have e3 := he.cell HCq.out; have e4 := HW1.out; go_simp; rfl); simp only [Act.put, List.setIfInBounds_toArray, List.set_cons_zero, List.set_cons_succ])
      (refine LexW.pure (v := ?_) rfl rfl (fun w1 he => ?_) ?_; rotate_left; ( have e1 := he.cell HT0.out; have e2 := he.cell HT1.out; have e3 := he.cell HCq.out; have e4 := HW1.out; go_simp; rfl); simp only [Act.put, List.setIfInBounds_toArray, List.set_cons_zero, List.set_cons_succ])
      (refine LexW.pure (v := ?_) rfl rfl (fun w1 he => ?_) ?_; rotate_left; ( have e1 := he.cell HT0.out; have e2 := he.cell HT1.out; have e3 := he.cell HCq.out; have e4 := HW1.out; go_simp; rfl); simp only [Act.put, List.setIfInBounds_toArray, List.set_cons_zero, List.set_cons_succ])
      (refine LexW.pure (v := ?_) rfl rfl (fun w1 he => ?_) ?_; rotate_left; ( have e1 := he.cell HT0.out; have e2 := he.cell HT1.out; have e3 := he.cell HCq.out; have e4 := HW1.out; go_simp; rfl); simp only [Act.put, List.setIfInBounds_toArray, List.set_cons_zero, List.set_cons_succ])
      (refine LexW.pure (v := ?_) rfl rfl (fun w1 he => ?_) ?_; rotate_left; ( have e1 := he.cell HT0.out; have e2 := he.cell HT1.out; have e3 := he.cell HCq.out; have e4 := HW1.out; go_simp; rfl); simp only [Act.put, List.setIfInBounds_toArray, List.set_cons_zero, List.set_cons_succ])
      (refine LexW.pure (v := ?_) rfl rfl (fun w1 he => ?_) ?_; rotate_left; ( have e1 := he.cell HT0.out; have e2 := he.cell HT1.out; have e3 := he.cell HCq.out; have e4 := HW1.out; go_simp; rfl); simp only [Act.put, List.setIfInBounds_toArray, List.set_cons_zero, List.set_cons_succ])
      (refine LexW.call (f := ?_) (args := ?_) rfl rfl (fun w1 => ?_) (fun w1 he hdep => ?_) ?_; rotate_left 2; (go_simp; refine ⟨?_, ?_⟩ <;> rfl); ( exact c_num p (nth v j * nth qs j) w1 (by omega) hp2); simp only [Act.put, List.setIfInBounds_toArray, List.set_cons_zero, List.set_cons_succ])
      (refine LexW.rel rfl rfl (fun w1 he hdep => ?_) (fun v hv => ?_); ( exact ⟨.slice (some ⟨w1.heap.size, 0, none⟩) 1 1, w1.alloc (.cells #[.int .i64 (wtN p qs v j)] 2), (by go_simp), ext_alloc _ _, _, rfl, (by simp)⟩); simp only [Act.put, List.setIfInBounds_toArray, List.set_cons_zero, List.set_cons_succ])
      obtain ⟨_, g27, rfl, _⟩ := hv
      refine LexW.nil (fun w3 he hkn => ?_)
      obtain ⟨_, q27, r27⟩ : (SPred.one (wtN p qs v j)).holds (.slice (some ⟨g27, 0, none⟩) 1 1) w3 := hkn (11, _) (by simp)
      cases q27
      have X3 := Lib.hid ((ext_drew wr).trans he)
      have R27 := Lib.hid r27
      clear he hkn r27
      go_wp2_with (at_builtin; refine wpList_push rfl (.tmp 16) (.tmp 27) rfl rfl rfl (v := wtN p qs v j) (HOwn.out.ext X3.out) R27.out (by omega) (HExt.out.trans X3.out).size ?hk)
      case hk =>
        intro g' cap' w4 ho4 hg4 he4
        have HO4 := Lib.hid ho4
        have HE4 := Lib.hid (he4 W (Nat.le_refl _) (HExt.out.trans X3.out))
        clear ho4 hg4 he4
        go_wp2_with (fail)
        go_roundw
        case rel => exact ⟨j + 1, g', cap', by omega, by go_num, rfl, by rw [wtL_succ]; exact HO4.out, HE4.out⟩
        case measure => simp [intOf]; omega
    · obtain rfl : j = d := by omega
      go_wp2_with (fail)
      go_ret
      exact ⟨g, rc, rfl, HOwn.out.mono GW.out.size, GW.out.trans HExt.out⟩

set_option maxHeartbeats 1000000 in
theorem c_pair (p : Int) (a : Option Addr) (d cap : Nat) (qs : List Int) (av : Option Addr) (cv : Nat) (v : List Int) (au : Option Addr) (cu : Nat) (u : List Int) (w : World) (hp1 : 3 ≤ p) (hp2 : p ≤ 1000) (hd : d ≤ 6) (hq : RdC w a d qs) (hqb : isB p qs = true) (hv : RdC w av d v) (hgv : Good p d v) (hu : RdC w au d u) (hgu : Good p d u) :
    Calls Try.prog 77 #[.agg #[.int .i64 p, .slice a d cap], .slice av d cv, .slice au d cu] w fun e w' => e = .returned (.int .i64 (pairL p qs v u d)) ∧ Ext w w' := by
  have HQ := Lib.hid hq
  have HQB := Lib.hid hqb
  have HV := Lib.hid hv
  have HGV := Lib.hid hgv
  have HU := Lib.hid hu
  have HGU := Lib.hid hgu
  clear hq hqb hv hgv hu hgu
  obtain ⟨W, hW⟩ : ∃ W, W = w.alloc (.cells #[.int .i64 p, .slice a d cap] 26) := ⟨_, rfl⟩
  have gW : Ext w W := by rw [hW]; exact ext_alloc _ _
  have hs0 : W.cell? ⟨w.heap.size, 0, none⟩ = some (.int .i64 p) := by rw [hW]; simp
  have hs1 : W.cell? ⟨w.heap.size, 1, none⟩ = some (.slice a d cap) := by rw [hW]; simp
  have HS0 := Lib.hid ((ext_drew _).cell hs0)
  have HS1 := Lib.hid ((ext_drew _).cell hs1)
  have GW := Lib.hid (gW.trans (ext_drew _))
  have HW := Lib.hid hW
  clear hs0 hs1 gW hW
  go_enter Try.func77, Try.ntmps77
  go_wp2_with (fail)
  rw [← HW.out]
  refine wp_region_lex [(1, .val (.int .i64 p)), (4, .ownS w.heap.size d (wtL p qs v d)), (6, .val (.int .i64 (pairL p qs v u d)))] (by kernel_rfl) (by kernel_rfl) ?_
  (refine LexW.pure (v := ?_) rfl rfl (fun w1 he => ?_) ?_; rotate_left; ( have e1 := he.cell HS0.out; have e2 := he.cell HS1.out; go_simp; rfl); simp only [Act.put, List.setIfInBounds_toArray, List.set_cons_zero, List.set_cons_succ])
  (refine LexW.call (f := ?_) (args := ?_) rfl rfl (fun w1 => ?_) (fun w1 he hdep => ?_) ?_; rotate_left 2; (go_simp; refine ⟨?_, ?_⟩ <;> rfl); ( exact c_field p _ w1); simp only [Act.put, List.setIfInBounds_toArray, List.set_cons_zero, List.set_cons_succ])
  (refine LexW.pure (v := ?_) rfl rfl (fun w1 he => ?_) ?_; rotate_left; ( have e1 := he.cell HS0.out; have e2 := he.cell HS1.out; go_simp; rfl); simp only [Act.put, List.setIfInBounds_toArray, List.set_cons_zero, List.set_cons_succ])
  (refine LexW.pure (v := ?_) rfl rfl (fun w1 he => ?_) ?_; rotate_left; ( have e1 := he.cell HS0.out; have e2 := he.cell HS1.out; go_simp; rfl); simp only [Act.put, List.setIfInBounds_toArray, List.set_cons_zero, List.set_cons_succ])
  (refine LexW.callR (f := ?_) (args := ?_) rfl rfl (fun w1 => ?_) (fun w1 he hdep => ?_) (fun v hv => ?_); rotate_left 2; (go_simp; refine ⟨?_, ?_⟩ <;> rfl); ( refine (c_weighted p a d cap qs av cv v w1 hp1 hp2 (by omega) (HQ.out.ext (GW.out.trans he)) HQB.out (HV.out.ext (GW.out.trans he)) HGV.out).mono ?_; rintro e w2 ⟨g, rc, rfl, ho, g2⟩; exact ⟨_, rfl, g2, g, rc, rfl, ho.mono (Nat.le_trans GW.out.size he.size)⟩); simp only [Act.put, List.setIfInBounds_toArray, List.set_cons_zero, List.set_cons_succ])
  obtain ⟨_, g11, c11, rfl, _⟩ := hv
  (refine LexW.pure (v := ?_) rfl rfl (fun w1 he => ?_) ?_; rotate_left; ( have e1 := he.cell HS0.out; have e2 := he.cell HS1.out; go_simp; rfl); simp only [Act.put, List.setIfInBounds_toArray, List.set_cons_zero, List.set_cons_succ])
  (refine LexW.call (f := ?_) (args := ?_) rfl rfl (fun w1 => ?_) (fun w1 he hdep => ?_) ?_; rotate_left 2; (go_simp; refine ⟨?_, ?_⟩ <;> rfl); ( obtain ⟨_, _, q11, r11⟩ : (SPred.ownS w.heap.size d (wtL p qs v d)).holds (.slice (some ⟨g11, 0, none⟩) d c11) w1 := hdep (4, 11) (by decide +kernel); cases q11; exact c_dot p _ au d _ cu (wtL p qs v d) u w1 (by omega) hp2 (by omega) r11.rd (HU.out.ext (GW.out.trans he)) (wt_good (by omega)) HGU.out); simp only [Act.put, List.setIfInBounds_toArray, List.set_cons_zero, List.set_cons_succ])
  (refine LexW.pure (v := ?_) rfl rfl (fun w1 he => ?_) ?_; rotate_left; ( have e1 := he.cell HS0.out; have e2 := he.cell HS1.out; go_simp; rfl); simp only [Act.put, List.setIfInBounds_toArray, List.set_cons_zero, List.set_cons_succ])
  refine LexW.nil (fun w3 he hkn => ?_)
  have HE := Lib.hid (GW.out.trans he)
  clear he hkn 
  go_wp2_with (fail)
  go_ret
  exact ⟨rfl, HE.out⟩
set_option maxHeartbeats 400000 in
theorem c_norm (p : Int) (a : Option Addr) (d cap : Nat) (qs : List Int) (av : Option Addr) (cv : Nat) (v : List Int) (w : World) (hp1 : 3 ≤ p) (hp2 : p ≤ 1000) (hd : d ≤ 6) (hq : RdC w a d qs) (hqb : isB p qs = true) (hv : RdC w av d v) (hgv : Good p d v) :
    Calls Try.prog 81 #[.agg #[.int .i64 p, .slice a d cap], .slice av d cv] w fun e w' => e = .returned (.int .i64 (pairL p qs v v d)) ∧ Ext w w' := by
  have HQ := Lib.hid hq
  have HQB := Lib.hid hqb
  have HV := Lib.hid hv
  have HGV := Lib.hid hgv
  clear hq hqb hv hgv
  go_enter Try.func81, Try.ntmps81
  go_wp2_with (go_at_call 77; refine (c_pair p a d cap qs av cv v av cv v _ hp1 hp2 hd (HQ.out.ext (ext_alloc _ _)) HQB.out (HV.out.ext (ext_alloc _ _)) HGV.out (HV.out.ext (ext_alloc _ _)) HGV.out).mono ?_; rintro e w1 ⟨rfl, g1⟩)
  go_ret
  exact ⟨rfl, (ext_alloc _ _).trans g1⟩

set_option maxHeartbeats 2000000 in
theorem s_pair (p : Int) (a : Option Addr) (d cap : Nat) (qs : List Int) (av : Option Addr) (cv : Nat) (v : List Int) (au : Option Addr) (cu : Nat) (u : List Int) (w : World) (hp1 : 3 ≤ p) (hp2 : p ≤ 1000) (hd : d ≤ 6) (hq : RdC w a d qs) (hqb : isB p qs = true) (hv : RdC w av d v) (hgv : Good p d v) (hu : RdC w au d u) (hgu : Good p d u) :
    Calls Try.prog 75 #[.agg #[.int .i64 p, .slice a d cap], .slice av d cv, .slice au d cu] w fun e w' => e = .returned (.int .i64 (pairL p qs v u d)) ∧ Ext w w' := by
  have hpz : ¬ p = 0 := by omega
  have HQ := Lib.hid hq
  have HGQ := Lib.hid (good_isB hq.1 hqb)
  have HV := Lib.hid hv
  have HGV := Lib.hid hgv
  have HU := Lib.hid hu
  have HGU := Lib.hid hgu
  have HEnd := Lib.hid (pairS_eq (p := p) (qs := qs) (v := v) (w := u) d (Nat.le_refl d))
  have HBd := Lib.hid (fun k => pairS_bd (p := p) (qs := qs) (v := v) (w := u) (show 1 ≤ p by omega) k)
  clear hq hqb hv hgv hu hgu
  obtain ⟨W, hW⟩ : ∃ W, W = w.alloc (.cells #[.int .i64 p, .slice a d cap] 26) := ⟨_, rfl⟩
  have gW : Ext w W := by rw [hW]; exact ext_alloc _ _
  have hs0 : W.cell? ⟨w.heap.size, 0, none⟩ = some (.int .i64 p) := by rw [hW]; simp
  have hs1 : W.cell? ⟨w.heap.size, 1, none⟩ = some (.slice a d cap) := by rw [hW]; simp
  have HS0 := Lib.hid (hs0)
  have HS1 := Lib.hid (hs1)
  have GW := Lib.hid (gW)
  have HW := Lib.hid hW
  clear hs0 hs1 gW hW
  go_enter Try.func75, Try.ntmps75
  go_wp2_with (fail)
  rw [← HW.out]
  go_loopw [7, 8] (fun s i wr => ∃ (j : Nat) (z : Int), j ≤ d ∧ i = .int .i64 j ∧ s = .int .i64 z ∧ Hid (z = pairS p qs v u j) ∧ Ext W wr) (fun _ i _ => d - (intOf i).toNat)
  case atStart => exact ⟨0, 0, Nat.zero_le _, rfl, rfl, Lib.hid rfl, Ext.refl _⟩
  case round =>
    obtain ⟨j, z, hj, rfl, rfl, HZ, hext⟩ := hrel
    have HExt := Lib.hid hext
    clear hext
    by_cases hlt : j < d
    · obtain ⟨bv, ov, rfl, hcv⟩ := HV.out.2 j hlt
      obtain ⟨bu, ou, rfl, hcu⟩ := HU.out.2 j hlt
      obtain ⟨bq, oq, rfl, hcq⟩ := HQ.out.2 j hlt
      have GX := Lib.hid (GW.out.trans (HExt.out.trans (ext_drew wr)))
      have HCv := Lib.hid (GX.out.cell hcv)
      have HCu := Lib.hid (GX.out.cell hcu)
      have HCq := Lib.hid (GX.out.cell hcq)
      have HT0 := Lib.hid ((HExt.out.trans (ext_drew _)).cell HS0.out)
      have HT1 := Lib.hid ((HExt.out.trans (ext_drew _)).cell HS1.out)
      have hbv := HGV.out.2 j hlt
      have hbu := HGU.out.2 j hlt
      have hbq := HGQ.out.2 j hlt
      have hz := HBd.out j
      rw [← HZ.out] at hz
      have hm := mul_bd hp2 hbv.1 hbv.2 hbu.1 hbu.2
      obtain ⟨m1, hm1⟩ : ∃ m1, m1 = nth v j * nth u j % p := ⟨_, rfl⟩
      have hm1b : 0 ≤ m1 ∧ m1 < p := by rw [hm1]; exact ⟨Int.emod_nonneg _ (by omega), Int.emod_lt_of_pos _ (by omega)⟩
      have hm2 := mul_bd hp2 hm1b.1 hm1b.2 hbq.1 hbq.2
      obtain ⟨m2, hm2e⟩ : ∃ m2, m2 = (z + m1 * nth qs j) % p := ⟨_, rfl⟩
      have HW1 : Hid (IntKind.i64.wrap (nth v j * nth u j) = nth v j * nth u j) := Lib.hid (IntWalk.i64_in _ (by omega))
      have HW2 : Hid ((nth v j * nth u j).tmod p = m1) := Lib.hid (by rw [hm1]; exact Int.tmod_eq_emod_of_nonneg hm.1)
      have HW3 : Hid (IntKind.i64.wrap (m1 * nth qs j) = m1 * nth qs j) := Lib.hid (IntWalk.i64_in _ (by omega))
      have HW4 : Hid (IntKind.i64.wrap (z + m1 * nth qs j) = z + m1 * nth qs j) := Lib.hid (IntWalk.i64_in _ (by omega))
      have HW5 : Hid ((z + m1 * nth qs j).tmod p = m2) := Lib.hid (by rw [hm2e]; exact Int.tmod_eq_emod_of_nonneg (by omega))
      have HR : Hid (m2 = pairS p qs v u (j + 1)) := Lib.hid (by rw [hm2e, hm1, HZ.out]; rfl)
      clear hm hm1 hm1b hm2 hm2e hz hcv hcu hcq hbv hbu hbq
      go_wp2_with (fail)
      refine wp_region_lex [] (by kernel_rfl) (by kernel_rfl) ?_
      (refine LexW.pure (v := ?_) rfl rfl (fun w1 he => ?_) ?_; rotate_left; ( have e1 := he.cell HT0.out; have e2 := he.cell HT1.out; have e3 := he.cell HCv.out; have e4 := he.cell HCu.out; have e5 := he.cell HCq.out; have e6 := HW1.out; have e7 := HW2.out; have e8 := HW3.out; have e9 := HW4.out; have e10 := HW5.out; go_simp; rfl); simp only [Act.put, List.setIfInBounds_toArray, List.set_cons_zero, List.set_cons_succ])
      (refine LexW.pure (v := ?_) rfl rfl (fun w1 he => ?_) ?_; rotate_left; ( have e1 := he.cell HT0.out; have e2 := he.cell HT1.out; have e3 := he.cell HCv.out; have e4 := he.cell HCu.out; have e5 := he.cell HCq.out; have e6 := HW1.out; have e7 := HW2.out; have e8 := HW3.out; have e9 := HW4.out; have e10 := HW5.out; go_simp; rfl); simp only [Act.put, List.setIfInBounds_toArray, List.set_cons_zero, List.set_cons_succ])
      (refine LexW.pure (v := ?_) rfl rfl (fun w1 he => ?_) ?_; rotate_left; ( have e1 := he.cell HT0.out; have e2 := he.cell HT1.out; have e3 := he.cell HCv.out; have e4 := he.cell HCu.out; have e5 := he.cell HCq.out; have e6 := HW1.out; have e7 := HW2.out; have e8 := HW3.out; have e9 := HW4.out; have e10 := HW5.out; go_simp; rfl); simp only [Act.put, List.setIfInBounds_toArray, List.set_cons_zero, List.set_cons_succ])
      (refine LexW.pure (v := ?_) rfl rfl (fun w1 he => ?_) ?_; rotate_left; ( have e1 := he.cell HT0.out; have e2 := he.cell HT1.out; have e3 := he.cell HCv.out; have e4 := he.cell HCu.out; have e5 := he.cell HCq.out; have e6 := HW1.out; have e7 := HW2.out; have e8 := HW3.out; have e9 := HW4.out; have e10 := HW5.out; go_simp; rfl); simp only [Act.put, List.setIfInBounds_toArray, List.set_cons_zero, List.set_cons_succ])
      (refine LexW.pure (v := ?_) rfl rfl (fun w1 he => ?_) ?_; rotate_left; ( have e1 := he.cell HT0.out; have e2 := he.cell HT1.out; have e3 := he.cell HCv.out; have e4 := he.cell HCu.out; have e5 := he.cell HCq.out; have e6 := HW1.out; have e7 := HW2.out; have e8 := HW3.out; have e9 := HW4.out; have e10 := HW5.out; go_simp; rfl); simp only [Act.put, List.setIfInBounds_toArray, List.set_cons_zero, List.set_cons_succ])
      (refine LexW.pure (v := ?_) rfl rfl (fun w1 he => ?_) ?_; rotate_left; ( have e1 := he.cell HT0.out; have e2 := he.cell HT1.out; have e3 := he.cell HCv.out; have e4 := he.cell HCu.out; have e5 := he.cell HCq.out; have e6 := HW1.out; have e7 := HW2.out; have e8 := HW3.out; have e9 := HW4.out; have e10 := HW5.out; go_simp; rfl); simp only [Act.put, List.setIfInBounds_toArray, List.set_cons_zero, List.set_cons_succ])
      (refine LexW.pure (v := ?_) rfl rfl (fun w1 he => ?_) ?_; rotate_left; ( have e1 := he.cell HT0.out; have e2 := he.cell HT1.out; have e3 := he.cell HCv.out; have e4 := he.cell HCu.out; have e5 := he.cell HCq.out; have e6 := HW1.out; have e7 := HW2.out; have e8 := HW3.out; have e9 := HW4.out; have e10 := HW5.out; go_simp; rfl); simp only [Act.put, List.setIfInBounds_toArray, List.set_cons_zero, List.set_cons_succ])
      (refine LexW.pure (v := ?_) rfl rfl (fun w1 he => ?_) ?_; rotate_left; ( have e1 := he.cell HT0.out; have e2 := he.cell HT1.out; have e3 := he.cell HCv.out; have e4 := he.cell HCu.out; have e5 := he.cell HCq.out; have e6 := HW1.out; have e7 := HW2.out; have e8 := HW3.out; have e9 := HW4.out; have e10 := HW5.out; go_simp; rfl); simp only [Act.put, List.setIfInBounds_toArray, List.set_cons_zero, List.set_cons_succ])
      (refine LexW.pure (v := ?_) rfl rfl (fun w1 he => ?_) ?_; rotate_left; ( have e1 := he.cell HT0.out; have e2 := he.cell HT1.out; have e3 := he.cell HCv.out; have e4 := he.cell HCu.out; have e5 := he.cell HCq.out; have e6 := HW1.out; have e7 := HW2.out; have e8 := HW3.out; have e9 := HW4.out; have e10 := HW5.out; go_simp; rfl); simp only [Act.put, List.setIfInBounds_toArray, List.set_cons_zero, List.set_cons_succ])
      (refine LexW.pure (v := ?_) rfl rfl (fun w1 he => ?_) ?_; rotate_left; ( have e1 := he.cell HT0.out; have e2 := he.cell HT1.out; have e3 := he.cell HCv.out; have e4 := he.cell HCu.out; have e5 := he.cell HCq.out; have e6 := HW1.out; have e7 := HW2.out; have e8 := HW3.out; have e9 := HW4.out; have e10 := HW5.out; go_simp; rfl); simp only [Act.put, List.setIfInBounds_toArray, List.set_cons_zero, List.set_cons_succ])
      (refine LexW.pure (v := ?_) rfl rfl (fun w1 he => ?_) ?_; rotate_left; ( have e1 := he.cell HT0.out; have e2 := he.cell HT1.out; have e3 := he.cell HCv.out; have e4 := he.cell HCu.out; have e5 := he.cell HCq.out; have e6 := HW1.out; have e7 := HW2.out; have e8 := HW3.out; have e9 := HW4.out; have e10 := HW5.out; go_simp; rfl); simp only [Act.put, List.setIfInBounds_toArray, List.set_cons_zero, List.set_cons_succ])
      (refine LexW.pure (v := ?_) rfl rfl (fun w1 he => ?_) ?_; rotate_left; ( have e1 := he.cell HT0.out; have e2 := he.cell HT1.out; have e3 := he.cell HCv.out; have e4 := he.cell HCu.out; have e5 := he.cell HCq.out; have e6 := HW1.out; have e7 := HW2.out; have e8 := HW3.out; have e9 := HW4.out; have e10 := HW5.out; go_simp; rfl); simp only [Act.put, List.setIfInBounds_toArray, List.set_cons_zero, List.set_cons_succ])
      (refine LexW.pure (v := ?_) rfl rfl (fun w1 he => ?_) ?_; rotate_left; ( have e1 := he.cell HT0.out; have e2 := he.cell HT1.out; have e3 := he.cell HCv.out; have e4 := he.cell HCu.out; have e5 := he.cell HCq.out; have e6 := HW1.out; have e7 := HW2.out; have e8 := HW3.out; have e9 := HW4.out; have e10 := HW5.out; go_simp; rfl); simp only [Act.put, List.setIfInBounds_toArray, List.set_cons_zero, List.set_cons_succ])
      (refine LexW.pure (v := ?_) rfl rfl (fun w1 he => ?_) ?_; rotate_left; ( have e1 := he.cell HT0.out; have e2 := he.cell HT1.out; have e3 := he.cell HCv.out; have e4 := he.cell HCu.out; have e5 := he.cell HCq.out; have e6 := HW1.out; have e7 := HW2.out; have e8 := HW3.out; have e9 := HW4.out; have e10 := HW5.out; go_simp; rfl); simp only [Act.put, List.setIfInBounds_toArray, List.set_cons_zero, List.set_cons_succ])
      (refine LexW.pure (v := ?_) rfl rfl (fun w1 he => ?_) ?_; rotate_left; ( have e1 := he.cell HT0.out; have e2 := he.cell HT1.out; have e3 := he.cell HCv.out; have e4 := he.cell HCu.out; have e5 := he.cell HCq.out; have e6 := HW1.out; have e7 := HW2.out; have e8 := HW3.out; have e9 := HW4.out; have e10 := HW5.out; go_simp; rfl); simp only [Act.put, List.setIfInBounds_toArray, List.set_cons_zero, List.set_cons_succ])
      (refine LexW.pure (v := ?_) rfl rfl (fun w1 he => ?_) ?_; rotate_left; ( have e1 := he.cell HT0.out; have e2 := he.cell HT1.out; have e3 := he.cell HCv.out; have e4 := he.cell HCu.out; have e5 := he.cell HCq.out; have e6 := HW1.out; have e7 := HW2.out; have e8 := HW3.out; have e9 := HW4.out; have e10 := HW5.out; go_simp; rfl); simp only [Act.put, List.setIfInBounds_toArray, List.set_cons_zero, List.set_cons_succ])
      (refine LexW.pure (v := ?_) rfl rfl (fun w1 he => ?_) ?_; rotate_left; ( have e1 := he.cell HT0.out; have e2 := he.cell HT1.out; have e3 := he.cell HCv.out; have e4 := he.cell HCu.out; have e5 := he.cell HCq.out; have e6 := HW1.out; have e7 := HW2.out; have e8 := HW3.out; have e9 := HW4.out; have e10 := HW5.out; go_simp; rfl); simp only [Act.put, List.setIfInBounds_toArray, List.set_cons_zero, List.set_cons_succ])
      (refine LexW.pure (v := ?_) rfl rfl (fun w1 he => ?_) ?_; rotate_left; ( have e1 := he.cell HT0.out; have e2 := he.cell HT1.out; have e3 := he.cell HCv.out; have e4 := he.cell HCu.out; have e5 := he.cell HCq.out; have e6 := HW1.out; have e7 := HW2.out; have e8 := HW3.out; have e9 := HW4.out; have e10 := HW5.out; go_simp; rfl); simp only [Act.put, List.setIfInBounds_toArray, List.set_cons_zero, List.set_cons_succ])
      (refine LexW.pure (v := ?_) rfl rfl (fun w1 he => ?_) ?_; rotate_left; ( have e1 := he.cell HT0.out; have e2 := he.cell HT1.out; have e3 := he.cell HCv.out; have e4 := he.cell HCu.out; have e5 := he.cell HCq.out; have e6 := HW1.out; have e7 := HW2.out; have e8 := HW3.out; have e9 := HW4.out; have e10 := HW5.out; go_simp; rfl); simp only [Act.put, List.setIfInBounds_toArray, List.set_cons_zero, List.set_cons_succ])
      (refine LexW.pure (v := ?_) rfl rfl (fun w1 he => ?_) ?_; rotate_left; ( have e1 := he.cell HT0.out; have e2 := he.cell HT1.out; have e3 := he.cell HCv.out; have e4 := he.cell HCu.out; have e5 := he.cell HCq.out; have e6 := HW1.out; have e7 := HW2.out; have e8 := HW3.out; have e9 := HW4.out; have e10 := HW5.out; go_simp; rfl); simp only [Act.put, List.setIfInBounds_toArray, List.set_cons_zero, List.set_cons_succ])
      (refine LexW.pure (v := ?_) rfl rfl (fun w1 he => ?_) ?_; rotate_left; ( have e1 := he.cell HT0.out; have e2 := he.cell HT1.out; have e3 := he.cell HCv.out; have e4 := he.cell HCu.out; have e5 := he.cell HCq.out; have e6 := HW1.out; have e7 := HW2.out; have e8 := HW3.out; have e9 := HW4.out; have e10 := HW5.out; go_simp; rfl); simp only [Act.put, List.setIfInBounds_toArray, List.set_cons_zero, List.set_cons_succ])
      (refine LexW.pure (v := ?_) rfl rfl (fun w1 he => ?_) ?_; rotate_left; ( have e1 := he.cell HT0.out; have e2 := he.cell HT1.out; have e3 := he.cell HCv.out; have e4 := he.cell HCu.out; have e5 := he.cell HCq.out; have e6 := HW1.out; have e7 := HW2.out; have e8 := HW3.out; have e9 := HW4.out; have e10 := HW5.out; go_simp; rfl); simp only [Act.put, List.setIfInBounds_toArray, List.set_cons_zero, List.set_cons_succ])
      (refine LexW.pure (v := ?_) rfl rfl (fun w1 he => ?_) ?_; rotate_left; ( have e1 := he.cell HT0.out; have e2 := he.cell HT1.out; have e3 := he.cell HCv.out; have e4 := he.cell HCu.out; have e5 := he.cell HCq.out; have e6 := HW1.out; have e7 := HW2.out; have e8 := HW3.out; have e9 := HW4.out; have e10 := HW5.out; go_simp; rfl); simp only [Act.put, List.setIfInBounds_toArray, List.set_cons_zero, List.set_cons_succ])
      (refine LexW.pure (v := ?_) rfl rfl (fun w1 he => ?_) ?_; rotate_left; ( have e1 := he.cell HT0.out; have e2 := he.cell HT1.out; have e3 := he.cell HCv.out; have e4 := he.cell HCu.out; have e5 := he.cell HCq.out; have e6 := HW1.out; have e7 := HW2.out; have e8 := HW3.out; have e9 := HW4.out; have e10 := HW5.out; go_simp; rfl); simp only [Act.put, List.setIfInBounds_toArray, List.set_cons_zero, List.set_cons_succ])
      refine LexW.nil (fun w3 he hkn => ?_)
      have X3 := Lib.hid (HExt.out.trans ((ext_drew wr).trans he))
      clear he hkn
      go_wp2_with (fail)
      go_roundw
      case rel => exact ⟨j + 1, m2, by omega, by go_num, rfl, HR, X3.out⟩
      case measure => simp [intOf]; omega
    · obtain rfl : j = d := by omega
      go_wp2_with (fail)
      go_ret
      exact ⟨ret_int (by rw [HZ.out, HEnd.out]; rfl), GW.out.trans HExt.out⟩

end Go.Proofs.Ytbgnfjckbjmgbaa

/-
  The listed functions VectorOf, PairOf, NormOf; the product and the vector of the laws.
  No condition.
-/
namespace Go.Proofs.Ytbgnfjckbjmgbaa
set_option maxRecDepth 100000
open Go.RowKit

theorem good_vecB {p : Int} {d : Nat} {v : List Int} (h : Good p d v) : vecB p d v = true := by
  unfold vecB
  simp only [h.1, decide_true, Bool.true_and]
  unfold isB
  rw [List.all_eq_true]
  intro x hx
  obtain ⟨i, hi, rfl⟩ := List.getElem_of_mem hx
  have := h.2 i (by rw [← h.1]; exact hi)
  rw [nth_eq hi] at this
  simp [inB]; omega
theorem vecB_good {p : Int} {d : Nat} {v : List Int} (h : vecB p d v = true) : Good p d v := good_isB (vec_of h).1 (vec_of h).2
theorem good_bits {p : Int} {n : Nat} {v : List Int} (h : Good p n v) : isB p v = true := (vec_of (good_vecB h)).2
theorem good_multiB {p : Int} {d : Nat} {x : List Int} (h : Good p (2 ^ d) x) : multiB p d x = true := by
  have := good_vecB h
  unfold vecB at this
  unfold multiB
  exact this
theorem codeV_one0 {p : Int} {qs v : List Int} (hs : spaceB p qs = true) (hv : Good p qs.length v) : codeV p qs [v] = 0 := by
  simp [codeV, hs, good_vecB hv]
theorem codeV_two0 {p : Int} {qs v u : List Int} (hs : spaceB p qs = true) (hv : Good p qs.length v) (hu : Good p qs.length u) : codeV p qs [v, u] = 0 := by
  simp [codeV, hs, good_vecB hv, good_vecB hu]
theorem codeM_two0 {p : Int} {qs x y : List Int} (hs : spaceB p qs = true) (hx : Good p (2 ^ qs.length) x) (hy : Good p (2 ^ qs.length) y) : codeM p qs [x, y] = 0 := by
  simp [codeM, hs, good_multiB hx, good_multiB hy]
theorem codeM_one0 {p : Int} {qs x : List Int} (hs : spaceB p qs = true) (hx : Good p (2 ^ qs.length) x) : codeM p qs [x] = 0 := by
  simp [codeM, hs, good_multiB hx]
theorem codeV_two_of {p : Int} {qs v u : List Int} (h : codeV p qs [v, u] = 0) : spaceB p qs = true ∧ Good p qs.length v ∧ Good p qs.length u := by
  unfold codeV at h
  split at h
  · rename_i hs
    split at h
    · rename_i ha
      simp only [List.all_cons, List.all_nil, Bool.and_true, Bool.and_eq_true] at ha
      exact ⟨hs, vecB_good ha.1, vecB_good ha.2⟩
    · cases h
  · cases h

set_option maxHeartbeats 1000000 in
theorem c_VectorOf_ok {N : Nat} (p : Int) (a : Option Addr) (d cap : Nat) (qs : List Int) (av : Option Addr) (cv : Nat) (v : List Int) (w : World) (hN : N = 2 ^ d) (hs : spaceB p qs = true) (hq : RdC w a d qs) (hv : RdC w av d v) (hg : Good p d v) :
    Calls Try.prog 78 #[.agg #[.int .i64 p, .slice a d cap], .slice av d cv] w fun e w' => ∃ g, e = .returned (.tuple #[.slice (some ⟨g, 0, none⟩) N N, .int .i64 0]) ∧ OwnC w.heap.size w' (some ⟨g, 0, none⟩) N N (vecL N v) ∧ Ext w w' := by
  have hd6 := (space_of hs).2.2.1
  rw [hq.1] at hd6
  have hc := codeV_one0 hs (by rw [hq.1]; exact hg)
  have HC := Lib.hid hc
  have hcb : ((0 : Int) != 0) = false := by simp
  clear hc
  have HN := Lib.hid hN
  clear hN
  go_enter Try.func78, Try.ntmps78
  go_wp2_with (fail)
  refine Calls.mono (c_checkVectors p a d cap qs _ 1 _ [v] _ (by omega) (by omega) (len_one (by rw [hv.1]; omega)) (hq.ext ((ext_alloc _ _).alloc _)) (rdR_one (a := av) (n := d) (cap := cv) (by simp) (hv.ext ((ext_alloc _ _).alloc _)))) ?_
  rintro e w1 ⟨rfl, g1⟩
  rw [HC.out]
  have q0 : w1.cell? ⟨w.heap.size, 0, none⟩ = some (.int .i64 p) := g1.cell (by simp)
  have q1 : w1.cell? ⟨w.heap.size, 1, none⟩ = some (.slice a d cap) := g1.cell (by simp)
  have G1 := Lib.hid (((ext_alloc w _).alloc _).trans g1)
  clear g1
  go_wp2_with (fail)
  refine Calls.mono (c_vector HN.out p a cap av cv v w1 hd6 (hv.ext G1.out)) ?_
  rintro e w2 ⟨g, rfl, ho, g2⟩
  go_wp2_with (fail)
  go_ret2
  exact ⟨g, rfl, ho.mono G1.out.size, G1.out.trans g2⟩

set_option maxHeartbeats 1000000 in
theorem l_vector5 {N : Nat} (p : Int) (a : Option Addr) (d cap : Nat) (qs : List Int) (av : Option Addr) (cv : Nat) (v : List Int) (w : World) (hN : N = 2 ^ d) (hs : spaceB p qs = true) (hq : RdC w a d qs) (hv : RdC w av d v) (hg : Good p d v) :
    Calls Try.prog 14 #[.agg #[.int .i64 p, .slice a d cap], .slice av d cv] w fun e w' => ∃ g, e = .returned (.slice (some ⟨g, 0, none⟩) N N) ∧ OwnC w.heap.size w' (some ⟨g, 0, none⟩) N N (vecL N v) ∧ Ext w w' := by
  have HN := Lib.hid hN
  clear hN
  go_enter Try.func14, Try.ntmps14
  go_wp2_with (fail)
  refine Calls.mono (c_VectorOf_ok p a d cap qs av cv v _ HN.out hs (hq.ext (ext_alloc _ _)) (hv.ext (ext_alloc _ _)) hg) ?_
  rintro e w1 ⟨g, rfl, ho, g1⟩
  go_wp2_with (fail)
  go_ret
  exact ⟨g, rfl, ho.mono (by simp), (ext_alloc _ _).trans g1⟩

set_option maxHeartbeats 1000000 in
theorem l_times5 {N : Nat} (p : Int) (a : Option Addr) (d cap : Nat) (qs : List Int) (ax : Option Addr) (cx : Nat) (x : List Int) (ay : Option Addr) (cy : Nat) (y : List Int) (w : World) (hN : N = 2 ^ d) (hs : spaceB p qs = true) (hq : RdC w a d qs) (hx : RdC w ax N x) (hy : RdC w ay N y) (hgx : Good p N x) (hgy : Good p N y) :
    Calls Try.prog 16 #[.agg #[.int .i64 p, .slice a d cap], .slice ax N cx, .slice ay N cy] w fun e w' => ∃ g rc, e = .returned (.slice (some ⟨g, 0, none⟩) N rc) ∧ OwnC w.heap.size w' (some ⟨g, 0, none⟩) N rc (prodL p qs tkA x y) ∧ Ext w w' := by
  have hd6 := (space_of hs).2.2.1
  rw [hq.1] at hd6
  have hN6 : N ≤ 64 := by rw [hN]; exact pow_le64 hd6
  have hN1 : 0 < N := by rw [hN]; exact pow_pos' d
  have hc : codeM p qs [x, y] = 0 := codeM_two0 hs (by rw [hq.1, ← hN]; exact hgx) (by rw [hq.1, ← hN]; exact hgy)
  have HN := Lib.hid hN
  have HC := Lib.hid hc
  clear hN hc
  go_enter Try.func16, Try.ntmps16
  go_wp2_with (fail)
  refine Calls.mono (c_GeometricProduct_ok p a d cap qs ax N cx x ay N cy y _ (by omega) (by omega) (by omega) (hq.ext (ext_alloc _ _)) (hx.ext (ext_alloc _ _)) (hy.ext (ext_alloc _ _)) HC.out) ?_
  rintro e w1 ⟨ra, rc, rfl, ho, g1⟩
  obtain ⟨ga, _, rfl, _⟩ := ho.row hN1
  go_wp2_with (fail)
  go_ret
  exact ⟨ga, rc, rfl, ho.mono (by simp), (ext_alloc _ _).trans g1⟩

/-- What PairOf returns. -/
def pairV (p : Int) (qs v u : List Int) : Int := if codeV p qs [v, u] = 0 then pairL p qs v u qs.length else 0
set_option maxHeartbeats 1000000 in
theorem c_PairOf (p : Int) (a : Option Addr) (d cap : Nat) (qs : List Int) (av : Option Addr) (n cv : Nat) (v : List Int) (au : Option Addr) (m cu : Nat) (u : List Int) (w : World) (hd : d ≤ 4194304) (hn : n ≤ 4194304) (hm : m ≤ 4194304) (hq : RdC w a d qs) (hv : RdC w av n v) (hu : RdC w au m u) :
    Calls Try.prog 13 #[.agg #[.int .i64 p, .slice a d cap], .slice av n cv, .slice au m cu] w fun e w' => e = .returned (.tuple #[.int .i64 (pairV p qs v u), .int .i64 (codeV p qs [v, u])]) ∧ Ext w w' := by
  go_enter Try.func13, Try.ntmps13
  go_wp2_with (fail)
  refine Calls.mono (c_checkVectors p a d cap qs _ 2 _ [v, u] _ (by omega) (by omega) (len_two (by rw [hv.1]; exact hn) (by rw [hu.1]; exact hm)) (hq.ext ((ext_alloc _ _).alloc _)) (rdR_two (a := av) (b := au) (n := n) (m := m) (ca := cv) (cb := cu) (by simp) (by simp) (hv.ext ((ext_alloc _ _).alloc _)) (hu.ext ((ext_alloc _ _).alloc _)))) ?_
  rintro e w1 ⟨rfl, g1⟩
  have q0 : w1.cell? ⟨w.heap.size, 0, none⟩ = some (.int .i64 p) := g1.cell (by simp)
  have q1 : w1.cell? ⟨w.heap.size, 1, none⟩ = some (.slice a d cap) := g1.cell (by simp)
  have G1 := Lib.hid (((ext_alloc w _).alloc _).trans g1)
  clear g1
  by_cases hc : codeV p qs [v, u] = 0
  · obtain ⟨hs, hgv, hgu⟩ := codeV_two_of hc
    have HP := Lib.hid (show pairV p qs v u = pairL p qs v u d by rw [pairV, if_pos hc, hq.1])
    obtain ⟨hpr, hd1, hd6, hqb⟩ := space_of hs
    have hpb := prime_bd hpr
    rw [hq.1] at hgv hgu hd6
    obtain rfl : n = d := hv.1.symm.trans hgv.1
    obtain rfl : m = n := hu.1.symm.trans hgu.1
    have HC := Lib.hid hc
    have hcb : ((0 : Int) != 0) = false := by simp
    rw [hc]
    clear hc
    go_wp2_with (fail)
    refine Calls.mono (c_pair p a m cap qs av cv v au cu u w1 hpb.1 (by omega) hd6 (hq.ext G1.out) hqb (hv.ext G1.out) hgv (hu.ext G1.out) hgu) ?_
    rintro e w2 ⟨rfl, g2⟩
    go_wp2_with (fail)
    go_ret2
    exact ⟨by rw [HP.out, HC.out]; rfl, G1.out.trans g2⟩
  · have HP := Lib.hid (show pairV p qs v u = 0 by rw [pairV, if_neg hc])
    have hcb : (codeV p qs [v, u] != 0) = true := by simp [hc]
    clear hc
    go_wp2_with (fail)
    go_ret2
    exact ⟨by rw [HP.out]; rfl, G1.out⟩
set_option maxHeartbeats 1000000 in
theorem s_PairOf (p : Int) (a : Option Addr) (d cap : Nat) (qs : List Int) (av : Option Addr) (n cv : Nat) (v : List Int) (au : Option Addr) (m cu : Nat) (u : List Int) (w : World) (hd : d ≤ 4194304) (hn : n ≤ 4194304) (hm : m ≤ 4194304) (hq : RdC w a d qs) (hv : RdC w av n v) (hu : RdC w au m u) :
    Calls Try.prog 12 #[.agg #[.int .i64 p, .slice a d cap], .slice av n cv, .slice au m cu] w fun e w' => e = .returned (.tuple #[.int .i64 (pairV p qs v u), .int .i64 (codeV p qs [v, u])]) ∧ Ext w w' := by
  go_enter Try.func12, Try.ntmps12
  go_wp2_with (fail)
  refine Calls.mono (s_is p a d cap qs _ hd (hq.ext (ext_alloc _ _))) ?_
  rintro e w1 ⟨rfl, g1⟩
  have q0 : w1.cell? ⟨w.heap.size, 0, none⟩ = some (.int .i64 p) := g1.cell (by simp)
  have q1 : w1.cell? ⟨w.heap.size, 1, none⟩ = some (.slice a d cap) := g1.cell (by simp)
  have G1 := Lib.hid ((ext_alloc w _).trans g1)
  clear g1
  cases hs : spaceB p qs
  · have hc : codeV p qs [v, u] = 1 := by simp [codeV, hs]
    have HP := Lib.hid (show pairV p qs v u = 0 by rw [pairV, hc]; rfl)
    have HC := Lib.hid hc
    clear hc
    go_wp2_with (fail)
    go_ret2
    exact ⟨by rw [HP.out, HC.out]; rfl, G1.out⟩
  · obtain ⟨hpr, hd1, hd6, hqb⟩ := space_of hs
    have hpb := prime_bd hpr
    have hdl := hq.1
    go_wp2_with (fail)
    refine Calls.mono (s_isVector p a d cap av n cv v _ (by omega) (by omega) hn (hv.ext G1.out)) ?_
    rintro e w2 ⟨rfl, g2⟩
    have q0' := g2.cell q0
    have q1' := g2.cell q1
    have G2 := Lib.hid (G1.out.trans g2)
    clear g2 q0 q1
    cases hbv : vecB p d v
    · have hc : codeV p qs [v, u] = 2 := by simp [codeV, hs, hdl, hbv]
      have HP := Lib.hid (show pairV p qs v u = 0 by rw [pairV, hc]; rfl)
      have HC := Lib.hid hc
      clear hc
      go_wp2_with (fail)
      go_ret2
      exact ⟨by rw [HP.out, HC.out]; rfl, G2.out⟩
    · go_wp2_with (fail)
      refine Calls.mono (s_isVector p a d cap au m cu u _ (by omega) (by omega) hm (hu.ext G2.out)) ?_
      rintro e w3 ⟨rfl, g3⟩
      have q0 := g3.cell q0'
      have q1 := g3.cell q1'
      have G3 := Lib.hid (G2.out.trans g3)
      clear g3 q0' q1'
      cases hbu : vecB p d u
      · have hc : codeV p qs [v, u] = 2 := by simp [codeV, hs, hdl, hbv, hbu]
        have HP := Lib.hid (show pairV p qs v u = 0 by rw [pairV, hc]; rfl)
        have HC := Lib.hid hc
        clear hc
        go_wp2_with (fail)
        go_ret2
        exact ⟨by rw [HP.out, HC.out]; rfl, G3.out⟩
      · have hc : codeV p qs [v, u] = 0 := by simp [codeV, hs, hdl, hbv, hbu]
        have HP := Lib.hid (show pairV p qs v u = pairL p qs v u d by rw [pairV, if_pos hc, hq.1])
        have hgv := vecB_good hbv
        have hgu := vecB_good hbu
        obtain rfl : n = d := hv.1.symm.trans hgv.1
        obtain rfl : m = n := hu.1.symm.trans hgu.1
        have HC := Lib.hid hc
        clear hc
        go_wp2_with (fail)
        refine Calls.mono (s_pair p a m cap qs av cv v au cu u w3 hpb.1 (by omega) (by omega) (hq.ext G3.out) hqb (hv.ext G3.out) hgv (hu.ext G3.out) hgu) ?_
        rintro e w4 ⟨rfl, g4⟩
        go_wp2_with (fail)
        go_ret2
        exact ⟨by rw [HP.out, HC.out]; rfl, G3.out.trans g4⟩
set_option maxHeartbeats 1000000 in
theorem c_NormOf_ok (p : Int) (a : Option Addr) (d cap : Nat) (qs : List Int) (av : Option Addr) (cv : Nat) (v : List Int) (w : World) (hs : spaceB p qs = true) (hq : RdC w a d qs) (hv : RdC w av d v) (hg : Good p d v) :
    Calls Try.prog 21 #[.agg #[.int .i64 p, .slice a d cap], .slice av d cv] w fun e w' => e = .returned (.tuple #[.int .i64 (pairL p qs v v d), .int .i64 0]) ∧ Ext w w' := by
  obtain ⟨hpr, hd1, hd6, hqb⟩ := space_of hs
  have hpb := prime_bd hpr
  rw [hq.1] at hd6
  have hc := codeV_one0 hs (by rw [hq.1]; exact hg)
  have HC := Lib.hid hc
  have hcb : ((0 : Int) != 0) = false := by simp
  clear hc
  go_enter Try.func21, Try.ntmps21
  go_wp2_with (fail)
  refine Calls.mono (c_checkVectors p a d cap qs _ 1 _ [v] _ (by omega) (by omega) (len_one (by rw [hv.1]; omega)) (hq.ext ((ext_alloc _ _).alloc _)) (rdR_one (a := av) (n := d) (cap := cv) (by simp) (hv.ext ((ext_alloc _ _).alloc _)))) ?_
  rintro e w1 ⟨rfl, g1⟩
  rw [HC.out]
  have q0 : w1.cell? ⟨w.heap.size, 0, none⟩ = some (.int .i64 p) := g1.cell (by simp)
  have q1 : w1.cell? ⟨w.heap.size, 1, none⟩ = some (.slice a d cap) := g1.cell (by simp)
  have G1 := Lib.hid (((ext_alloc w _).alloc _).trans g1)
  clear g1
  go_wp2_with (fail)
  refine Calls.mono (c_norm p a d cap qs av cv v w1 hpb.1 (by omega) hd6 (hq.ext G1.out) hqb (hv.ext G1.out) hg) ?_
  rintro e w2 ⟨rfl, g2⟩
  go_wp2_with (fail)
  go_ret2
  exact ⟨rfl, G1.out.trans g2⟩
end Go.Proofs.Ytbgnfjckbjmgbaa
