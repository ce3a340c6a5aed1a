/-
  The pseudoscalar, its square; 0 and 1 in the reference.
  No condition.
-/
import Derived.Test.YtbgnfjckbjmgbaaTimes
namespace Go.Proofs.Ytbgnfjckbjmgbaa
set_option maxRecDepth 100000
open Go.RowKit

/-- A row of numbers of the call's own, that begins a block. -/
def SPred.ownG (B n : Nat) (xs : List Int) : SPred := ⟨fun v w => ∃ g, v = .slice (some ⟨g, 0, none⟩) n n ∧ OwnC B w (some ⟨g, 0, none⟩) n n xs, fun _ _ _ ⟨g, hv, h⟩ he => ⟨g, hv, h.ext he⟩⟩
/-- A row of numbers of the call's own, that begins a block, with room behind it. -/
def SPred.ownS (B n : Nat) (xs : List Int) : SPred := ⟨fun v w => ∃ g cap, v = .slice (some ⟨g, 0, none⟩) n cap ∧ OwnC B w (some ⟨g, 0, none⟩) n cap xs, fun _ _ _ ⟨g, cap, hv, h⟩ he => ⟨g, cap, hv, h.ext he⟩⟩
/-- A row of rows. -/
def SPred.rows (n : Nat) (rows : List (List Int)) : SPred := ⟨fun v w => ∃ g, v = .slice (some ⟨g, 0, none⟩) n n ∧ RdR w (some ⟨g, 0, none⟩) n rows, fun _ _ _ ⟨g, hv, h⟩ he => ⟨g, hv, h.ext he⟩⟩
/-- A cell with a number. -/
def SPred.cell (x : Int) : SPred := ⟨fun v w => ∃ b off, v = .pointer (some ⟨b, off, none⟩) ∧ w.cell? ⟨b, off, none⟩ = some (.int .i64 x), fun _ _ _ ⟨b, off, hv, h⟩ he => ⟨b, off, hv, he.cell h⟩⟩

/-- Any other operation whose value is known. -/
theorem LexW.relV {P : Program} {ops : Array Oper} {w0 : World} {sp : Nat → Option SPred} {Q : Act → World → Prop} {o : Oper} {l : List Oper} {k : Nat} {a : Act} {env : List (Nat × Value)} {v : Value} (hsp : sp k = some (SPred.val v)) (hw : Region.wanted o (yielded ops a.tmps) = true)
    (hr : ∀ w, Ext w0 w → Dep sp (depsOf ops k) a w → ∃ w', (execOp a.eval o).run P w = .ok (.value v) w' ∧ Ext w w')
    (h : LexW P ops w0 sp Q l (k + 1) (a.put o.dst v) ((k, v) :: env)) : LexW P ops w0 sp Q (o :: l) k a env :=
  LexW.rel hsp hw (fun w he hd => let ⟨w', h1, h2⟩ := hr w he hd; ⟨v, w', h1, h2, rfl⟩) fun v' ⟨_, hv⟩ => by
    have hv' : v' = v := hv
    subst hv'
    exact h

def fullL (d : Nat) : List Int := bladeL (2 ^ d) (2 ^ d - 1)
def topL (d : Nat) (k : Int) : List Int := (List.replicate (2 ^ d) 0).set (2 ^ d - 1) k
theorem topL_one (d : Nat) : topL d 1 = fullL d := rfl
theorem pow_pos' (d : Nat) : 1 ≤ 2 ^ d := Nat.pos_of_ne_zero (by simp)
theorem full_good {p : Int} {d : Nat} (hp : 3 ≤ p) : Good p (2 ^ d) (fullL d) := blade_good hp
theorem top_good {p : Int} {d : Nat} {k : Int} (hp : 3 ≤ p) (h0 : 0 ≤ k) (h1 : k < p) : Good p (2 ^ d) (topL d k) := good_set (good_zero (by omega)) h0 h1

theorem pow_wrapI {d : Nat} (h : d ≤ 6) : IntKind.i64.wrap (2 ^ d) = ((2 ^ d : Nat) : Int) := by
  have : d = 0 ∨ d = 1 ∨ d = 2 ∨ d = 3 ∨ d = 4 ∨ d = 5 ∨ d = 6 := by omega
  rcases this with rfl | rfl | rfl | rfl | rfl | rfl | rfl <;> decide +kernel

set_option maxHeartbeats 1000000 in
set_option maxRecDepth 100000 in
theorem c_full (p : Int) (a : Option Addr) (d cap : Nat) (w : World) (hd : d ≤ 6) :
    Calls Try.prog 118 #[.agg #[.int .i64 p, .slice a d cap]] w fun e w' => ∃ g, e = .returned (.slice (some ⟨g, 0, none⟩) (2 ^ d) (2 ^ d)) ∧ OwnC w.heap.size w' (some ⟨g, 0, none⟩) (2 ^ d) (2 ^ d) (fullL d) ∧ Ext w w' := by
  have hpw := pow_wrap hd
  have hN := pow_le64 hd
  have hN1 := pow_pos' d
  obtain ⟨N, hN'⟩ : ∃ N, N = 2 ^ d := ⟨_, rfl⟩
  have HN := Lib.hid hN'
  have HF := Lib.hid (show fullL d = bladeL N (N - 1) by rw [hN']; rfl)
  rw [← hN'] at hpw hN hN1 ⊢
  clear hN'
  have hpi : IntKind.i64.wrap (2 ^ d) = (N : Int) := by rw [HN.out]; exact pow_wrapI hd
  have hw1 : IntKind.i64.wrap ((N : Int) - 1) = ((N - 1 : Nat) : Int) := by rw [IntWalk.i64_in _ (by omega)]; omega
  obtain ⟨W, hW⟩ : ∃ W, W = w.alloc (.cells #[.int .i64 p, .slice a d cap] 26) := ⟨_, rfl⟩
  have gW : Ext w W := by rw [hW]; exact ext_alloc _ _
  have hs0 : W.cell? ⟨w.heap.size, 0, none⟩ = some (.int .i64 p) := by rw [hW]; simp
  have hs1 : W.cell? ⟨w.heap.size, 1, none⟩ = some (.slice a d cap) := by rw [hW]; simp
  have HS0 := Lib.hid ((ext_drew _).cell hs0)
  have HS1 := Lib.hid ((ext_drew _).cell hs1)
  have GW := Lib.hid (gW.trans (ext_drew _))
  have HW := Lib.hid hW
  clear hs0 hs1 gW hW
  go_enter Try.func118, Try.ntmps118
  go_wp2_with (fail)
  rw [← HW.out]
  refine wp_region_lex [(2, .val (.int .i64 d)), (5, .ownG w.heap.size N (fullL d))] (by kernel_rfl) (by kernel_rfl) ?_
  repeat' first | (refine LexW.pure (v := ?_) rfl rfl (fun w1 he => ?_) ?_; rotate_left; ( have e1 := he.cell HS0.out; have e2 := he.cell HS1.out; go_simp; rfl); simp only [Act.put, List.setIfInBounds_toArray, List.set_cons_zero, List.set_cons_succ]) | (refine LexW.call (f := ?_) (args := ?_) rfl rfl (fun w1 => ?_) (fun w1 he hdep => ?_) ?_; rotate_left 2; (go_simp; refine ⟨?_, ?_⟩ <;> rfl); ( exact c_dim _ _ _ _ _); simp only [Act.put, List.setIfInBounds_toArray, List.set_cons_zero, List.set_cons_succ]) | ((refine LexW.callR (f := ?_) (args := ?_) rfl rfl (fun w1 => ?_) (fun w1 he hdep => ?_) (fun v hv => ?_); rotate_left 2; (go_simp; refine ⟨?_, ?_⟩ <;> rfl); ( refine (c_blade p a d cap (N - 1) w1 hd (by rw [← HN.out]; omega)).mono ?_; rintro e w2 ⟨g, rfl, ho, g2⟩; rw [← HN.out, ← HF.out] at ho; rw [← HN.out]; exact ⟨_, rfl, g2, g, rfl, ho.mono (Nat.le_trans GW.out.size he.size)⟩); simp only [Act.put, List.setIfInBounds_toArray, List.set_cons_zero, List.set_cons_succ]); obtain ⟨_, g5, rfl, _⟩ := hv)
  refine LexW.nil (fun w3 he hk => ?_)
  obtain ⟨g', hv, ho⟩ : (SPred.ownG w.heap.size N (fullL d)).holds (.slice (some ⟨g5, 0, none⟩) N N) w3 := hk (5, _) (by simp)
  cases hv
  have HO := Lib.hid ho
  have HE := Lib.hid (GW.out.trans he)
  clear he hk ho
  go_wp2_with (fail)
  go_ret
  exact ⟨g5, rfl, HO.out, HE.out⟩

set_option maxHeartbeats 400000 in
theorem s_zero (p : Int) (a : Option Addr) (d cap : Nat) (w : World) (hd : d ≤ 6) :
    Calls Try.prog 181 #[.agg #[.int .i64 p, .slice a d cap]] w fun e w' => ∃ g, e = .returned (.slice (some ⟨g, 0, none⟩) (2 ^ d) (2 ^ d)) ∧ OwnC w.heap.size w' (some ⟨g, 0, none⟩) (2 ^ d) (2 ^ d) (List.replicate (2 ^ d) 0) ∧ Ext w w' := by
  have hN := pow_le64 hd
  obtain ⟨N, hN'⟩ : ∃ N, N = 2 ^ d := ⟨_, rfl⟩
  have HN := Lib.hid hN'
  rw [← hN'] at hN ⊢
  clear hN'
  go_enter Try.func181, Try.ntmps181
  go_wp2_with (go_at_call 153; refine (s_size _ _ _ _ _ hd).mono ?_; rintro e w1 ⟨rfl, g1⟩; rw [← HN.out])
  obtain ⟨w2, hmk, ho, he⟩ := make_ints w1 N (by omega)
  have HO := Lib.hid ho
  have HE := Lib.hid ((ext_alloc _ _).trans (g1.trans he))
  have hz := g1.size'
  simp only [World.size_alloc] at hz
  clear ho he g1
  rw [hmk]
  go_wp2_with (fail)
  go_ret
  exact ⟨w1.heap.size, rfl, HO.out.mono (by omega), HE.out⟩

set_option maxHeartbeats 400000 in
theorem s_one (p : Int) (a : Option Addr) (d cap : Nat) (w : World) (hd : d ≤ 6) :
    Calls Try.prog 168 #[.agg #[.int .i64 p, .slice a d cap]] w fun e w' => ∃ g, e = .returned (.slice (some ⟨g, 0, none⟩) (2 ^ d) (2 ^ d)) ∧ OwnC w.heap.size w' (some ⟨g, 0, none⟩) (2 ^ d) (2 ^ d) (bladeL (2 ^ d) 0) ∧ Ext w w' := by
  have hN1 := pow_pos' d
  obtain ⟨N, hN'⟩ : ∃ N, N = 2 ^ d := ⟨_, rfl⟩
  have HN := Lib.hid hN'
  rw [← hN'] at hN1 ⊢
  clear hN'
  go_enter Try.func168, Try.ntmps168
  go_wp2_with (fail)
  have Hno := s_zero p a d cap (w.alloc (.cells #[.int .i64 p, .slice a d cap] 26)) hd
  rw [← HN.out] at Hno
  refine Hno.mono ?_
  rintro e w1 ⟨g, rfl, ho, g1⟩
  have HO := Lib.hid ho
  have G1 := Lib.hid g1
  have ec := ho.cell hN1
  have ef := ho.frozen 0
  have hg := ho.base_le
  simp only [World.size_alloc] at hg
  clear Hno ho g1
  go_wp2_with (fail)
  go_ret
  exact ⟨g, rfl, (HO.out.store hN1 _).mono (by simp), ((ext_alloc _ _).trans G1.out).setCell (by simp; omega) _⟩

set_option maxHeartbeats 400000 in
theorem s_top (p : Int) (a : Option Addr) (d cap : Nat) (k : Int) (w : World) (hd : d ≤ 6) :
    Calls Try.prog 175 #[.agg #[.int .i64 p, .slice a d cap], .int .i64 k] w fun e w' => ∃ g, e = .returned (.slice (some ⟨g, 0, none⟩) (2 ^ d) (2 ^ d)) ∧ OwnC w.heap.size w' (some ⟨g, 0, none⟩) (2 ^ d) (2 ^ d) (topL d k) ∧ Ext w w' := by
  have hN1 := pow_pos' d
  have hN := pow_le64 hd
  have HT := Lib.hid (show topL d k = (List.replicate (2 ^ d) 0).set (2 ^ d - 1) k from rfl)
  obtain ⟨N, hN'⟩ : ∃ N, N = 2 ^ d := ⟨_, rfl⟩
  have HN := Lib.hid hN'
  rw [← hN'] at hN1 hN HT ⊢
  clear hN'
  have hw1 : IntKind.i64.wrap ((N : Int) - 1) = ((N - 1 : Nat) : Int) := by rw [IntWalk.i64_in _ (by omega)]; omega
  go_enter Try.func175, Try.ntmps175
  go_wp2_with (fail)
  have Hno := s_zero p a d cap (w.alloc (.cells #[.int .i64 p, .slice a d cap] 26)) hd
  rw [← HN.out] at Hno
  refine Hno.mono ?_
  rintro e w1 ⟨g, rfl, ho, g1⟩
  have HO := Lib.hid ho
  have G1 := Lib.hid g1
  have ec := ho.cell (show N - 1 < N by omega)
  have ef := ho.frozen (N - 1)
  have hg := ho.base_le
  simp only [World.size_alloc] at hg
  have hmN : ((N - 1 : Nat) : Int) < N := by omega
  clear Hno ho g1
  go_wp2_with (fail)
  go_ret
  exact ⟨g, rfl, by rw [HT.out]; exact (HO.out.store (show N - 1 < N by omega) _).mono (by simp), ((ext_alloc _ _).trans G1.out).setCell (by simp; omega) _⟩

theorem nth_bd {p : Int} {N : Nat} {xs : List Int} (h : Good p N xs) {i : Nat} (hi : i < N) : 0 ≤ nth xs i ∧ nth xs i < p := h.2 i hi
def sqFull (p : Int) (qs : List Int) : Int := nth (prodL p qs tkA (fullL qs.length) (fullL qs.length)) 0
theorem sqFull_bd {p : Int} {qs : List Int} (hp : 3 ≤ p) : 0 ≤ sqFull p qs ∧ sqFull p qs < p := (prod_good (by omega)).2 0 (pow_pos' _)
theorem own_cell0 {B : Nat} {w : World} {g n cap : Nat} {xs : List Int} (h : OwnC B w (some ⟨g, 0, none⟩) n cap xs) (hn : 0 < n) : w.cell? ⟨g, 0, none⟩ = some (.int .i64 (nth xs 0)) := h.cell hn

theorem good_pair {p : Int} {N : Nat} {xs ys : List Int} (h : Good p N xs) (h' : Good p N ys) : ∀ i, i < 2 → Good p N (nthR [xs, ys] i) := fun i hi => by
  have : i = 0 ∨ i = 1 := by omega
  rcases this with rfl | rfl
  · exact h
  · exact h'

set_option maxHeartbeats 4000000 in
set_option maxRecDepth 100000 in
theorem c_fullSquare (p : Int) (a : Option Addr) (d cap : Nat) (qs : List Int) (w : World) (hd : d ≤ 6) (hp1 : 3 ≤ p) (hp2 : p ≤ 1000) (hq : RdC w a d qs) (hqb : isB p qs = true) :
    Calls Try.prog 119 #[.agg #[.int .i64 p, .slice a d cap]] w fun e w' => e = .returned (.int .i64 (sqFull p qs)) ∧ Ext w w' := by
  have hN1 := pow_pos' d
  have HGd := Lib.hid (full_good (p := p) (d := d) hp1)
  have HT := Lib.hid (show nth (timesL p qs [fullL d, fullL d]) 0 = sqFull p qs by rw [timesL_two hp1 (by rw [hq.1]; exact full_good hp1)]; unfold sqFull; rw [hq.1])
  have HQ := Lib.hid hq
  have HQB := Lib.hid hqb
  clear hq hqb
  obtain ⟨N, hN'⟩ : ∃ N, N = 2 ^ d := ⟨_, rfl⟩
  have HN := Lib.hid hN'
  rw [← hN'] at hN1
  have HGd2 : Hid (Good p (2 ^ d) (fullL d)) := HGd
  clear hN' HGd
  have hN0 : ¬ N = 0 := by omega
  obtain ⟨X, hX⟩ : ∃ X, X = sqFull p qs := ⟨_, rfl⟩
  rw [← hX] at HT ⊢
  clear hX
  obtain ⟨W, hW⟩ : ∃ W, W = w.alloc (.cells #[.int .i64 p, .slice a d cap] 26) := ⟨_, rfl⟩
  have gW : Ext w W := by rw [hW]; exact ext_alloc _ _
  have hs0 : W.cell? ⟨w.heap.size, 0, none⟩ = some (.int .i64 p) := by rw [hW]; simp
  have hs1 : W.cell? ⟨w.heap.size, 1, none⟩ = some (.slice a d cap) := by rw [hW]; simp
  have HS0 := Lib.hid ((ext_drew _).cell hs0)
  have HS1 := Lib.hid ((ext_drew _).cell hs1)
  have GW := Lib.hid (gW.trans (ext_drew _))
  have HW := Lib.hid hW
  clear hs0 hs1 gW hW
  go_enter Try.func119, Try.ntmps119
  go_wp2_with (fail)
  rw [← HW.out]
  refine wp_region_lex [(2, .ownG w.heap.size N (fullL d)), (4, .ownG w.heap.size N (fullL d)), (5, .rows 2 [fullL d, fullL d]), (6, .ownG w.heap.size N (timesL p qs [fullL d, fullL d])), (7, .cell X), (8, .val (.int .i64 X))] (by kernel_rfl) (by kernel_rfl) ?_
  (refine LexW.pure (v := ?_) rfl rfl (fun w1 he => ?_) ?_; rotate_left; ( have e1 := he.cell HS0.out; have e2 := he.cell HS1.out; go_simp; rfl); simp only [Act.put, List.setIfInBounds_toArray, List.set_cons_zero, List.set_cons_succ])
  (refine LexW.pure (v := ?_) rfl rfl (fun w1 he => ?_) ?_; rotate_left; ( have e1 := he.cell HS0.out; have e2 := he.cell HS1.out; go_simp; rfl); simp only [Act.put, List.setIfInBounds_toArray, List.set_cons_zero, List.set_cons_succ])
  (refine LexW.callR (f := ?_) (args := ?_) rfl rfl (fun w1 => ?_) (fun w1 he hdep => ?_) (fun v hv => ?_); rotate_left 2; (go_simp; refine ⟨?_, ?_⟩ <;> rfl); ( refine (c_full p a d cap w1 hd).mono ?_; rintro e w2 ⟨g, rfl, ho, g2⟩; rw [← HN.out] at ho; rw [← HN.out]; exact ⟨_, rfl, g2, g, rfl, ho.mono (Nat.le_trans GW.out.size he.size)⟩); simp only [Act.put, List.setIfInBounds_toArray, List.set_cons_zero, List.set_cons_succ])
  obtain ⟨_, g5, rfl, _⟩ := hv
  (refine LexW.pure (v := ?_) rfl rfl (fun w1 he => ?_) ?_; rotate_left; ( have e1 := he.cell HS0.out; have e2 := he.cell HS1.out; go_simp; rfl); simp only [Act.put, List.setIfInBounds_toArray, List.set_cons_zero, List.set_cons_succ])
  (refine LexW.callR (f := ?_) (args := ?_) rfl rfl (fun w1 => ?_) (fun w1 he hdep => ?_) (fun v hv => ?_); rotate_left 2; (go_simp; refine ⟨?_, ?_⟩ <;> rfl); ( refine (c_full p a d cap w1 hd).mono ?_; rintro e w2 ⟨g, rfl, ho, g2⟩; rw [← HN.out] at ho; rw [← HN.out]; exact ⟨_, rfl, g2, g, rfl, ho.mono (Nat.le_trans GW.out.size he.size)⟩); simp only [Act.put, List.setIfInBounds_toArray, List.set_cons_zero, List.set_cons_succ])
  obtain ⟨_, g6, rfl, _⟩ := hv
  (refine LexW.rel rfl rfl (fun w1 he hdep => ?_) (fun v hv => ?_); ( obtain ⟨_, q1, r1⟩ : (SPred.ownG w.heap.size N (fullL d)).holds (.slice (some ⟨g5, 0, none⟩) N N) w1 := hdep (2, 5) (by decide +kernel); obtain ⟨_, q2, r2⟩ : (SPred.ownG w.heap.size N (fullL d)).holds (.slice (some ⟨g6, 0, none⟩) N N) w1 := hdep (4, 7) (by decide +kernel); cases q1; cases q2; exact ⟨.slice (some ⟨w1.heap.size, 0, none⟩) 2 2, w1.alloc (.cells #[.slice (some ⟨g5, 0, none⟩) N N, .slice (some ⟨g6, 0, none⟩) N N] 24), (by go_simp), ext_alloc _ _, _, rfl, rdR_two (a := some ⟨g5, 0, none⟩) (b := some ⟨g6, 0, none⟩) (n := N) (m := N) (ca := N) (cb := N) (by simp) (by simp) (r1.rd.ext (ext_alloc _ _)) (r2.rd.ext (ext_alloc _ _))⟩); simp only [Act.put, List.setIfInBounds_toArray, List.set_cons_zero, List.set_cons_succ])
  obtain ⟨_, g7, rfl, _⟩ := hv
  (refine LexW.callR (f := ?_) (args := ?_) rfl rfl (fun w1 => ?_) (fun w1 he hdep => ?_) (fun v hv => ?_); rotate_left 2; (go_simp; refine ⟨?_, ?_⟩ <;> rfl); ( obtain ⟨_, q1, r1⟩ : (SPred.rows 2 [fullL d, fullL d]).holds (.slice (some ⟨g7, 0, none⟩) 2 2) w1 := hdep (5, 8) (by decide +kernel); cases q1; refine (c_times p a d cap qs _ 2 2 [fullL d, fullL d] w1 hd hp1 hp2 (by omega) (HQ.out.ext (GW.out.trans he)) HQB.out r1 (good_pair HGd2.out HGd2.out)).mono ?_; rintro e w2 ⟨g, rfl, ho, g2⟩; rw [← HN.out] at ho; rw [← HN.out]; exact ⟨_, rfl, g2, g, rfl, ho.mono (Nat.le_trans GW.out.size he.size)⟩); simp only [Act.put, List.setIfInBounds_toArray, List.set_cons_zero, List.set_cons_succ])
  obtain ⟨_, g8, rfl, _⟩ := hv
  (refine LexW.rel rfl rfl (fun w1 he hdep => ?_) (fun v hv => ?_); ( obtain ⟨_, q1, r1⟩ : (SPred.ownG w.heap.size N (timesL p qs [fullL d, fullL d])).holds (.slice (some ⟨g8, 0, none⟩) N N) w1 := hdep (6, 9) (by decide +kernel); cases q1; exact ⟨.pointer (some ⟨g8, 0, none⟩), w1, (by go_simp), Ext.refl _, g8, 0, rfl, (r1.cell hN1).trans (by rw [HT.out])⟩); simp only [Act.put, List.setIfInBounds_toArray, List.set_cons_zero, List.set_cons_succ])
  obtain ⟨_, b9, o9, rfl, _⟩ := hv
  (refine LexW.relV rfl rfl (fun w1 he hdep => ?_) ?_; ( obtain ⟨_, _, q1, r1⟩ : (SPred.cell X).holds (.pointer (some ⟨b9, o9, none⟩)) w1 := hdep (7, 10) (by decide +kernel); cases q1; exact ⟨w1, (by go_simp), Ext.refl _⟩); simp only [Act.put, List.setIfInBounds_toArray, List.set_cons_zero, List.set_cons_succ])
  (refine LexW.pure (v := ?_) rfl rfl (fun w1 he => ?_) ?_; rotate_left; ( go_simp; rfl); simp only [Act.put, List.setIfInBounds_toArray, List.set_cons_zero, List.set_cons_succ])
  refine LexW.nil (fun w3 he hk => ?_)
  have HE := Lib.hid (GW.out.trans he)
  clear he hk
  go_wp2_with (fail)
  go_ret
  exact ⟨rfl, HE.out⟩

set_option maxHeartbeats 4000000 in
set_option maxRecDepth 100000 in
theorem s_square (p : Int) (a : Option Addr) (d cap : Nat) (qs : List Int) (w : World) (hd : d ≤ 6) (hp1 : 3 ≤ p) (hp2 : p ≤ 1000) (hq : RdC w a d qs) (hqb : isB p qs = true) :
    Calls Try.prog 177 #[.agg #[.int .i64 p, .slice a d cap]] w fun e w' => e = .returned (.int .i64 (sqFull p qs)) ∧ Ext w w' := by
  have hN1 := pow_pos' d
  have HGd := Lib.hid (full_good (p := p) (d := d) hp1)
  have HT := Lib.hid (show nth (prodL p qs tkA (fullL d) (fullL d)) 0 = sqFull p qs by unfold sqFull; rw [hq.1])
  have HQ := Lib.hid hq
  have HQB := Lib.hid hqb
  clear hq hqb
  obtain ⟨N, hN'⟩ : ∃ N, N = 2 ^ d := ⟨_, rfl⟩
  have HN := Lib.hid hN'
  rw [← hN'] at hN1
  have HGd2 : Hid (Good p (2 ^ d) (fullL d)) := HGd
  clear hN' HGd
  have hN0 : ¬ N = 0 := by omega
  obtain ⟨X, hX⟩ : ∃ X, X = sqFull p qs := ⟨_, rfl⟩
  rw [← hX] at HT ⊢
  clear hX
  obtain ⟨W, hW⟩ : ∃ W, W = w.alloc (.cells #[.int .i64 p, .slice a d cap] 26) := ⟨_, rfl⟩
  have gW : Ext w W := by rw [hW]; exact ext_alloc _ _
  have hs0 : W.cell? ⟨w.heap.size, 0, none⟩ = some (.int .i64 p) := by rw [hW]; simp
  have hs1 : W.cell? ⟨w.heap.size, 1, none⟩ = some (.slice a d cap) := by rw [hW]; simp
  have HS0 := Lib.hid ((ext_drew _).cell hs0)
  have HS1 := Lib.hid ((ext_drew _).cell hs1)
  have GW := Lib.hid (gW.trans (ext_drew _))
  have HW := Lib.hid hW
  clear hs0 hs1 gW hW
  go_enter Try.func177, Try.ntmps177
  go_wp2_with (fail)
  rw [← HW.out]
  refine wp_region_lex [(2, .ownG w.heap.size N (fullL d)), (4, .ownG w.heap.size N (fullL d)), (5, .ownG w.heap.size N (prodL p qs tkA (fullL d) (fullL d))), (6, .cell X), (7, .val (.int .i64 X))] (by kernel_rfl) (by kernel_rfl) ?_
  (refine LexW.pure (v := ?_) rfl rfl (fun w1 he => ?_) ?_; rotate_left; ( have e1 := he.cell HS0.out; have e2 := he.cell HS1.out; go_simp; rfl); simp only [Act.put, List.setIfInBounds_toArray, List.set_cons_zero, List.set_cons_succ])
  (refine LexW.pure (v := ?_) rfl rfl (fun w1 he => ?_) ?_; rotate_left; ( have e1 := he.cell HS0.out; have e2 := he.cell HS1.out; go_simp; rfl); simp only [Act.put, List.setIfInBounds_toArray, List.set_cons_zero, List.set_cons_succ])
  (refine LexW.callR (f := ?_) (args := ?_) rfl rfl (fun w1 => ?_) (fun w1 he hdep => ?_) (fun v hv => ?_); rotate_left 2; (go_simp; refine ⟨?_, ?_⟩ <;> rfl); ( refine (s_top p a d cap 1 w1 hd).mono ?_; rintro e w2 ⟨g, rfl, ho, g2⟩; rw [← HN.out, topL_one] at ho; rw [← HN.out]; exact ⟨_, rfl, g2, g, rfl, ho.mono (Nat.le_trans GW.out.size he.size)⟩); simp only [Act.put, List.setIfInBounds_toArray, List.set_cons_zero, List.set_cons_succ])
  obtain ⟨_, g5, rfl, _⟩ := hv
  (refine LexW.pure (v := ?_) rfl rfl (fun w1 he => ?_) ?_; rotate_left; ( have e1 := he.cell HS0.out; have e2 := he.cell HS1.out; go_simp; rfl); simp only [Act.put, List.setIfInBounds_toArray, List.set_cons_zero, List.set_cons_succ])
  (refine LexW.callR (f := ?_) (args := ?_) rfl rfl (fun w1 => ?_) (fun w1 he hdep => ?_) (fun v hv => ?_); rotate_left 2; (go_simp; refine ⟨?_, ?_⟩ <;> rfl); ( refine (s_top p a d cap 1 w1 hd).mono ?_; rintro e w2 ⟨g, rfl, ho, g2⟩; rw [← HN.out, topL_one] at ho; rw [← HN.out]; exact ⟨_, rfl, g2, g, rfl, ho.mono (Nat.le_trans GW.out.size he.size)⟩); simp only [Act.put, List.setIfInBounds_toArray, List.set_cons_zero, List.set_cons_succ])
  obtain ⟨_, g6, rfl, _⟩ := hv
  (refine LexW.callR (f := ?_) (args := ?_) rfl rfl (fun w1 => ?_) (fun w1 he hdep => ?_) (fun v hv => ?_); rotate_left 2; (go_simp; refine ⟨?_, ?_⟩ <;> rfl); ( obtain ⟨_, q1, r1⟩ : (SPred.ownG w.heap.size N (fullL d)).holds (.slice (some ⟨g5, 0, none⟩) N N) w1 := hdep (2, 5) (by decide +kernel); obtain ⟨_, q2, r2⟩ : (SPred.ownG w.heap.size N (fullL d)).holds (.slice (some ⟨g6, 0, none⟩) N N) w1 := hdep (4, 7) (by decide +kernel); cases q1; cases q2; have H := s_times p a d cap qs (some ⟨g5, 0, none⟩) (some ⟨g6, 0, none⟩) N N (fullL d) (fullL d) w1 hd hp1 hp2 (HQ.out.ext (GW.out.trans he)) HQB.out (by rw [← HN.out]; exact r1.rd) (by rw [← HN.out]; exact r2.rd) HGd2.out.isB HGd2.out.isB; rw [← HN.out] at H; refine H.mono ?_; rintro e w2 ⟨g, rfl, ho, g2⟩; exact ⟨_, rfl, g2, g, rfl, ho.mono (Nat.le_trans GW.out.size he.size)⟩); simp only [Act.put, List.setIfInBounds_toArray, List.set_cons_zero, List.set_cons_succ])
  obtain ⟨_, g8, rfl, _⟩ := hv
  (refine LexW.rel rfl rfl (fun w1 he hdep => ?_) (fun v hv => ?_); ( obtain ⟨_, q1, r1⟩ : (SPred.ownG w.heap.size N (prodL p qs tkA (fullL d) (fullL d))).holds (.slice (some ⟨g8, 0, none⟩) N N) w1 := hdep (5, 8) (by decide +kernel); cases q1; exact ⟨.pointer (some ⟨g8, 0, none⟩), w1, (by go_simp), Ext.refl _, g8, 0, rfl, (r1.cell hN1).trans (by rw [HT.out])⟩); simp only [Act.put, List.setIfInBounds_toArray, List.set_cons_zero, List.set_cons_succ])
  obtain ⟨_, b9, o9, rfl, _⟩ := hv
  (refine LexW.relV rfl rfl (fun w1 he hdep => ?_) ?_; ( obtain ⟨_, _, q1, r1⟩ : (SPred.cell X).holds (.pointer (some ⟨b9, o9, none⟩)) w1 := hdep (6, 9) (by decide +kernel); cases q1; exact ⟨w1, (by go_simp), Ext.refl _⟩); simp only [Act.put, List.setIfInBounds_toArray, List.set_cons_zero, List.set_cons_succ])
  (refine LexW.pure (v := ?_) rfl rfl (fun w1 he => ?_) ?_; rotate_left; ( go_simp; rfl); simp only [Act.put, List.setIfInBounds_toArray, List.set_cons_zero, List.set_cons_succ])
  refine LexW.nil (fun w3 he hk => ?_)
  have HE := Lib.hid (GW.out.trans he)
  clear he hk
  go_wp2_with (fail)
  go_ret
  exact ⟨rfl, HE.out⟩
end Go.Proofs.Ytbgnfjckbjmgbaa
