/-
  Contracts and plain laws, part 5: DblM, DblC, AppR, SumM, Rank, DetP.
  No condition.
-/
import Derived.Test.YthflmmgolegonaaPart4
import Derived.Test.YthflmmgolegonaaPart3
import Derived.Test.YthflmmgolegonaaPart2
import Derived.Test.YthflmmgolegonaaPart1
import Derived.Maps.AppendAt
/-
  Products of doublings, in the program and in the reference.
  No condition.
-/
namespace Go.Proofs.Ythflmmgolegonaa
set_option maxRecDepth 100000
open Go.RowKit

theorem own_lit1 {B : Nat} {w : World} (h : B ≤ w.heap.size) (x : Int) : OwnC B (w.alloc (.cells #[.int .i64 x] 2)) (some ⟨w.heap.size, 0, none⟩) 1 1 [x] :=
  OwnC.mono ⟨rfl, ⟨rfl, .inr ⟨w.heap.size, 1, #[.int .i64 x], rfl, Nat.le_refl _, heap_alloc_new w _, Nat.le_refl _, by unfold maxLen; omega, by simp, by simp⟩⟩⟩ h
theorem scale_goodN {p : Int} {x : List Int} {k : Int} {n : Nat} (hp : 1 ≤ p) : Good p n (scaleL p x k n) :=
  ⟨scaleL_len' .., fun i hi => by rw [scaleL_nth' hi]; exact ⟨Int.emod_nonneg _ (by omega), Int.emod_lt_of_pos _ (by omega)⟩⟩
theorem plus_scale1 {p : Int} {x y : List Int} {k : Int} {n : Nat} : plusL p x (scaleL p y k n) 1 n = plusL p x y k n := by
  refine ext_nth (by rw [plusL_len, plusL_len]) fun i hi => ?_
  rw [plusL_len] at hi
  rw [plusL_nth hi, plusL_nth hi]
  unfold plusN
  rw [scaleL_nth' hi]
  unfold scaleN
  rw [Int.one_mul, Int.add_emod_emod, Int.mul_comm]
theorem conj_set_m {p : Int} {x : List Int} {n : Nat} (h : x.length = n) : (scaleL p x (p - 1) n).set 0 (nth x 0) = conjL p x := conj_set' h

set_option maxHeartbeats 1000000 in
theorem c_conj (p : Int) (ax : Option Addr) (n cx : Nat) (x : List Int) (w : World) (hp1 : 3 ≤ p) (hp2 : p ≤ 900) (hn0 : 0 < n) (hn : n ≤ 64) (hx : RdC w ax n x) (hg : Good p n x) :
    Calls Try.prog 93 #[.int .i64 p, .slice ax n cx] w fun e w' => ∃ g rc, e = .returned (.slice (some ⟨g, 0, none⟩) n rc) ∧ OwnC w.heap.size w' (some ⟨g, 0, none⟩) n rc (conjL p x) ∧ Ext w w' := by
  have hp2 : p ≤ 1000 := by omega
  have HX := Lib.hid hx
  have HG := Lib.hid hg
  have HS : Hid ((scaleL p x (-1) n).set 0 (nth x 0) = conjL p x) := Lib.hid (by exact conj_set hx.1)
  obtain ⟨b, off, rfl, hc0⟩ := hx.2 0 hn0
  rw [Nat.add_zero] at hc0
  have HC0 := Lib.hid hc0
  obtain ⟨v, hv⟩ : ∃ v, v = nth x 0 := ⟨_, rfl⟩
  rw [← hv] at HS HC0
  clear hx hg hc0 hv
  go_enter Try.func93, Try.ntmps93
  go_wp2_with (fail)
  refine Calls.mono (c_scaled p _ n cx x (-1) w hp1 hp2 (by omega) (by omega) HX.out HG.out) ?_
  rintro e w1 ⟨g, rc, rfl, ho, g1⟩
  have HO := Lib.hid ho
  have G1 := Lib.hid g1
  have hc := g1.cell HC0.out
  have hcg := ho.cell hn0
  have hfz := ho.frozen 0
  have hbg : w.heap.size ≤ g := (ho.base_of g rfl).1
  have hne : ¬ b = g := by have := lt_of_cell HC0.out; dsimp only at this; omega
  have hne2 : ¬ g = b := fun h => hne h.symm
  clear ho g1
  go_wp2_with (fail)
  go_ret
  refine ⟨g, rc, rfl, ?_, G1.out.setCell hbg _⟩
  rw [← HS.out]
  exact HO.out.store hn0 v

set_option maxHeartbeats 1000000 in
theorem s_star (p : Int) (ax : Option Addr) (n cx : Nat) (x : List Int) (w : World) (hp1 : 3 ≤ p) (hp2 : p ≤ 900) (hn0 : 0 < n) (hn : n ≤ 64) (hx : RdC w ax n x) (hg : Good p n x) :
    Calls Try.prog 94 #[.int .i64 p, .slice ax n cx] w fun e w' => ∃ g rc, e = .returned (.slice (some ⟨g, 0, none⟩) n rc) ∧ OwnC w.heap.size w' (some ⟨g, 0, none⟩) n rc (conjL p x) ∧ Ext w w' := by
  have hp2 : p ≤ 1000 := by omega
  have HX := Lib.hid hx
  have HG := Lib.hid hg
  obtain ⟨Q, hQ⟩ : ∃ Q, Q = p - 1 := ⟨_, rfl⟩
  have hw1 : IntKind.i64.wrap (p - 1) = Q := by rw [hQ]; exact IntWalk.i64_in _ (by omega)
  have hQb : 0 ≤ Q ∧ Q ≤ 900 := by omega
  have HS : Hid ((scaleL p x Q n).set 0 (nth x 0) = conjL p x) := Lib.hid (by rw [hQ]; exact conj_set_m hx.1)
  obtain ⟨b, off, rfl, hc0⟩ := hx.2 0 hn0
  rw [Nat.add_zero] at hc0
  have HC0 := Lib.hid hc0
  obtain ⟨v, hv⟩ : ∃ v, v = nth x 0 := ⟨_, rfl⟩
  rw [← hv] at HS HC0
  clear hx hg hc0 hv hQ
  go_enter Try.func94, Try.ntmps94
  go_wp2_with (fail)
  refine Calls.mono (s_scale11 p _ n cx x Q w hp1 hp2 (by omega) (by omega) HX.out HG.out) ?_
  rintro e w1 ⟨g, rc, rfl, ho, g1⟩
  have HO := Lib.hid ho
  have G1 := Lib.hid g1
  have hc := g1.cell HC0.out
  have hcg := ho.cell hn0
  have hfz := ho.frozen 0
  have hbg : w.heap.size ≤ g := (ho.base_of g rfl).1
  have hne : ¬ b = g := by have := lt_of_cell HC0.out; dsimp only at this; omega
  have hne2 : ¬ g = b := fun h => hne h.symm
  clear ho g1
  go_wp2_with (fail)
  go_ret
  refine ⟨g, rc, rfl, ?_, G1.out.setCell hbg _⟩
  rw [← HS.out]
  exact HO.out.store hn0 v

set_option maxHeartbeats 8000000 in
set_option maxRecDepth 100000 in
theorem c_doubled (p : Int) (hp1 : 3 ≤ p) (hp2 : p ≤ 900) : ∀ (n N : Nat) (sa : Option Addr) (cs : Nat) (st : List Int) (ax : Option Addr) (cx : Nat) (x : List Int) (ay : Option Addr) (cy : Nat) (y : List Int) (w : World), n ≤ 4 → N = 2 ^ n → n ≤ cs → N ≤ cx → N ≤ cy → RdC w sa n st → Good p n st → RdC w ax N x → Good p N x → RdC w ay N y → Good p N y →
    Calls Try.prog 83 #[.int .i64 p, .slice sa n cs, .slice ax N cx, .slice ay N cy] w fun e w' => ∃ g rc, e = .returned (.slice (some ⟨g, 0, none⟩) N rc) ∧ OwnC w.heap.size w' (some ⟨g, 0, none⟩) N rc (dblL p st n x y) ∧ Ext w w' := by
  intro n
  induction n with
  | zero =>
    intro N sa cs st ax cx x ay cy y w _ hN _ _ _ _ _ hx hgx hy hgy
    obtain rfl : N = 1 := hN
    obtain ⟨bx, ox, rfl, hcx⟩ := hx.2 0 (by omega)
    obtain ⟨bb, oy, rfl, hcy⟩ := hy.2 0 (by omega)
    rw [Nat.add_zero] at hcx hcy
    have hxb := hgx.2 0 (by omega)
    have hyb := hgy.2 0 (by omega)
    have HR : Hid (dblL p st 0 x y = [nth x 0 * nth y 0 % p]) := Lib.hid rfl
    obtain ⟨u, hu⟩ : ∃ u, u = nth x 0 := ⟨_, rfl⟩
    obtain ⟨v, hv⟩ : ∃ v, v = nth y 0 := ⟨_, rfl⟩
    rw [← hu] at hcx hxb HR
    rw [← hv] at hcy hyb HR
    have hmb : 0 ≤ u * v ∧ u * v ≤ 810000 := ⟨Int.mul_nonneg hxb.1 hyb.1, by
      have := Int.mul_le_mul (show u ≤ 900 by omega) (show v ≤ 900 by omega) hyb.1 (show (0 : Int) ≤ 900 by omega)
      omega⟩
    have hw1 : IntKind.i64.wrap (u * v) = u * v := IntWalk.i64_in _ (by omega)
    have HCX := Lib.hid ((ext_drew _).cell hcx)
    have HCY := Lib.hid ((ext_drew _).cell hcy)
    obtain ⟨z, hz⟩ : ∃ z, z = u * v % p := ⟨_, rfl⟩
    rw [← hz] at HR
    have HZ := Lib.hid hz.symm
    clear hx hgx hy hgy hcx hcy hu hv hz
    go_enter Try.func83, Try.ntmps83
    go_wp2_with (fail)
    refine wp_region_lex_tail 9 [(8, .val (.int .i64 z))] (by kernel_rfl) (by kernel_rfl) ?_
    simp only [List.take, List.drop]
    (refine LexW.pure (v := ?_) rfl rfl (fun w1 he => ?_) ?_; rotate_left; ( have e1 := he.cell HCX.out; have e2 := he.cell HCY.out; go_simp; rfl); simp only [Act.put, List.setIfInBounds_toArray, List.set_cons_zero, List.set_cons_succ])
    (refine LexW.pure (v := ?_) rfl rfl (fun w1 he => ?_) ?_; rotate_left; ( have e1 := he.cell HCX.out; have e2 := he.cell HCY.out; go_simp; rfl); simp only [Act.put, List.setIfInBounds_toArray, List.set_cons_zero, List.set_cons_succ])
    (refine LexW.pure (v := ?_) rfl rfl (fun w1 he => ?_) ?_; rotate_left; ( have e1 := he.cell HCX.out; have e2 := he.cell HCY.out; go_simp; rfl); simp only [Act.put, List.setIfInBounds_toArray, List.set_cons_zero, List.set_cons_succ])
    (refine LexW.pure (v := ?_) rfl rfl (fun w1 he => ?_) ?_; rotate_left; ( have e1 := he.cell HCX.out; have e2 := he.cell HCY.out; go_simp; rfl); simp only [Act.put, List.setIfInBounds_toArray, List.set_cons_zero, List.set_cons_succ])
    (refine LexW.pure (v := ?_) rfl rfl (fun w1 he => ?_) ?_; rotate_left; ( have e1 := he.cell HCX.out; have e2 := he.cell HCY.out; go_simp; rfl); simp only [Act.put, List.setIfInBounds_toArray, List.set_cons_zero, List.set_cons_succ])
    (refine LexW.pure (v := ?_) rfl rfl (fun w1 he => ?_) ?_; rotate_left; ( have e1 := he.cell HCX.out; have e2 := he.cell HCY.out; go_simp; rfl); simp only [Act.put, List.setIfInBounds_toArray, List.set_cons_zero, List.set_cons_succ])
    (refine LexW.pure (v := ?_) rfl rfl (fun w1 he => ?_) ?_; rotate_left; ( have e1 := he.cell HCX.out; have e2 := he.cell HCY.out; go_simp; rfl); simp only [Act.put, List.setIfInBounds_toArray, List.set_cons_zero, List.set_cons_succ])
    (refine LexW.pure (v := ?_) rfl rfl (fun w1 he => ?_) ?_; rotate_left; ( have e1 := he.cell HCX.out; have e2 := he.cell HCY.out; go_simp; rfl); simp only [Act.put, List.setIfInBounds_toArray, List.set_cons_zero, List.set_cons_succ])
    (refine LexW.call (f := ?_) (args := ?_) rfl rfl (fun w1 => ?_) (fun w1 he hdep => ?_) ?_; rotate_left 2; (go_simp; refine ⟨?_, ?_⟩ <;> rfl); ( have H := (c_num p (u * v) w1 (by omega) (by omega)); rw [HZ.out] at H; exact H); simp only [Act.put, List.setIfInBounds_toArray, List.set_cons_zero, List.set_cons_succ])
    refine LexW.nil (fun w3 he hkn => ?_)
    have HE := Lib.hid ((ext_drew w).trans he)
    clear he hkn 
    go_wp2_with (fail)
    go_ret
    refine ⟨_, 1, rfl, ?_, HE.out.trans (ext_alloc _ _)⟩
    rw [HR.out]
    exact own_lit1 HE.out.size z
  | succ n ih =>
    intro N sa cs st ax cx x ay cy y w hn hN hcs hcx hcy hs hgs hx hgx hy hgy
    have IH := Lib.hid ih
    clear ih
    obtain ⟨H, hH⟩ : ∃ H, H = 2 ^ n := ⟨_, rfl⟩
    have hNH : N = H + H := by rw [hN, hH]; exact two_pow_add n
    have hH1 : 1 ≤ H := by rw [hH]; exact Nat.one_le_two_pow
    have hH8 : H ≤ 8 := by rw [hH]; exact Nat.le_trans (Nat.pow_le_pow_right (by omega) (show n ≤ 3 by omega)) (by decide)
    have HHN := Lib.hid hH
    have HR : Hid (dblL p st (n + 1) x y = plusL p (dblL p st n (x.take H) (y.take H)) (dblL p st n (conjL p (y.drop H)) (x.drop H)) (nth st n) H ++ plusL p (dblL p st n (y.drop H) (x.take H)) (dblL p st n (x.drop H) (conjL p (y.take H))) 1 H) := Lib.hid (by rw [hH]; rfl)
    have HD := fun (u v : List Int) => Lib.hid (show Good p H (dblL p st n u v) by rw [hH]; exact dbl_good (by omega) n u v)
    obtain ⟨bs, os, rfl, hcn⟩ := hs.2 n (by omega)
    obtain ⟨bx, ox, rfl, _⟩ := hx.2 0 (by omega)
    obtain ⟨bb, oy, rfl, _⟩ := hy.2 0 (by omega)
    have HST := Lib.hid (rdC_take hs (show n ≤ n + 1 by omega))
    have HGST := Lib.hid (show Good p n (st.take n) from ⟨by rw [List.length_take, hgs.1]; omega, fun i hi => by rw [tk_nth hi]; exact hgs.2 i (by omega)⟩)
    have HXA := Lib.hid (rdC_take hx (show H ≤ N by omega))
    have HXB := Lib.hid (rdC_from (hNH ▸ hx))
    have HYA := Lib.hid (rdC_take hy (show H ≤ N by omega))
    have HYB := Lib.hid (rdC_from (hNH ▸ hy))
    have HGXA := Lib.hid (tk_good (hNH ▸ hgx))
    have HGXB := Lib.hid (dp_good (hNH ▸ hgx))
    have HGYA := Lib.hid (tk_good (hNH ▸ hgy))
    have HGYB := Lib.hid (dp_good (hNH ▸ hgy))
    have HTK : Hid (∀ u v : List Int, dblL p (st.take n) n u v = dblL p st n u v) := Lib.hid (dbl_take (Nat.le_refl n))
    have hkb := hgs.2 n (by omega)
    obtain ⟨k, hk⟩ : ∃ k, k = nth st n := ⟨_, rfl⟩
    rw [← hk] at hcn HR hkb
    have HCN := Lib.hid hcn
    have hdiv : ((N : Nat) : Int) / 2 = (H : Int) := by omega
    have hdiv2 : (((N : Nat) : Int)).tdiv 2 = (H : Int) := by rw [Int.tdiv_eq_ediv_of_nonneg (by omega)]; omega
    have hsub : N - H = H := by omega
    have hln : n ≤ cs := by omega
    have hwH : IntKind.i64.wrap (H : Int) = (H : Int) := IntWalk.i64_in _ (by omega)
    have hnx : ¬ cx = H := by omega
    have hny : ¬ cy = H := by omega
    have hni : (n : Int) < (n : Int) + 1 := by omega
    have hlN : H ≤ N := by omega
    have hlx : H ≤ cx := by omega
    have hly : H ≤ cy := by omega
    have HNH := Lib.hid hNH
    have hlen : ¬ ((n + 1 : Nat) : Int) = 0 := by omega
    have CAL : Hid (∀ (av : Option Addr) (cv : Nat) (u : List Int) (aw : Option Addr) (cw : Nat) (v : List Int) (w1 : World), H ≤ cv → H ≤ cw → RdC w1 (some ⟨bs, os, none⟩) n (st.take n) → RdC w1 av H u → Good p H u → RdC w1 aw H v → Good p H v → Calls Try.prog 83 #[.int .i64 p, .slice (some ⟨bs, os, none⟩) n cs, .slice av H cv, .slice aw H cw] w1 fun e w' => ∃ g rc, e = .returned (.slice (some ⟨g, 0, none⟩) H rc) ∧ OwnC w1.heap.size w' (some ⟨g, 0, none⟩) H rc (dblL p st n u v) ∧ Ext w1 w') := Lib.hid (fun av cv u aw cw v w1 h1 h2 h3 h4 h5 h6 h7 => by
      have := IH.out H (some ⟨bs, os, none⟩) cs (st.take n) av cv u aw cw v w1 (by omega) HHN.out (by omega) h1 h2 h3 HGST.out h4 h5 h6 h7
      rw [HTK.out] at this
      exact this)
    clear hs hgs hx hgx hy hgy hH hN hk hcn IH HTK hNH
    go_enter Try.func83, Try.ntmps83
    go_wp2_with (fail)
    refine wp_region_lex [] (by kernel_rfl) (by kernel_rfl) ?_
    (refine LexW.pure (v := ?_) rfl rfl (fun w1 he => ?_) ?_; rotate_left; ( have e1 := he; go_simp; rfl); simp only [Act.put, List.setIfInBounds_toArray, List.set_cons_zero, List.set_cons_succ])
    (refine LexW.pure (v := ?_) rfl rfl (fun w1 he => ?_) ?_; rotate_left; ( have e1 := he; go_simp; rfl); simp only [Act.put, List.setIfInBounds_toArray, List.set_cons_zero, List.set_cons_succ])
    (refine LexW.pure (v := ?_) rfl rfl (fun w1 he => ?_) ?_; rotate_left; ( have e1 := he; go_simp; rfl); simp only [Act.put, List.setIfInBounds_toArray, List.set_cons_zero, List.set_cons_succ])
    (refine LexW.pure (v := ?_) rfl rfl (fun w1 he => ?_) ?_; rotate_left; ( have e1 := he; go_simp; rfl); simp only [Act.put, List.setIfInBounds_toArray, List.set_cons_zero, List.set_cons_succ])
    (refine LexW.pure (v := ?_) rfl rfl (fun w1 he => ?_) ?_; rotate_left; ( have e1 := he; go_simp; rfl); simp only [Act.put, List.setIfInBounds_toArray, List.set_cons_zero, List.set_cons_succ])
    (refine LexW.pure (v := ?_) rfl rfl (fun w1 he => ?_) ?_; rotate_left; ( have e1 := he; go_simp; rfl); simp only [Act.put, List.setIfInBounds_toArray, List.set_cons_zero, List.set_cons_succ])
    (refine LexW.pure (v := ?_) rfl rfl (fun w1 he => ?_) ?_; rotate_left; ( have e1 := he; go_simp; rfl); simp only [Act.put, List.setIfInBounds_toArray, List.set_cons_zero, List.set_cons_succ])
    (refine LexW.pure (v := ?_) rfl rfl (fun w1 he => ?_) ?_; rotate_left; ( have e1 := he; go_simp; rfl); simp only [Act.put, List.setIfInBounds_toArray, List.set_cons_zero, List.set_cons_succ])
    (refine LexW.pure (v := ?_) rfl rfl (fun w1 he => ?_) ?_; rotate_left; ( have e1 := he; go_simp; rfl); simp only [Act.put, List.setIfInBounds_toArray, List.set_cons_zero, List.set_cons_succ])
    (refine LexW.pure (v := ?_) rfl rfl (fun w1 he => ?_) ?_; rotate_left; ( have e1 := he; go_simp; rfl); simp only [Act.put, List.setIfInBounds_toArray, List.set_cons_zero, List.set_cons_succ])
    (refine LexW.pure (v := ?_) rfl rfl (fun w1 he => ?_) ?_; rotate_left; ( have e1 := he; go_simp; rfl); simp only [Act.put, List.setIfInBounds_toArray, List.set_cons_zero, List.set_cons_succ])
    (refine LexW.pure (v := ?_) rfl rfl (fun w1 he => ?_) ?_; rotate_left; ( have e1 := he; go_simp; rfl); simp only [Act.put, List.setIfInBounds_toArray, List.set_cons_zero, List.set_cons_succ])
    (refine LexW.pure (v := ?_) rfl rfl (fun w1 he => ?_) ?_; rotate_left; ( have e1 := he; go_simp; rfl); simp only [Act.put, List.setIfInBounds_toArray, List.set_cons_zero, List.set_cons_succ])
    (refine LexW.pure (v := ?_) rfl rfl (fun w1 he => ?_) ?_; rotate_left; ( have e1 := he; go_simp; rfl); simp only [Act.put, List.setIfInBounds_toArray, List.set_cons_zero, List.set_cons_succ])
    (refine LexW.pure (v := ?_) rfl rfl (fun w1 he => ?_) ?_; rotate_left; ( have e1 := he; go_simp; rfl); simp only [Act.put, List.setIfInBounds_toArray, List.set_cons_zero, List.set_cons_succ])
    (refine LexW.pure (v := ?_) rfl rfl (fun w1 he => ?_) ?_; rotate_left; ( have e1 := he; go_simp; rfl); simp only [Act.put, List.setIfInBounds_toArray, List.set_cons_zero, List.set_cons_succ])
    refine LexW.nil (fun w3 he hkn => ?_)
    have HE := Lib.hid ((ext_drew w).trans he)
    clear he hkn 
    rename World => w1
    have HST1 := Lib.hid (HST.out.ext (HE.out.trans (ext_drew _)))
    have HXA1 := Lib.hid (HXA.out.ext (HE.out.trans (ext_drew _)))
    have HXB1 := Lib.hid (HXB.out.ext (HE.out.trans (ext_drew _)))
    have HYA1 := Lib.hid (HYA.out.ext (HE.out.trans (ext_drew _)))
    have HYB1 := Lib.hid (HYB.out.ext (HE.out.trans (ext_drew _)))
    have HCN1 := Lib.hid ((HE.out.trans (ext_drew _)).cell HCN.out)
    have HW1 := Lib.hid (HE.out.trans (ext_drew _))
    clear HE
    go_wp2_with (fail)
    refine wp_region_lex [(5, .ownS w.heap.size H (dblL p st n (x.take H) (y.take H))), (10, .ownS w.heap.size H (conjL p (y.drop H))), (12, .ownS w.heap.size H (dblL p st n (conjL p (y.drop H)) (x.drop H))), (17, .ownS w.heap.size H (plusL p (dblL p st n (x.take H) (y.take H)) (dblL p st n (conjL p (y.drop H)) (x.drop H)) k H))] (by kernel_rfl) (by kernel_rfl) ?_
    (refine LexW.pure (v := ?_) rfl rfl (fun w1 he => ?_) ?_; rotate_left; ( have e1 := he.cell HCN1.out; go_simp; rfl); simp only [Act.put, List.setIfInBounds_toArray, List.set_cons_zero, List.set_cons_succ])
    (refine LexW.pure (v := ?_) rfl rfl (fun w1 he => ?_) ?_; rotate_left; ( have e1 := he.cell HCN1.out; go_simp; rfl); simp only [Act.put, List.setIfInBounds_toArray, List.set_cons_zero, List.set_cons_succ])
    (refine LexW.pure (v := ?_) rfl rfl (fun w1 he => ?_) ?_; rotate_left; ( have e1 := he.cell HCN1.out; go_simp; rfl); simp only [Act.put, List.setIfInBounds_toArray, List.set_cons_zero, List.set_cons_succ])
    (refine LexW.pure (v := ?_) rfl rfl (fun w1 he => ?_) ?_; rotate_left; ( have e1 := he.cell HCN1.out; go_simp; rfl); simp only [Act.put, List.setIfInBounds_toArray, List.set_cons_zero, List.set_cons_succ])
    (refine LexW.pure (v := ?_) rfl rfl (fun w1 he => ?_) ?_; rotate_left; ( have e1 := he.cell HCN1.out; go_simp; rfl); simp only [Act.put, List.setIfInBounds_toArray, List.set_cons_zero, List.set_cons_succ])
    (refine LexW.callR (f := ?_) (args := ?_) rfl rfl (fun w1 => ?_) (fun w1 he hdep => ?_) (fun v hv => ?_); rotate_left 2; (go_simp; refine ⟨?_, ?_⟩ <;> rfl); ( refine (CAL.out _ _ _ _ _ _ w1 (by omega) (by omega) (HST1.out.ext he) (HXA1.out.ext he) HGXA.out (HYA1.out.ext he) HGYA.out).mono ?_; rintro e w2 ⟨g, rc, rfl, ho, g2⟩; exact ⟨_, rfl, g2, g, rc, rfl, ho.mono (Nat.le_trans HW1.out.size he.size)⟩); simp only [Act.put, List.setIfInBounds_toArray, List.set_cons_zero, List.set_cons_succ])
    obtain ⟨_, g57, c57, rfl, _⟩ := hv
    (refine LexW.pure (v := ?_) rfl rfl (fun w1 he => ?_) ?_; rotate_left; ( have e1 := he.cell HCN1.out; go_simp; rfl); simp only [Act.put, List.setIfInBounds_toArray, List.set_cons_zero, List.set_cons_succ])
    (refine LexW.pure (v := ?_) rfl rfl (fun w1 he => ?_) ?_; rotate_left; ( have e1 := he.cell HCN1.out; go_simp; rfl); simp only [Act.put, List.setIfInBounds_toArray, List.set_cons_zero, List.set_cons_succ])
    (refine LexW.pure (v := ?_) rfl rfl (fun w1 he => ?_) ?_; rotate_left; ( have e1 := he.cell HCN1.out; go_simp; rfl); simp only [Act.put, List.setIfInBounds_toArray, List.set_cons_zero, List.set_cons_succ])
    (refine LexW.pure (v := ?_) rfl rfl (fun w1 he => ?_) ?_; rotate_left; ( have e1 := he.cell HCN1.out; go_simp; rfl); simp only [Act.put, List.setIfInBounds_toArray, List.set_cons_zero, List.set_cons_succ])
    (refine LexW.callR (f := ?_) (args := ?_) rfl rfl (fun w1 => ?_) (fun w1 he hdep => ?_) (fun v hv => ?_); rotate_left 2; (go_simp; refine ⟨?_, ?_⟩ <;> rfl); ( refine (c_conj p _ H _ (y.drop H) w1 hp1 hp2 (by omega) (by omega) (HYB1.out.ext he) HGYB.out).mono ?_; rintro e w2 ⟨g, rc, rfl, ho, g2⟩; exact ⟨_, rfl, g2, g, rc, rfl, ho.mono (Nat.le_trans HW1.out.size he.size)⟩); simp only [Act.put, List.setIfInBounds_toArray, List.set_cons_zero, List.set_cons_succ])
    obtain ⟨_, g62, c62, rfl, _⟩ := hv
    (refine LexW.pure (v := ?_) rfl rfl (fun w1 he => ?_) ?_; rotate_left; ( have e1 := he.cell HCN1.out; go_simp; rfl); simp only [Act.put, List.setIfInBounds_toArray, List.set_cons_zero, List.set_cons_succ])
    (refine LexW.callR (f := ?_) (args := ?_) rfl rfl (fun w1 => ?_) (fun w1 he hdep => ?_) (fun v hv => ?_); rotate_left 2; (go_simp; refine ⟨?_, ?_⟩ <;> rfl); ( obtain ⟨_, _, q62, r62⟩ : (SPred.ownS w.heap.size H (conjL p (y.drop H))).holds (.slice (some ⟨g62, 0, none⟩) H c62) w1 := hdep (10, 62) (by decide +kernel); cases q62; refine (CAL.out _ _ _ _ _ _ w1 (r62.capLe (by omega)) (by omega) (HST1.out.ext he) r62.rd (conj_good (by omega) HGYB.out) (HXB1.out.ext he) HGXB.out).mono ?_; rintro e w2 ⟨g, rc, rfl, ho, g2⟩; exact ⟨_, rfl, g2, g, rc, rfl, ho.mono (Nat.le_trans HW1.out.size he.size)⟩); simp only [Act.put, List.setIfInBounds_toArray, List.set_cons_zero, List.set_cons_succ])
    obtain ⟨_, g64, c64, rfl, _⟩ := hv
    (refine LexW.pure (v := ?_) rfl rfl (fun w1 he => ?_) ?_; rotate_left; ( have e1 := he.cell HCN1.out; go_simp; rfl); simp only [Act.put, List.setIfInBounds_toArray, List.set_cons_zero, List.set_cons_succ])
    (refine LexW.pure (v := ?_) rfl rfl (fun w1 he => ?_) ?_; rotate_left; ( have e1 := he.cell HCN1.out; go_simp; rfl); simp only [Act.put, List.setIfInBounds_toArray, List.set_cons_zero, List.set_cons_succ])
    (refine LexW.pure (v := ?_) rfl rfl (fun w1 he => ?_) ?_; rotate_left; ( have e1 := he.cell HCN1.out; go_simp; rfl); simp only [Act.put, List.setIfInBounds_toArray, List.set_cons_zero, List.set_cons_succ])
    (refine LexW.pure (v := ?_) rfl rfl (fun w1 he => ?_) ?_; rotate_left; ( have e1 := he.cell HCN1.out; go_simp; rfl); simp only [Act.put, List.setIfInBounds_toArray, List.set_cons_zero, List.set_cons_succ])
    (refine LexW.callR (f := ?_) (args := ?_) rfl rfl (fun w1 => ?_) (fun w1 he hdep => ?_) (fun v hv => ?_); rotate_left 2; (go_simp; refine ⟨?_, ?_⟩ <;> rfl); ( obtain ⟨_, _, q57, r57⟩ : (SPred.ownS w.heap.size H (dblL p st n (x.take H) (y.take H))).holds (.slice (some ⟨g57, 0, none⟩) H c57) w1 := hdep (5, 57) (by decide +kernel); cases q57; obtain ⟨_, _, q64, r64⟩ : (SPred.ownS w.heap.size H (dblL p st n (conjL p (y.drop H)) (x.drop H))).holds (.slice (some ⟨g64, 0, none⟩) H c64) w1 := hdep (12, 64) (by decide +kernel); cases q64; refine (c_plus p _ _ H _ _ _ _ k w1 hp1 (by omega) (by omega) (by omega) r57.rd r64.rd (HD _ _).out (HD _ _).out).mono ?_; rintro e w2 ⟨g, rc, rfl, ho, g2⟩; exact ⟨_, rfl, g2, g, rc, rfl, ho.mono (Nat.le_trans HW1.out.size he.size)⟩); simp only [Act.put, List.setIfInBounds_toArray, List.set_cons_zero, List.set_cons_succ])
    obtain ⟨_, g69, c69, rfl, _⟩ := hv
    (refine LexW.pure (v := ?_) rfl rfl (fun w1 he => ?_) ?_; rotate_left; ( have e1 := he.cell HCN1.out; go_simp; rfl); simp only [Act.put, List.setIfInBounds_toArray, List.set_cons_zero, List.set_cons_succ])
    refine LexW.nil (fun w3 he hkn => ?_)
    obtain ⟨_, _, q69, r69⟩ : (SPred.ownS w.heap.size H (plusL p (dblL p st n (x.take H) (y.take H)) (dblL p st n (conjL p (y.drop H)) (x.drop H)) k H)).holds (.slice (some ⟨g69, 0, none⟩) H c69) w3 := hkn (17, _) (by simp)
    cases q69
    have R69 := Lib.hid r69
    have HE := Lib.hid (HW1.out.trans he)
    clear he hkn r69
    rename World => w2
    have HST2 := Lib.hid (HST.out.ext HE.out)
    have HXA2 := Lib.hid (HXA.out.ext HE.out)
    have HXB2 := Lib.hid (HXB.out.ext HE.out)
    have HYA2 := Lib.hid (HYA.out.ext HE.out)
    have HYB2 := Lib.hid (HYB.out.ext HE.out)
    clear HST1 HXA1 HXB1 HYA1 HYB1 HCN1 HW1
    go_wp2_with (fail)
    refine Calls.mono (CAL.out _ _ _ _ _ _ w2 (by omega) (by omega) HST2.out HYB2.out HGYB.out HXA2.out HGXA.out) ?_
    rintro e w3 ⟨g3, r3, rfl, o3, x3⟩
    have O3 := Lib.hid o3
    have X3 := Lib.hid x3
    clear o3 x3
    go_wp2_with (fail)
    refine Calls.mono (c_conj p _ H _ (y.take H) w3 hp1 hp2 (by omega) (by omega) (HYA2.out.ext X3.out) HGYA.out) ?_
    rintro e w4 ⟨g4, r4, rfl, o4, x4⟩
    have O4 := Lib.hid o4
    have X4 := Lib.hid x4
    clear o4 x4
    go_wp2_with (fail)
    refine Calls.mono (CAL.out _ _ _ _ _ _ w4 (by omega) (O4.out.capLe (by omega)) (HST2.out.ext (X3.out.trans X4.out)) (HXB2.out.ext (X3.out.trans X4.out)) HGXB.out O4.out.rd (conj_good (by omega) HGYA.out)) ?_
    rintro e w5 ⟨g5, r5, rfl, o5, x5⟩
    have O5 := Lib.hid o5
    have X5 := Lib.hid x5
    clear o5 x5
    go_wp2_with (fail)
    refine Calls.mono (c_plus p _ _ H _ _ _ _ 1 w5 hp1 (by omega) (by omega) (by omega) (O3.out.rd.ext (X4.out.trans X5.out)) O5.out.rd (HD _ _).out (HD _ _).out) ?_
    rintro e w6 ⟨g6, r6, rfl, o6, x6⟩
    have O6 := Lib.hid o6
    have X6 := Lib.hid (X3.out.trans (X4.out.trans (X5.out.trans x6)))
    clear o6 x6
    have R1 := Lib.hid (R69.out.ext X6.out)
    have R2 := Lib.hid O6.out.rd
    have E6 := Lib.hid (HE.out.trans X6.out)
    clear O3 O4 O5 X3 X4 X5 R69
    go_wp2_with (at_builtin; refine wpList_appendAll rfl (.tmp 84) (.tmp 85) rfl rfl rfl R1.out R2.out (by omega) (by omega) (by omega) E6.out.size ?hk)
    intro g' cap' w7 ho _ he
    have HO := Lib.hid ho
    have HE7 := Lib.hid (he w (Nat.le_refl _) E6.out)
    clear ho he
    go_wp2_with (fail)
    go_ret
    have hNN := HNH.out
    subst hNN
    refine ⟨g', cap', rfl, ?_, HE7.out⟩
    rw [HR.out]
    exact HO.out

set_option maxHeartbeats 8000000 in
set_option maxRecDepth 100000 in
theorem s_mul11 (p : Int) (hp1 : 3 ≤ p) (hp2 : p ≤ 900) : ∀ (n N : Nat) (sa : Option Addr) (cs : Nat) (st : List Int) (ax : Option Addr) (cx : Nat) (x : List Int) (ay : Option Addr) (cy : Nat) (y : List Int) (w : World), n ≤ 4 → N = 2 ^ n → n ≤ cs → N ≤ cx → N ≤ cy → RdC w sa n st → Good p n st → RdC w ax N x → Good p N x → RdC w ay N y → Good p N y →
    Calls Try.prog 92 #[.int .i64 p, .slice sa n cs, .slice ax N cx, .slice ay N cy] w fun e w' => ∃ g rc, e = .returned (.slice (some ⟨g, 0, none⟩) N rc) ∧ OwnC w.heap.size w' (some ⟨g, 0, none⟩) N rc (dblL p st n x y) ∧ Ext w w' := by
  intro n
  induction n with
  | zero =>
    intro N sa cs st ax cx x ay cy y w _ hN _ _ _ _ _ hx hgx hy hgy
    obtain rfl : N = 1 := hN
    obtain ⟨bx, ox, rfl, hcx⟩ := hx.2 0 (by omega)
    obtain ⟨bb, oy, rfl, hcy⟩ := hy.2 0 (by omega)
    rw [Nat.add_zero] at hcx hcy
    have hxb := hgx.2 0 (by omega)
    have hyb := hgy.2 0 (by omega)
    have HR : Hid (dblL p st 0 x y = [nth x 0 * nth y 0 % p]) := Lib.hid rfl
    obtain ⟨u, hu⟩ : ∃ u, u = nth x 0 := ⟨_, rfl⟩
    obtain ⟨v, hv⟩ : ∃ v, v = nth y 0 := ⟨_, rfl⟩
    rw [← hu] at hcx hxb HR
    rw [← hv] at hcy hyb HR
    have hmb : 0 ≤ u * v ∧ u * v ≤ 810000 := ⟨Int.mul_nonneg hxb.1 hyb.1, by
      have := Int.mul_le_mul (show u ≤ 900 by omega) (show v ≤ 900 by omega) hyb.1 (show (0 : Int) ≤ 900 by omega)
      omega⟩
    have hw1 : IntKind.i64.wrap (u * v) = u * v := IntWalk.i64_in _ (by omega)
    have HCX := Lib.hid ((ext_drew _).cell hcx)
    have HCY := Lib.hid ((ext_drew _).cell hcy)
    obtain ⟨z, hz⟩ : ∃ z, z = u * v % p := ⟨_, rfl⟩
    rw [← hz] at HR
    have HZ := Lib.hid hz.symm
    clear hx hgx hy hgy hcx hcy hu hv hz
    go_enter Try.func92, Try.ntmps92
    go_wp2_with (fail)
    refine wp_region_lex_tail 9 [(8, .val (.int .i64 z))] (by kernel_rfl) (by kernel_rfl) ?_
    simp only [List.take, List.drop]
    (refine LexW.pure (v := ?_) rfl rfl (fun w1 he => ?_) ?_; rotate_left; ( have e1 := he.cell HCX.out; have e2 := he.cell HCY.out; go_simp; rfl); simp only [Act.put, List.setIfInBounds_toArray, List.set_cons_zero, List.set_cons_succ])
    (refine LexW.pure (v := ?_) rfl rfl (fun w1 he => ?_) ?_; rotate_left; ( have e1 := he.cell HCX.out; have e2 := he.cell HCY.out; go_simp; rfl); simp only [Act.put, List.setIfInBounds_toArray, List.set_cons_zero, List.set_cons_succ])
    (refine LexW.pure (v := ?_) rfl rfl (fun w1 he => ?_) ?_; rotate_left; ( have e1 := he.cell HCX.out; have e2 := he.cell HCY.out; go_simp; rfl); simp only [Act.put, List.setIfInBounds_toArray, List.set_cons_zero, List.set_cons_succ])
    (refine LexW.pure (v := ?_) rfl rfl (fun w1 he => ?_) ?_; rotate_left; ( have e1 := he.cell HCX.out; have e2 := he.cell HCY.out; go_simp; rfl); simp only [Act.put, List.setIfInBounds_toArray, List.set_cons_zero, List.set_cons_succ])
    (refine LexW.pure (v := ?_) rfl rfl (fun w1 he => ?_) ?_; rotate_left; ( have e1 := he.cell HCX.out; have e2 := he.cell HCY.out; go_simp; rfl); simp only [Act.put, List.setIfInBounds_toArray, List.set_cons_zero, List.set_cons_succ])
    (refine LexW.pure (v := ?_) rfl rfl (fun w1 he => ?_) ?_; rotate_left; ( have e1 := he.cell HCX.out; have e2 := he.cell HCY.out; go_simp; rfl); simp only [Act.put, List.setIfInBounds_toArray, List.set_cons_zero, List.set_cons_succ])
    (refine LexW.pure (v := ?_) rfl rfl (fun w1 he => ?_) ?_; rotate_left; ( have e1 := he.cell HCX.out; have e2 := he.cell HCY.out; go_simp; rfl); simp only [Act.put, List.setIfInBounds_toArray, List.set_cons_zero, List.set_cons_succ])
    (refine LexW.pure (v := ?_) rfl rfl (fun w1 he => ?_) ?_; rotate_left; ( have e1 := he.cell HCX.out; have e2 := he.cell HCY.out; go_simp; rfl); simp only [Act.put, List.setIfInBounds_toArray, List.set_cons_zero, List.set_cons_succ])
    (refine LexW.call (f := ?_) (args := ?_) rfl rfl (fun w1 => ?_) (fun w1 he hdep => ?_) ?_; rotate_left 2; (go_simp; refine ⟨?_, ?_⟩ <;> rfl); ( have H := (s_mod p (u * v) w1 (by omega) (by omega)); rw [HZ.out] at H; exact H); simp only [Act.put, List.setIfInBounds_toArray, List.set_cons_zero, List.set_cons_succ])
    refine LexW.nil (fun w3 he hkn => ?_)
    have HE := Lib.hid ((ext_drew w).trans he)
    clear he hkn 
    go_wp2_with (fail)
    go_ret
    refine ⟨_, 1, rfl, ?_, HE.out.trans (ext_alloc _ _)⟩
    rw [HR.out]
    exact own_lit1 HE.out.size z
  | succ n ih =>
    intro N sa cs st ax cx x ay cy y w hn hN hcs hcx hcy hs hgs hx hgx hy hgy
    have IH := Lib.hid ih
    clear ih
    obtain ⟨H, hH⟩ : ∃ H, H = 2 ^ n := ⟨_, rfl⟩
    have hNH : N = H + H := by rw [hN, hH]; exact two_pow_add n
    have hH1 : 1 ≤ H := by rw [hH]; exact Nat.one_le_two_pow
    have hH8 : H ≤ 8 := by rw [hH]; exact Nat.le_trans (Nat.pow_le_pow_right (by omega) (show n ≤ 3 by omega)) (by decide)
    have HHN := Lib.hid hH
    have HR : Hid (dblL p st (n + 1) x y = plusL p (dblL p st n (x.take H) (y.take H)) (dblL p st n (conjL p (y.drop H)) (x.drop H)) (nth st n) H ++ plusL p (dblL p st n (y.drop H) (x.take H)) (dblL p st n (x.drop H) (conjL p (y.take H))) 1 H) := Lib.hid (by rw [hH]; rfl)
    have HD := fun (u v : List Int) => Lib.hid (show Good p H (dblL p st n u v) by rw [hH]; exact dbl_good (by omega) n u v)
    obtain ⟨bs, os, rfl, hcn⟩ := hs.2 n (by omega)
    obtain ⟨bx, ox, rfl, _⟩ := hx.2 0 (by omega)
    obtain ⟨bb, oy, rfl, _⟩ := hy.2 0 (by omega)
    have HST := Lib.hid (rdC_take hs (show n ≤ n + 1 by omega))
    have HGST := Lib.hid (show Good p n (st.take n) from ⟨by rw [List.length_take, hgs.1]; omega, fun i hi => by rw [tk_nth hi]; exact hgs.2 i (by omega)⟩)
    have HXA := Lib.hid (rdC_take hx (show H ≤ N by omega))
    have HXB := Lib.hid (rdC_from (hNH ▸ hx))
    have HYA := Lib.hid (rdC_take hy (show H ≤ N by omega))
    have HYB := Lib.hid (rdC_from (hNH ▸ hy))
    have HGXA := Lib.hid (tk_good (hNH ▸ hgx))
    have HGXB := Lib.hid (dp_good (hNH ▸ hgx))
    have HGYA := Lib.hid (tk_good (hNH ▸ hgy))
    have HGYB := Lib.hid (dp_good (hNH ▸ hgy))
    have HTK : Hid (∀ u v : List Int, dblL p (st.take n) n u v = dblL p st n u v) := Lib.hid (dbl_take (Nat.le_refl n))
    have hkb := hgs.2 n (by omega)
    obtain ⟨k, hk⟩ : ∃ k, k = nth st n := ⟨_, rfl⟩
    rw [← hk] at hcn HR hkb
    have HCN := Lib.hid hcn
    have hdiv : ((N : Nat) : Int) / 2 = (H : Int) := by omega
    have hdiv2 : (((N : Nat) : Int)).tdiv 2 = (H : Int) := by rw [Int.tdiv_eq_ediv_of_nonneg (by omega)]; omega
    have hsub : N - H = H := by omega
    have hln : n ≤ cs := by omega
    have hwH : IntKind.i64.wrap (H : Int) = (H : Int) := IntWalk.i64_in _ (by omega)
    have hnx : ¬ cx = H := by omega
    have hny : ¬ cy = H := by omega
    have hni : (n : Int) < (n : Int) + 1 := by omega
    have hlN : H ≤ N := by omega
    have hlx : H ≤ cx := by omega
    have hly : H ≤ cy := by omega
    have HNH := Lib.hid hNH
    have hlen : ¬ ((n + 1 : Nat) : Int) = 0 := by omega
    have CAL : Hid (∀ (av : Option Addr) (cv : Nat) (u : List Int) (aw : Option Addr) (cw : Nat) (v : List Int) (w1 : World), H ≤ cv → H ≤ cw → RdC w1 (some ⟨bs, os, none⟩) n (st.take n) → RdC w1 av H u → Good p H u → RdC w1 aw H v → Good p H v → Calls Try.prog 92 #[.int .i64 p, .slice (some ⟨bs, os, none⟩) n cs, .slice av H cv, .slice aw H cw] w1 fun e w' => ∃ g rc, e = .returned (.slice (some ⟨g, 0, none⟩) H rc) ∧ OwnC w1.heap.size w' (some ⟨g, 0, none⟩) H rc (dblL p st n u v) ∧ Ext w1 w') := Lib.hid (fun av cv u aw cw v w1 h1 h2 h3 h4 h5 h6 h7 => by
      have := IH.out H (some ⟨bs, os, none⟩) cs (st.take n) av cv u aw cw v w1 (by omega) HHN.out (by omega) h1 h2 h3 HGST.out h4 h5 h6 h7
      rw [HTK.out] at this
      exact this)
    clear hs hgs hx hgx hy hgy hH hN hk hcn IH HTK hNH
    go_enter Try.func92, Try.ntmps92
    go_wp2_with (fail)
    have HCN0 := Lib.hid ((ext_drew w).cell HCN.out)
    refine wp_region_lex [] (by kernel_rfl) (by kernel_rfl) ?_
    (refine LexW.pure (v := ?_) rfl rfl (fun w1 he => ?_) ?_; rotate_left; ( have e1 := he.cell HCN0.out; go_simp; rfl); simp only [Act.put, List.setIfInBounds_toArray, List.set_cons_zero, List.set_cons_succ])
    (refine LexW.pure (v := ?_) rfl rfl (fun w1 he => ?_) ?_; rotate_left; ( have e1 := he.cell HCN0.out; go_simp; rfl); simp only [Act.put, List.setIfInBounds_toArray, List.set_cons_zero, List.set_cons_succ])
    (refine LexW.pure (v := ?_) rfl rfl (fun w1 he => ?_) ?_; rotate_left; ( have e1 := he.cell HCN0.out; go_simp; rfl); simp only [Act.put, List.setIfInBounds_toArray, List.set_cons_zero, List.set_cons_succ])
    (refine LexW.pure (v := ?_) rfl rfl (fun w1 he => ?_) ?_; rotate_left; ( have e1 := he.cell HCN0.out; go_simp; rfl); simp only [Act.put, List.setIfInBounds_toArray, List.set_cons_zero, List.set_cons_succ])
    (refine LexW.pure (v := ?_) rfl rfl (fun w1 he => ?_) ?_; rotate_left; ( have e1 := he.cell HCN0.out; go_simp; rfl); simp only [Act.put, List.setIfInBounds_toArray, List.set_cons_zero, List.set_cons_succ])
    (refine LexW.pure (v := ?_) rfl rfl (fun w1 he => ?_) ?_; rotate_left; ( have e1 := he.cell HCN0.out; go_simp; rfl); simp only [Act.put, List.setIfInBounds_toArray, List.set_cons_zero, List.set_cons_succ])
    (refine LexW.pure (v := ?_) rfl rfl (fun w1 he => ?_) ?_; rotate_left; ( have e1 := he.cell HCN0.out; go_simp; rfl); simp only [Act.put, List.setIfInBounds_toArray, List.set_cons_zero, List.set_cons_succ])
    (refine LexW.pure (v := ?_) rfl rfl (fun w1 he => ?_) ?_; rotate_left; ( have e1 := he.cell HCN0.out; go_simp; rfl); simp only [Act.put, List.setIfInBounds_toArray, List.set_cons_zero, List.set_cons_succ])
    (refine LexW.pure (v := ?_) rfl rfl (fun w1 he => ?_) ?_; rotate_left; ( have e1 := he.cell HCN0.out; go_simp; rfl); simp only [Act.put, List.setIfInBounds_toArray, List.set_cons_zero, List.set_cons_succ])
    (refine LexW.pure (v := ?_) rfl rfl (fun w1 he => ?_) ?_; rotate_left; ( have e1 := he.cell HCN0.out; go_simp; rfl); simp only [Act.put, List.setIfInBounds_toArray, List.set_cons_zero, List.set_cons_succ])
    (refine LexW.pure (v := ?_) rfl rfl (fun w1 he => ?_) ?_; rotate_left; ( have e1 := he.cell HCN0.out; go_simp; rfl); simp only [Act.put, List.setIfInBounds_toArray, List.set_cons_zero, List.set_cons_succ])
    (refine LexW.pure (v := ?_) rfl rfl (fun w1 he => ?_) ?_; rotate_left; ( have e1 := he.cell HCN0.out; go_simp; rfl); simp only [Act.put, List.setIfInBounds_toArray, List.set_cons_zero, List.set_cons_succ])
    (refine LexW.pure (v := ?_) rfl rfl (fun w1 he => ?_) ?_; rotate_left; ( have e1 := he.cell HCN0.out; go_simp; rfl); simp only [Act.put, List.setIfInBounds_toArray, List.set_cons_zero, List.set_cons_succ])
    refine LexW.nil (fun w3 he hkn => ?_)
    have HE := Lib.hid ((ext_drew w).trans he)
    clear he hkn 
    rename World => w1
    have HCN1 := Lib.hid ((HE.out.trans (ext_drew _)).cell HCN.out)
    have HW1 := Lib.hid (HE.out.trans (ext_drew _))
    clear HE
    go_wp2_with (fail)
    refine wp_region_lex [] (by kernel_rfl) (by kernel_rfl) ?_
    (refine LexW.pure (v := ?_) rfl rfl (fun w1 he => ?_) ?_; rotate_left; ( go_simp; rfl); simp only [Act.put, List.setIfInBounds_toArray, List.set_cons_zero, List.set_cons_succ])
    (refine LexW.pure (v := ?_) rfl rfl (fun w1 he => ?_) ?_; rotate_left; ( go_simp; rfl); simp only [Act.put, List.setIfInBounds_toArray, List.set_cons_zero, List.set_cons_succ])
    (refine LexW.pure (v := ?_) rfl rfl (fun w1 he => ?_) ?_; rotate_left; ( go_simp; rfl); simp only [Act.put, List.setIfInBounds_toArray, List.set_cons_zero, List.set_cons_succ])
    (refine LexW.pure (v := ?_) rfl rfl (fun w1 he => ?_) ?_; rotate_left; ( go_simp; rfl); simp only [Act.put, List.setIfInBounds_toArray, List.set_cons_zero, List.set_cons_succ])
    (refine LexW.pure (v := ?_) rfl rfl (fun w1 he => ?_) ?_; rotate_left; ( go_simp; rfl); simp only [Act.put, List.setIfInBounds_toArray, List.set_cons_zero, List.set_cons_succ])
    (refine LexW.pure (v := ?_) rfl rfl (fun w1 he => ?_) ?_; rotate_left; ( go_simp; rfl); simp only [Act.put, List.setIfInBounds_toArray, List.set_cons_zero, List.set_cons_succ])
    (refine LexW.pure (v := ?_) rfl rfl (fun w1 he => ?_) ?_; rotate_left; ( go_simp; rfl); simp only [Act.put, List.setIfInBounds_toArray, List.set_cons_zero, List.set_cons_succ])
    (refine LexW.pure (v := ?_) rfl rfl (fun w1 he => ?_) ?_; rotate_left; ( go_simp; rfl); simp only [Act.put, List.setIfInBounds_toArray, List.set_cons_zero, List.set_cons_succ])
    (refine LexW.pure (v := ?_) rfl rfl (fun w1 he => ?_) ?_; rotate_left; ( go_simp; rfl); simp only [Act.put, List.setIfInBounds_toArray, List.set_cons_zero, List.set_cons_succ])
    (refine LexW.pure (v := ?_) rfl rfl (fun w1 he => ?_) ?_; rotate_left; ( go_simp; rfl); simp only [Act.put, List.setIfInBounds_toArray, List.set_cons_zero, List.set_cons_succ])
    (refine LexW.pure (v := ?_) rfl rfl (fun w1 he => ?_) ?_; rotate_left; ( go_simp; rfl); simp only [Act.put, List.setIfInBounds_toArray, List.set_cons_zero, List.set_cons_succ])
    (refine LexW.pure (v := ?_) rfl rfl (fun w1 he => ?_) ?_; rotate_left; ( go_simp; rfl); simp only [Act.put, List.setIfInBounds_toArray, List.set_cons_zero, List.set_cons_succ])
    (refine LexW.pure (v := ?_) rfl rfl (fun w1 he => ?_) ?_; rotate_left; ( go_simp; rfl); simp only [Act.put, List.setIfInBounds_toArray, List.set_cons_zero, List.set_cons_succ])
    (refine LexW.pure (v := ?_) rfl rfl (fun w1 he => ?_) ?_; rotate_left; ( go_simp; rfl); simp only [Act.put, List.setIfInBounds_toArray, List.set_cons_zero, List.set_cons_succ])
    (refine LexW.pure (v := ?_) rfl rfl (fun w1 he => ?_) ?_; rotate_left; ( go_simp; rfl); simp only [Act.put, List.setIfInBounds_toArray, List.set_cons_zero, List.set_cons_succ])
    (refine LexW.pure (v := ?_) rfl rfl (fun w1 he => ?_) ?_; rotate_left; ( go_simp; rfl); simp only [Act.put, List.setIfInBounds_toArray, List.set_cons_zero, List.set_cons_succ])
    refine LexW.nil (fun w3 he hkn => ?_)
    have HE := Lib.hid (HW1.out.trans he)
    clear he hkn 
    rename World => w2
    have HST2 := Lib.hid (HST.out.ext HE.out)
    have HXA2 := Lib.hid (HXA.out.ext HE.out)
    have HXB2 := Lib.hid (HXB.out.ext HE.out)
    have HYA2 := Lib.hid (HYA.out.ext HE.out)
    have HYB2 := Lib.hid (HYB.out.ext HE.out)
    have E2 := HE
    have E2s : w.heap.size ≤ w2.heap.size := HE.out.size
    clear HCN1 HW1 HE
    go_wp2_with (fail)
    refine Calls.mono (CAL.out _ _ _ _ _ _ w2 (by omega) (by omega) HST2.out HXA2.out HGXA.out HYA2.out HGYA.out) ?_
    rintro e w3 ⟨g3, r3, rfl, o3, x3⟩
    have O3 := Lib.hid o3
    have E3 := Lib.hid (E2.out.trans x3)
    replace HST2 := Lib.hid (HST2.out.ext x3)
    replace HXA2 := Lib.hid (HXA2.out.ext x3)
    replace HXB2 := Lib.hid (HXB2.out.ext x3)
    replace HYA2 := Lib.hid (HYA2.out.ext x3)
    replace HYB2 := Lib.hid (HYB2.out.ext x3)
    clear o3 x3 E2
    go_wp2_with (fail)
    refine Calls.mono (s_star p _ H _ (y.drop H) w3 hp1 hp2 (by omega) (by omega) HYB2.out HGYB.out) ?_
    rintro e w4 ⟨g4, r4, rfl, o4, x4⟩
    have O4 := Lib.hid o4
    have E4 := Lib.hid (E3.out.trans x4)
    replace HST2 := Lib.hid (HST2.out.ext x4)
    replace HXA2 := Lib.hid (HXA2.out.ext x4)
    replace HXB2 := Lib.hid (HXB2.out.ext x4)
    replace HYA2 := Lib.hid (HYA2.out.ext x4)
    replace HYB2 := Lib.hid (HYB2.out.ext x4)
    replace O3 := Lib.hid (O3.out.ext x4)
    clear o4 x4 E3
    go_wp2_with (fail)
    refine Calls.mono (CAL.out _ _ _ _ _ _ w4 (O4.out.capLe (by omega)) (by omega) HST2.out O4.out.rd (conj_good (by omega) HGYB.out) HXB2.out HGXB.out) ?_
    rintro e w5 ⟨g5, r5, rfl, o5, x5⟩
    have O5 := Lib.hid o5
    have E5 := Lib.hid (E4.out.trans x5)
    replace HST2 := Lib.hid (HST2.out.ext x5)
    replace HXA2 := Lib.hid (HXA2.out.ext x5)
    replace HXB2 := Lib.hid (HXB2.out.ext x5)
    replace HYA2 := Lib.hid (HYA2.out.ext x5)
    replace HYB2 := Lib.hid (HYB2.out.ext x5)
    replace O3 := Lib.hid (O3.out.ext x5)
    clear o5 x5 E4
    go_wp2_with (fail)
    refine Calls.mono (s_scale11 p _ H _ _ k w5 hp1 (by omega) (by omega) (by omega) O5.out.rd (HD _ _).out) ?_
    rintro e w6 ⟨g6, r6, rfl, o6, x6⟩
    have O6 := Lib.hid o6
    have E6 := Lib.hid (E5.out.trans x6)
    replace HST2 := Lib.hid (HST2.out.ext x6)
    replace HXA2 := Lib.hid (HXA2.out.ext x6)
    replace HXB2 := Lib.hid (HXB2.out.ext x6)
    replace HYA2 := Lib.hid (HYA2.out.ext x6)
    replace HYB2 := Lib.hid (HYB2.out.ext x6)
    replace O3 := Lib.hid (O3.out.ext x6)
    clear o6 x6 E5
    have E7s : w.heap.size ≤ w6.heap.size := E6.out.size
    go_wp2_with (fail)
    refine Calls.mono (s_add11 p _ _ H _ _ _ _ w6 hp1 (by omega) (by omega) O3.out.rd O6.out.rd (fun i hi => by have := (HD (x.take H) (y.take H)).out.2 i hi; omega) (scale_goodN (by omega))) ?_
    rintro e w7 ⟨g7, r7, rfl, o7, x7⟩
    have O7 := Lib.hid o7
    have E7 := Lib.hid (E6.out.trans x7)
    replace HST2 := Lib.hid (HST2.out.ext x7)
    replace HXA2 := Lib.hid (HXA2.out.ext x7)
    replace HXB2 := Lib.hid (HXB2.out.ext x7)
    replace HYA2 := Lib.hid (HYA2.out.ext x7)
    replace HYB2 := Lib.hid (HYB2.out.ext x7)
    clear o7 x7 E6
    have E6s : w.heap.size ≤ w6.heap.size := by have := E7s; exact this
    rw [plus_scale1] at O7
    clear O3 O4 O5 O6
    go_wp2_with (fail)
    refine Calls.mono (CAL.out _ _ _ _ _ _ w7 (by omega) (by omega) HST2.out HYB2.out HGYB.out HXA2.out HGXA.out) ?_
    rintro e w8 ⟨g8, r8, rfl, o8, x8⟩
    have O8 := Lib.hid o8
    have E8 := Lib.hid (E7.out.trans x8)
    replace HST2 := Lib.hid (HST2.out.ext x8)
    replace HXA2 := Lib.hid (HXA2.out.ext x8)
    replace HXB2 := Lib.hid (HXB2.out.ext x8)
    replace HYA2 := Lib.hid (HYA2.out.ext x8)
    replace HYB2 := Lib.hid (HYB2.out.ext x8)
    replace O7 := Lib.hid (O7.out.ext x8)
    clear o8 x8 E7
    go_wp2_with (fail)
    refine Calls.mono (s_star p _ H _ (y.take H) w8 hp1 hp2 (by omega) (by omega) HYA2.out HGYA.out) ?_
    rintro e w9 ⟨g9, r9, rfl, o9, x9⟩
    have O9 := Lib.hid o9
    have E9 := Lib.hid (E8.out.trans x9)
    replace HST2 := Lib.hid (HST2.out.ext x9)
    replace HXA2 := Lib.hid (HXA2.out.ext x9)
    replace HXB2 := Lib.hid (HXB2.out.ext x9)
    replace HYA2 := Lib.hid (HYA2.out.ext x9)
    replace HYB2 := Lib.hid (HYB2.out.ext x9)
    replace O7 := Lib.hid (O7.out.ext x9)
    replace O8 := Lib.hid (O8.out.ext x9)
    clear o9 x9 E8
    go_wp2_with (fail)
    refine Calls.mono (CAL.out _ _ _ _ _ _ w9 (by omega) (O9.out.capLe (by omega)) HST2.out HXB2.out HGXB.out O9.out.rd (conj_good (by omega) HGYA.out)) ?_
    rintro e w10 ⟨g10, r10, rfl, o10, x10⟩
    have O10 := Lib.hid o10
    have E10 := Lib.hid (E9.out.trans x10)
    replace HST2 := Lib.hid (HST2.out.ext x10)
    replace HXA2 := Lib.hid (HXA2.out.ext x10)
    replace HXB2 := Lib.hid (HXB2.out.ext x10)
    replace HYA2 := Lib.hid (HYA2.out.ext x10)
    replace HYB2 := Lib.hid (HYB2.out.ext x10)
    replace O7 := Lib.hid (O7.out.ext x10)
    replace O8 := Lib.hid (O8.out.ext x10)
    clear o10 x10 E9
    go_wp2_with (fail)
    refine Calls.mono (s_add11 p _ _ H _ _ _ _ w10 hp1 (by omega) (by omega) O8.out.rd O10.out.rd (fun i hi => by have := (HD (y.drop H) (x.take H)).out.2 i hi; omega) (HD _ _).out) ?_
    rintro e w11 ⟨g11, r11, rfl, o11, x11⟩
    have O11 := Lib.hid o11
    have E11 := Lib.hid (E10.out.trans x11)
    replace HST2 := Lib.hid (HST2.out.ext x11)
    replace HXA2 := Lib.hid (HXA2.out.ext x11)
    replace HXB2 := Lib.hid (HXB2.out.ext x11)
    replace HYA2 := Lib.hid (HYA2.out.ext x11)
    replace HYB2 := Lib.hid (HYB2.out.ext x11)
    replace O7 := Lib.hid (O7.out.ext x11)
    clear o11 x11 E10
    have R1 := Lib.hid (O7.out.mono E6s)
    have R2 := Lib.hid O11.out.rd
    have E6 := E11
    clear O7 O8 O9 O10 O11 E11 HST2 HXA2 HXB2 HYA2 HYB2
    go_wp2_with (at_builtin; refine wpList_appendAll rfl (.tmp 88) (.tmp 89) rfl rfl rfl R1.out R2.out (by omega) (by omega) (by omega) E6.out.size ?hk)
    intro g' cap' w7 ho _ he
    have HO := Lib.hid ho
    have HE7 := Lib.hid (he w (Nat.le_refl _) E6.out)
    clear ho he
    go_wp2_with (fail)
    go_ret
    have hNN := HNH.out
    subst hNN
    refine ⟨g', cap', rfl, ?_, HE7.out⟩
    rw [HR.out]
    exact HO.out

set_option maxHeartbeats 1000000 in
theorem c_dtimes (p : Int) (a : Option Addr) (n cap : Nat) (st : List Int) (N : Nat) (ax : Option Addr) (cx : Nat) (x : List Int) (ay : Option Addr) (cy : Nat) (y : List Int) (w : World) (hp1 : 3 ≤ p) (hp2 : p ≤ 900) (hn : n ≤ 4) (hN : N = 2 ^ n) (hcs : n ≤ cap) (hcx : N ≤ cx) (hcy : N ≤ cy) (hs : RdC w a n st) (hgs : Good p n st) (hx : RdC w ax N x) (hgx : Good p N x) (hy : RdC w ay N y) (hgy : Good p N y) :
    Calls Try.prog 62 #[.agg #[.int .i64 p, .slice a n cap], .slice ax N cx, .slice ay N cy] w fun e w' => ∃ g rc, e = .returned (.slice (some ⟨g, 0, none⟩) N rc) ∧ OwnC w.heap.size w' (some ⟨g, 0, none⟩) N rc (dblL p st n x y) ∧ Ext w w' := by
  obtain ⟨W, hW⟩ : ∃ W, W = w.alloc (.cells #[.int .i64 p, .slice a n cap] 30) := ⟨_, rfl⟩
  have G : Hid (Ext w W) := Lib.hid (by rw [hW]; exact ext_alloc _ _)
  have c0 : Hid (W.cell? ⟨w.heap.size, 0, none⟩ = some (.int .i64 p)) := Lib.hid (by rw [hW]; simp)
  have c1 : Hid (W.cell? ⟨w.heap.size, 1, none⟩ = some (.slice a n cap)) := Lib.hid (by rw [hW]; simp)
  have HW := Lib.hid hW
  have HN := Lib.hid hN
  have HS := Lib.hid (hs.ext G.out)
  have HGS := Lib.hid hgs
  have HX := Lib.hid (hx.ext G.out)
  have HGX := Lib.hid hgx
  have HY := Lib.hid (hy.ext G.out)
  have HGY := Lib.hid hgy
  clear hW hN hs hgs hx hgx hy hgy
  go_enter Try.func62, Try.ntmps62
  go_wp2_with (fail)
  rw [← HW.out]
  have d0 := Lib.hid ((ext_drew W).cell c0.out)
  have d1 := Lib.hid ((ext_drew W).cell c1.out)
  have HS1 := Lib.hid (HS.out.ext (ext_drew W))
  have HX1 := Lib.hid (HX.out.ext (ext_drew W))
  have HY1 := Lib.hid (HY.out.ext (ext_drew W))
  have G1 := Lib.hid (G.out.trans (ext_drew W))
  refine wp_region_lex [(1, .val (.int .i64 p)), (6, .ownS w.heap.size N (dblL p st n x y))] (by kernel_rfl) (by kernel_rfl) ?_
  (refine LexW.pure (v := ?_) rfl rfl (fun w1 he => ?_) ?_; rotate_left; ( have e0 := he.cell d0.out; have e1 := he.cell d1.out; go_simp; rfl); simp only [Act.put, List.setIfInBounds_toArray, List.set_cons_zero, List.set_cons_succ])
  (refine LexW.call (f := ?_) (args := ?_) rfl rfl (fun w1 => ?_) (fun w1 he hdep => ?_) ?_; rotate_left 2; (go_simp; refine ⟨?_, ?_⟩ <;> rfl); ( exact c_dfield _ _ _); simp only [Act.put, List.setIfInBounds_toArray, List.set_cons_zero, List.set_cons_succ])
  (refine LexW.pure (v := ?_) rfl rfl (fun w1 he => ?_) ?_; rotate_left; ( have e0 := he.cell d0.out; have e1 := he.cell d1.out; go_simp; rfl); simp only [Act.put, List.setIfInBounds_toArray, List.set_cons_zero, List.set_cons_succ])
  (refine LexW.pure (v := ?_) rfl rfl (fun w1 he => ?_) ?_; rotate_left; ( have e0 := he.cell d0.out; have e1 := he.cell d1.out; go_simp; rfl); simp only [Act.put, List.setIfInBounds_toArray, List.set_cons_zero, List.set_cons_succ])
  (refine LexW.pure (v := ?_) rfl rfl (fun w1 he => ?_) ?_; rotate_left; ( have e0 := he.cell d0.out; have e1 := he.cell d1.out; go_simp; rfl); simp only [Act.put, List.setIfInBounds_toArray, List.set_cons_zero, List.set_cons_succ])
  (refine LexW.pure (v := ?_) rfl rfl (fun w1 he => ?_) ?_; rotate_left; ( have e0 := he.cell d0.out; have e1 := he.cell d1.out; go_simp; rfl); simp only [Act.put, List.setIfInBounds_toArray, List.set_cons_zero, List.set_cons_succ])
  (refine LexW.callR (f := ?_) (args := ?_) rfl rfl (fun w1 => ?_) (fun w1 he hdep => ?_) (fun v hv => ?_); rotate_left 2; (go_simp; refine ⟨?_, ?_⟩ <;> rfl); ( refine (c_doubled p hp1 hp2 n N a cap st ax cx x ay cy y w1 hn HN.out hcs hcx hcy (HS1.out.ext he) HGS.out (HX1.out.ext he) HGX.out (HY1.out.ext he) HGY.out).mono ?_; rintro e w2 ⟨g, rc, rfl, ho, g2⟩; exact ⟨_, rfl, g2, g, rc, rfl, ho.mono (Nat.le_trans G1.out.size he.size)⟩); simp only [Act.put, List.setIfInBounds_toArray, List.set_cons_zero, List.set_cons_succ])
  obtain ⟨_, g13, c13, rfl, _⟩ := hv
  (refine LexW.pure (v := ?_) rfl rfl (fun w1 he => ?_) ?_; rotate_left; ( have e0 := he.cell d0.out; have e1 := he.cell d1.out; go_simp; rfl); simp only [Act.put, List.setIfInBounds_toArray, List.set_cons_zero, List.set_cons_succ])
  refine LexW.nil (fun w3 he hkn => ?_)
  obtain ⟨_, _, q13, r13⟩ : (SPred.ownS w.heap.size N (dblL p st n x y)).holds (.slice (some ⟨g13, 0, none⟩) N c13) w3 := hkn (6, _) (by simp)
  cases q13
  have R13 := Lib.hid r13
  have HE := Lib.hid (G1.out.trans he)
  clear he hkn r13
  go_wp2_with (fail)
  go_ret
  exact ⟨_, _, rfl, R13.out, HE.out⟩

set_option maxHeartbeats 1000000 in
theorem s_times11 (p : Int) (a : Option Addr) (n cap : Nat) (st : List Int) (N : Nat) (ax : Option Addr) (cx : Nat) (x : List Int) (ay : Option Addr) (cy : Nat) (y : List Int) (w : World) (hp1 : 3 ≤ p) (hp2 : p ≤ 900) (hn : n ≤ 4) (hN : N = 2 ^ n) (hcs : n ≤ cap) (hcx : N ≤ cx) (hcy : N ≤ cy) (hs : RdC w a n st) (hgs : Good p n st) (hx : RdC w ax N x) (hgx : Good p N x) (hy : RdC w ay N y) (hgy : Good p N y) :
    Calls Try.prog 81 #[.agg #[.int .i64 p, .slice a n cap], .slice ax N cx, .slice ay N cy] w fun e w' => ∃ g rc, e = .returned (.slice (some ⟨g, 0, none⟩) N rc) ∧ OwnC w.heap.size w' (some ⟨g, 0, none⟩) N rc (dblL p st n x y) ∧ Ext w w' := by
  obtain ⟨W, hW⟩ : ∃ W, W = w.alloc (.cells #[.int .i64 p, .slice a n cap] 30) := ⟨_, rfl⟩
  have G : Hid (Ext w W) := Lib.hid (by rw [hW]; exact ext_alloc _ _)
  have c0 : Hid (W.cell? ⟨w.heap.size, 0, none⟩ = some (.int .i64 p)) := Lib.hid (by rw [hW]; simp)
  have c1 : Hid (W.cell? ⟨w.heap.size, 1, none⟩ = some (.slice a n cap)) := Lib.hid (by rw [hW]; simp)
  have HW := Lib.hid hW
  have HN := Lib.hid hN
  have HS := Lib.hid (hs.ext G.out)
  have HGS := Lib.hid hgs
  have HX := Lib.hid (hx.ext G.out)
  have HGX := Lib.hid hgx
  have HY := Lib.hid (hy.ext G.out)
  have HGY := Lib.hid hgy
  clear hW hN hs hgs hx hgx hy hgy
  go_enter Try.func81, Try.ntmps81
  go_wp2_with (fail)
  rw [← HW.out]
  refine Calls.mono (s_mul11 p hp1 hp2 n N a cap st ax cx x ay cy y W hn HN.out hcs hcx hcy HS.out HGS.out HX.out HGX.out HY.out HGY.out) ?_
  rintro e w1 ⟨g, rc, rfl, o, g1⟩
  have O := Lib.hid (o.mono G.out.size)
  have G1 := Lib.hid (G.out.trans g1)
  clear o g1
  go_wp2_with (fail)
  go_ret
  exact ⟨_, _, rfl, O.out, G1.out⟩

end Go.Proofs.Ythflmmgolegonaa

/-
  Codes of elements.
  No condition.
-/
namespace Go.Proofs.Ythflmmgolegonaa
set_option maxRecDepth 100000
open Go.RowKit

set_option maxHeartbeats 2000000 in
theorem s_code11 (p : Int) (a : Option Addr) (d cap : Nat) (st : List Int) (al : Option Addr) (n cl : Nat) (es : List (List Int)) (w : World) (hd : d ≤ 4194304) (hl : n ≤ 4194303) (hr : ∀ i, i < n → (nthR es i).length ≤ 4194303) (hq : RdC w a d st) (hx : RdR w al n es) :
    Calls Try.prog 55 #[.agg #[.int .i64 p, .slice a d cap], .slice al n cl] w fun e w' => e = .returned (.int .i64 (codeE p st es)) ∧ Ext w w' := by
  have Hr := Lib.hid hr
  have HQ := Lib.hid hq
  have HL := Lib.hid hx.1
  have HR := Lib.hid hx.2
  have hdl := hq.1
  clear hr hq hx
  cases hs : doubB p st
  · have HS := Lib.hid hs
    have HC := Lib.hid (codeE_A (es := es) hs)
    clear hs
    go_enter Try.func55, Try.ntmps55
    go_wp2_with (go_at_call 65; refine (s_is11 _ _ _ _ _ _ hd (HQ.out.ext (ext_alloc _ _))).mono ?_; rintro e w1 ⟨rfl, g1⟩; rw [HS.out]; have hcc := Ext.cells g1)
    go_ret
    exact ⟨ret_int HC.out.symm, (ext_alloc _ _).trans g1⟩
  · obtain ⟨hpr, hd4, _, _⟩ := doub_of hs
    have hpb := prime_bd hpr
    have HS := Lib.hid hs
    have hd4' : d ≤ 4 := by omega
    have HC := Lib.hid (show codeE p st es = if es.all (multiB p d) = true then 0 else 2 by rw [codeE_B hs, hdl])
    clear hs hpr hd4 hdl
    go_enter Try.func55, Try.ntmps55
    go_wp2_with (go_at_call 65; refine (s_is11 _ _ _ _ _ _ hd (HQ.out.ext (ext_alloc _ _))).mono ?_; rintro e w1 ⟨rfl, g1⟩; rw [HS.out]; have hq0 : w1.cell? ⟨w.heap.size, 0, none⟩ = some (.int .i64 p) := g1.cell (by simp); have hq1 : w1.cell? ⟨w.heap.size, 1, none⟩ = some (.slice a d cap) := g1.cell (by simp))
    have Q0 := Lib.hid hq0
    have Q1 := Lib.hid hq1
    have G1 := Lib.hid ((ext_alloc w (.cells #[.int .i64 p, .slice a d cap] 30)).trans g1)
    clear g1 hq0 hq1
    go_loopw [5] (fun i wr => ∃ k : Nat, k ≤ n ∧ i = .int .i64 k ∧ Hid (∀ j, j < k → multiB p d (nthR es j) = true) ∧ Ext w1 wr) (fun i _ => n - (intOf i).toNat)
    case atStart => exact ⟨0, Nat.zero_le _, rfl, Lib.hid (fun j hj => by omega), Ext.refl _⟩
    case round =>
      obtain ⟨k, hk, rfl, HT, hext⟩ := hrel
      have HExt := Lib.hid hext
      clear hext
      by_cases hlt : k < n
      · obtain ⟨b, off, ai, ci, rfl, hc, hrow⟩ := HR.out k hlt
        have g2 := G1.out.trans HExt.out
        have HRow := Lib.hid (hrow.ext g2)
        have Hc0 := Lib.hid ((g2.trans (ext_drew _)).cell hc)
        have Hq0 := Lib.hid ((HExt.out.trans (ext_drew _)).cell Q0.out)
        have Hq1 := Lib.hid ((HExt.out.trans (ext_drew _)).cell Q1.out)
        clear hc hrow g2
        have hl0 := Hr.out k hlt
        cases hb : multiB p d (nthR es k)
        all_goals
          have HB := Lib.hid hb
          clear hb
          go_wp2_with (fail)
          refine wp_region_lex [(5, .val (.bool (multiB p d (nthR es k))))] (by kernel_rfl) (by kernel_rfl) ?_
          repeat' first | (refine LexW.pure (v := ?_) rfl rfl (fun w1 he => ?_) ?_; rotate_left; ( have hc0 := he.cell Hc0.out; have hq0 := he.cell Hq0.out; have hq1 := he.cell Hq1.out; go_simp; rfl); simp only [Act.put, List.setIfInBounds_toArray, List.set_cons_zero, List.set_cons_succ]) | (refine LexW.call (f := ?_) (args := ?_) rfl rfl (fun w1 => ?_) (fun w1 he hdep => ?_) ?_; rotate_left 2; (go_simp; refine ⟨?_, ?_⟩ <;> rfl); ( have H := s_elem11 p a d cap ai _ ci (nthR es k) w1 (by omega) (by omega) (by omega) hl0 (HRow.out.ext ((ext_drew _).trans he)); exact H); simp only [Act.put, List.setIfInBounds_toArray, List.set_cons_zero, List.set_cons_succ])
          refine LexW.nil (fun w2 he hk => ?_)
          have X2 := Lib.hid (HExt.out.trans ((ext_drew _).trans he))
          clear he hk
          rw [HB.out]
          go_wp2_with (fail)
        · go_ret
          exact ⟨ret_int (by
            rw [HC.out, if_neg]
            intro h
            have := all_nth.1 h k (by rw [HL.out]; exact hlt)
            rw [HB.out] at this; cases this), G1.out.trans X2.out⟩
        · go_roundw
          case rel => exact ⟨k + 1, by omega, by go_num, Lib.hid (fun j hj => by
            by_cases hjk : j = k
            · subst hjk; exact HB.out
            · exact HT.out j (by omega)), X2.out⟩
          case measure => simp [intOf]; omega
      · go_wp2_with (fail)
        go_ret
        exact ⟨ret_int (by rw [HC.out, if_pos (all_nth.2 fun j hj => HT.out j (by rw [HL.out] at hj; omega))]), G1.out.trans HExt.out⟩
theorem codeE_0 {p : Int} {st : List Int} {es : List (List Int)} (hs : doubB p st = true) (h : ∀ i, i < es.length → Good p (2 ^ st.length) (nthR es i)) : codeE p st es = 0 := by
  rw [codeE_B hs, if_pos (all_nth.2 fun i hi => good_multi (h i hi))]
theorem codeE_two {p : Int} {st x y : List Int} {d N : Nat} (hs : doubB p st = true) (hN : N = 2 ^ d) (hd : st.length = d) (hx : Good p N x) (hy : Good p N y) : codeE p st [x, y] = 0 := codeE_0 hs fun i hi => by
  subst hd; subst hN
  have : i = 0 ∨ i = 1 := by simp at hi; omega
  rcases this with rfl | rfl
  · exact hx
  · exact hy
theorem codeE_one {p : Int} {st x : List Int} {d N : Nat} (hs : doubB p st = true) (hN : N = 2 ^ d) (hd : st.length = d) (hx : Good p N x) : codeE p st [x] = 0 := codeE_0 hs fun i hi => by
  subst hd; subst hN
  have : i = 0 := by simp at hi; omega
  subst this
  exact hx
end Go.Proofs.Ythflmmgolegonaa

/-
  append of rows to rows; sums of matrices.
  No condition.
-/
namespace Go.Proofs.Ythflmmgolegonaa
set_option maxRecDepth 100000
open Go.RowKit

/-- append of rows of the call's own. -/
theorem run_appendRows {B : Nat} {w0 w : World} {ra : Option Addr} {n cap : Nat} {rows : List (List Int)} {g2 m c2 : Nat} {rows2 : List (List Int)} (hown : OwnR B w0 ra n cap rows) (he : Ext w0 w) (hx : OwnR w0.heap.size w (some ⟨g2, 0, none⟩) m c2 rows2) (hm : 0 < m) (hn : n ≤ 4194304) (hml : m ≤ 4194304) (hB : B ≤ w0.heap.size) (ty : TypeId) :
    ∃ g' cap' w', (Builtin.append_ #[25, 25] ty #[.slice ra n cap, .slice (some ⟨g2, 0, none⟩) m c2]).run Try.prog w = .ok (.slice (some ⟨g', 0, none⟩) (n + m) cap') w' ∧
      OwnR B w' (some ⟨g', 0, none⟩) (n + m) cap' (rows ++ rows2) ∧ (∀ W : World, W.heap.size ≤ B → Ext W w → Ext W w') := by
  obtain ⟨i0, hi, hz0, hz1, hz2⟩ := info_parts Try.infoR
  have hown0 := hown
  obtain ⟨h1, vs, h2, hap, h4⟩ := hown
  obtain ⟨x1, us, x2, xap, x4⟩ := hx
  have h2' := ownsRow_ext h2 he
  have hvl : vs.length = n := by have := h2.1; omega
  have hul : us.length = m := by have := x2.1; omega
  have hcell : ∀ j u, us[j]? = some u → w.cell? ⟨g2, j, none⟩ = some u := fun j u hj => by
    have hjl : j < m := by
      rcases Nat.lt_or_ge j m with h | h
      · exact h
      · rw [List.getElem?_eq_none (by omega)] at hj; cases hj
    rcases x2.2 with ⟨_, h3⟩ | ⟨g, c, cur, hv, hb, hh, hc1, hc2, hc3, hc4⟩
    · omega
    · simp only [Value.slice.injEq] at hv
      obtain ⟨hv1, _, _⟩ := hv
      cases hv1
      rw [← hc4, List.getElem?_take_of_lt (by omega), Array.getElem?_toList] at hj
      simp only [World.cell?, hh]
      simpa using hj
  obtain ⟨v', w', hr, h5, h6, _⟩ := run_append_own (P := Try.prog) w B 25 ty 22 i0 (.slice none 0 0) 1 24 Try.underlying25 hi hz0 hz1 hz2 rfl (by decide) (.slice ra n cap) n vs h2'
    ⟨g2, 0, none⟩ m c2 us (by omega) (fun j u hj => by
      have := hcell j u hj
      by_cases hj0 : j = 0
      · subst hj0; simpa [Addr.add] using this
      · simpa [Addr.add, hj0] using this) (fun u hu => by
        obtain ⟨j, hj, rfl⟩ := List.getElem_of_mem hu
        obtain ⟨ai, ci, h7, _⟩ := x4 j (by omega)
        rw [List.getElem?_eq_getElem hj] at h7
        rw [Option.some.inj h7]; rfl) (by unfold maxLen; omega) (by omega) (Nat.le_trans hB he.size)
  have form : ∃ g cap, v' = .slice (some ⟨g, 0, none⟩) (n + m) cap := by
    rcases h5.2 with ⟨_, h3⟩ | ⟨g, c, cur, hv, _⟩
    · omega
    · exact ⟨g, c, hv⟩
  obtain ⟨g', cap', rfl⟩ := form
  refine ⟨g', cap', w', hr, ⟨by simp [h1, x1], vs ++ us, h5, ?_, fun i hin => ?_⟩, fun W hW hE => hE.grown h6 fun k hk => Nat.le_trans hW (hown0.blk k hk)⟩
  · intro i k g1 n1 c1 n2 c2 hik hi hk
    have old : ∀ l n3 c3, l < n → vs[l]? = some (Value.slice (some ⟨g1, 0, none⟩) n3 c3) → g1 < w0.heap.size := fun l n3 c3 hl e => by
      obtain ⟨ai, ci, h5, h6⟩ := h4 l hl
      rw [h5] at e
      simp only [Option.some.injEq, Value.slice.injEq] at e
      exact (h6.base_of g1 e.1).2
    have new : ∀ l n3 c3, us[l]? = some (Value.slice (some ⟨g1, 0, none⟩) n3 c3) → w0.heap.size ≤ g1 := fun l n3 c3 e => by
      have hl : l < m := by
        rcases Nat.lt_or_ge l m with h | h
        · exact h
        · rw [List.getElem?_eq_none (by omega)] at e; cases e
      obtain ⟨ai, ci, h5, h6⟩ := x4 l hl
      rw [h5] at e
      simp only [Option.some.injEq, Value.slice.injEq] at e
      exact (h6.base_of g1 e.1).1
    by_cases li : i < n
    · rw [List.getElem?_append_left (by omega)] at hi
      by_cases lk : k < n
      · rw [List.getElem?_append_left (by omega)] at hk
        exact hap i k g1 _ _ _ _ hik hi hk
      · rw [List.getElem?_append_right (by omega)] at hk
        have := new _ _ _ hk; have := old i _ _ li hi; omega
    · rw [List.getElem?_append_right (by omega)] at hi
      by_cases lk : k < n
      · rw [List.getElem?_append_left (by omega)] at hk
        have := new _ _ _ hi; have := old k _ _ lk hk; omega
      · rw [List.getElem?_append_right (by omega)] at hk
        exact xap _ _ g1 _ _ _ _ (by omega) hi hk
  · by_cases hlt : i < n
    · obtain ⟨ai, ci, h7, h8⟩ := h4 i hlt
      have e : nthR (rows ++ rows2) i = nthR rows i := by simp [nthR, List.getElem?_append_left (show i < rows.length by omega)]
      rw [e]
      exact ⟨ai, ci, by rw [List.getElem?_append_left (by omega)]; exact h7, (h8.ext he).grown h6 (own_apart h2' (h8.ext he))⟩
    · obtain ⟨ai, ci, h7, h8⟩ := x4 (i - n) (by omega)
      have e : nthR (rows ++ rows2) i = nthR rows2 (i - n) := by
        unfold nthR
        rw [List.getD_eq_getElem?_getD, List.getD_eq_getElem?_getD, List.getElem?_append_right (by omega), h1]
      rw [e]
      exact ⟨ai, ci, by rw [List.getElem?_append_right (by omega), hvl]; exact h7, (h8.mono hB).grown h6 (own_apart h2' h8)⟩

theorem append_emptyN (w : World) (b t : Addr) (m c : Nat) (us : List Value) (ty : TypeId) (hul : us.length = m) (hn : ∀ j u, us[j]? = some u → w.cell? (t.add j) = some u) (hm : 0 < m) (hml : m ≤ 4194304) :
    (Builtin.append_ #[25, 25] ty #[.slice (some b) 0 0, .slice (some t) m c]).run Try.prog w =
    (Builtin.append_ #[25, 25] ty #[.slice none 0 0, .slice (some t) m c]).run Try.prog w := by
  obtain ⟨i0, hi, hz0, hz1, hz2⟩ := info_parts Try.infoR
  have e : Builtin.nextslicecap (0 + m) 0 * i0.bytes ≤ 281474976710656 := by
    rw [hz2]; unfold Builtin.nextslicecap; rw [if_pos (by omega)]; omega
  rw [run_append_grow (P := Try.prog) w 25 ty 22 i0 (.slice none 0 0) Try.underlying25 hi hz0 b 0 0 [] (by simp) (fun j u hj => by simp at hj) t m c us (by simp [hz1, hul]) hn (by omega) (by omega) e,
    run_append_nil (P := Try.prog) w 25 ty 22 i0 (.slice none 0 0) Try.underlying25 hi hz0 t m c us (by simp [hz1, hul]) hn (by omega) (by omega) (by rw [hz2]; omega)]
  simp

/-- The cells of owned rows. -/
theorem ownR_cells {B : Nat} {w : World} {g m c : Nat} {rows : List (List Int)} (h : OwnR B w (some ⟨g, 0, none⟩) m c rows) (hm : 0 < m) : ∃ us : List Value, us.length = m ∧ ∀ j u, us[j]? = some u → w.cell? ((⟨g, 0, none⟩ : Addr).add j) = some u := by
  obtain ⟨x1, us, x2, xap, x4⟩ := h
  have hul : us.length = m := by have := x2.1; omega
  refine ⟨us, hul, fun j u hj => ?_⟩
  have hjl : j < m := by
    rcases Nat.lt_or_ge j m with h | h
    · exact h
    · rw [List.getElem?_eq_none (by omega)] at hj; cases hj
  have hc : w.cell? ⟨g, j, none⟩ = some u := by
    rcases x2.2 with ⟨_, h3⟩ | ⟨g, c, cur, hv, hb, hh, hc1, hc2, hc3, hc4⟩
    · omega
    · simp only [Value.slice.injEq] at hv
      obtain ⟨hv1, _, _⟩ := hv
      cases hv1
      rw [← hc4, List.getElem?_take_of_lt (by omega), Array.getElem?_toList] at hj
      simp only [World.cell?, hh]
      simpa using hj
  by_cases hj0 : j = 0
  · subst hj0; simpa [Addr.add] using hc
  · simpa [Addr.add, hj0] using hc

theorem run_appendRowsW {B : Nat} {w0 w : World} {ra : Option Addr} {n cap : Nat} {rows : List (List Int)} {g2 m c2 : Nat} {rows2 : List (List Int)} (hown : OwnW B w0 ra n cap rows) (he : Ext w0 w) (hx : OwnR w0.heap.size w (some ⟨g2, 0, none⟩) m c2 rows2) (hm : 0 < m) (hn : n ≤ 4194304) (hml : m ≤ 4194304) (hB : B ≤ w0.heap.size) (ty : TypeId) :
    ∃ g' cap' w', (Builtin.append_ #[25, 25] ty #[.slice ra n cap, .slice (some ⟨g2, 0, none⟩) m c2]).run Try.prog w = .ok (.slice (some ⟨g', 0, none⟩) (n + m) cap') w' ∧
      OwnR B w' (some ⟨g', 0, none⟩) (n + m) cap' (rows ++ rows2) ∧ (∀ W : World, W.heap.size ≤ B → Ext W w → Ext W w') := by
  rcases hown with ⟨rfl, rfl, rfl, g0, rfl⟩ | hown
  · obtain ⟨us, hul, hcs⟩ := ownR_cells hx hm
    obtain ⟨g', cap', w', h1, h2, h4⟩ := run_appendRows (OwnR.nil B w0) he hx hm hn hml hB ty
    exact ⟨g', cap', w', by rw [append_emptyN w _ _ m c2 us ty hul hcs hm hml]; exact h1, h2, h4⟩
  · exact run_appendRows hown he hx hm hn hml hB ty

theorem wpList_appendRowsW {ops : Array Oper} {rest : List Oper} {o : Oper} {a : Act} {Q : Exit → Act → World → Prop} {w0 w : World} (hgd : o.guard = none) (s x : Operand)
    (ho : o.op = .call { callee := .builtin .append, args := #[s, x], argTypes := #[25, 25] })
    {B : Nat} {ra : Option Addr} {n cap : Nat} {rows : List (List Int)} {g2 m c2 : Nat} {rows2 : List (List Int)} (hs : a.eval s = .slice ra n cap) (hx : a.eval x = .slice (some ⟨g2, 0, none⟩) m c2)
    (hown : OwnW B w0 ra n cap rows) (he : Ext w0 w) (hxs : OwnR w0.heap.size w (some ⟨g2, 0, none⟩) m c2 rows2) (hm : 0 < m) (hn : n ≤ 4194304) (hml : m ≤ 4194304) (hB : B ≤ w0.heap.size)
    (h : ∀ g' cap' w', OwnR B w' (some ⟨g', 0, none⟩) (n + m) cap' (rows ++ rows2) → (∀ W : World, W.heap.size ≤ B → Ext W w → Ext W w') →
      wpList Try.prog ops Q rest (a.put o.dst (.slice (some ⟨g', 0, none⟩) (n + m) cap')) w') : wpList Try.prog ops Q (o :: rest) a w := by
  refine wpList_plain hgd fun K hK => ?_
  obtain ⟨g', cap', w', hr, h1, h3⟩ := run_appendRowsW hown he hxs hm hn hml hB o.type
  unfold Oper.wp execOp
  simp only [ho, resolve, invoke, builtin, Sem.run_bind, Sem.run_pure, Result.andThen_ok, List.map_toArray, List.map_cons, List.map_nil, hs, hx, hr]
  exact hK _ _ (h g' cap' w' h1 h3)

theorem run_pushR_at {B : Nat} {w0 w : World} {ra : Option Addr} {n cap : Nat} {rows : List (List Int)} {b : Option Addr} {m c : Nat} {xs : List Int} {g : Nat} (hown : OwnR B w0 ra n cap rows) (he : Ext w0 w) (hc : w.cell? ⟨g, 0, none⟩ = some (.slice b m c)) (hx : OwnC w0.heap.size w b m c xs) (hn : n ≤ 4194304) (hB : B ≤ w0.heap.size) (ty : TypeId) :
    ∃ g' cap' w', (Builtin.append_ #[25, 25] ty #[.slice ra n cap, .slice (some ⟨g, 0, none⟩) 1 1]).run Try.prog w = .ok (.slice (some ⟨g', 0, none⟩) (n + 1) cap') w' ∧
      OwnR B w' (some ⟨g', 0, none⟩) (n + 1) cap' (rows ++ [xs]) ∧ w.grownBy w' (Value.slice ra n cap).ownBlock ∧ (g' = w.heap.size ∨ (Value.slice ra n cap).ownBlock = some g') ∧ (∀ W : World, W.heap.size ≤ B → Ext W w → Ext W w') := by
  obtain ⟨i0, hi, hz0, hz1, hz2⟩ := info_parts Try.infoR
  have hown0 := hown
  obtain ⟨h1, vs, h2, hap, h4⟩ := hown
  have h2' := ownsRow_ext h2 he
  have hvl : vs.length = n := by have := h2.1; omega
  obtain ⟨v', w', hr, h5, h6, _, hbk⟩ := run_append_own_at (P := Try.prog) w B 25 ty 22 i0 (.slice none 0 0) 1 24 Try.underlying25 hi hz0 hz1 hz2 rfl (by decide) (.slice ra n cap) n vs h2'
    ⟨g, 0, none⟩ 1 1 [.slice b m c] rfl (fun j u hj => by
      cases j with
      | zero => simp only [List.getElem?_cons_zero, Option.some.injEq] at hj; subst hj; simpa [Addr.add] using hc
      | succ j => simp at hj) (fun u hu => by simp only [List.mem_singleton] at hu; subst hu; rfl) (by unfold maxLen; omega) (by omega) (Nat.le_trans hB he.size)
  have form : ∃ g cap, v' = .slice (some ⟨g, 0, none⟩) (n + 1) cap := by
    rcases h5.2 with ⟨_, h3⟩ | ⟨g, c, cur, hv, _⟩
    · omega
    · exact ⟨g, c, hv⟩
  obtain ⟨g', cap', rfl⟩ := form
  refine ⟨g', cap', w', hr, ⟨by simp [h1], vs ++ [.slice b m c], h5, ?_, fun i hin => ?_⟩, h6, hbk.elim (fun h => .inr h.symm) (fun h => .inl (Option.some.inj h)), fun W hW hE => hE.grown h6 fun k hk => Nat.le_trans hW (hown0.blk k hk)⟩
  · intro i k g1 n1 c1 n2 c2 hik hi hk
    have old : ∀ l n3 c3, l < n → vs[l]? = some (.slice (some ⟨g1, 0, none⟩) n3 c3) → g1 < w0.heap.size := fun l n3 c3 hl e => by
      obtain ⟨ai, ci, h5, h6⟩ := h4 l hl
      rw [h5] at e
      simp only [Option.some.injEq, Value.slice.injEq] at e
      exact (h6.base_of g1 e.1).2
    have new : (some (Value.slice b m c)) = some (.slice (some ⟨g1, 0, none⟩) n1 c1) ∨ (some (Value.slice b m c)) = some (.slice (some ⟨g1, 0, none⟩) n2 c2) → w0.heap.size ≤ g1 := fun e => by
      rcases e with e | e
      all_goals
        simp only [Option.some.injEq, Value.slice.injEq] at e
        exact (hx.base_of g1 e.1).1
    rcases Nat.lt_trichotomy i n with li | li | li
    · rw [List.getElem?_append_left (by omega)] at hi
      rcases Nat.lt_trichotomy k n with lk | lk | lk
      · rw [List.getElem?_append_left (by omega)] at hk
        exact hap i k g1 _ _ _ _ hik hi hk
      · rw [lk, ← hvl, List.getElem?_concat_length] at hk
        have := new (.inr hk); have := old i _ _ li hi; omega
      · rw [List.getElem?_eq_none (by simp; omega)] at hk; cases hk
    · rw [li, ← hvl, List.getElem?_concat_length] at hi
      rcases Nat.lt_trichotomy k n with lk | lk | lk
      · rw [List.getElem?_append_left (by omega)] at hk
        have := new (.inl hi); have := old k _ _ lk hk; omega
      · omega
      · rw [List.getElem?_eq_none (by simp; omega)] at hk; cases hk
    · rw [List.getElem?_eq_none (by simp; omega)] at hi; cases hi
  · by_cases hlt : i < n
    · obtain ⟨ai, ci, h7, h8⟩ := h4 i hlt
      have e : nthR (rows ++ [xs]) i = nthR rows i := by simp [nthR, List.getElem?_append_left (show i < rows.length by omega)]
      rw [e]
      exact ⟨ai, ci, by rw [List.getElem?_append_left (by omega)]; exact h7, (h8.ext he).grown h6 (own_apart h2' (h8.ext he))⟩
    · obtain rfl : i = n := by omega
      have e : nthR (rows ++ [xs]) i = xs := by simp [nthR, ← h1]
      rw [e, hx.1]
      exact ⟨b, c, by rw [← hvl]; simp, (hx.mono hB).grown h6 (own_apart h2' hx)⟩

theorem wpList_pushR_at {ops : Array Oper} {rest : List Oper} {o : Oper} {a : Act} {Q : Exit → Act → World → Prop} {w0 w : World} (hgd : o.guard = none) (s x : Operand)
    (ho : o.op = .call { callee := .builtin .append, args := #[s, x], argTypes := #[25, 25] })
    {B : Nat} {ra : Option Addr} {n cap : Nat} {rows : List (List Int)} {b : Option Addr} {m c : Nat} {xs : List Int} {g : Nat} (hs : a.eval s = .slice ra n cap) (hx : a.eval x = .slice (some ⟨g, 0, none⟩) 1 1)
    (hown : OwnR B w0 ra n cap rows) (he : Ext w0 w) (hxs : OwnC w0.heap.size w b m c xs) (hc : w.cell? ⟨g, 0, none⟩ = some (.slice b m c)) (hn : n ≤ 4194304) (hB : B ≤ w0.heap.size)
    (h : ∀ g' cap' w', OwnR B w' (some ⟨g', 0, none⟩) (n + 1) cap' (rows ++ [xs]) → w.grownBy w' (Value.slice ra n cap).ownBlock → (g' = w.heap.size ∨ (Value.slice ra n cap).ownBlock = some g') → (∀ W : World, W.heap.size ≤ B → Ext W w → Ext W w') →
      wpList Try.prog ops Q rest (a.put o.dst (.slice (some ⟨g', 0, none⟩) (n + 1) cap')) w') : wpList Try.prog ops Q (o :: rest) a w := by
  refine wpList_plain hgd fun K hK => ?_
  obtain ⟨g', cap', w', hr, h1, h2, h2b, h3⟩ := run_pushR_at hown he hc hxs hn hB o.type
  unfold Oper.wp execOp
  simp only [ho, resolve, invoke, builtin, Sem.run_bind, Sem.run_pure, Result.andThen_ok, List.map_toArray, List.map_cons, List.map_nil, hs, hx, hr]
  exact hK _ _ (h g' cap' w' h1 h2 h2b h3)

/-- Owned rows stay, where another list of rows is grown. -/
theorem OwnR.grown2 {B B2 : Nat} {w w' : World} {a ra : Option Addr} {n cap m c : Nat} {rows rows2 : List (List Int)} (h : OwnR B w a n cap rows) (h2 : OwnR B2 w ra m c rows2) (hg : w.grownBy w' (Value.slice ra m c).ownBlock) (hne : ∀ g, a = some ⟨g, 0, none⟩ → (Value.slice ra m c).ownBlock ≠ some g) : OwnR B w' a n cap rows := by
  have hlt := h.base_of
  obtain ⟨h1, vs, hv, hap, h4⟩ := h
  obtain ⟨_, us, hu, _⟩ := h2
  refine ⟨h1, vs, ⟨hv.1, ?_⟩, hap, fun i hi => ?_⟩
  · rcases hv.2 with h3 | ⟨g, c, cur, hv, hb, hh, h4⟩
    · exact .inl h3
    · refine .inr ⟨g, c, cur, hv, hb, ?_, h4⟩
      simp only [Value.slice.injEq] at hv
      rw [hg.block g (hlt g hv.1).2 (fun e => hne g hv.1 e.symm)]; exact hh
  · obtain ⟨ai, ci, h5, h6⟩ := h4 i hi
    exact ⟨ai, ci, h5, h6.grown hg (own_apart hu h6)⟩

/-! ### Sums of matrices -/
def sumM (p : Int) (A B : List (List Int)) (k : Int) (m n : Nat) : List (List Int) := (List.range n).map fun i => plusL p (nthR A i) (nthR B i) k m
theorem sumM_succ (p : Int) (A B : List (List Int)) (k : Int) (m n : Nat) : sumM p A B k m (n + 1) = sumM p A B k m n ++ [plusL p (nthR A n) (nthR B n) k m] := by simp [sumM, List.range_succ]
theorem sumM_len (p : Int) (A B : List (List Int)) (k : Int) (m n : Nat) : (sumM p A B k m n).length = n := by simp [sumM]
theorem sumM_nth {p : Int} {A B : List (List Int)} {k : Int} {m n i : Nat} (h : i < n) : nthR (sumM p A B k m n) i = plusL p (nthR A i) (nthR B i) k m := by
  unfold sumM; rw [nthR_map (by simpa using h)]; simp
theorem sumM_good {p : Int} {A B : List (List Int)} {k : Int} {m n : Nat} (hp : 1 ≤ p) : RowsG p m (sumM p A B k m n) := fun i hi => by
  rw [sumM_len] at hi
  rw [sumM_nth hi]
  exact plus_good hp

end Go.Proofs.Ythflmmgolegonaa

/-
  Sums of matrices in the program.
  No condition.
-/
namespace Go.Proofs.Ythflmmgolegonaa
set_option maxRecDepth 100000
open Go.RowKit

set_option maxHeartbeats 4000000 in
set_option maxRecDepth 100000 in
theorem c_sum (p : Int) (aa ab : Option Addr) (m n ca cb : Nat) (A B : List (List Int)) (kk : Int) (w : World) (hp1 : 3 ≤ p) (hp2 : p ≤ 1000) (hkk : -1000 ≤ kk ∧ kk ≤ 1000) (hm : m ≤ 4194303) (hn : n ≤ 4194303) (hA : RdR w aa n A) (hB : RdR w ab n B) (hGA : RowsG p m A) (hGB : RowsG p m B) :
    Calls Try.prog 41 #[.int .i64 p, .slice aa n ca, .slice ab n cb, .int .i64 kk] w fun e w' => ∃ g rc, e = .returned (.slice (some ⟨g, 0, none⟩) n rc) ∧ OwnR w.heap.size w' (some ⟨g, 0, none⟩) n rc (sumM p A B kk m n) ∧ Ext w w' := by
  have HA := Lib.hid hA
  have HB := Lib.hid hB
  have HGA := Lib.hid hGA
  have HGB := Lib.hid hGB
  clear hA hB hGA hGB
  go_enter Try.func41, Try.ntmps41
  go_wp2_with (fail)
  go_loopw [9, 14] (fun s i wr => ∃ (k g rc : Nat), k ≤ n ∧ i = .int .i64 k ∧ s = .slice (some ⟨g, 0, none⟩) k rc ∧ OwnR w.heap.size wr (some ⟨g, 0, none⟩) k rc (sumM p A B kk m k) ∧ Ext w wr) (fun _ i _ => n - (intOf i).toNat)
  case atStart => exact ⟨0, _, _, Nat.zero_le _, rfl, rfl, ownR_empty w, ext_alloc _ _⟩
  case round =>
    obtain ⟨k, g, rc, hk, rfl, rfl, hown, hext⟩ := hrel
    have HOwn := Lib.hid hown
    have HExt := Lib.hid hext
    clear hown hext
    by_cases hlt : k < n
    · have hltA : k < A.length := by have := HA.out.1; omega
      have hltB : k < B.length := by have := HB.out.1; omega
      obtain ⟨ba, oa, ai, ci, hab, hc, hri⟩ := HA.out.2 k hlt
      cases hab
      obtain ⟨bb, ob, bi, di, hbb, hd, hrj⟩ := HB.out.2 k hlt
      cases hbb
      rw [(HGA.out k hltA).1] at hc hri
      rw [(HGB.out k hltB).1] at hd hrj
      have HCa := Lib.hid ((HExt.out.trans (ext_drew wr)).cell hc)
      have HCb := Lib.hid ((HExt.out.trans (ext_drew wr)).cell hd)
      have HRa := Lib.hid (hri.ext (HExt.out.trans (ext_drew wr)))
      have HRb := Lib.hid (hrj.ext (HExt.out.trans (ext_drew wr)))
      clear hc hri hd hrj
      go_wp2_with (fail)
      refine wp_region_lex_tail1 12 [(11, .ownS wr.heap.size m (plusL p (nthR A k) (nthR B k) kk m))] (.slice (some ⟨g, 0, none⟩) k rc) (by kernel_rfl) (by kernel_rfl) rfl rfl (fun w1 => by go_simp) ?_
      simp only [List.take, List.drop]
      simp only [Act.put, List.setIfInBounds_toArray, List.set_cons_zero, List.set_cons_succ]
      (refine LexW.pure (v := ?_) rfl rfl (fun w1 he => ?_) ?_; rotate_left; ( have e1 := he.cell HCa.out; have e2 := he.cell HCb.out; go_simp; rfl); simp only [Act.put, List.setIfInBounds_toArray, List.set_cons_zero, List.set_cons_succ])
      (refine LexW.pure (v := ?_) rfl rfl (fun w1 he => ?_) ?_; rotate_left; ( have e1 := he.cell HCa.out; have e2 := he.cell HCb.out; go_simp; rfl); simp only [Act.put, List.setIfInBounds_toArray, List.set_cons_zero, List.set_cons_succ])
      (refine LexW.pure (v := ?_) rfl rfl (fun w1 he => ?_) ?_; rotate_left; ( have e1 := he.cell HCa.out; have e2 := he.cell HCb.out; go_simp; rfl); simp only [Act.put, List.setIfInBounds_toArray, List.set_cons_zero, List.set_cons_succ])
      (refine LexW.pure (v := ?_) rfl rfl (fun w1 he => ?_) ?_; rotate_left; ( have e1 := he.cell HCa.out; have e2 := he.cell HCb.out; go_simp; rfl); simp only [Act.put, List.setIfInBounds_toArray, List.set_cons_zero, List.set_cons_succ])
      (refine LexW.pure (v := ?_) rfl rfl (fun w1 he => ?_) ?_; rotate_left; ( have e1 := he.cell HCa.out; have e2 := he.cell HCb.out; go_simp; rfl); simp only [Act.put, List.setIfInBounds_toArray, List.set_cons_zero, List.set_cons_succ])
      (refine LexW.pure (v := ?_) rfl rfl (fun w1 he => ?_) ?_; rotate_left; ( have e1 := he.cell HCa.out; have e2 := he.cell HCb.out; go_simp; rfl); simp only [Act.put, List.setIfInBounds_toArray, List.set_cons_zero, List.set_cons_succ])
      (refine LexW.pure (v := ?_) rfl rfl (fun w1 he => ?_) ?_; rotate_left; ( have e1 := he.cell HCa.out; have e2 := he.cell HCb.out; go_simp; rfl); simp only [Act.put, List.setIfInBounds_toArray, List.set_cons_zero, List.set_cons_succ])
      (refine LexW.pure (v := ?_) rfl rfl (fun w1 he => ?_) ?_; rotate_left; ( have e1 := he.cell HCa.out; have e2 := he.cell HCb.out; go_simp; rfl); simp only [Act.put, List.setIfInBounds_toArray, List.set_cons_zero, List.set_cons_succ])
      (refine LexW.pure (v := ?_) rfl rfl (fun w1 he => ?_) ?_; rotate_left; ( have e1 := he.cell HCa.out; have e2 := he.cell HCb.out; go_simp; rfl); simp only [Act.put, List.setIfInBounds_toArray, List.set_cons_zero, List.set_cons_succ])
      (refine LexW.pure (v := ?_) rfl rfl (fun w1 he => ?_) ?_; rotate_left; ( have e1 := he.cell HCa.out; have e2 := he.cell HCb.out; go_simp; rfl); simp only [Act.put, List.setIfInBounds_toArray, List.set_cons_zero, List.set_cons_succ])
      (refine LexW.callR (f := ?_) (args := ?_) rfl rfl (fun w1 => ?_) (fun w1 he hdep => ?_) (fun v hv => ?_); rotate_left 2; (go_simp; refine ⟨?_, ?_⟩ <;> rfl); ( refine (c_plus p _ _ m _ _ (nthR A k) (nthR B k) kk w1 hp1 hp2 hkk (by omega) (HRa.out.ext he) (HRb.out.ext he) (HGA.out k hltA) (HGB.out k hltB)).mono ?_; rintro e w2 ⟨g, rc, rfl, ho, g2⟩; exact ⟨_, rfl, g2, g, rc, rfl, ho.mono (Nat.le_trans (ext_drew wr).size he.size)⟩); simp only [Act.put, List.setIfInBounds_toArray, List.set_cons_zero, List.set_cons_succ])
      obtain ⟨_, g28, c28, rfl, _⟩ := hv
      refine LexW.nil (fun w3 he hkn => ?_)
      obtain ⟨_, _, q28, r28⟩ : (SPred.ownS wr.heap.size m (plusL p (nthR A k) (nthR B k) kk m)).holds (.slice (some ⟨g28, 0, none⟩) m c28) w3 := hkn (11, _) (by simp)
      cases q28
      have R28 := Lib.hid r28
      have HE := Lib.hid ((ext_drew wr).trans he)
      clear he hkn r28
      go_wp2_with (at_builtin; refine wpList_pushR (w0 := wr) rfl (.tmp 17) (.tmp 29) rfl rfl rfl HOwn.out (HE.out.trans (ext_alloc _ _)) (R28.out.ext (ext_alloc _ _)) ?hc (by omega) HExt.out.size ?hk)
      case hc => exact cell_new _ _ rfl _ _
      case hk =>
        intro g5 c5 w5 ho5 hg5 he5
        have HO5 := Lib.hid ho5
        have HE5 := Lib.hid (he5 w (Nat.le_refl _) ((HExt.out.trans HE.out).alloc _))
        clear ho5 hg5 he5
        go_wp2_with (fail)
        refine strictQ_normal ?_
        go_wp2_with (fail)
        go_roundw
        case rel => exact ⟨k + 1, g5, c5, by omega, by go_num, rfl, by rw [sumM_succ]; exact HO5.out, HE5.out⟩
        case measure => simp [intOf]; omega
    · obtain rfl : n = k := by omega
      go_wp2_with (fail)
      go_ret
      exact ⟨_, _, rfl, HOwn.out, HExt.out⟩

end Go.Proofs.Ythflmmgolegonaa

/-
  The rank of the first columns; a column that no combination of the earlier ones makes raises it.
  No condition. No program in sight.
-/
namespace Go.Proofs.Ythflmmgolegonaa
set_option maxRecDepth 100000
open Go.RowKit

def truncL (m : Nat) (rows : List (List Int)) : List (List Int) := rows.map fun r => r.take m
theorem truncL_len {m : Nat} {rows : List (List Int)} : (truncL m rows).length = rows.length := by simp [truncL]
theorem truncL_nth {m i : Nat} {rows : List (List Int)} : nthR (truncL m rows) i = (nthR rows i).take m := by
  by_cases hi : i < rows.length
  · unfold truncL; rw [nthR_map hi, nthR_eq hi]
  · have h1 : nthR (truncL m rows) i = [] := by simp [nthR, truncL, List.getElem?_eq_none (Nat.le_of_not_lt hi)]
    have h2 : nthR rows i = [] := by simp [nthR, List.getElem?_eq_none (Nat.le_of_not_lt hi)]
    rw [h1, h2, List.take_nil]
theorem nth_take {m t : Nat} {x : List Int} (ht : t < m) : nth (x.take m) t = nth x t := by
  simp [nth, List.getElem?_take_of_lt ht]
theorem plus_take {p k : Int} {m m' : Nat} {x y : List Int} (h : m' ≤ m) : (plusL p x y k m).take m' = plusL p (x.take m') (y.take m') k m' := by
  refine ext_nth (by rw [List.length_take, plusL_len, plusL_len, Nat.min_eq_left h]) fun i hi => ?_
  rw [List.length_take, plusL_len, Nat.min_eq_left h] at hi
  rw [nth_take hi, plusL_nth (by omega), plusL_nth hi, plusN, plusN, nth_take hi, nth_take hi]
theorem scale_take {p k : Int} {m m' : Nat} {x : List Int} (h : m' ≤ m) : (scaleL p x k m).take m' = scaleL p (x.take m') k m' := by
  refine ext_nth (by rw [List.length_take, scaleL_len, scaleL_len, Nat.min_eq_left h]) fun i hi => ?_
  rw [List.length_take, scaleL_len, Nat.min_eq_left h] at hi
  rw [nth_take hi, scaleL_nth (by omega), scaleL_nth hi, scaleN, scaleN, nth_take hi]
theorem piv_trunc {m k d : Nat} {rows : List (List Int)} (hk : k < m) (hd : d ≤ rows.length) : pivG (truncL m rows) k d = pivG rows k d := by
  obtain ⟨h1, h2, h3, h4⟩ := pivG_spec rows k d hd
  refine pivG_eq h1 (by rw [truncL_len]; exact h2) (fun j hj hj2 => by rw [truncL_nth, nth_take hk]; exact h3 j hj hj2) ?_
  rcases h4 with h4 | h4
  · left; rw [truncL_len]; exact h4
  · right; rw [truncL_nth, nth_take hk]; exact h4
theorem step_trunc {p : Int} {m m' d k : Nat} {rows : List (List Int)} (h : m' ≤ m) (hk : k < m') (hd : d ≤ rows.length) :
    stepG p m' (truncL m' rows, d) k = (truncL m' (stepG p m (rows, d) k).1, (stepG p m (rows, d) k).2) := by
  have hp := piv_trunc (m := m') (k := k) (d := d) (rows := rows) hk hd
  obtain ⟨p1, p2, _, _⟩ := pivG_spec rows k d hd
  by_cases hn : pivG rows k d = rows.length
  · rw [stepG_no (s := (rows, d)) hn, stepG_no (s := (truncL m' rows, d)) (by rw [hp, truncL_len]; exact hn)]
  · obtain ⟨i, hi⟩ : ∃ i, i = pivG rows k d := ⟨_, rfl⟩
    rw [← hi] at hp p1 p2 hn
    have hil : i < rows.length := by omega
    have hdl : d < rows.length := by omega
    rw [stepG_yes (s := (rows, d)) hi.symm hil, stepG_yes (s := (truncL m' rows, d)) hp (by rw [truncL_len]; exact hil)]
    refine Prod.ext ?_ rfl
    show clrS p k m' d (upG p m' (truncL m' rows) d k i) (truncL m' rows).length = truncL m' (clrS p k m d (upG p m rows d k i) rows.length)
    have hu : ∀ j, nthR (upG p m' (truncL m' rows) d k i) j = (nthR (upG p m rows d k i) j).take m' := fun j => by
      rw [upG_nth (by rw [truncL_len]; exact hdl) (by rw [truncL_len]; exact hil), upG_nth hdl hil, truncL_nth, truncL_nth, truncL_nth, nth_take hk]
      split
      · rw [scale_take h]
      · split <;> rfl
    refine ext_rows (by rw [clrS_len, upG_len, truncL_len, truncL_len, clrS_len, upG_len]) fun j hj => ?_
    rw [clrS_len, upG_len, truncL_len] at hj
    rw [truncL_nth, truncL_len, clrS_nth _ (by rw [upG_len, truncL_len]; exact Nat.le_refl _), clrS_nth _ (by rw [upG_len]; exact Nat.le_refl _), hu, hu, nth_take hk]
    split
    · rw [plus_take h]
    · rfl
theorem gauss_trunc {p : Int} {m m' : Nat} {rows : List (List Int)} (hp : primeB p = true) (hg : RowsG p m rows) (h : m' ≤ m) : ∀ j, j ≤ m' → gaussS p m' (truncL m' rows) j = (truncL m' (gaussS p m rows j).1, (gaussS p m rows j).2)
  | 0, _ => rfl
  | j + 1, hj => by
    show stepG p m' (gaussS p m' (truncL m' rows) j) j = (truncL m' (stepG p m (gaussS p m rows j) j).1, (stepG p m (gaussS p m rows j) j).2)
    rw [gauss_trunc hp hg h j (by omega)]
    obtain ⟨_, c, hr⟩ := gaussS_red hp hg j (by omega)
    exact step_trunc h (by omega) hr.dle
def rankL (p : Int) (m : Nat) (rows : List (List Int)) : Nat := (gaussS p m rows m).2
theorem rank_le {p : Int} {m : Nat} {rows : List (List Int)} (hp : primeB p = true) (hg : RowsG p m rows) : rankL p m rows ≤ rows.length := (gauss_rank hp hg).1
/-- A further column that has no combination raises the rank. -/
theorem rank_up {p : Int} {m : Nat} {rows : List (List Int)} (hp : primeB p = true) (hg : RowsG p (m + 1) rows) (h : okS m (basisL p (m + 1) rows) = false) : rankL p (m + 1) rows = rankL p m (truncL m rows) + 1 := by
  have ht := gauss_trunc hp hg (Nat.le_succ m) m (Nat.le_refl _)
  have hr : rankL p m (truncL m rows) = (gaussS p (m + 1) rows m).2 := by unfold rankL; rw [ht]
  rw [hr]
  obtain ⟨h1, c, h2⟩ := gaussS_red hp hg m (by omega)
  obtain ⟨p1, p2, _, _⟩ := pivG_spec (gaussS p (m + 1) rows m).1 m (gaussS p (m + 1) rows m).2 h2.dle
  by_cases hn : pivG (gaussS p (m + 1) rows m).1 m (gaussS p (m + 1) rows m).2 = (gaussS p (m + 1) rows m).1.length
  · exfalso
    have e : gaussS p (m + 1) rows (m + 1) = gaussS p (m + 1) rows m := stepG_no hn
    -- no pivot in the last column: all first numbers stand ahead of it
    have hl : (basisL p (m + 1) rows).length = (gaussS p (m + 1) rows m).2 := by unfold basisL; rw [e, List.length_take, Nat.min_eq_left h2.dle]
    have hnn : ∀ i, i < (gaussS p (m + 1) rows m).2 → nthR (basisL p (m + 1) rows) i = nthR (gaussS p (m + 1) rows m).1 i := fun i hi => by unfold basisL; rw [e]; exact nthR_take hi
    have hd := h2.dle
    have ok : okS m (basisL p (m + 1) rows) = true := by
      unfold okS
      rw [Option.isNone_iff_eq_none]
      cases hp' : pivIx (basisL p (m + 1) rows) m with
      | none => rfl
      | some i =>
        obtain ⟨hi, hle⟩ := pivIx_some hp'
        have hi2 : i < (gaussS p (m + 1) rows m).2 := by omega
        have hc := h2.clt i hi2
        have hgl := (h1 i (by omega)).1
        have : leadN (nthR (basisL p (m + 1) rows) i) = c i := by
          rw [hnn i hi2]
          refine leadN_eq (by omega) (h2.lead i hi2) (.inr ?_)
          rw [h2.one i hi2 i (by omega), if_pos rfl]; omega
        omega
    rw [h] at ok; cases ok
  · unfold rankL
    show (stepG p (m + 1) (gaussS p (m + 1) rows m) m).2 = _
    rw [stepG_yes rfl (by omega)]
theorem trunc_wide {p : Int} {m n : Nat} {rows : List (List Int)} {u : List Int} (hg : RowsG p m rows) (hn : rows.length = n) : truncL m (wideL rows u n) = rows := by
  refine ext_rows (by rw [truncL_len, wideL_len, hn]) fun i hi => ?_
  rw [truncL_len, wideL_len] at hi
  rw [truncL_nth]
  have e : nthR (wideL rows u n) i = nthR rows i ++ [nth u i] := by unfold wideL; rw [nthR_map (by simpa using hi)]; simp
  rw [e, List.take_append_of_le_length (by rw [(hg i (by omega)).1]; exact Nat.le_refl _), List.take_of_length_le (by rw [(hg i (by omega)).1]; exact Nat.le_refl _)]

end Go.Proofs.Ythflmmgolegonaa

/-
  The determinant by elimination, plain: it is not 0 exactly if the rows have full rank; rows of lesser rank lead a vector to 0.
  No condition.
-/
namespace Go.Proofs.Ythflmmgolegonaa
set_option maxRecDepth 100000
open Go.RowKit

/-- Row k is taken, so often as needed, from all rows behind it. -/
def elimN (p : Int) (m k : Nat) (rows : List (List Int)) (r : Nat) : List Int := if k < r then plusL p (nthR rows r) (nthR rows k) (-(nth (nthR rows r) k) * invN p (nth (nthR rows k) k)) m else nthR rows r
def elimS (p : Int) (m k : Nat) (rows : List (List Int)) : Nat → List (List Int)
  | 0 => rows
  | r + 1 => if k < r then (elimS p m k rows r).set r (elimN p m k rows r) else elimS p m k rows r
theorem elimS_len {p : Int} {m k : Nat} {rows : List (List Int)} : ∀ r, (elimS p m k rows r).length = rows.length
  | 0 => rfl
  | r + 1 => by rw [elimS]; split <;> simp [elimS_len r]
theorem elimS_nth {p : Int} {m k : Nat} {rows : List (List Int)} : ∀ r, r ≤ rows.length → ∀ j, nthR (elimS p m k rows r) j = if j < r then elimN p m k rows j else nthR rows j
  | 0, _, j => by simp [elimS]
  | r + 1, h, j => by
    have ih := elimS_nth (p := p) (m := m) (k := k) (rows := rows) r (by omega) j
    rw [elimS]
    by_cases hk : k < r
    · rw [if_pos hk, nthR_set (by rw [elimS_len]; omega)]
      by_cases hj : r = j
      · subst hj; rw [if_pos rfl, if_pos (by omega)]
      · rw [if_neg hj, ih]
        by_cases hjr : j < r
        · rw [if_pos hjr, if_pos (by omega)]
        · rw [if_neg hjr, if_neg (by omega)]
    · rw [if_neg hk, ih]
      by_cases hjr : j < r
      · rw [if_pos hjr, if_pos (by omega)]
      · rw [if_neg hjr]
        by_cases hj : j < r + 1
        · rw [if_pos hj]; unfold elimN; rw [if_neg (by omega)]
        · rw [if_neg hj]
def elimL (p : Int) (m k : Nat) (rows : List (List Int)) : List (List Int) := elimS p m k rows rows.length
theorem elimL_len {p : Int} {m k : Nat} {rows : List (List Int)} : (elimL p m k rows).length = rows.length := elimS_len _
theorem elimL_nth {p : Int} {m k : Nat} {rows : List (List Int)} {j : Nat} (hj : j < rows.length) : nthR (elimL p m k rows) j = elimN p m k rows j := by
  unfold elimL; rw [elimS_nth _ (Nat.le_refl _), if_pos hj]
theorem elimL_good {p : Int} {m k : Nat} {rows : List (List Int)} (hp : 1 ≤ p) (h : RowsG p m rows) : RowsG p m (elimL p m k rows) := fun i hi => by
  rw [elimL_len] at hi
  rw [elimL_nth hi]
  unfold elimN
  split
  · exact plus_good hp
  · exact h i hi

/-- The rows and the factor when k columns are done; nothing, when a column had no number other than 0. -/
def detS (p : Int) (m : Nat) (rows : List (List Int)) : Nat → Option (List (List Int) × Int)
  | 0 => some (rows, 1)
  | k + 1 => match detS p m rows k with
    | none => none
    | some (r, o) => if pivG r k k = r.length then none
      else some (elimL p m k (swapL r k (pivG r k k)), ((if pivG r k k = k then o else (-o) % p) * nth (nthR r (pivG r k k)) k) % p)
def detL (p : Int) (m : Nat) (rows : List (List Int)) : Int := match detS p m rows rows.length with | none => 0 | some (_, o) => o

theorem detS_good {p : Int} {m : Nat} {rows : List (List Int)} (hp : 1 ≤ p) (hg : RowsG p m rows) : ∀ k, k ≤ rows.length → ∀ r o, detS p m rows k = some (r, o) → RowsG p m r ∧ r.length = rows.length
  | 0, _, r, o, h => by
    simp only [detS, Option.some.injEq, Prod.mk.injEq] at h
    obtain ⟨rfl, _⟩ := h
    exact ⟨hg, rfl⟩
  | k + 1, hk, r, o, h => by
    rw [detS] at h
    cases hd : detS p m rows k with
    | none => rw [hd] at h; cases h
    | some ro =>
      obtain ⟨r1, o1⟩ := ro
      rw [hd] at h
      simp only at h
      obtain ⟨h1, h2⟩ := detS_good hp hg k (by omega) r1 o1 hd
      split at h
      · cases h
      · rename_i hne
        simp only [Option.some.injEq, Prod.mk.injEq] at h
        obtain ⟨rfl, _⟩ := h
        have hpv := pivG_spec r1 k k (by omega)
        exact ⟨elimL_good hp (swapL_good h1 (by omega) (by omega)), by rw [elimL_len, swapL_len, h2]⟩

theorem pivG_congr {r s : List (List Int)} {k : Nat} (hl : r.length = s.length) (h : ∀ j, k ≤ j → nthR r j = nthR s j) (hk : k ≤ r.length) : pivG r k k = pivG s k k := by
  obtain ⟨h1, h2, h3, h4⟩ := pivG_spec s k k (by omega)
  refine pivG_eq h1 (by omega) (fun j hj hj2 => by rw [h j hj]; exact h3 j hj hj2) ?_
  rcases h4 with h4 | h4
  · exact .inl (by omega)
  · exact .inr (by rw [h _ h1]; exact h4)
theorem plus_scale {p c k : Int} {m : Nat} {x y : List Int} (_hp : 1 ≤ p) : plusL p x (scaleL p y c m) k m = plusL p x y (k * c) m := by
  refine ext_nth (by rw [plusL_len, plusL_len]) fun t ht => ?_
  rw [plusL_len] at ht
  rw [plusL_nth ht, plusL_nth ht, plusN, plusN, scaleL_nth ht, scaleN]
  rw [Int.add_emod, Int.mul_emod, Int.emod_emod, ← Int.mul_emod, ← Int.add_emod]
  congr 2
  rw [Int.mul_comm (nth y t), Int.mul_assoc]

/-- The elimination of the determinant and that of the reduced basis find the same numbers. -/
theorem det_gauss {p : Int} {m : Nat} {rows : List (List Int)} (hp : primeB p = true) (hg : RowsG p m rows) (hm : rows.length ≤ m) : ∀ k, k ≤ rows.length →
    (∀ r o, detS p m rows k = some (r, o) → (gaussS p m rows k).2 = k ∧ (∀ j, k ≤ j → nthR (gaussS p m rows k).1 j = nthR r j) ∧ 0 < o ∧ o < p) ∧ (detS p m rows k = none → (gaussS p m rows k).2 < k)
  | 0, _ => by
    have hpb := prime_bd hp
    refine ⟨fun r o h => ?_, fun h => by simp [detS] at h⟩
    simp only [detS, Option.some.injEq, Prod.mk.injEq] at h
    obtain ⟨rfl, rfl⟩ := h
    exact ⟨rfl, fun j _ => rfl, by omega, by omega⟩
  | k + 1, hk => by
    have hpb := prime_bd hp
    obtain ⟨ih1, ih2⟩ := det_gauss hp hg hm k (by omega)
    have hle : (gaussS p m rows (k + 1)).2 ≤ (gaussS p m rows k).2 + 1 := by
      rw [gaussS, stepG]; split <;> simp
    have hgl := gaussS_len (p := p) (m := m) (rows := rows) k
    obtain ⟨hgg, c, hred⟩ := gaussS_red hp hg k (by omega)
    cases hd : detS p m rows k with
    | none =>
      have := ih2 hd
      refine ⟨fun r o h => ?_, fun _ => by omega⟩
      rw [detS, hd] at h; cases h
    | some ro =>
      obtain ⟨r1, o1⟩ := ro
      obtain ⟨e1, e2, e3, e4⟩ := ih1 r1 o1 hd
      obtain ⟨g1, g2⟩ := detS_good (by omega) hg k (by omega) r1 o1 hd
      have hpiv : pivG (gaussS p m rows k).1 k k = pivG r1 k k := pivG_congr (by omega) e2 (by omega)
      obtain ⟨h1, h2, h3, h4⟩ := pivG_spec r1 k k (by omega)
      by_cases hno : pivG r1 k k = r1.length
      · have hst : gaussS p m rows (k + 1) = gaussS p m rows k := by
          rw [gaussS]
          exact stepG_no (by rw [e1, hpiv, hno]; omega)
        refine ⟨fun r o h => ?_, fun _ => by rw [hst]; omega⟩
        rw [detS, hd] at h
        simp only [hno, if_true] at h
        cases h
      · have hne : nth (nthR r1 (pivG r1 k k)) k ≠ 0 := by
          rcases h4 with h4 | h4
          · exact absurd h4 hno
          · exact h4
        have hil : pivG r1 k k < r1.length := by omega
        have hst := stepG_yes (p := p) (m := m) (s := gaussS p m rows k) (k := k) (i := pivG r1 k k) (by rw [e1]; exact hpiv) (by omega)
        rw [e1] at hst
        refine ⟨fun r o h => ?_, fun h => ?_⟩
        · rw [detS, hd] at h
          simp only [hno, if_false, Option.some.injEq, Prod.mk.injEq] at h
          obtain ⟨rfl, rfl⟩ := h
          have hpb1 := (g1 _ hil).2 k (by omega)
          refine ⟨by rw [gaussS, hst], fun j hj => ?_, ?_⟩
          · rw [gaussS, hst]
            simp only
            by_cases hjl : j < r1.length
            · rw [clrS_nth _ (by rw [upG_len]; omega), if_pos ⟨by omega, by omega⟩, elimL_nth (by rw [swapL_len]; exact hjl)]
              unfold elimN
              rw [if_pos (by omega), upG_nth (by omega) (by omega), upG_nth (by omega) (by omega), if_neg (by omega), if_pos rfl, plus_scale (by omega)]
              rw [swapL_nth (by omega) hil, swapL_nth (by omega) hil]
              have ek : nthR (gaussS p m rows k).1 k = nthR r1 k := e2 k (Nat.le_refl _)
              have ei : nthR (gaussS p m rows k).1 (pivG r1 k k) = nthR r1 (pivG r1 k k) := e2 _ h1
              have ej : nthR (gaussS p m rows k).1 j = nthR r1 j := e2 j (by omega)
              rw [ek, ei, ej]
              have hkk : (if k = pivG r1 k k then nthR r1 k else if k = k then nthR r1 (pivG r1 k k) else nthR r1 k) = nthR r1 (pivG r1 k k) := by
                by_cases hki : k = pivG r1 k k
                · rw [if_pos hki, ← hki]
                · rw [if_neg hki, if_pos rfl]
              rw [hkk]
              have hjj : (if j = pivG r1 k k then nthR r1 k else if j = k then nthR r1 (pivG r1 k k) else nthR r1 j) = (if j = pivG r1 k k then nthR r1 k else nthR r1 j) := by
                by_cases hji : j = pivG r1 k k
                · rw [if_pos hji, if_pos hji]
                · rw [if_neg hji, if_neg hji, if_neg (by omega)]
              rw [hjj]
            · rw [show nthR (elimL p m k (swapL r1 k (pivG r1 k k))) j = [] by unfold nthR; rw [List.getD_eq_getElem?_getD, List.getElem?_eq_none (by rw [elimL_len, swapL_len]; omega)]; rfl]
              unfold nthR
              rw [List.getD_eq_getElem?_getD, List.getElem?_eq_none (by rw [clrS_len, upG_len]; omega)]; rfl
          · have ho : 0 ≤ (if pivG r1 k k = k then o1 else (-o1) % p) ∧ (if pivG r1 k k = k then o1 else (-o1) % p) < p ∧ (if pivG r1 k k = k then o1 else (-o1) % p) ≠ 0 := by
              split
              · omega
              · refine ⟨Int.emod_nonneg _ (by omega), Int.emod_lt_of_pos _ (by omega), fun hz => ?_⟩
                rw [show -o1 = (p - o1) + p * (-1) by omega, Int.add_mul_emod_self_left, Int.emod_eq_of_lt (by omega) (by omega)] at hz
                omega
            have hz := mul_zero_of hp ho.1 ho.2.1 hpb1.1 hpb1.2
            have hn0 : (if pivG r1 k k = k then o1 else (-o1) % p) * nth (nthR r1 (pivG r1 k k)) k % p ≠ 0 := fun h => by
              rcases hz.1 h with h | h
              · exact ho.2.2 h
              · exact hne h
            have := Int.emod_nonneg ((if pivG r1 k k = k then o1 else (-o1) % p) * nth (nthR r1 (pivG r1 k k)) k) (show p ≠ 0 by omega)
            exact ⟨by omega, Int.emod_lt_of_pos _ (by omega)⟩
        · rw [detS, hd] at h
          simp only [hno, if_false] at h
          cases h
/-- The determinant is not 0 exactly if the rank is full. -/
theorem det_rank {p : Int} {m : Nat} {rows : List (List Int)} (hp : primeB p = true) (hg : RowsG p m rows) (hm : rows.length = m) : detL p m rows ≠ 0 ↔ rankL p m rows = m := by
  obtain ⟨h1, h2⟩ := det_gauss hp hg (by omega) rows.length (Nat.le_refl _)
  unfold detL rankL
  cases hd : detS p m rows rows.length with
  | none =>
    have := h2 hd
    rw [hm] at this
    simp only [ne_eq, not_true, false_iff]
    omega
  | some ro =>
    obtain ⟨r, o⟩ := ro
    obtain ⟨e1, _, e3, _⟩ := h1 r o hd
    rw [hm] at e1
    simp only [e1, iff_true]
    omega
theorem det_bd {p : Int} {m : Nat} {rows : List (List Int)} (hp : primeB p = true) (hg : RowsG p m rows) (hm : rows.length ≤ m) : 0 ≤ detL p m rows ∧ detL p m rows < p := by
  have hpb := prime_bd hp
  obtain ⟨h1, _⟩ := det_gauss hp hg hm rows.length (Nat.le_refl _)
  unfold detL
  cases hd : detS p m rows rows.length with
  | none => exact ⟨Int.le_refl _, by show (0 : Int) < p; omega⟩
  | some ro =>
    obtain ⟨r, o⟩ := ro
    have := h1 r o hd
    exact ⟨by show 0 ≤ o; omega, this.2.2.2⟩

/-! ### Kernels -/
theorem kerV_kill {p : Int} {n : Nat} {red : List (List Int)} {c : Nat → Nat} (_hp : 3 ≤ p) (h : Basis p n red c) {f : Nat} (hf : f < n) (hno : pivIx red f = none) : Kill p n red (kerV p n red f) := fun i hi => by
  have hfc : f ≠ c i := fun e => by rw [e, h.piv hi] at hno; cases hno
  have e : ∀ t, t < n → (nth (nthR red i) t * nth (kerV p n red f) t) % p = ((if t = f then nth (nthR red i) f else 0) + (if t = c i then -(nth (nthR red i) f) else 0)) % p := fun t ht => by
    rw [kerV_nth ht]
    unfold kerN
    by_cases htf : t = f
    · subst htf
      rw [if_pos rfl, if_pos rfl, if_neg hfc, Int.mul_one, Int.add_zero]
    · rw [if_neg htf, if_neg htf]
      cases hpv : pivIx red t with
      | none =>
        have htc : t ≠ c i := fun e => by rw [e, h.piv hi] at hpv; cases hpv
        rw [if_neg htc]; simp
      | some j =>
        obtain ⟨hj, hlj⟩ := pivIx_some hpv
        rw [h.leadN hj] at hlj
        subst hlj
        simp only
        rw [h.one j hj i hi]
        by_cases hij : i = j
        · subst hij
          rw [if_pos rfl, if_pos rfl, Int.one_mul, Int.emod_emod, Int.zero_add]
        · rw [if_neg hij, if_neg (fun e => hij (h.inj hi hj e.symm)), Int.zero_mul, Int.zero_add]
  unfold dotN
  rw [sumN_emod e, sumN_add, sumN_single (k := f) hf (fun t _ hne => if_neg hne), sumN_single (k := c i) (h.clt i hi) (fun t _ hne => if_neg hne), if_pos rfl, if_pos rfl]
  simp [Int.add_right_neg]
theorem ker_exists {p : Int} {n : Nat} {rows : List (List Int)} (hp : primeB p = true) (hg : RowsG p n rows) (hr : rankL p n rows < n) : ∃ z f, Good p n z ∧ Kill p n rows z ∧ f < n ∧ nth z f = 1 := by
  have hpb := prime_bd hp
  obtain ⟨c, hb⟩ := basis_red (m := n) hp hg
  have hl : (basisL p n rows).length = rankL p n rows := by
    unfold basisL rankL
    rw [List.length_take, Nat.min_eq_left]
    rw [gaussS_len]
    exact (gauss_rank hp hg).1
  have : ∃ f, f < n ∧ pivIx (basisL p n rows) f = none := Decidable.byContradiction fun hno => by
    have hall : ∀ t, t < n → ∃ j, pivIx (basisL p n rows) t = some j := fun t ht => by
      cases hpv : pivIx (basisL p n rows) t with
      | none => exact absurd ⟨t, ht, hpv⟩ hno
      | some j => exact ⟨j, rfl⟩
    obtain ⟨i, j, hij, hj, he⟩ := dove (rankL p n rows) (fun t => (pivIx (basisL p n rows) t).getD 0) (fun t ht => by
      obtain ⟨j, hj⟩ := hall t (by omega)
      rw [hj]
      have := (pivIx_some hj).1
      simp only [Option.getD_some]; omega)
    obtain ⟨a, ha⟩ := hall i (by omega)
    obtain ⟨b, hb'⟩ := hall j (by omega)
    rw [ha, hb'] at he
    simp only [Option.getD_some] at he
    have h1 := (pivIx_some ha).2
    have h2 := (pivIx_some hb').2
    rw [he] at h1
    omega
  obtain ⟨f, hf, hno⟩ := this
  refine ⟨_, f, kerV_good (f := f) (red := basisL p n rows) (by omega), (kill_basis hp hg).1 (kerV_kill (by omega) hb hf hno), hf, ?_⟩
  rw [kerV_nth hf, kerN, if_pos rfl]
/-- Rows of full rank have solutions for every right side. -/
theorem rank_ok {p : Int} {n : Nat} {rows : List (List Int)} {v : List Int} (hp : primeB p = true) (hg : RowsG p n rows) (hn : rows.length = n) (hv : Good p n v) (hr : rankL p n rows = n) : okS n (basisL p (n + 1) (wideL rows v n)) = true := by
  cases h : okS n (basisL p (n + 1) (wideL rows v n)) with
  | true => rfl
  | false =>
    have hw : RowsG p (n + 1) (wideL rows v n) := wideL_good hg hv (by omega)
    have h1 := rank_up (m := n) hp hw h
    rw [trunc_wide hg hn, hr] at h1
    have h2 := rank_le (m := n + 1) hp hw
    rw [wideL_len] at h2
    omega
end Go.Proofs.Ythflmmgolegonaa
