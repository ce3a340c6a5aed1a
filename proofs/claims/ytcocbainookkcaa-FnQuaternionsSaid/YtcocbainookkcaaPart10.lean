/-
  Contracts and plain laws, part 10: DblM, DblC, MapK, Kernel, OrthL, RedP.
  No condition.
-/
import Derived.Test.YtcocbainookkcaaPart7
import Derived.Test.YtcocbainookkcaaPart9
import Derived.Test.YtcocbainookkcaaPart2
import Derived.Test.YtcocbainookkcaaPart0
import Derived.Test.YtcocbainookkcaaPart1
import Derived.Maps.OwnSet
import Derived.Maps.RangeWalk
import Derived.Test.YtcocbainookkcaaPart6
import Derived.Test.YtcocbainookkcaaPart3
/-
  Products of doublings, in the program and in the reference.
  No condition.
-/
namespace Go.Proofs.Ytcocbainookkcaa
set_option maxRecDepth 100000
open Go.RowKit

theorem own_lit1 {B : Nat} {w : World} (h : B ≤ w.heap.size) (x : Int) : OwnC B (w.alloc (.cells #[.int .i64 x] 2)) (some ⟨w.heap.size, 0, none⟩) 1 1 [x] :=
  OwnC.mono ⟨rfl, ⟨rfl, .inr ⟨w.heap.size, 1, #[.int .i64 x], rfl, Nat.le_refl _, heap_alloc_new w _, Nat.le_refl _, by unfold maxLen; omega, by simp, by simp⟩⟩⟩ h
theorem scale_goodN {p : Int} {x : List Int} {k : Int} {n : Nat} (hp : 1 ≤ p) : Good p n (scaleL p x k n) :=
  ⟨scaleL_len' .., fun i hi => by rw [scaleL_nth' hi]; exact ⟨Int.emod_nonneg _ (by omega), Int.emod_lt_of_pos _ (by omega)⟩⟩
theorem plus_scale1 {p : Int} {x y : List Int} {k : Int} {n : Nat} : plusL p x (scaleL p y k n) 1 n = plusL p x y k n := by
  refine ext_nth (by rw [plusL_len, plusL_len]) fun i hi => ?_
  rw [plusL_len] at hi
  rw [plusL_nth hi, plusL_nth hi]
  unfold plusN
  rw [scaleL_nth' hi]
  unfold scaleN
  rw [Int.one_mul, Int.add_emod_emod, Int.mul_comm]
theorem conj_set_m {p : Int} {x : List Int} {n : Nat} (h : x.length = n) : (scaleL p x (p - 1) n).set 0 (nth x 0) = conjL p x := conj_set' h

set_option maxHeartbeats 1000000 in
theorem c_conj (p : Int) (ax : Option Addr) (n cx : Nat) (x : List Int) (w : World) (hp1 : 3 ≤ p) (hp2 : p ≤ 900) (hn0 : 0 < n) (hn : n ≤ 64) (hx : RdC w ax n x) (hg : Good p n x) :
    Calls Try.prog 85 #[.int .i64 p, .slice ax n cx] w fun e w' => ∃ g rc, e = .returned (.slice (some ⟨g, 0, none⟩) n rc) ∧ OwnC w.heap.size w' (some ⟨g, 0, none⟩) n rc (conjL p x) ∧ Ext w w' := by
  have hp2 : p ≤ 1000 := by omega
  have HX := Lib.hid hx
  have HG := Lib.hid hg
  have HS : Hid ((scaleL p x (-1) n).set 0 (nth x 0) = conjL p x) := Lib.hid (by exact conj_set hx.1)
  obtain ⟨b, off, rfl, hc0⟩ := hx.2 0 hn0
  rw [Nat.add_zero] at hc0
  have HC0 := Lib.hid hc0
  obtain ⟨v, hv⟩ : ∃ v, v = nth x 0 := ⟨_, rfl⟩
  rw [← hv] at HS HC0
  clear hx hg hc0 hv
  go_enter Try.func85, Try.ntmps85
  go_wp2_with (fail)
  refine Calls.mono (c_scaled p _ n cx x (-1) w hp1 hp2 (by omega) (by omega) HX.out HG.out) ?_
  rintro e w1 ⟨g, rc, rfl, ho, g1⟩
  have HO := Lib.hid ho
  have G1 := Lib.hid g1
  have hc := g1.cell HC0.out
  have hcg := ho.cell hn0
  have hfz := ho.frozen 0
  have hbg : w.heap.size ≤ g := (ho.base_of g rfl).1
  have hne : ¬ b = g := by have := lt_of_cell HC0.out; dsimp only at this; omega
  have hne2 : ¬ g = b := fun h => hne h.symm
  clear ho g1
  go_wp2_with (fail)
  go_ret
  refine ⟨g, rc, rfl, ?_, G1.out.setCell hbg _⟩
  rw [← HS.out]
  exact HO.out.store hn0 v

set_option maxHeartbeats 1000000 in
theorem s_star (p : Int) (ax : Option Addr) (n cx : Nat) (x : List Int) (w : World) (hp1 : 3 ≤ p) (hp2 : p ≤ 900) (hn0 : 0 < n) (hn : n ≤ 64) (hx : RdC w ax n x) (hg : Good p n x) :
    Calls Try.prog 145 #[.int .i64 p, .slice ax n cx] w fun e w' => ∃ g rc, e = .returned (.slice (some ⟨g, 0, none⟩) n rc) ∧ OwnC w.heap.size w' (some ⟨g, 0, none⟩) n rc (conjL p x) ∧ Ext w w' := by
  have hp2 : p ≤ 1000 := by omega
  have HX := Lib.hid hx
  have HG := Lib.hid hg
  obtain ⟨Q, hQ⟩ : ∃ Q, Q = p - 1 := ⟨_, rfl⟩
  have hw1 : IntKind.i64.wrap (p - 1) = Q := by rw [hQ]; exact IntWalk.i64_in _ (by omega)
  have hQb : 0 ≤ Q ∧ Q ≤ 900 := by omega
  have HS : Hid ((scaleL p x Q n).set 0 (nth x 0) = conjL p x) := Lib.hid (by rw [hQ]; exact conj_set_m hx.1)
  obtain ⟨b, off, rfl, hc0⟩ := hx.2 0 hn0
  rw [Nat.add_zero] at hc0
  have HC0 := Lib.hid hc0
  obtain ⟨v, hv⟩ : ∃ v, v = nth x 0 := ⟨_, rfl⟩
  rw [← hv] at HS HC0
  clear hx hg hc0 hv hQ
  go_enter Try.func145, Try.ntmps145
  go_wp2_with (fail)
  refine Calls.mono (s_scale11 p _ n cx x Q w hp1 hp2 (by omega) (by omega) HX.out HG.out) ?_
  rintro e w1 ⟨g, rc, rfl, ho, g1⟩
  have HO := Lib.hid ho
  have G1 := Lib.hid g1
  have hc := g1.cell HC0.out
  have hcg := ho.cell hn0
  have hfz := ho.frozen 0
  have hbg : w.heap.size ≤ g := (ho.base_of g rfl).1
  have hne : ¬ b = g := by have := lt_of_cell HC0.out; dsimp only at this; omega
  have hne2 : ¬ g = b := fun h => hne h.symm
  clear ho g1
  go_wp2_with (fail)
  go_ret
  refine ⟨g, rc, rfl, ?_, G1.out.setCell hbg _⟩
  rw [← HS.out]
  exact HO.out.store hn0 v

set_option maxHeartbeats 8000000 in
set_option maxRecDepth 100000 in
theorem c_doubled (p : Int) (hp1 : 3 ≤ p) (hp2 : p ≤ 900) : ∀ (n N : Nat) (sa : Option Addr) (cs : Nat) (st : List Int) (ax : Option Addr) (cx : Nat) (x : List Int) (ay : Option Addr) (cy : Nat) (y : List Int) (w : World), n ≤ 4 → N = 2 ^ n → n ≤ cs → N ≤ cx → N ≤ cy → RdC w sa n st → Good p n st → RdC w ax N x → Good p N x → RdC w ay N y → Good p N y →
    Calls Try.prog 119 #[.int .i64 p, .slice sa n cs, .slice ax N cx, .slice ay N cy] w fun e w' => ∃ g rc, e = .returned (.slice (some ⟨g, 0, none⟩) N rc) ∧ OwnC w.heap.size w' (some ⟨g, 0, none⟩) N rc (dblL p st n x y) ∧ Ext w w' := by
  intro n
  induction n with
  | zero =>
    intro N sa cs st ax cx x ay cy y w _ hN _ _ _ _ _ hx hgx hy hgy
    obtain rfl : N = 1 := hN
    obtain ⟨bx, ox, rfl, hcx⟩ := hx.2 0 (by omega)
    obtain ⟨bb, oy, rfl, hcy⟩ := hy.2 0 (by omega)
    rw [Nat.add_zero] at hcx hcy
    have hxb := hgx.2 0 (by omega)
    have hyb := hgy.2 0 (by omega)
    have HR : Hid (dblL p st 0 x y = [nth x 0 * nth y 0 % p]) := Lib.hid rfl
    obtain ⟨u, hu⟩ : ∃ u, u = nth x 0 := ⟨_, rfl⟩
    obtain ⟨v, hv⟩ : ∃ v, v = nth y 0 := ⟨_, rfl⟩
    rw [← hu] at hcx hxb HR
    rw [← hv] at hcy hyb HR
    have hmb : 0 ≤ u * v ∧ u * v ≤ 810000 := ⟨Int.mul_nonneg hxb.1 hyb.1, by
      have := Int.mul_le_mul (show u ≤ 900 by omega) (show v ≤ 900 by omega) hyb.1 (show (0 : Int) ≤ 900 by omega)
      omega⟩
    have hw1 : IntKind.i64.wrap (u * v) = u * v := IntWalk.i64_in _ (by omega)
    have HCX := Lib.hid ((ext_drew _).cell hcx)
    have HCY := Lib.hid ((ext_drew _).cell hcy)
    obtain ⟨z, hz⟩ : ∃ z, z = u * v % p := ⟨_, rfl⟩
    rw [← hz] at HR
    have HZ := Lib.hid hz.symm
    clear hx hgx hy hgy hcx hcy hu hv hz
    go_enter Try.func119, Try.ntmps119
    go_wp2_with (fail)
    refine wp_region_lex_tail 9 [(8, .val (.int .i64 z))] (by kernel_rfl) (by kernel_rfl) ?_
    simp only [List.take, List.drop]
    (refine LexW.pure (v := ?_) rfl rfl (fun w1 he => ?_) ?_; rotate_left; ( have e1 := he.cell HCX.out; have e2 := he.cell HCY.out; go_simp; rfl); simp only [Act.put, List.setIfInBounds_toArray, List.set_cons_zero, List.set_cons_succ])
    (refine LexW.pure (v := ?_) rfl rfl (fun w1 he => ?_) ?_; rotate_left; ( have e1 := he.cell HCX.out; have e2 := he.cell HCY.out; go_simp; rfl); simp only [Act.put, List.setIfInBounds_toArray, List.set_cons_zero, List.set_cons_succ])
    (refine LexW.pure (v := ?_) rfl rfl (fun w1 he => ?_) ?_; rotate_left; ( have e1 := he.cell HCX.out; have e2 := he.cell HCY.out; go_simp; rfl); simp only [Act.put, List.setIfInBounds_toArray, List.set_cons_zero, List.set_cons_succ])
    (refine LexW.pure (v := ?_) rfl rfl (fun w1 he => ?_) ?_; rotate_left; ( have e1 := he.cell HCX.out; have e2 := he.cell HCY.out; go_simp; rfl); simp only [Act.put, List.setIfInBounds_toArray, List.set_cons_zero, List.set_cons_succ])
    (refine LexW.pure (v := ?_) rfl rfl (fun w1 he => ?_) ?_; rotate_left; ( have e1 := he.cell HCX.out; have e2 := he.cell HCY.out; go_simp; rfl); simp only [Act.put, List.setIfInBounds_toArray, List.set_cons_zero, List.set_cons_succ])
    (refine LexW.pure (v := ?_) rfl rfl (fun w1 he => ?_) ?_; rotate_left; ( have e1 := he.cell HCX.out; have e2 := he.cell HCY.out; go_simp; rfl); simp only [Act.put, List.setIfInBounds_toArray, List.set_cons_zero, List.set_cons_succ])
    (refine LexW.pure (v := ?_) rfl rfl (fun w1 he => ?_) ?_; rotate_left; ( have e1 := he.cell HCX.out; have e2 := he.cell HCY.out; go_simp; rfl); simp only [Act.put, List.setIfInBounds_toArray, List.set_cons_zero, List.set_cons_succ])
    (refine LexW.pure (v := ?_) rfl rfl (fun w1 he => ?_) ?_; rotate_left; ( have e1 := he.cell HCX.out; have e2 := he.cell HCY.out; go_simp; rfl); simp only [Act.put, List.setIfInBounds_toArray, List.set_cons_zero, List.set_cons_succ])
    (refine LexW.call (f := ?_) (args := ?_) rfl rfl (fun w1 => ?_) (fun w1 he hdep => ?_) ?_; rotate_left 2; (go_simp; refine ⟨?_, ?_⟩ <;> rfl); ( have H := (c_num p (u * v) w1 (by omega) (by omega)); rw [HZ.out] at H; exact H); simp only [Act.put, List.setIfInBounds_toArray, List.set_cons_zero, List.set_cons_succ])
    refine LexW.nil (fun w3 he hkn => ?_)
    have HE := Lib.hid ((ext_drew w).trans he)
    clear he hkn 
    go_wp2_with (fail)
    go_ret
    refine ⟨_, 1, rfl, ?_, HE.out.trans (ext_alloc _ _)⟩
    rw [HR.out]
    exact own_lit1 HE.out.size z
  | succ n ih =>
    intro N sa cs st ax cx x ay cy y w hn hN hcs hcx hcy hs hgs hx hgx hy hgy
    have IH := Lib.hid ih
    clear ih
    obtain ⟨H, hH⟩ : ∃ H, H = 2 ^ n := ⟨_, rfl⟩
    have hNH : N = H + H := by rw [hN, hH]; exact two_pow_add n
    have hH1 : 1 ≤ H := by rw [hH]; exact Nat.one_le_two_pow
    have hH8 : H ≤ 8 := by rw [hH]; exact Nat.le_trans (Nat.pow_le_pow_right (by omega) (show n ≤ 3 by omega)) (by decide)
    have HHN := Lib.hid hH
    have HR : Hid (dblL p st (n + 1) x y = plusL p (dblL p st n (x.take H) (y.take H)) (dblL p st n (conjL p (y.drop H)) (x.drop H)) (nth st n) H ++ plusL p (dblL p st n (y.drop H) (x.take H)) (dblL p st n (x.drop H) (conjL p (y.take H))) 1 H) := Lib.hid (by rw [hH]; rfl)
    have HD := fun (u v : List Int) => Lib.hid (show Good p H (dblL p st n u v) by rw [hH]; exact dbl_good (by omega) n u v)
    obtain ⟨bs, os, rfl, hcn⟩ := hs.2 n (by omega)
    obtain ⟨bx, ox, rfl, _⟩ := hx.2 0 (by omega)
    obtain ⟨bb, oy, rfl, _⟩ := hy.2 0 (by omega)
    have HST := Lib.hid (rdC_take hs (show n ≤ n + 1 by omega))
    have HGST := Lib.hid (show Good p n (st.take n) from ⟨by rw [List.length_take, hgs.1]; omega, fun i hi => by rw [tk_nth hi]; exact hgs.2 i (by omega)⟩)
    have HXA := Lib.hid (rdC_take hx (show H ≤ N by omega))
    have HXB := Lib.hid (rdC_from (hNH ▸ hx))
    have HYA := Lib.hid (rdC_take hy (show H ≤ N by omega))
    have HYB := Lib.hid (rdC_from (hNH ▸ hy))
    have HGXA := Lib.hid (tk_good (hNH ▸ hgx))
    have HGXB := Lib.hid (dp_good (hNH ▸ hgx))
    have HGYA := Lib.hid (tk_good (hNH ▸ hgy))
    have HGYB := Lib.hid (dp_good (hNH ▸ hgy))
    have HTK : Hid (∀ u v : List Int, dblL p (st.take n) n u v = dblL p st n u v) := Lib.hid (dbl_take (Nat.le_refl n))
    have hkb := hgs.2 n (by omega)
    obtain ⟨k, hk⟩ : ∃ k, k = nth st n := ⟨_, rfl⟩
    rw [← hk] at hcn HR hkb
    have HCN := Lib.hid hcn
    have hdiv : ((N : Nat) : Int) / 2 = (H : Int) := by omega
    have hdiv2 : (((N : Nat) : Int)).tdiv 2 = (H : Int) := by rw [Int.tdiv_eq_ediv_of_nonneg (by omega)]; omega
    have hsub : N - H = H := by omega
    have hln : n ≤ cs := by omega
    have hwH : IntKind.i64.wrap (H : Int) = (H : Int) := IntWalk.i64_in _ (by omega)
    have hnx : ¬ cx = H := by omega
    have hny : ¬ cy = H := by omega
    have hni : (n : Int) < (n : Int) + 1 := by omega
    have hlN : H ≤ N := by omega
    have hlx : H ≤ cx := by omega
    have hly : H ≤ cy := by omega
    have HNH := Lib.hid hNH
    have hlen : ¬ ((n + 1 : Nat) : Int) = 0 := by omega
    have CAL : Hid (∀ (av : Option Addr) (cv : Nat) (u : List Int) (aw : Option Addr) (cw : Nat) (v : List Int) (w1 : World), H ≤ cv → H ≤ cw → RdC w1 (some ⟨bs, os, none⟩) n (st.take n) → RdC w1 av H u → Good p H u → RdC w1 aw H v → Good p H v → Calls Try.prog 119 #[.int .i64 p, .slice (some ⟨bs, os, none⟩) n cs, .slice av H cv, .slice aw H cw] w1 fun e w' => ∃ g rc, e = .returned (.slice (some ⟨g, 0, none⟩) H rc) ∧ OwnC w1.heap.size w' (some ⟨g, 0, none⟩) H rc (dblL p st n u v) ∧ Ext w1 w') := Lib.hid (fun av cv u aw cw v w1 h1 h2 h3 h4 h5 h6 h7 => by
      have := IH.out H (some ⟨bs, os, none⟩) cs (st.take n) av cv u aw cw v w1 (by omega) HHN.out (by omega) h1 h2 h3 HGST.out h4 h5 h6 h7
      rw [HTK.out] at this
      exact this)
    clear hs hgs hx hgx hy hgy hH hN hk hcn IH HTK hNH
    go_enter Try.func119, Try.ntmps119
    go_wp2_with (fail)
    refine wp_region_lex [] (by kernel_rfl) (by kernel_rfl) ?_
    (refine LexW.pure (v := ?_) rfl rfl (fun w1 he => ?_) ?_; rotate_left; ( have e1 := he; go_simp; rfl); simp only [Act.put, List.setIfInBounds_toArray, List.set_cons_zero, List.set_cons_succ])
    (refine LexW.pure (v := ?_) rfl rfl (fun w1 he => ?_) ?_; rotate_left; ( have e1 := he; go_simp; rfl); simp only [Act.put, List.setIfInBounds_toArray, List.set_cons_zero, List.set_cons_succ])
    (refine LexW.pure (v := ?_) rfl rfl (fun w1 he => ?_) ?_; rotate_left; ( have e1 := he; go_simp; rfl); simp only [Act.put, List.setIfInBounds_toArray, List.set_cons_zero, List.set_cons_succ])
    (refine LexW.pure (v := ?_) rfl rfl (fun w1 he => ?_) ?_; rotate_left; ( have e1 := he; go_simp; rfl); simp only [Act.put, List.setIfInBounds_toArray, List.set_cons_zero, List.set_cons_succ])
    (refine LexW.pure (v := ?_) rfl rfl (fun w1 he => ?_) ?_; rotate_left; ( have e1 := he; go_simp; rfl); simp only [Act.put, List.setIfInBounds_toArray, List.set_cons_zero, List.set_cons_succ])
    (refine LexW.pure (v := ?_) rfl rfl (fun w1 he => ?_) ?_; rotate_left; ( have e1 := he; go_simp; rfl); simp only [Act.put, List.setIfInBounds_toArray, List.set_cons_zero, List.set_cons_succ])
    (refine LexW.pure (v := ?_) rfl rfl (fun w1 he => ?_) ?_; rotate_left; ( have e1 := he; go_simp; rfl); simp only [Act.put, List.setIfInBounds_toArray, List.set_cons_zero, List.set_cons_succ])
    (refine LexW.pure (v := ?_) rfl rfl (fun w1 he => ?_) ?_; rotate_left; ( have e1 := he; go_simp; rfl); simp only [Act.put, List.setIfInBounds_toArray, List.set_cons_zero, List.set_cons_succ])
    (refine LexW.pure (v := ?_) rfl rfl (fun w1 he => ?_) ?_; rotate_left; ( have e1 := he; go_simp; rfl); simp only [Act.put, List.setIfInBounds_toArray, List.set_cons_zero, List.set_cons_succ])
    (refine LexW.pure (v := ?_) rfl rfl (fun w1 he => ?_) ?_; rotate_left; ( have e1 := he; go_simp; rfl); simp only [Act.put, List.setIfInBounds_toArray, List.set_cons_zero, List.set_cons_succ])
    (refine LexW.pure (v := ?_) rfl rfl (fun w1 he => ?_) ?_; rotate_left; ( have e1 := he; go_simp; rfl); simp only [Act.put, List.setIfInBounds_toArray, List.set_cons_zero, List.set_cons_succ])
    (refine LexW.pure (v := ?_) rfl rfl (fun w1 he => ?_) ?_; rotate_left; ( have e1 := he; go_simp; rfl); simp only [Act.put, List.setIfInBounds_toArray, List.set_cons_zero, List.set_cons_succ])
    (refine LexW.pure (v := ?_) rfl rfl (fun w1 he => ?_) ?_; rotate_left; ( have e1 := he; go_simp; rfl); simp only [Act.put, List.setIfInBounds_toArray, List.set_cons_zero, List.set_cons_succ])
    (refine LexW.pure (v := ?_) rfl rfl (fun w1 he => ?_) ?_; rotate_left; ( have e1 := he; go_simp; rfl); simp only [Act.put, List.setIfInBounds_toArray, List.set_cons_zero, List.set_cons_succ])
    (refine LexW.pure (v := ?_) rfl rfl (fun w1 he => ?_) ?_; rotate_left; ( have e1 := he; go_simp; rfl); simp only [Act.put, List.setIfInBounds_toArray, List.set_cons_zero, List.set_cons_succ])
    (refine LexW.pure (v := ?_) rfl rfl (fun w1 he => ?_) ?_; rotate_left; ( have e1 := he; go_simp; rfl); simp only [Act.put, List.setIfInBounds_toArray, List.set_cons_zero, List.set_cons_succ])
    refine LexW.nil (fun w3 he hkn => ?_)
    have HE := Lib.hid ((ext_drew w).trans he)
    clear he hkn 
    rename World => w1
    have HST1 := Lib.hid (HST.out.ext (HE.out.trans (ext_drew _)))
    have HXA1 := Lib.hid (HXA.out.ext (HE.out.trans (ext_drew _)))
    have HXB1 := Lib.hid (HXB.out.ext (HE.out.trans (ext_drew _)))
    have HYA1 := Lib.hid (HYA.out.ext (HE.out.trans (ext_drew _)))
    have HYB1 := Lib.hid (HYB.out.ext (HE.out.trans (ext_drew _)))
    have HCN1 := Lib.hid ((HE.out.trans (ext_drew _)).cell HCN.out)
    have HW1 := Lib.hid (HE.out.trans (ext_drew _))
    clear HE
    go_wp2_with (fail)
    refine wp_region_lex [(5, .ownS w.heap.size H (dblL p st n (x.take H) (y.take H))), (10, .ownS w.heap.size H (conjL p (y.drop H))), (12, .ownS w.heap.size H (dblL p st n (conjL p (y.drop H)) (x.drop H))), (17, .ownS w.heap.size H (plusL p (dblL p st n (x.take H) (y.take H)) (dblL p st n (conjL p (y.drop H)) (x.drop H)) k H))] (by kernel_rfl) (by kernel_rfl) ?_
    (refine LexW.pure (v := ?_) rfl rfl (fun w1 he => ?_) ?_; rotate_left; ( have e1 := he.cell HCN1.out; go_simp; rfl); simp only [Act.put, List.setIfInBounds_toArray, List.set_cons_zero, List.set_cons_succ])
    (refine LexW.pure (v := ?_) rfl rfl (fun w1 he => ?_) ?_; rotate_left; ( have e1 := he.cell HCN1.out; go_simp; rfl); simp only [Act.put, List.setIfInBounds_toArray, List.set_cons_zero, List.set_cons_succ])
    (refine LexW.pure (v := ?_) rfl rfl (fun w1 he => ?_) ?_; rotate_left; ( have e1 := he.cell HCN1.out; go_simp; rfl); simp only [Act.put, List.setIfInBounds_toArray, List.set_cons_zero, List.set_cons_succ])
    (refine LexW.pure (v := ?_) rfl rfl (fun w1 he => ?_) ?_; rotate_left; ( have e1 := he.cell HCN1.out; go_simp; rfl); simp only [Act.put, List.setIfInBounds_toArray, List.set_cons_zero, List.set_cons_succ])
    (refine LexW.pure (v := ?_) rfl rfl (fun w1 he => ?_) ?_; rotate_left; ( have e1 := he.cell HCN1.out; go_simp; rfl); simp only [Act.put, List.setIfInBounds_toArray, List.set_cons_zero, List.set_cons_succ])
    (refine LexW.callR (f := ?_) (args := ?_) rfl rfl (fun w1 => ?_) (fun w1 he hdep => ?_) (fun v hv => ?_); rotate_left 2; (go_simp; refine ⟨?_, ?_⟩ <;> rfl); ( refine (CAL.out _ _ _ _ _ _ w1 (by omega) (by omega) (HST1.out.ext he) (HXA1.out.ext he) HGXA.out (HYA1.out.ext he) HGYA.out).mono ?_; rintro e w2 ⟨g, rc, rfl, ho, g2⟩; exact ⟨_, rfl, g2, g, rc, rfl, ho.mono (Nat.le_trans HW1.out.size he.size)⟩); simp only [Act.put, List.setIfInBounds_toArray, List.set_cons_zero, List.set_cons_succ])
    obtain ⟨_, g57, c57, rfl, _⟩ := hv
    (refine LexW.pure (v := ?_) rfl rfl (fun w1 he => ?_) ?_; rotate_left; ( have e1 := he.cell HCN1.out; go_simp; rfl); simp only [Act.put, List.setIfInBounds_toArray, List.set_cons_zero, List.set_cons_succ])
    (refine LexW.pure (v := ?_) rfl rfl (fun w1 he => ?_) ?_; rotate_left; ( have e1 := he.cell HCN1.out; go_simp; rfl); simp only [Act.put, List.setIfInBounds_toArray, List.set_cons_zero, List.set_cons_succ])
    (refine LexW.pure (v := ?_) rfl rfl (fun w1 he => ?_) ?_; rotate_left; ( have e1 := he.cell HCN1.out; go_simp; rfl); simp only [Act.put, List.setIfInBounds_toArray, List.set_cons_zero, List.set_cons_succ])
    (refine LexW.pure (v := ?_) rfl rfl (fun w1 he => ?_) ?_; rotate_left; ( have e1 := he.cell HCN1.out; go_simp; rfl); simp only [Act.put, List.setIfInBounds_toArray, List.set_cons_zero, List.set_cons_succ])
    (refine LexW.callR (f := ?_) (args := ?_) rfl rfl (fun w1 => ?_) (fun w1 he hdep => ?_) (fun v hv => ?_); rotate_left 2; (go_simp; refine ⟨?_, ?_⟩ <;> rfl); ( refine (c_conj p _ H _ (y.drop H) w1 hp1 hp2 (by omega) (by omega) (HYB1.out.ext he) HGYB.out).mono ?_; rintro e w2 ⟨g, rc, rfl, ho, g2⟩; exact ⟨_, rfl, g2, g, rc, rfl, ho.mono (Nat.le_trans HW1.out.size he.size)⟩); simp only [Act.put, List.setIfInBounds_toArray, List.set_cons_zero, List.set_cons_succ])
    obtain ⟨_, g62, c62, rfl, _⟩ := hv
    (refine LexW.pure (v := ?_) rfl rfl (fun w1 he => ?_) ?_; rotate_left; ( have e1 := he.cell HCN1.out; go_simp; rfl); simp only [Act.put, List.setIfInBounds_toArray, List.set_cons_zero, List.set_cons_succ])
    (refine LexW.callR (f := ?_) (args := ?_) rfl rfl (fun w1 => ?_) (fun w1 he hdep => ?_) (fun v hv => ?_); rotate_left 2; (go_simp; refine ⟨?_, ?_⟩ <;> rfl); ( obtain ⟨_, _, q62, r62⟩ : (SPred.ownS w.heap.size H (conjL p (y.drop H))).holds (.slice (some ⟨g62, 0, none⟩) H c62) w1 := hdep (10, 62) (by decide +kernel); cases q62; refine (CAL.out _ _ _ _ _ _ w1 (r62.capLe (by omega)) (by omega) (HST1.out.ext he) r62.rd (conj_good (by omega) HGYB.out) (HXB1.out.ext he) HGXB.out).mono ?_; rintro e w2 ⟨g, rc, rfl, ho, g2⟩; exact ⟨_, rfl, g2, g, rc, rfl, ho.mono (Nat.le_trans HW1.out.size he.size)⟩); simp only [Act.put, List.setIfInBounds_toArray, List.set_cons_zero, List.set_cons_succ])
    obtain ⟨_, g64, c64, rfl, _⟩ := hv
    (refine LexW.pure (v := ?_) rfl rfl (fun w1 he => ?_) ?_; rotate_left; ( have e1 := he.cell HCN1.out; go_simp; rfl); simp only [Act.put, List.setIfInBounds_toArray, List.set_cons_zero, List.set_cons_succ])
    (refine LexW.pure (v := ?_) rfl rfl (fun w1 he => ?_) ?_; rotate_left; ( have e1 := he.cell HCN1.out; go_simp; rfl); simp only [Act.put, List.setIfInBounds_toArray, List.set_cons_zero, List.set_cons_succ])
    (refine LexW.pure (v := ?_) rfl rfl (fun w1 he => ?_) ?_; rotate_left; ( have e1 := he.cell HCN1.out; go_simp; rfl); simp only [Act.put, List.setIfInBounds_toArray, List.set_cons_zero, List.set_cons_succ])
    (refine LexW.pure (v := ?_) rfl rfl (fun w1 he => ?_) ?_; rotate_left; ( have e1 := he.cell HCN1.out; go_simp; rfl); simp only [Act.put, List.setIfInBounds_toArray, List.set_cons_zero, List.set_cons_succ])
    (refine LexW.callR (f := ?_) (args := ?_) rfl rfl (fun w1 => ?_) (fun w1 he hdep => ?_) (fun v hv => ?_); rotate_left 2; (go_simp; refine ⟨?_, ?_⟩ <;> rfl); ( obtain ⟨_, _, q57, r57⟩ : (SPred.ownS w.heap.size H (dblL p st n (x.take H) (y.take H))).holds (.slice (some ⟨g57, 0, none⟩) H c57) w1 := hdep (5, 57) (by decide +kernel); cases q57; obtain ⟨_, _, q64, r64⟩ : (SPred.ownS w.heap.size H (dblL p st n (conjL p (y.drop H)) (x.drop H))).holds (.slice (some ⟨g64, 0, none⟩) H c64) w1 := hdep (12, 64) (by decide +kernel); cases q64; refine (c_plus p _ _ H _ _ _ _ k w1 hp1 (by omega) (by omega) (by omega) r57.rd r64.rd (HD _ _).out (HD _ _).out).mono ?_; rintro e w2 ⟨g, rc, rfl, ho, g2⟩; exact ⟨_, rfl, g2, g, rc, rfl, ho.mono (Nat.le_trans HW1.out.size he.size)⟩); simp only [Act.put, List.setIfInBounds_toArray, List.set_cons_zero, List.set_cons_succ])
    obtain ⟨_, g69, c69, rfl, _⟩ := hv
    (refine LexW.pure (v := ?_) rfl rfl (fun w1 he => ?_) ?_; rotate_left; ( have e1 := he.cell HCN1.out; go_simp; rfl); simp only [Act.put, List.setIfInBounds_toArray, List.set_cons_zero, List.set_cons_succ])
    refine LexW.nil (fun w3 he hkn => ?_)
    obtain ⟨_, _, q69, r69⟩ : (SPred.ownS w.heap.size H (plusL p (dblL p st n (x.take H) (y.take H)) (dblL p st n (conjL p (y.drop H)) (x.drop H)) k H)).holds (.slice (some ⟨g69, 0, none⟩) H c69) w3 := hkn (17, _) (by simp)
    cases q69
    have R69 := Lib.hid r69
    have HE := Lib.hid (HW1.out.trans he)
    clear he hkn r69
    rename World => w2
    have HST2 := Lib.hid (HST.out.ext HE.out)
    have HXA2 := Lib.hid (HXA.out.ext HE.out)
    have HXB2 := Lib.hid (HXB.out.ext HE.out)
    have HYA2 := Lib.hid (HYA.out.ext HE.out)
    have HYB2 := Lib.hid (HYB.out.ext HE.out)
    clear HST1 HXA1 HXB1 HYA1 HYB1 HCN1 HW1
    go_wp2_with (fail)
    refine Calls.mono (CAL.out _ _ _ _ _ _ w2 (by omega) (by omega) HST2.out HYB2.out HGYB.out HXA2.out HGXA.out) ?_
    rintro e w3 ⟨g3, r3, rfl, o3, x3⟩
    have O3 := Lib.hid o3
    have X3 := Lib.hid x3
    clear o3 x3
    go_wp2_with (fail)
    refine Calls.mono (c_conj p _ H _ (y.take H) w3 hp1 hp2 (by omega) (by omega) (HYA2.out.ext X3.out) HGYA.out) ?_
    rintro e w4 ⟨g4, r4, rfl, o4, x4⟩
    have O4 := Lib.hid o4
    have X4 := Lib.hid x4
    clear o4 x4
    go_wp2_with (fail)
    refine Calls.mono (CAL.out _ _ _ _ _ _ w4 (by omega) (O4.out.capLe (by omega)) (HST2.out.ext (X3.out.trans X4.out)) (HXB2.out.ext (X3.out.trans X4.out)) HGXB.out O4.out.rd (conj_good (by omega) HGYA.out)) ?_
    rintro e w5 ⟨g5, r5, rfl, o5, x5⟩
    have O5 := Lib.hid o5
    have X5 := Lib.hid x5
    clear o5 x5
    go_wp2_with (fail)
    refine Calls.mono (c_plus p _ _ H _ _ _ _ 1 w5 hp1 (by omega) (by omega) (by omega) (O3.out.rd.ext (X4.out.trans X5.out)) O5.out.rd (HD _ _).out (HD _ _).out) ?_
    rintro e w6 ⟨g6, r6, rfl, o6, x6⟩
    have O6 := Lib.hid o6
    have X6 := Lib.hid (X3.out.trans (X4.out.trans (X5.out.trans x6)))
    clear o6 x6
    have R1 := Lib.hid (R69.out.ext X6.out)
    have R2 := Lib.hid O6.out.rd
    have E6 := Lib.hid (HE.out.trans X6.out)
    clear O3 O4 O5 X3 X4 X5 R69
    go_wp2_with (at_builtin; refine wpList_appendAll rfl (.tmp 84) (.tmp 85) rfl rfl rfl R1.out R2.out (by omega) (by omega) (by omega) E6.out.size ?hk)
    intro g' cap' w7 ho _ he
    have HO := Lib.hid ho
    have HE7 := Lib.hid (he w (Nat.le_refl _) E6.out)
    clear ho he
    go_wp2_with (fail)
    go_ret
    have hNN := HNH.out
    subst hNN
    refine ⟨g', cap', rfl, ?_, HE7.out⟩
    rw [HR.out]
    exact HO.out

set_option maxHeartbeats 8000000 in
set_option maxRecDepth 100000 in
theorem s_mul11 (p : Int) (hp1 : 3 ≤ p) (hp2 : p ≤ 900) : ∀ (n N : Nat) (sa : Option Addr) (cs : Nat) (st : List Int) (ax : Option Addr) (cx : Nat) (x : List Int) (ay : Option Addr) (cy : Nat) (y : List Int) (w : World), n ≤ 4 → N = 2 ^ n → n ≤ cs → N ≤ cx → N ≤ cy → RdC w sa n st → Good p n st → RdC w ax N x → Good p N x → RdC w ay N y → Good p N y →
    Calls Try.prog 122 #[.int .i64 p, .slice sa n cs, .slice ax N cx, .slice ay N cy] w fun e w' => ∃ g rc, e = .returned (.slice (some ⟨g, 0, none⟩) N rc) ∧ OwnC w.heap.size w' (some ⟨g, 0, none⟩) N rc (dblL p st n x y) ∧ Ext w w' := by
  intro n
  induction n with
  | zero =>
    intro N sa cs st ax cx x ay cy y w _ hN _ _ _ _ _ hx hgx hy hgy
    obtain rfl : N = 1 := hN
    obtain ⟨bx, ox, rfl, hcx⟩ := hx.2 0 (by omega)
    obtain ⟨bb, oy, rfl, hcy⟩ := hy.2 0 (by omega)
    rw [Nat.add_zero] at hcx hcy
    have hxb := hgx.2 0 (by omega)
    have hyb := hgy.2 0 (by omega)
    have HR : Hid (dblL p st 0 x y = [nth x 0 * nth y 0 % p]) := Lib.hid rfl
    obtain ⟨u, hu⟩ : ∃ u, u = nth x 0 := ⟨_, rfl⟩
    obtain ⟨v, hv⟩ : ∃ v, v = nth y 0 := ⟨_, rfl⟩
    rw [← hu] at hcx hxb HR
    rw [← hv] at hcy hyb HR
    have hmb : 0 ≤ u * v ∧ u * v ≤ 810000 := ⟨Int.mul_nonneg hxb.1 hyb.1, by
      have := Int.mul_le_mul (show u ≤ 900 by omega) (show v ≤ 900 by omega) hyb.1 (show (0 : Int) ≤ 900 by omega)
      omega⟩
    have hw1 : IntKind.i64.wrap (u * v) = u * v := IntWalk.i64_in _ (by omega)
    have HCX := Lib.hid ((ext_drew _).cell hcx)
    have HCY := Lib.hid ((ext_drew _).cell hcy)
    obtain ⟨z, hz⟩ : ∃ z, z = u * v % p := ⟨_, rfl⟩
    rw [← hz] at HR
    have HZ := Lib.hid hz.symm
    clear hx hgx hy hgy hcx hcy hu hv hz
    go_enter Try.func122, Try.ntmps122
    go_wp2_with (fail)
    refine wp_region_lex_tail 9 [(8, .val (.int .i64 z))] (by kernel_rfl) (by kernel_rfl) ?_
    simp only [List.take, List.drop]
    (refine LexW.pure (v := ?_) rfl rfl (fun w1 he => ?_) ?_; rotate_left; ( have e1 := he.cell HCX.out; have e2 := he.cell HCY.out; go_simp; rfl); simp only [Act.put, List.setIfInBounds_toArray, List.set_cons_zero, List.set_cons_succ])
    (refine LexW.pure (v := ?_) rfl rfl (fun w1 he => ?_) ?_; rotate_left; ( have e1 := he.cell HCX.out; have e2 := he.cell HCY.out; go_simp; rfl); simp only [Act.put, List.setIfInBounds_toArray, List.set_cons_zero, List.set_cons_succ])
    (refine LexW.pure (v := ?_) rfl rfl (fun w1 he => ?_) ?_; rotate_left; ( have e1 := he.cell HCX.out; have e2 := he.cell HCY.out; go_simp; rfl); simp only [Act.put, List.setIfInBounds_toArray, List.set_cons_zero, List.set_cons_succ])
    (refine LexW.pure (v := ?_) rfl rfl (fun w1 he => ?_) ?_; rotate_left; ( have e1 := he.cell HCX.out; have e2 := he.cell HCY.out; go_simp; rfl); simp only [Act.put, List.setIfInBounds_toArray, List.set_cons_zero, List.set_cons_succ])
    (refine LexW.pure (v := ?_) rfl rfl (fun w1 he => ?_) ?_; rotate_left; ( have e1 := he.cell HCX.out; have e2 := he.cell HCY.out; go_simp; rfl); simp only [Act.put, List.setIfInBounds_toArray, List.set_cons_zero, List.set_cons_succ])
    (refine LexW.pure (v := ?_) rfl rfl (fun w1 he => ?_) ?_; rotate_left; ( have e1 := he.cell HCX.out; have e2 := he.cell HCY.out; go_simp; rfl); simp only [Act.put, List.setIfInBounds_toArray, List.set_cons_zero, List.set_cons_succ])
    (refine LexW.pure (v := ?_) rfl rfl (fun w1 he => ?_) ?_; rotate_left; ( have e1 := he.cell HCX.out; have e2 := he.cell HCY.out; go_simp; rfl); simp only [Act.put, List.setIfInBounds_toArray, List.set_cons_zero, List.set_cons_succ])
    (refine LexW.pure (v := ?_) rfl rfl (fun w1 he => ?_) ?_; rotate_left; ( have e1 := he.cell HCX.out; have e2 := he.cell HCY.out; go_simp; rfl); simp only [Act.put, List.setIfInBounds_toArray, List.set_cons_zero, List.set_cons_succ])
    (refine LexW.call (f := ?_) (args := ?_) rfl rfl (fun w1 => ?_) (fun w1 he hdep => ?_) ?_; rotate_left 2; (go_simp; refine ⟨?_, ?_⟩ <;> rfl); ( have H := (s_mod p (u * v) w1 (by omega) (by omega)); rw [HZ.out] at H; exact H); simp only [Act.put, List.setIfInBounds_toArray, List.set_cons_zero, List.set_cons_succ])
    refine LexW.nil (fun w3 he hkn => ?_)
    have HE := Lib.hid ((ext_drew w).trans he)
    clear he hkn 
    go_wp2_with (fail)
    go_ret
    refine ⟨_, 1, rfl, ?_, HE.out.trans (ext_alloc _ _)⟩
    rw [HR.out]
    exact own_lit1 HE.out.size z
  | succ n ih =>
    intro N sa cs st ax cx x ay cy y w hn hN hcs hcx hcy hs hgs hx hgx hy hgy
    have IH := Lib.hid ih
    clear ih
    obtain ⟨H, hH⟩ : ∃ H, H = 2 ^ n := ⟨_, rfl⟩
    have hNH : N = H + H := by rw [hN, hH]; exact two_pow_add n
    have hH1 : 1 ≤ H := by rw [hH]; exact Nat.one_le_two_pow
    have hH8 : H ≤ 8 := by rw [hH]; exact Nat.le_trans (Nat.pow_le_pow_right (by omega) (show n ≤ 3 by omega)) (by decide)
    have HHN := Lib.hid hH
    have HR : Hid (dblL p st (n + 1) x y = plusL p (dblL p st n (x.take H) (y.take H)) (dblL p st n (conjL p (y.drop H)) (x.drop H)) (nth st n) H ++ plusL p (dblL p st n (y.drop H) (x.take H)) (dblL p st n (x.drop H) (conjL p (y.take H))) 1 H) := Lib.hid (by rw [hH]; rfl)
    have HD := fun (u v : List Int) => Lib.hid (show Good p H (dblL p st n u v) by rw [hH]; exact dbl_good (by omega) n u v)
    obtain ⟨bs, os, rfl, hcn⟩ := hs.2 n (by omega)
    obtain ⟨bx, ox, rfl, _⟩ := hx.2 0 (by omega)
    obtain ⟨bb, oy, rfl, _⟩ := hy.2 0 (by omega)
    have HST := Lib.hid (rdC_take hs (show n ≤ n + 1 by omega))
    have HGST := Lib.hid (show Good p n (st.take n) from ⟨by rw [List.length_take, hgs.1]; omega, fun i hi => by rw [tk_nth hi]; exact hgs.2 i (by omega)⟩)
    have HXA := Lib.hid (rdC_take hx (show H ≤ N by omega))
    have HXB := Lib.hid (rdC_from (hNH ▸ hx))
    have HYA := Lib.hid (rdC_take hy (show H ≤ N by omega))
    have HYB := Lib.hid (rdC_from (hNH ▸ hy))
    have HGXA := Lib.hid (tk_good (hNH ▸ hgx))
    have HGXB := Lib.hid (dp_good (hNH ▸ hgx))
    have HGYA := Lib.hid (tk_good (hNH ▸ hgy))
    have HGYB := Lib.hid (dp_good (hNH ▸ hgy))
    have HTK : Hid (∀ u v : List Int, dblL p (st.take n) n u v = dblL p st n u v) := Lib.hid (dbl_take (Nat.le_refl n))
    have hkb := hgs.2 n (by omega)
    obtain ⟨k, hk⟩ : ∃ k, k = nth st n := ⟨_, rfl⟩
    rw [← hk] at hcn HR hkb
    have HCN := Lib.hid hcn
    have hdiv : ((N : Nat) : Int) / 2 = (H : Int) := by omega
    have hdiv2 : (((N : Nat) : Int)).tdiv 2 = (H : Int) := by rw [Int.tdiv_eq_ediv_of_nonneg (by omega)]; omega
    have hsub : N - H = H := by omega
    have hln : n ≤ cs := by omega
    have hwH : IntKind.i64.wrap (H : Int) = (H : Int) := IntWalk.i64_in _ (by omega)
    have hnx : ¬ cx = H := by omega
    have hny : ¬ cy = H := by omega
    have hni : (n : Int) < (n : Int) + 1 := by omega
    have hlN : H ≤ N := by omega
    have hlx : H ≤ cx := by omega
    have hly : H ≤ cy := by omega
    have HNH := Lib.hid hNH
    have hlen : ¬ ((n + 1 : Nat) : Int) = 0 := by omega
    have CAL : Hid (∀ (av : Option Addr) (cv : Nat) (u : List Int) (aw : Option Addr) (cw : Nat) (v : List Int) (w1 : World), H ≤ cv → H ≤ cw → RdC w1 (some ⟨bs, os, none⟩) n (st.take n) → RdC w1 av H u → Good p H u → RdC w1 aw H v → Good p H v → Calls Try.prog 122 #[.int .i64 p, .slice (some ⟨bs, os, none⟩) n cs, .slice av H cv, .slice aw H cw] w1 fun e w' => ∃ g rc, e = .returned (.slice (some ⟨g, 0, none⟩) H rc) ∧ OwnC w1.heap.size w' (some ⟨g, 0, none⟩) H rc (dblL p st n u v) ∧ Ext w1 w') := Lib.hid (fun av cv u aw cw v w1 h1 h2 h3 h4 h5 h6 h7 => by
      have := IH.out H (some ⟨bs, os, none⟩) cs (st.take n) av cv u aw cw v w1 (by omega) HHN.out (by omega) h1 h2 h3 HGST.out h4 h5 h6 h7
      rw [HTK.out] at this
      exact this)
    clear hs hgs hx hgx hy hgy hH hN hk hcn IH HTK hNH
    go_enter Try.func122, Try.ntmps122
    go_wp2_with (fail)
    have HCN0 := Lib.hid ((ext_drew w).cell HCN.out)
    refine wp_region_lex [] (by kernel_rfl) (by kernel_rfl) ?_
    (refine LexW.pure (v := ?_) rfl rfl (fun w1 he => ?_) ?_; rotate_left; ( have e1 := he.cell HCN0.out; go_simp; rfl); simp only [Act.put, List.setIfInBounds_toArray, List.set_cons_zero, List.set_cons_succ])
    (refine LexW.pure (v := ?_) rfl rfl (fun w1 he => ?_) ?_; rotate_left; ( have e1 := he.cell HCN0.out; go_simp; rfl); simp only [Act.put, List.setIfInBounds_toArray, List.set_cons_zero, List.set_cons_succ])
    (refine LexW.pure (v := ?_) rfl rfl (fun w1 he => ?_) ?_; rotate_left; ( have e1 := he.cell HCN0.out; go_simp; rfl); simp only [Act.put, List.setIfInBounds_toArray, List.set_cons_zero, List.set_cons_succ])
    (refine LexW.pure (v := ?_) rfl rfl (fun w1 he => ?_) ?_; rotate_left; ( have e1 := he.cell HCN0.out; go_simp; rfl); simp only [Act.put, List.setIfInBounds_toArray, List.set_cons_zero, List.set_cons_succ])
    (refine LexW.pure (v := ?_) rfl rfl (fun w1 he => ?_) ?_; rotate_left; ( have e1 := he.cell HCN0.out; go_simp; rfl); simp only [Act.put, List.setIfInBounds_toArray, List.set_cons_zero, List.set_cons_succ])
    (refine LexW.pure (v := ?_) rfl rfl (fun w1 he => ?_) ?_; rotate_left; ( have e1 := he.cell HCN0.out; go_simp; rfl); simp only [Act.put, List.setIfInBounds_toArray, List.set_cons_zero, List.set_cons_succ])
    (refine LexW.pure (v := ?_) rfl rfl (fun w1 he => ?_) ?_; rotate_left; ( have e1 := he.cell HCN0.out; go_simp; rfl); simp only [Act.put, List.setIfInBounds_toArray, List.set_cons_zero, List.set_cons_succ])
    (refine LexW.pure (v := ?_) rfl rfl (fun w1 he => ?_) ?_; rotate_left; ( have e1 := he.cell HCN0.out; go_simp; rfl); simp only [Act.put, List.setIfInBounds_toArray, List.set_cons_zero, List.set_cons_succ])
    (refine LexW.pure (v := ?_) rfl rfl (fun w1 he => ?_) ?_; rotate_left; ( have e1 := he.cell HCN0.out; go_simp; rfl); simp only [Act.put, List.setIfInBounds_toArray, List.set_cons_zero, List.set_cons_succ])
    (refine LexW.pure (v := ?_) rfl rfl (fun w1 he => ?_) ?_; rotate_left; ( have e1 := he.cell HCN0.out; go_simp; rfl); simp only [Act.put, List.setIfInBounds_toArray, List.set_cons_zero, List.set_cons_succ])
    (refine LexW.pure (v := ?_) rfl rfl (fun w1 he => ?_) ?_; rotate_left; ( have e1 := he.cell HCN0.out; go_simp; rfl); simp only [Act.put, List.setIfInBounds_toArray, List.set_cons_zero, List.set_cons_succ])
    (refine LexW.pure (v := ?_) rfl rfl (fun w1 he => ?_) ?_; rotate_left; ( have e1 := he.cell HCN0.out; go_simp; rfl); simp only [Act.put, List.setIfInBounds_toArray, List.set_cons_zero, List.set_cons_succ])
    (refine LexW.pure (v := ?_) rfl rfl (fun w1 he => ?_) ?_; rotate_left; ( have e1 := he.cell HCN0.out; go_simp; rfl); simp only [Act.put, List.setIfInBounds_toArray, List.set_cons_zero, List.set_cons_succ])
    refine LexW.nil (fun w3 he hkn => ?_)
    have HE := Lib.hid ((ext_drew w).trans he)
    clear he hkn 
    rename World => w1
    have HCN1 := Lib.hid ((HE.out.trans (ext_drew _)).cell HCN.out)
    have HW1 := Lib.hid (HE.out.trans (ext_drew _))
    clear HE
    go_wp2_with (fail)
    refine wp_region_lex [] (by kernel_rfl) (by kernel_rfl) ?_
    (refine LexW.pure (v := ?_) rfl rfl (fun w1 he => ?_) ?_; rotate_left; ( go_simp; rfl); simp only [Act.put, List.setIfInBounds_toArray, List.set_cons_zero, List.set_cons_succ])
    (refine LexW.pure (v := ?_) rfl rfl (fun w1 he => ?_) ?_; rotate_left; ( go_simp; rfl); simp only [Act.put, List.setIfInBounds_toArray, List.set_cons_zero, List.set_cons_succ])
    (refine LexW.pure (v := ?_) rfl rfl (fun w1 he => ?_) ?_; rotate_left; ( go_simp; rfl); simp only [Act.put, List.setIfInBounds_toArray, List.set_cons_zero, List.set_cons_succ])
    (refine LexW.pure (v := ?_) rfl rfl (fun w1 he => ?_) ?_; rotate_left; ( go_simp; rfl); simp only [Act.put, List.setIfInBounds_toArray, List.set_cons_zero, List.set_cons_succ])
    (refine LexW.pure (v := ?_) rfl rfl (fun w1 he => ?_) ?_; rotate_left; ( go_simp; rfl); simp only [Act.put, List.setIfInBounds_toArray, List.set_cons_zero, List.set_cons_succ])
    (refine LexW.pure (v := ?_) rfl rfl (fun w1 he => ?_) ?_; rotate_left; ( go_simp; rfl); simp only [Act.put, List.setIfInBounds_toArray, List.set_cons_zero, List.set_cons_succ])
    (refine LexW.pure (v := ?_) rfl rfl (fun w1 he => ?_) ?_; rotate_left; ( go_simp; rfl); simp only [Act.put, List.setIfInBounds_toArray, List.set_cons_zero, List.set_cons_succ])
    (refine LexW.pure (v := ?_) rfl rfl (fun w1 he => ?_) ?_; rotate_left; ( go_simp; rfl); simp only [Act.put, List.setIfInBounds_toArray, List.set_cons_zero, List.set_cons_succ])
    (refine LexW.pure (v := ?_) rfl rfl (fun w1 he => ?_) ?_; rotate_left; ( go_simp; rfl); simp only [Act.put, List.setIfInBounds_toArray, List.set_cons_zero, List.set_cons_succ])
    (refine LexW.pure (v := ?_) rfl rfl (fun w1 he => ?_) ?_; rotate_left; ( go_simp; rfl); simp only [Act.put, List.setIfInBounds_toArray, List.set_cons_zero, List.set_cons_succ])
    (refine LexW.pure (v := ?_) rfl rfl (fun w1 he => ?_) ?_; rotate_left; ( go_simp; rfl); simp only [Act.put, List.setIfInBounds_toArray, List.set_cons_zero, List.set_cons_succ])
    (refine LexW.pure (v := ?_) rfl rfl (fun w1 he => ?_) ?_; rotate_left; ( go_simp; rfl); simp only [Act.put, List.setIfInBounds_toArray, List.set_cons_zero, List.set_cons_succ])
    (refine LexW.pure (v := ?_) rfl rfl (fun w1 he => ?_) ?_; rotate_left; ( go_simp; rfl); simp only [Act.put, List.setIfInBounds_toArray, List.set_cons_zero, List.set_cons_succ])
    (refine LexW.pure (v := ?_) rfl rfl (fun w1 he => ?_) ?_; rotate_left; ( go_simp; rfl); simp only [Act.put, List.setIfInBounds_toArray, List.set_cons_zero, List.set_cons_succ])
    (refine LexW.pure (v := ?_) rfl rfl (fun w1 he => ?_) ?_; rotate_left; ( go_simp; rfl); simp only [Act.put, List.setIfInBounds_toArray, List.set_cons_zero, List.set_cons_succ])
    (refine LexW.pure (v := ?_) rfl rfl (fun w1 he => ?_) ?_; rotate_left; ( go_simp; rfl); simp only [Act.put, List.setIfInBounds_toArray, List.set_cons_zero, List.set_cons_succ])
    refine LexW.nil (fun w3 he hkn => ?_)
    have HE := Lib.hid (HW1.out.trans he)
    clear he hkn 
    rename World => w2
    have HST2 := Lib.hid (HST.out.ext HE.out)
    have HXA2 := Lib.hid (HXA.out.ext HE.out)
    have HXB2 := Lib.hid (HXB.out.ext HE.out)
    have HYA2 := Lib.hid (HYA.out.ext HE.out)
    have HYB2 := Lib.hid (HYB.out.ext HE.out)
    have E2 := HE
    have E2s : w.heap.size ≤ w2.heap.size := HE.out.size
    clear HCN1 HW1 HE
    go_wp2_with (fail)
    refine Calls.mono (CAL.out _ _ _ _ _ _ w2 (by omega) (by omega) HST2.out HXA2.out HGXA.out HYA2.out HGYA.out) ?_
    rintro e w3 ⟨g3, r3, rfl, o3, x3⟩
    have O3 := Lib.hid o3
    have E3 := Lib.hid (E2.out.trans x3)
    replace HST2 := Lib.hid (HST2.out.ext x3)
    replace HXA2 := Lib.hid (HXA2.out.ext x3)
    replace HXB2 := Lib.hid (HXB2.out.ext x3)
    replace HYA2 := Lib.hid (HYA2.out.ext x3)
    replace HYB2 := Lib.hid (HYB2.out.ext x3)
    clear o3 x3 E2
    go_wp2_with (fail)
    refine Calls.mono (s_star p _ H _ (y.drop H) w3 hp1 hp2 (by omega) (by omega) HYB2.out HGYB.out) ?_
    rintro e w4 ⟨g4, r4, rfl, o4, x4⟩
    have O4 := Lib.hid o4
    have E4 := Lib.hid (E3.out.trans x4)
    replace HST2 := Lib.hid (HST2.out.ext x4)
    replace HXA2 := Lib.hid (HXA2.out.ext x4)
    replace HXB2 := Lib.hid (HXB2.out.ext x4)
    replace HYA2 := Lib.hid (HYA2.out.ext x4)
    replace HYB2 := Lib.hid (HYB2.out.ext x4)
    replace O3 := Lib.hid (O3.out.ext x4)
    clear o4 x4 E3
    go_wp2_with (fail)
    refine Calls.mono (CAL.out _ _ _ _ _ _ w4 (O4.out.capLe (by omega)) (by omega) HST2.out O4.out.rd (conj_good (by omega) HGYB.out) HXB2.out HGXB.out) ?_
    rintro e w5 ⟨g5, r5, rfl, o5, x5⟩
    have O5 := Lib.hid o5
    have E5 := Lib.hid (E4.out.trans x5)
    replace HST2 := Lib.hid (HST2.out.ext x5)
    replace HXA2 := Lib.hid (HXA2.out.ext x5)
    replace HXB2 := Lib.hid (HXB2.out.ext x5)
    replace HYA2 := Lib.hid (HYA2.out.ext x5)
    replace HYB2 := Lib.hid (HYB2.out.ext x5)
    replace O3 := Lib.hid (O3.out.ext x5)
    clear o5 x5 E4
    go_wp2_with (fail)
    refine Calls.mono (s_scale11 p _ H _ _ k w5 hp1 (by omega) (by omega) (by omega) O5.out.rd (HD _ _).out) ?_
    rintro e w6 ⟨g6, r6, rfl, o6, x6⟩
    have O6 := Lib.hid o6
    have E6 := Lib.hid (E5.out.trans x6)
    replace HST2 := Lib.hid (HST2.out.ext x6)
    replace HXA2 := Lib.hid (HXA2.out.ext x6)
    replace HXB2 := Lib.hid (HXB2.out.ext x6)
    replace HYA2 := Lib.hid (HYA2.out.ext x6)
    replace HYB2 := Lib.hid (HYB2.out.ext x6)
    replace O3 := Lib.hid (O3.out.ext x6)
    clear o6 x6 E5
    have E7s : w.heap.size ≤ w6.heap.size := E6.out.size
    go_wp2_with (fail)
    refine Calls.mono (s_add11 p _ _ H _ _ _ _ w6 hp1 (by omega) (by omega) O3.out.rd O6.out.rd (fun i hi => by have := (HD (x.take H) (y.take H)).out.2 i hi; omega) (scale_goodN (by omega))) ?_
    rintro e w7 ⟨g7, r7, rfl, o7, x7⟩
    have O7 := Lib.hid o7
    have E7 := Lib.hid (E6.out.trans x7)
    replace HST2 := Lib.hid (HST2.out.ext x7)
    replace HXA2 := Lib.hid (HXA2.out.ext x7)
    replace HXB2 := Lib.hid (HXB2.out.ext x7)
    replace HYA2 := Lib.hid (HYA2.out.ext x7)
    replace HYB2 := Lib.hid (HYB2.out.ext x7)
    clear o7 x7 E6
    have E6s : w.heap.size ≤ w6.heap.size := by have := E7s; exact this
    rw [plus_scale1] at O7
    clear O3 O4 O5 O6
    go_wp2_with (fail)
    refine Calls.mono (CAL.out _ _ _ _ _ _ w7 (by omega) (by omega) HST2.out HYB2.out HGYB.out HXA2.out HGXA.out) ?_
    rintro e w8 ⟨g8, r8, rfl, o8, x8⟩
    have O8 := Lib.hid o8
    have E8 := Lib.hid (E7.out.trans x8)
    replace HST2 := Lib.hid (HST2.out.ext x8)
    replace HXA2 := Lib.hid (HXA2.out.ext x8)
    replace HXB2 := Lib.hid (HXB2.out.ext x8)
    replace HYA2 := Lib.hid (HYA2.out.ext x8)
    replace HYB2 := Lib.hid (HYB2.out.ext x8)
    replace O7 := Lib.hid (O7.out.ext x8)
    clear o8 x8 E7
    go_wp2_with (fail)
    refine Calls.mono (s_star p _ H _ (y.take H) w8 hp1 hp2 (by omega) (by omega) HYA2.out HGYA.out) ?_
    rintro e w9 ⟨g9, r9, rfl, o9, x9⟩
    have O9 := Lib.hid o9
    have E9 := Lib.hid (E8.out.trans x9)
    replace HST2 := Lib.hid (HST2.out.ext x9)
    replace HXA2 := Lib.hid (HXA2.out.ext x9)
    replace HXB2 := Lib.hid (HXB2.out.ext x9)
    replace HYA2 := Lib.hid (HYA2.out.ext x9)
    replace HYB2 := Lib.hid (HYB2.out.ext x9)
    replace O7 := Lib.hid (O7.out.ext x9)
    replace O8 := Lib.hid (O8.out.ext x9)
    clear o9 x9 E8
    go_wp2_with (fail)
    refine Calls.mono (CAL.out _ _ _ _ _ _ w9 (by omega) (O9.out.capLe (by omega)) HST2.out HXB2.out HGXB.out O9.out.rd (conj_good (by omega) HGYA.out)) ?_
    rintro e w10 ⟨g10, r10, rfl, o10, x10⟩
    have O10 := Lib.hid o10
    have E10 := Lib.hid (E9.out.trans x10)
    replace HST2 := Lib.hid (HST2.out.ext x10)
    replace HXA2 := Lib.hid (HXA2.out.ext x10)
    replace HXB2 := Lib.hid (HXB2.out.ext x10)
    replace HYA2 := Lib.hid (HYA2.out.ext x10)
    replace HYB2 := Lib.hid (HYB2.out.ext x10)
    replace O7 := Lib.hid (O7.out.ext x10)
    replace O8 := Lib.hid (O8.out.ext x10)
    clear o10 x10 E9
    go_wp2_with (fail)
    refine Calls.mono (s_add11 p _ _ H _ _ _ _ w10 hp1 (by omega) (by omega) O8.out.rd O10.out.rd (fun i hi => by have := (HD (y.drop H) (x.take H)).out.2 i hi; omega) (HD _ _).out) ?_
    rintro e w11 ⟨g11, r11, rfl, o11, x11⟩
    have O11 := Lib.hid o11
    have E11 := Lib.hid (E10.out.trans x11)
    replace HST2 := Lib.hid (HST2.out.ext x11)
    replace HXA2 := Lib.hid (HXA2.out.ext x11)
    replace HXB2 := Lib.hid (HXB2.out.ext x11)
    replace HYA2 := Lib.hid (HYA2.out.ext x11)
    replace HYB2 := Lib.hid (HYB2.out.ext x11)
    replace O7 := Lib.hid (O7.out.ext x11)
    clear o11 x11 E10
    have R1 := Lib.hid (O7.out.mono E6s)
    have R2 := Lib.hid O11.out.rd
    have E6 := E11
    clear O7 O8 O9 O10 O11 E11 HST2 HXA2 HXB2 HYA2 HYB2
    go_wp2_with (at_builtin; refine wpList_appendAll rfl (.tmp 88) (.tmp 89) rfl rfl rfl R1.out R2.out (by omega) (by omega) (by omega) E6.out.size ?hk)
    intro g' cap' w7 ho _ he
    have HO := Lib.hid ho
    have HE7 := Lib.hid (he w (Nat.le_refl _) E6.out)
    clear ho he
    go_wp2_with (fail)
    go_ret
    have hNN := HNH.out
    subst hNN
    refine ⟨g', cap', rfl, ?_, HE7.out⟩
    rw [HR.out]
    exact HO.out

set_option maxHeartbeats 1000000 in
theorem c_dtimes (p : Int) (a : Option Addr) (n cap : Nat) (st : List Int) (N : Nat) (ax : Option Addr) (cx : Nat) (x : List Int) (ay : Option Addr) (cy : Nat) (y : List Int) (w : World) (hp1 : 3 ≤ p) (hp2 : p ≤ 900) (hn : n ≤ 4) (hN : N = 2 ^ n) (hcs : n ≤ cap) (hcx : N ≤ cx) (hcy : N ≤ cy) (hs : RdC w a n st) (hgs : Good p n st) (hx : RdC w ax N x) (hgx : Good p N x) (hy : RdC w ay N y) (hgy : Good p N y) :
    Calls Try.prog 79 #[.agg #[.int .i64 p, .slice a n cap], .slice ax N cx, .slice ay N cy] w fun e w' => ∃ g rc, e = .returned (.slice (some ⟨g, 0, none⟩) N rc) ∧ OwnC w.heap.size w' (some ⟨g, 0, none⟩) N rc (dblL p st n x y) ∧ Ext w w' := by
  obtain ⟨W, hW⟩ : ∃ W, W = w.alloc (.cells #[.int .i64 p, .slice a n cap] 52) := ⟨_, rfl⟩
  have G : Hid (Ext w W) := Lib.hid (by rw [hW]; exact ext_alloc _ _)
  have c0 : Hid (W.cell? ⟨w.heap.size, 0, none⟩ = some (.int .i64 p)) := Lib.hid (by rw [hW]; simp)
  have c1 : Hid (W.cell? ⟨w.heap.size, 1, none⟩ = some (.slice a n cap)) := Lib.hid (by rw [hW]; simp)
  have HW := Lib.hid hW
  have HN := Lib.hid hN
  have HS := Lib.hid (hs.ext G.out)
  have HGS := Lib.hid hgs
  have HX := Lib.hid (hx.ext G.out)
  have HGX := Lib.hid hgx
  have HY := Lib.hid (hy.ext G.out)
  have HGY := Lib.hid hgy
  clear hW hN hs hgs hx hgx hy hgy
  go_enter Try.func79, Try.ntmps79
  go_wp2_with (fail)
  rw [← HW.out]
  have d0 := Lib.hid ((ext_drew W).cell c0.out)
  have d1 := Lib.hid ((ext_drew W).cell c1.out)
  have HS1 := Lib.hid (HS.out.ext (ext_drew W))
  have HX1 := Lib.hid (HX.out.ext (ext_drew W))
  have HY1 := Lib.hid (HY.out.ext (ext_drew W))
  have G1 := Lib.hid (G.out.trans (ext_drew W))
  refine wp_region_lex [(1, .val (.int .i64 p)), (6, .ownS w.heap.size N (dblL p st n x y))] (by kernel_rfl) (by kernel_rfl) ?_
  (refine LexW.pure (v := ?_) rfl rfl (fun w1 he => ?_) ?_; rotate_left; ( have e0 := he.cell d0.out; have e1 := he.cell d1.out; go_simp; rfl); simp only [Act.put, List.setIfInBounds_toArray, List.set_cons_zero, List.set_cons_succ])
  (refine LexW.call (f := ?_) (args := ?_) rfl rfl (fun w1 => ?_) (fun w1 he hdep => ?_) ?_; rotate_left 2; (go_simp; refine ⟨?_, ?_⟩ <;> rfl); ( exact c_dfield _ _ _); simp only [Act.put, List.setIfInBounds_toArray, List.set_cons_zero, List.set_cons_succ])
  (refine LexW.pure (v := ?_) rfl rfl (fun w1 he => ?_) ?_; rotate_left; ( have e0 := he.cell d0.out; have e1 := he.cell d1.out; go_simp; rfl); simp only [Act.put, List.setIfInBounds_toArray, List.set_cons_zero, List.set_cons_succ])
  (refine LexW.pure (v := ?_) rfl rfl (fun w1 he => ?_) ?_; rotate_left; ( have e0 := he.cell d0.out; have e1 := he.cell d1.out; go_simp; rfl); simp only [Act.put, List.setIfInBounds_toArray, List.set_cons_zero, List.set_cons_succ])
  (refine LexW.pure (v := ?_) rfl rfl (fun w1 he => ?_) ?_; rotate_left; ( have e0 := he.cell d0.out; have e1 := he.cell d1.out; go_simp; rfl); simp only [Act.put, List.setIfInBounds_toArray, List.set_cons_zero, List.set_cons_succ])
  (refine LexW.pure (v := ?_) rfl rfl (fun w1 he => ?_) ?_; rotate_left; ( have e0 := he.cell d0.out; have e1 := he.cell d1.out; go_simp; rfl); simp only [Act.put, List.setIfInBounds_toArray, List.set_cons_zero, List.set_cons_succ])
  (refine LexW.callR (f := ?_) (args := ?_) rfl rfl (fun w1 => ?_) (fun w1 he hdep => ?_) (fun v hv => ?_); rotate_left 2; (go_simp; refine ⟨?_, ?_⟩ <;> rfl); ( refine (c_doubled p hp1 hp2 n N a cap st ax cx x ay cy y w1 hn HN.out hcs hcx hcy (HS1.out.ext he) HGS.out (HX1.out.ext he) HGX.out (HY1.out.ext he) HGY.out).mono ?_; rintro e w2 ⟨g, rc, rfl, ho, g2⟩; exact ⟨_, rfl, g2, g, rc, rfl, ho.mono (Nat.le_trans G1.out.size he.size)⟩); simp only [Act.put, List.setIfInBounds_toArray, List.set_cons_zero, List.set_cons_succ])
  obtain ⟨_, g13, c13, rfl, _⟩ := hv
  (refine LexW.pure (v := ?_) rfl rfl (fun w1 he => ?_) ?_; rotate_left; ( have e0 := he.cell d0.out; have e1 := he.cell d1.out; go_simp; rfl); simp only [Act.put, List.setIfInBounds_toArray, List.set_cons_zero, List.set_cons_succ])
  refine LexW.nil (fun w3 he hkn => ?_)
  obtain ⟨_, _, q13, r13⟩ : (SPred.ownS w.heap.size N (dblL p st n x y)).holds (.slice (some ⟨g13, 0, none⟩) N c13) w3 := hkn (6, _) (by simp)
  cases q13
  have R13 := Lib.hid r13
  have HE := Lib.hid (G1.out.trans he)
  clear he hkn r13
  go_wp2_with (fail)
  go_ret
  exact ⟨_, _, rfl, R13.out, HE.out⟩

set_option maxHeartbeats 1000000 in
theorem s_times11 (p : Int) (a : Option Addr) (n cap : Nat) (st : List Int) (N : Nat) (ax : Option Addr) (cx : Nat) (x : List Int) (ay : Option Addr) (cy : Nat) (y : List Int) (w : World) (hp1 : 3 ≤ p) (hp2 : p ≤ 900) (hn : n ≤ 4) (hN : N = 2 ^ n) (hcs : n ≤ cap) (hcx : N ≤ cx) (hcy : N ≤ cy) (hs : RdC w a n st) (hgs : Good p n st) (hx : RdC w ax N x) (hgx : Good p N x) (hy : RdC w ay N y) (hgy : Good p N y) :
    Calls Try.prog 81 #[.agg #[.int .i64 p, .slice a n cap], .slice ax N cx, .slice ay N cy] w fun e w' => ∃ g rc, e = .returned (.slice (some ⟨g, 0, none⟩) N rc) ∧ OwnC w.heap.size w' (some ⟨g, 0, none⟩) N rc (dblL p st n x y) ∧ Ext w w' := by
  obtain ⟨W, hW⟩ : ∃ W, W = w.alloc (.cells #[.int .i64 p, .slice a n cap] 52) := ⟨_, rfl⟩
  have G : Hid (Ext w W) := Lib.hid (by rw [hW]; exact ext_alloc _ _)
  have c0 : Hid (W.cell? ⟨w.heap.size, 0, none⟩ = some (.int .i64 p)) := Lib.hid (by rw [hW]; simp)
  have c1 : Hid (W.cell? ⟨w.heap.size, 1, none⟩ = some (.slice a n cap)) := Lib.hid (by rw [hW]; simp)
  have HW := Lib.hid hW
  have HN := Lib.hid hN
  have HS := Lib.hid (hs.ext G.out)
  have HGS := Lib.hid hgs
  have HX := Lib.hid (hx.ext G.out)
  have HGX := Lib.hid hgx
  have HY := Lib.hid (hy.ext G.out)
  have HGY := Lib.hid hgy
  clear hW hN hs hgs hx hgx hy hgy
  go_enter Try.func81, Try.ntmps81
  go_wp2_with (fail)
  rw [← HW.out]
  refine Calls.mono (s_mul11 p hp1 hp2 n N a cap st ax cx x ay cy y W hn HN.out hcs hcx hcy HS.out HGS.out HX.out HGX.out HY.out HGY.out) ?_
  rintro e w1 ⟨g, rc, rfl, o, g1⟩
  have O := Lib.hid (o.mono G.out.size)
  have G1 := Lib.hid (G.out.trans g1)
  clear o g1
  go_wp2_with (fail)
  go_ret
  exact ⟨_, _, rfl, O.out, G1.out⟩

end Go.Proofs.Ytcocbainookkcaa

/-
  Codes of elements.
  No condition.
-/
namespace Go.Proofs.Ytcocbainookkcaa
set_option maxRecDepth 100000
open Go.RowKit

set_option maxHeartbeats 2000000 in
theorem s_code11 (p : Int) (a : Option Addr) (d cap : Nat) (st : List Int) (al : Option Addr) (n cl : Nat) (es : List (List Int)) (w : World) (hd : d ≤ 4194304) (hl : n ≤ 4194303) (hr : ∀ i, i < n → (nthR es i).length ≤ 4194303) (hq : RdC w a d st) (hx : RdR w al n es) :
    Calls Try.prog 80 #[.agg #[.int .i64 p, .slice a d cap], .slice al n cl] w fun e w' => e = .returned (.int .i64 (codeE p st es)) ∧ Ext w w' := by
  have Hr := Lib.hid hr
  have HQ := Lib.hid hq
  have HL := Lib.hid hx.1
  have HR := Lib.hid hx.2
  have hdl := hq.1
  clear hr hq hx
  cases hs : doubB p st
  · have HS := Lib.hid hs
    have HC := Lib.hid (codeE_A (es := es) hs)
    clear hs
    go_enter Try.func80, Try.ntmps80
    go_wp2_with (go_at_call 120; refine (s_is11 _ _ _ _ _ _ hd (HQ.out.ext (ext_alloc _ _))).mono ?_; rintro e w1 ⟨rfl, g1⟩; rw [HS.out]; have hcc := Ext.cells g1)
    go_ret
    exact ⟨ret_int HC.out.symm, (ext_alloc _ _).trans g1⟩
  · obtain ⟨hpr, hd4, _, _⟩ := doub_of hs
    have hpb := prime_bd hpr
    have HS := Lib.hid hs
    have hd4' : d ≤ 4 := by omega
    have HC := Lib.hid (show codeE p st es = if es.all (multiB p d) = true then 0 else 2 by rw [codeE_B hs, hdl])
    clear hs hpr hd4 hdl
    go_enter Try.func80, Try.ntmps80
    go_wp2_with (go_at_call 120; refine (s_is11 _ _ _ _ _ _ hd (HQ.out.ext (ext_alloc _ _))).mono ?_; rintro e w1 ⟨rfl, g1⟩; rw [HS.out]; have hq0 : w1.cell? ⟨w.heap.size, 0, none⟩ = some (.int .i64 p) := g1.cell (by simp); have hq1 : w1.cell? ⟨w.heap.size, 1, none⟩ = some (.slice a d cap) := g1.cell (by simp))
    have Q0 := Lib.hid hq0
    have Q1 := Lib.hid hq1
    have G1 := Lib.hid ((ext_alloc w (.cells #[.int .i64 p, .slice a d cap] 52)).trans g1)
    clear g1 hq0 hq1
    go_loopw [5] (fun i wr => ∃ k : Nat, k ≤ n ∧ i = .int .i64 k ∧ Hid (∀ j, j < k → multiB p d (nthR es j) = true) ∧ Ext w1 wr) (fun i _ => n - (intOf i).toNat)
    case atStart => exact ⟨0, Nat.zero_le _, rfl, Lib.hid (fun j hj => by omega), Ext.refl _⟩
    case round =>
      obtain ⟨k, hk, rfl, HT, hext⟩ := hrel
      have HExt := Lib.hid hext
      clear hext
      by_cases hlt : k < n
      · obtain ⟨b, off, ai, ci, rfl, hc, hrow⟩ := HR.out k hlt
        have g2 := G1.out.trans HExt.out
        have HRow := Lib.hid (hrow.ext g2)
        have Hc0 := Lib.hid ((g2.trans (ext_drew _)).cell hc)
        have Hq0 := Lib.hid ((HExt.out.trans (ext_drew _)).cell Q0.out)
        have Hq1 := Lib.hid ((HExt.out.trans (ext_drew _)).cell Q1.out)
        clear hc hrow g2
        have hl0 := Hr.out k hlt
        cases hb : multiB p d (nthR es k)
        all_goals
          have HB := Lib.hid hb
          clear hb
          go_wp2_with (fail)
          refine wp_region_lex [(5, .val (.bool (multiB p d (nthR es k))))] (by kernel_rfl) (by kernel_rfl) ?_
          repeat' first | (refine LexW.pure (v := ?_) rfl rfl (fun w1 he => ?_) ?_; rotate_left; ( have hc0 := he.cell Hc0.out; have hq0 := he.cell Hq0.out; have hq1 := he.cell Hq1.out; go_simp; rfl); simp only [Act.put, List.setIfInBounds_toArray, List.set_cons_zero, List.set_cons_succ]) | (refine LexW.call (f := ?_) (args := ?_) rfl rfl (fun w1 => ?_) (fun w1 he hdep => ?_) ?_; rotate_left 2; (go_simp; refine ⟨?_, ?_⟩ <;> rfl); ( have H := s_elem11 p a d cap ai _ ci (nthR es k) w1 (by omega) (by omega) (by omega) hl0 (HRow.out.ext ((ext_drew _).trans he)); exact H); simp only [Act.put, List.setIfInBounds_toArray, List.set_cons_zero, List.set_cons_succ])
          refine LexW.nil (fun w2 he hk => ?_)
          have X2 := Lib.hid (HExt.out.trans ((ext_drew _).trans he))
          clear he hk
          rw [HB.out]
          go_wp2_with (fail)
        · go_ret
          exact ⟨ret_int (by
            rw [HC.out, if_neg]
            intro h
            have := all_nth.1 h k (by rw [HL.out]; exact hlt)
            rw [HB.out] at this; cases this), G1.out.trans X2.out⟩
        · go_roundw
          case rel => exact ⟨k + 1, by omega, by go_num, Lib.hid (fun j hj => by
            by_cases hjk : j = k
            · subst hjk; exact HB.out
            · exact HT.out j (by omega)), X2.out⟩
          case measure => simp [intOf]; omega
      · go_wp2_with (fail)
        go_ret
        exact ⟨ret_int (by rw [HC.out, if_pos (all_nth.2 fun j hj => HT.out j (by rw [HL.out] at hj; omega))]), G1.out.trans HExt.out⟩
theorem codeE_0 {p : Int} {st : List Int} {es : List (List Int)} (hs : doubB p st = true) (h : ∀ i, i < es.length → Good p (2 ^ st.length) (nthR es i)) : codeE p st es = 0 := by
  rw [codeE_B hs, if_pos (all_nth.2 fun i hi => good_multi (h i hi))]
theorem codeE_two {p : Int} {st x y : List Int} {d N : Nat} (hs : doubB p st = true) (hN : N = 2 ^ d) (hd : st.length = d) (hx : Good p N x) (hy : Good p N y) : codeE p st [x, y] = 0 := codeE_0 hs fun i hi => by
  subst hd; subst hN
  have : i = 0 ∨ i = 1 := by simp at hi; omega
  rcases this with rfl | rfl
  · exact hx
  · exact hy
theorem codeE_one {p : Int} {st x : List Int} {d N : Nat} (hs : doubB p st = true) (hN : N = 2 ^ d) (hd : st.length = d) (hx : Good p N x) : codeE p st [x] = 0 := codeE_0 hs fun i hi => by
  subst hd; subst hN
  have : i = 0 := by simp at hi; omega
  subst this
  exact hx
set_option maxHeartbeats 4000000 in
set_option maxRecDepth 100000 in
theorem c_DoubleTimes_ok (p : Int) (a : Option Addr) (d cap N : Nat) (st : List Int) (ax : Option Addr) (cx : Nat) (x : List Int) (ay : Option Addr) (cy : Nat) (y : List Int) (w : World) (hs : doubB p st = true) (hN : N = 2 ^ d) (hcs : d ≤ cap) (hq : RdC w a d st) (hcx : N ≤ cx) (hx : RdC w ax N x) (hgx : Good p N x) (hcy : N ≤ cy) (hy : RdC w ay N y) (hgy : Good p N y) :
    Calls Try.prog 29 #[.agg #[.int .i64 p, .slice a d cap], .slice ax N cx, .slice ay N cy] w fun e w' => ∃ g rc, e = .returned (.tuple #[.slice (some ⟨g, 0, none⟩) N rc, .int .i64 0]) ∧ OwnC w.heap.size w' (some ⟨g, 0, none⟩) N rc (dblL p st d x y) ∧ Ext w w' := by
  obtain ⟨hpr, hd4, hib, _⟩ := doub_of hs
  have hpb := prime_bd hpr
  have hdl := hq.1
  have hd4' : d ≤ 4 := by omega
  have HGS := Lib.hid (show Good p d st from good_isB hdl hib)
  have HNE := Lib.hid hN
  have hN16 : N ≤ 16 ∧ 1 ≤ N := by
    rw [hN]
    have : d = 0 ∨ d = 1 ∨ d = 2 ∨ d = 3 ∨ d = 4 := by omega
    rcases this with rfl | rfl | rfl | rfl | rfl <;> decide
  have HC := Lib.hid (codeE_two hs hN hdl hgx hgy)
  have HGX := Lib.hid hgx
  have HGY := Lib.hid hgy
  have HXL := Lib.hid hgx.1
  have HYL := Lib.hid hgy.1
  clear hs hpr hd4 hib hdl hN hgx hgy
  obtain ⟨W, hW⟩ : ∃ W, W = w.alloc (.cells #[.int .i64 p, .slice a d cap] 52) := ⟨_, rfl⟩
  have E : Hid (Ext w W) := Lib.hid (by rw [hW]; exact ext_alloc _ _)
  have C0 : Hid (W.cell? ⟨w.heap.size, 0, none⟩ = some (.int .i64 p)) := Lib.hid (by rw [hW]; simp)
  have C1 : Hid (W.cell? ⟨w.heap.size, 1, none⟩ = some (.slice a d cap)) := Lib.hid (by rw [hW]; simp)
  have HZ : Hid (W.heap.size = w.heap.size + 1) := Lib.hid (by rw [hW]; simp)
  have HW := Lib.hid hW
  clear hW
  have HQ := Lib.hid (hq.ext E.out)
  have HX := Lib.hid (hx.ext E.out)
  have HY := Lib.hid (hy.ext E.out)
  clear hq hx hy
  go_enter Try.func29, Try.ntmps29
  have x00 := C0.out
  have x01 := C1.out
  go_wp2_with (fail)
  clear x00 x01
  rw [← HW.out]
  clear HW
  refine Calls.mono (c_checkElements p a d cap st _ 2 _ [x, y] _ (by omega) (by omega) (len_two (by rw [HXL.out]; omega) (by rw [HYL.out]; omega)) (HQ.out.ext (ext_alloc _ _)) (rdR_two (a := ax) (b := ay) (n := N) (m := N) (ca := cx) (cb := cy) (by rw [← HZ.out]; simp) (by rw [← HZ.out]; simp) (HX.out.ext (ext_alloc _ _)) (HY.out.ext (ext_alloc _ _)))) ?_
  rintro e v1 ⟨rfl, gg⟩
  replace gg := (ext_alloc _ _).trans gg
  rw [HC.out]
  replace E := Lib.hid (E.out.trans gg)
  replace HQ := Lib.hid (HQ.out.ext gg)
  replace HX := Lib.hid (HX.out.ext gg)
  replace HY := Lib.hid (HY.out.ext gg)
  replace C0 := Lib.hid (gg.cell (p := ⟨w.heap.size, 0, none⟩) C0.out)
  replace C1 := Lib.hid (gg.cell (p := ⟨w.heap.size, 1, none⟩) C1.out)
  clear gg
  have x00 := C0.out
  have x01 := C1.out
  go_wp2_with (fail)
  clear x00 x01
  refine Calls.mono (c_dtimes p a d cap st N ax cx x ay cy y v1 (by omega) (by omega) hd4' HNE.out hcs hcx hcy HQ.out HGS.out HX.out HGX.out HY.out HGY.out) ?_
  rintro e v2 ⟨g, rc, rfl, ho, gg⟩
  have RO := Lib.hid (ho.mono E.out.size)
  clear ho
  replace E := Lib.hid (E.out.trans gg)
  replace HQ := Lib.hid (HQ.out.ext gg)
  replace HX := Lib.hid (HX.out.ext gg)
  replace HY := Lib.hid (HY.out.ext gg)
  replace C0 := Lib.hid (gg.cell (p := ⟨w.heap.size, 0, none⟩) C0.out)
  replace C1 := Lib.hid (gg.cell (p := ⟨w.heap.size, 1, none⟩) C1.out)
  clear gg
  go_wp2_with (fail)
  go_ret2
  exact ⟨g, rc, rfl, RO.out, E.out⟩
set_option maxHeartbeats 4000000 in
set_option maxRecDepth 100000 in
theorem s_DoubleTimes_ok (p : Int) (a : Option Addr) (d cap N : Nat) (st : List Int) (ax : Option Addr) (cx : Nat) (x : List Int) (ay : Option Addr) (cy : Nat) (y : List Int) (w : World) (hs : doubB p st = true) (hN : N = 2 ^ d) (hcs : d ≤ cap) (hq : RdC w a d st) (hcx : N ≤ cx) (hx : RdC w ax N x) (hgx : Good p N x) (hcy : N ≤ cy) (hy : RdC w ay N y) (hgy : Good p N y) :
    Calls Try.prog 30 #[.agg #[.int .i64 p, .slice a d cap], .slice ax N cx, .slice ay N cy] w fun e w' => ∃ g rc, e = .returned (.tuple #[.slice (some ⟨g, 0, none⟩) N rc, .int .i64 0]) ∧ OwnC w.heap.size w' (some ⟨g, 0, none⟩) N rc (dblL p st d x y) ∧ Ext w w' := by
  obtain ⟨hpr, hd4, hib, _⟩ := doub_of hs
  have hpb := prime_bd hpr
  have hdl := hq.1
  have hd4' : d ≤ 4 := by omega
  have HGS := Lib.hid (show Good p d st from good_isB hdl hib)
  have HNE := Lib.hid hN
  have hN16 : N ≤ 16 ∧ 1 ≤ N := by
    rw [hN]
    have : d = 0 ∨ d = 1 ∨ d = 2 ∨ d = 3 ∨ d = 4 := by omega
    rcases this with rfl | rfl | rfl | rfl | rfl <;> decide
  have HC := Lib.hid (codeE_two hs hN hdl hgx hgy)
  have HGX := Lib.hid hgx
  have HGY := Lib.hid hgy
  have HXL := Lib.hid hgx.1
  have HYL := Lib.hid hgy.1
  clear hs hpr hd4 hib hdl hN hgx hgy
  obtain ⟨W, hW⟩ : ∃ W, W = w.alloc (.cells #[.int .i64 p, .slice a d cap] 52) := ⟨_, rfl⟩
  have E : Hid (Ext w W) := Lib.hid (by rw [hW]; exact ext_alloc _ _)
  have C0 : Hid (W.cell? ⟨w.heap.size, 0, none⟩ = some (.int .i64 p)) := Lib.hid (by rw [hW]; simp)
  have C1 : Hid (W.cell? ⟨w.heap.size, 1, none⟩ = some (.slice a d cap)) := Lib.hid (by rw [hW]; simp)
  have HZ : Hid (W.heap.size = w.heap.size + 1) := Lib.hid (by rw [hW]; simp)
  have HW := Lib.hid hW
  clear hW
  have HQ := Lib.hid (hq.ext E.out)
  have HX := Lib.hid (hx.ext E.out)
  have HY := Lib.hid (hy.ext E.out)
  clear hq hx hy
  go_enter Try.func30, Try.ntmps30
  have x00 := C0.out
  have x01 := C1.out
  go_wp2_with (fail)
  clear x00 x01
  rw [← HW.out]
  clear HW
  refine Calls.mono (s_code11 p a d cap st _ 2 _ [x, y] _ (by omega) (by omega) (len_two (by rw [HXL.out]; omega) (by rw [HYL.out]; omega)) (HQ.out.ext (ext_alloc _ _)) (rdR_two (a := ax) (b := ay) (n := N) (m := N) (ca := cx) (cb := cy) (by rw [← HZ.out]; simp) (by rw [← HZ.out]; simp) (HX.out.ext (ext_alloc _ _)) (HY.out.ext (ext_alloc _ _)))) ?_
  rintro e v1 ⟨rfl, gg⟩
  replace gg := (ext_alloc _ _).trans gg
  rw [HC.out]
  replace E := Lib.hid (E.out.trans gg)
  replace HQ := Lib.hid (HQ.out.ext gg)
  replace HX := Lib.hid (HX.out.ext gg)
  replace HY := Lib.hid (HY.out.ext gg)
  replace C0 := Lib.hid (gg.cell (p := ⟨w.heap.size, 0, none⟩) C0.out)
  replace C1 := Lib.hid (gg.cell (p := ⟨w.heap.size, 1, none⟩) C1.out)
  clear gg
  have x00 := C0.out
  have x01 := C1.out
  go_wp2_with (fail)
  clear x00 x01
  refine Calls.mono (s_times11 p a d cap st N ax cx x ay cy y v1 (by omega) (by omega) hd4' HNE.out hcs hcx hcy HQ.out HGS.out HX.out HGX.out HY.out HGY.out) ?_
  rintro e v2 ⟨g, rc, rfl, ho, gg⟩
  have RO := Lib.hid (ho.mono E.out.size)
  clear ho
  replace E := Lib.hid (E.out.trans gg)
  replace HQ := Lib.hid (HQ.out.ext gg)
  replace HX := Lib.hid (HX.out.ext gg)
  replace HY := Lib.hid (HY.out.ext gg)
  replace C0 := Lib.hid (gg.cell (p := ⟨w.heap.size, 0, none⟩) C0.out)
  replace C1 := Lib.hid (gg.cell (p := ⟨w.heap.size, 1, none⟩) C1.out)
  clear gg
  go_wp2_with (fail)
  go_ret2
  exact ⟨g, rc, rfl, RO.out, E.out⟩
set_option maxHeartbeats 4000000 in
set_option maxRecDepth 100000 in
theorem c_DoubleConjugate_ok (p : Int) (a : Option Addr) (d cap N : Nat) (st : List Int) (ax : Option Addr) (cx : Nat) (x : List Int) (w : World) (hs : doubB p st = true) (hN : N = 2 ^ d) (hcs : d ≤ cap) (hq : RdC w a d st) (_hcx : N ≤ cx) (hx : RdC w ax N x) (hgx : Good p N x) :
    Calls Try.prog 32 #[.agg #[.int .i64 p, .slice a d cap], .slice ax N cx] w fun e w' => ∃ g rc, e = .returned (.tuple #[.slice (some ⟨g, 0, none⟩) N rc, .int .i64 0]) ∧ OwnC w.heap.size w' (some ⟨g, 0, none⟩) N rc (conjL p x) ∧ Ext w w' := by
  obtain ⟨hpr, hd4, hib, _⟩ := doub_of hs
  have hpb := prime_bd hpr
  have hdl := hq.1
  have hd4' : d ≤ 4 := by omega
  have HGS := Lib.hid (show Good p d st from good_isB hdl hib)
  have HNE := Lib.hid hN
  have hN16 : N ≤ 16 ∧ 1 ≤ N := by
    rw [hN]
    have : d = 0 ∨ d = 1 ∨ d = 2 ∨ d = 3 ∨ d = 4 := by omega
    rcases this with rfl | rfl | rfl | rfl | rfl <;> decide
  have HC := Lib.hid (codeE_one hs hN hdl hgx)
  have HGX := Lib.hid hgx
  have HXL := Lib.hid hgx.1
  clear hs hpr hd4 hib hdl hN hgx
  obtain ⟨W, hW⟩ : ∃ W, W = w.alloc (.cells #[.int .i64 p, .slice a d cap] 52) := ⟨_, rfl⟩
  have E : Hid (Ext w W) := Lib.hid (by rw [hW]; exact ext_alloc _ _)
  have C0 : Hid (W.cell? ⟨w.heap.size, 0, none⟩ = some (.int .i64 p)) := Lib.hid (by rw [hW]; simp)
  have C1 : Hid (W.cell? ⟨w.heap.size, 1, none⟩ = some (.slice a d cap)) := Lib.hid (by rw [hW]; simp)
  have HZ : Hid (W.heap.size = w.heap.size + 1) := Lib.hid (by rw [hW]; simp)
  have HW := Lib.hid hW
  clear hW
  have HQ := Lib.hid (hq.ext E.out)
  have HX := Lib.hid (hx.ext E.out)
  clear hq hx
  go_enter Try.func32, Try.ntmps32
  have x00 := C0.out
  have x01 := C1.out
  go_wp2_with (fail)
  clear x00 x01
  rw [← HW.out]
  clear HW
  refine Calls.mono (c_checkElements p a d cap st _ 1 _ [x] _ (by omega) (by omega) (len_one (by rw [HXL.out]; omega)) (HQ.out.ext (ext_alloc _ _)) (rdR_one (a := ax) (n := N) (cap := cx) (by rw [← HZ.out]; simp) (HX.out.ext (ext_alloc _ _)))) ?_
  rintro e v1 ⟨rfl, gg⟩
  replace gg := (ext_alloc _ _).trans gg
  rw [HC.out]
  replace E := Lib.hid (E.out.trans gg)
  replace HQ := Lib.hid (HQ.out.ext gg)
  replace HX := Lib.hid (HX.out.ext gg)
  replace C0 := Lib.hid (gg.cell (p := ⟨w.heap.size, 0, none⟩) C0.out)
  replace C1 := Lib.hid (gg.cell (p := ⟨w.heap.size, 1, none⟩) C1.out)
  clear gg
  have x00 := C0.out
  have x01 := C1.out
  go_wp2_with (fail)
  clear x00 x01
  refine Calls.mono (c_dfield p (.slice a d cap) v1) ?_
  rintro e v2 ⟨rfl, gg⟩
  replace E := Lib.hid (E.out.trans gg)
  replace HQ := Lib.hid (HQ.out.ext gg)
  replace HX := Lib.hid (HX.out.ext gg)
  replace C0 := Lib.hid (gg.cell (p := ⟨w.heap.size, 0, none⟩) C0.out)
  replace C1 := Lib.hid (gg.cell (p := ⟨w.heap.size, 1, none⟩) C1.out)
  clear gg
  have x00 := C0.out
  have x01 := C1.out
  go_wp2_with (fail)
  clear x00 x01
  refine Calls.mono (c_conj p ax N cx x v2 (by omega) (by omega) (by omega) (by omega) HX.out HGX.out) ?_
  rintro e v3 ⟨g, rc, rfl, ho, gg⟩
  have RO := Lib.hid (ho.mono E.out.size)
  clear ho
  replace E := Lib.hid (E.out.trans gg)
  replace HQ := Lib.hid (HQ.out.ext gg)
  replace HX := Lib.hid (HX.out.ext gg)
  replace C0 := Lib.hid (gg.cell (p := ⟨w.heap.size, 0, none⟩) C0.out)
  replace C1 := Lib.hid (gg.cell (p := ⟨w.heap.size, 1, none⟩) C1.out)
  clear gg
  go_wp2_with (fail)
  go_ret2
  exact ⟨g, rc, rfl, RO.out, E.out⟩
end Go.Proofs.Ytcocbainookkcaa

/-
  The map of the places of the first numbers of a reduced basis; a vector of the kernel filled in an order that nobody knows.
  No condition.
-/
namespace Go.Proofs.Ytcocbainookkcaa
set_option maxRecDepth 100000
open Go.RowKit

theorem keyI (x : Int) : WideAt.IsKeyLit (.int .i64 x) := trivial
/-- The map as read when the first k rows have been gone through. -/
def plD (red : List (List Int)) : Nat → DataW Unit
  | 0 => .map []
  | i + 1 => (plD red i).put (.int .i64 (leadN (nthR red i))) (.lit (.int .i64 i))
theorem plD_map (red : List (List Int)) : ∀ k, Maps.IsMap (plD red k)
  | 0 => Maps.isMap_empty
  | k + 1 => (plD_map red k).put _ _
theorem plD_has (red : List (List Int)) (x : Int) : ∀ k, Maps.has (plD red k) (.int .i64 x) = true ↔ ∃ i : Nat, i < k ∧ ((leadN (nthR red i) : Nat) : Int) = x
  | 0 => by
    constructor
    · intro h; cases h
    · rintro ⟨i, hi, _⟩; omega
  | k + 1 => by
    unfold plD
    by_cases h : ((leadN (nthR red k) : Nat) : Int) = x
    · subst h
      exact ⟨fun _ => ⟨k, by omega, rfl⟩, fun _ => Maps.has_put_same (plD_map red k) (keyI _) _⟩
    · rw [Maps.has_put_other (fun e => h (by injection e with _ e2; exact e2.symm)), plD_has red x k]
      constructor
      · rintro ⟨i, hi, e⟩; exact ⟨i, by omega, e⟩
      · rintro ⟨i, hi, e⟩
        refine ⟨i, ?_, e⟩
        rcases Nat.lt_or_ge i k with h1 | h1
        · exact h1
        · obtain rfl : i = k := by omega
          exact absurd e h
theorem plD_at {p : Int} {m : Nat} {red : List (List Int)} {c : Nat → Nat} (hb : Basis p m red c) (z : DataW Unit) : ∀ k, k ≤ red.length → ∀ i, i < k → (plD red k).atKey (.int .i64 (leadN (nthR red i))) z = .lit (.int .i64 i)
  | 0, _, i, hi => by omega
  | k + 1, hk, i, hi => by
    unfold plD
    by_cases h : i = k
    · subst h
      exact Maps.atKey_put_same (plD_map red i) (keyI _) _ _
    · rw [Maps.atKey_put_other (fun e => by
        injection e with _ e2
        have h1 := hb.leadN (i := i) (by omega)
        have h2 := hb.leadN (i := k) (by omega)
        rw [h1, h2] at e2
        exact h (hb.inj (by omega) (by omega) (by omega)))]
      exact plD_at hb z k (by omega) i (by omega)
theorem plD_entry {p : Int} {m : Nat} {red : List (List Int)} {cc : Nat → Nat} (hb : Basis p m red cc) {x c : Int} (h : ∀ zd, (plD red red.length).atKey (.int .i64 x) zd = .lit (.int .i64 c)) : ∃ i : Nat, i < red.length ∧ c = (i : Int) ∧ x = ((leadN (nthR red i) : Nat) : Int) := by
  have hh := Maps.has_true_of_atKey (D := plD red red.length) (k := .int .i64 x) (y := .lit (.int .i64 c)) h
  obtain ⟨i, hi, e⟩ := (plD_has red x red.length).1 hh
  refine ⟨i, hi, ?_, e.symm⟩
  have h1 := plD_at hb (.lit (.int .i64 0)) red.length (Nat.le_refl _) i hi
  rw [e, h] at h1
  injection h1 with h2
  injection h2
theorem plD_piv {red : List (List Int)} {t : Nat} : Maps.has (plD red red.length) (.int .i64 t) = (pivIx red t).isSome := by
  rw [Bool.eq_iff_iff, plD_has]
  cases h : pivIx red t with
  | none =>
    simp only [Option.isSome_none, Bool.false_eq_true, iff_false, not_exists, not_and]
    intro i hi e
    exact pivIx_none h i hi (by omega)
  | some i =>
    obtain ⟨h1, h2⟩ := pivIx_some h
    simp only [Option.isSome_some, iff_true]
    exact ⟨i, h1, by omega⟩

/-- The vector while some entries are still to come. -/
def kerE (p : Int) (red : List (List Int)) (f : Nat) (left : Lit → Bool) (t : Nat) : Int := if t = f then 1 else match pivIx red t with | some i => if left (.int .i64 t) = true then 0 else (-(nth (nthR red i) f)) % p | none => 0
def kerP (p : Int) (n : Nat) (red : List (List Int)) (f : Nat) (left : Lit → Bool) : List Int := (List.range n).map (kerE p red f left)
theorem kerP_len (p : Int) (n : Nat) (red : List (List Int)) (f : Nat) (left : Lit → Bool) : (kerP p n red f left).length = n := by simp [kerP]
theorem kerP_nth {p : Int} {n : Nat} {red : List (List Int)} {f t : Nat} {left : Lit → Bool} (h : t < n) : nth (kerP p n red f left) t = kerE p red f left t := by
  unfold kerP; rw [nth_map (by simpa using h)]; simp
theorem kerP_start {p : Int} {n : Nat} {red : List (List Int)} {f : Nat} (hf : f < n) : kerP p n red f (Maps.has (plD red red.length)) = bladeL n f := by
  refine ext_nth (by rw [kerP_len, bladeL_len]) (fun t ht => ?_)
  rw [kerP_len] at ht
  rw [kerP_nth ht, bladeL_nth hf ht]
  unfold kerE
  by_cases h : t = f
  · rw [if_pos h, if_pos h.symm]
  · rw [if_neg h, if_neg (fun e => h e.symm)]
    cases hp : pivIx red t with
    | none => rfl
    | some i => simp only [plD_piv, hp, Option.isSome_some, if_true]
theorem kerP_end {p : Int} {n : Nat} {red : List (List Int)} {f : Nat} {left : Lit → Bool} (h : ∀ kl, left kl = false) : kerP p n red f left = kerV p n red f := by
  unfold kerP kerV
  refine List.map_congr_left fun t _ => ?_
  unfold kerE kerN
  cases hp : pivIx red t with
  | none => rfl
  | some i => simp only [h, Bool.false_eq_true, if_false]
theorem kerP_step {p : Int} {m n : Nat} {red : List (List Int)} {c : Nat → Nat} (hb : Basis p m red c) {f i : Nat} {left : Lit → Bool} (hi : i < red.length) (hx : leadN (nthR red i) < n) (hf : pivIx red f = none) :
    kerP p n red f (fun z => left z && !z.sameKey (.int .i64 (leadN (nthR red i)))) = (kerP p n red f left).set (leadN (nthR red i)) ((-(nth (nthR red i) f)) % p) := by
  have hpi : pivIx red (leadN (nthR red i)) = some i := by rw [hb.leadN hi]; exact hb.piv hi
  have hne : leadN (nthR red i) ≠ f := fun e => by rw [e, hf] at hpi; cases hpi
  refine ext_nth (by rw [kerP_len, List.length_set, kerP_len]) (fun t ht => ?_)
  rw [kerP_len] at ht
  rw [kerP_nth ht, nth_set (by rw [kerP_len]; exact hx)]
  by_cases h : t = leadN (nthR red i)
  · subst h
    rw [if_pos rfl]
    unfold kerE
    rw [if_neg hne, hpi]
    simp only [WideAt.sameKey_self (keyI _), Bool.not_true, Bool.and_false, Bool.false_eq_true, if_false]
  · rw [if_neg (fun e => h e.symm), kerP_nth ht]
    unfold kerE
    have : (Lit.int .i64 (t : Int)).sameKey (.int .i64 (leadN (nthR red i))) = false := Maps.sameKey_ne (fun e => by injection e with _ e2; omega)
    simp only [this, Bool.not_false, Bool.and_true]
theorem ownsMap_ext {P : Program} {k : TypeId} {R : Value → Option (DataW Unit × List MemPlace)} {b n : Nat} {D : DataW Unit} {w w' : World} (h : w.ownsMap P k R b n D) (he : Ext w w') : w'.ownsMap P k R b n D := by
  obtain ⟨es, clock, h1, h2⟩ := h
  exact ⟨es, clock, he.heap h1, h2⟩
theorem ranges_ext {P : Program} {k : TypeId} {R : Value → Option (DataW Unit × List MemPlace)} {b r n : Nat} {D : DataW Unit} {left : Lit → Bool} {cnt : Nat} {w w' : World} (h : w.ranges P k R b r n D left cnt) (he : Ext w w') : w'.ranges P k R b r n D left cnt := by
  obtain ⟨es, clock, since, seen, c0, h1, h2, h3, h4, h5, h6⟩ := h
  exact ⟨es, clock, since, seen, c0, he.heap h1, h2, h3, h4, he.heap h5, h6⟩
theorem ranges_keep {P : Program} {k : TypeId} {R : Value → Option (DataW Unit × List MemPlace)} {b r n : Nat} {D : DataW Unit} {left : Lit → Bool} {cnt : Nat} {w w' : World} (h : w.ranges P k R b r n D left cnt) (hb : w'.heap[b]? = w.heap[b]?) (hr : w'.heap[r]? = w.heap[r]?) : w'.ranges P k R b r n D left cnt := by
  obtain ⟨es, clock, since, seen, c0, h1, h2, h3, h4, h5, h6⟩ := h
  exact ⟨es, clock, since, seen, c0, hb.trans h1, h2, h3, h4, hr.trans h5, h6⟩
theorem lawK : Maps.Keyed Try.prog 3 := Maps.int_keyed Try.underlying3
theorem zeroK (w : World) : (zeroValue 3).run Try.prog w = .ok (.int .i64 0) w := by kernel_rfl
end Go.Proofs.Ytcocbainookkcaa

/-
  Kernels: contracts of the program and the reference.
  No condition.
-/
namespace Go.Proofs.Ytcocbainookkcaa
set_option maxRecDepth 100000
open Go.RowKit

theorem kerR_no {p : Int} {n : Nat} {red : List (List Int)} {k i : Nat} (h : pivIx red k = some i) : kerR p n red (k + 1) = kerR p n red k := by unfold kerR; rw [freeL_no h]
theorem kerR_yes {p : Int} {n : Nat} {red : List (List Int)} {k : Nat} (h : pivIx red k = none) : kerR p n red (k + 1) = kerR p n red k ++ [kerV p n red k] := by unfold kerR; rw [freeL_yes h]; simp
theorem kerR_len (p : Int) (n : Nat) (red : List (List Int)) (k : Nat) : (kerR p n red k).length ≤ k := by unfold kerR; rw [List.length_map]; exact freeL_len red k
theorem kernL_cnt {p : Int} {n : Nat} {rows : List (List Int)} (hp : primeB p = true) : (kernL p n rows).length ≤ n ∧ RowsG p n (kernL p n rows) := by
  obtain ⟨c, hb⟩ := basis_red hp (kerR_good (n := n) (red := basisL p n rows) (k := n) (prime_bd hp).1)
  exact ⟨hb.len, hb.good⟩

end Go.Proofs.Ytcocbainookkcaa

/-
  Vectors orthogonal to some, in the program.
  No condition.
-/
namespace Go.Proofs.Ytcocbainookkcaa
set_option maxRecDepth 100000
open Go.RowKit

def wtsL (p : Int) (qs : List Int) (vs : List (List Int)) (d k : Nat) : List (List Int) := (List.range k).map fun i => wtL p qs (nthR vs i) d
theorem wtsL_succ (p : Int) (qs : List Int) (vs : List (List Int)) (d k : Nat) : wtsL p qs vs d (k + 1) = wtsL p qs vs d k ++ [wtL p qs (nthR vs k) d] := by simp [wtsL, List.range_succ]
theorem wtsL_len (p : Int) (qs : List Int) (vs : List (List Int)) (d k : Nat) : (wtsL p qs vs d k).length = k := by simp [wtsL]
theorem wtsL_nth {p : Int} {qs : List Int} {vs : List (List Int)} {d k i : Nat} (h : i < k) : nthR (wtsL p qs vs d k) i = wtL p qs (nthR vs i) d := by
  unfold wtsL; rw [nthR_map (by simpa using h)]; simp
theorem wtsL_good {p : Int} {qs : List Int} {vs : List (List Int)} {d k : Nat} (hp : 1 ≤ p) : RowsG p d (wtsL p qs vs d k) := fun i hi => by
  rw [wtsL_len] at hi
  rw [wtsL_nth hi]; exact wt_good hp
end Go.Proofs.Ytcocbainookkcaa

/-
  Reduced bases are unique; the reduced basis with one more list; in plain numbers.
  No condition. No program in sight.
-/
namespace Go.Proofs.Ytcocbainookkcaa
set_option maxRecDepth 100000
open Go.RowKit

/-- What is left of x when multiples of the first rows are taken away. -/
def restS (p : Int) (m : Nat) (rows : List (List Int)) (x : List Int) : Nat → List Int
  | 0 => x
  | i + 1 => plusL p (restS p m rows x i) (nthR rows i) (-(nth (restS p m rows x i) (leadN (nthR rows i)))) m
theorem restS_good {p : Int} {m : Nat} {rows : List (List Int)} {x : List Int} (hp : 1 ≤ p) (hx : Good p m x) : ∀ i, Good p m (restS p m rows x i)
  | 0 => hx
  | _ + 1 => plus_good hp
theorem restS_zero {p : Int} {m : Nat} {rows : List (List Int)} {x : List Int} {i : Nat} (hp : 1 ≤ p) (hx : Good p m x) (h : nth (restS p m rows x i) (leadN (nthR rows i)) = 0) : restS p m rows x (i + 1) = restS p m rows x i := by
  show plusL p _ _ _ m = _
  rw [h, Int.neg_zero, plus_zero (restS_good hp hx i)]
theorem rest_nth {p : Int} {m : Nat} {rows : List (List Int)} {c : Nat → Nat} {x : List Int} (h : Basis p m rows c) (hx : Good p m x) : ∀ k, k ≤ rows.length → ∀ t, t < m → nth (restS p m rows x k) t % p = (nth x t - sumN k (fun i => nth x (c i) * nth (nthR rows i) t)) % p
  | 0, _, t, _ => by simp [restS, sumN]
  | k + 1, hk, t, ht => by
    have ih := rest_nth h hx k (by omega)
    have hl := h.leadN (i := k) (by omega)
    have hck := h.clt k (by omega)
    show nth (plusL p _ _ _ m) t % p = _
    rw [plusL_nth ht, plusN, Int.emod_emod, hl]
    have e0 : nth (restS p m rows x k) (c k) % p = nth x (c k) % p := by
      rw [ih (c k) hck, sumN_zero fun i hi => by rw [h.one k (by omega) i (by omega), if_neg (by omega), Int.mul_zero], Int.sub_zero]
    rw [Int.add_emod, ih t ht, Int.neg_mul, Int.neg_emod_eq_sub_emod, ← Int.add_emod] 
    simp only [sumN]
    have e1 : nth (restS p m rows x k) (c k) * nth (nthR rows k) t % p = nth x (c k) * nth (nthR rows k) t % p := mul_emod_congr e0 rfl
    obtain ⟨z, hz⟩ : ∃ z, nth (restS p m rows x k) (c k) * nth (nthR rows k) t - nth x (c k) * nth (nthR rows k) t = p * z := Int.dvd_of_emod_eq_zero (by rw [Int.sub_emod, e1, Int.sub_self, Int.zero_emod])
    rw [show nth x t - sumN k (fun i => nth x (c i) * nth (nthR rows i) t) + (p - nth (restS p m rows x k) (c k) * nth (nthR rows k) t) = nth x t - (sumN k (fun i => nth x (c i) * nth (nthR rows i) t) + nth x (c k) * nth (nthR rows k) t) + p * (1 - z) by
      rw [Int.mul_sub, ← hz]; omega, Int.add_mul_emod_self_left]
/-- What is left has 0 at the places of the rows. -/
theorem rest_piv {p : Int} {m : Nat} {rows : List (List Int)} {c : Nat → Nat} {x : List Int} (hp : 1 ≤ p) (h : Basis p m rows c) (hx : Good p m x) {i : Nat} (hi : i < rows.length) : nth (restS p m rows x rows.length) (c i) = 0 := by
  have hb := (restS_good (rows := rows) hp hx rows.length).2 (c i) (h.clt i hi)
  have e := rest_nth h hx rows.length (Nat.le_refl _) (c i) (h.clt i hi)
  rw [sumN_single hi fun j hj hne => by rw [h.one i hi j hj, if_neg (by omega), Int.mul_zero], h.one i hi i hi, if_pos rfl, Int.mul_one, Int.sub_self, Int.zero_emod, Int.emod_eq_of_lt hb.1 hb.2] at e
  exact e
theorem rest_dot {p : Int} {m : Nat} {rows : List (List Int)} {x z : List Int} (hz : Kill p m rows z) : ∀ k, k ≤ rows.length → dotN m (restS p m rows x k) z % p = dotN m x z % p
  | 0, _ => rfl
  | k + 1, hk => by
    show dotN m (plusL p _ _ _ m) z % p = _
    rw [dot_plus, Int.add_emod, Int.mul_emod, hz k (by omega), Int.mul_zero, Int.zero_emod, Int.add_zero, Int.emod_emod]
    exact rest_dot hz k (by omega)
/-- The vectors of the kernel of a reduced basis. -/
theorem ker_kill {p : Int} {m : Nat} {rows : List (List Int)} {c : Nat → Nat} (_hp : 3 ≤ p) (h : Basis p m rows c) {f : Nat} (hf : f < m) (hn : ∀ i, i < rows.length → c i ≠ f) : Kill p m rows (kerV p m rows f) := by
  intro j hj
  have hcj := h.clt j hj
  have hne := hn j hj
  have hpn : pivIx rows f = none := by
    cases e : pivIx rows f with
    | none => rfl
    | some i => obtain ⟨hi, hl⟩ := pivIx_some e; rw [h.leadN hi] at hl; exact absurd hl (hn i hi)
  unfold dotN
  have e : sumN m (fun t => nth (nthR rows j) t * nth (kerV p m rows f) t) = sumN m (fun t => (if t = f then nth (nthR rows j) f else 0) + (if t = c j then nth (kerV p m rows f) (c j) else 0)) := sumN_congr fun t ht => by
    by_cases h1 : t = f
    · subst h1
      rw [if_pos rfl, if_neg (Ne.symm hne), kerV_nth ht, kerN, if_pos rfl, Int.mul_one, Int.add_zero]
    · rw [if_neg h1, Int.zero_add]
      by_cases h2 : t = c j
      · subst h2
        rw [if_pos rfl, h.one j hj j hj, if_pos rfl, Int.one_mul]
      · rw [if_neg h2, kerV_nth ht, kerN, if_neg h1]
        cases e : pivIx rows t with
        | none => exact Int.mul_zero _
        | some i =>
          obtain ⟨hi, hl⟩ := pivIx_some e
          rw [h.leadN hi] at hl
          subst hl
          rw [h.one i hi j hj, if_neg (fun e => h2 (by rw [e])), Int.zero_mul]
  rw [e, sumN_add, sumN_single hf fun i _ hi => if_neg hi, sumN_single hcj fun i _ hi => if_neg hi, if_pos rfl, if_pos rfl, kerV_nth hcj, kerN, if_neg hne, h.piv hj]
  show (_ + -_ % p) % p = 0
  rw [Int.add_emod, Int.emod_emod, ← Int.add_emod, Int.add_right_neg, Int.zero_emod]
/-- A vector whose product with the kernel is 0 is made by the rows. -/
theorem rest_null {p : Int} {m : Nat} {rows : List (List Int)} {c : Nat → Nat} {x : List Int} (hp : 3 ≤ p) (h : Basis p m rows c) (hx : Good p m x) (hk : ∀ z, Kill p m rows z → dotN m x z % p = 0) : ∀ t, t < m → nth (restS p m rows x rows.length) t = 0 := by
  intro f hf
  by_cases hc : ∃ i, i < rows.length ∧ c i = f
  · obtain ⟨i, hi, rfl⟩ := hc; exact rest_piv (by omega) h hx hi
  · have hn : ∀ i, i < rows.length → c i ≠ f := fun i hi he => hc ⟨i, hi, he⟩
    have hz := ker_kill hp h hf hn
    have e := rest_dot (x := x) hz rows.length (Nat.le_refl _)
    rw [hk _ hz] at e
    unfold dotN at e
    rw [sumN_single hf fun t ht hne => by
      rw [kerV_nth ht, kerN, if_neg hne]
      cases e : pivIx rows t with
      | none => exact Int.mul_zero _
      | some i =>
        obtain ⟨hi, hl⟩ := pivIx_some e
        rw [h.leadN hi] at hl
        subst hl
        rw [rest_piv (by omega) h hx hi, Int.zero_mul], kerV_nth hf, kerN, if_pos rfl, Int.mul_one] at e
    have hb := (restS_good (rows := rows) (by omega) hx rows.length).2 f hf
    rwa [Int.emod_eq_of_lt hb.1 hb.2] at e
theorem span_nth {p : Int} {m : Nat} {rows : List (List Int)} {c : Nat → Nat} {x : List Int} (hp : 3 ≤ p) (h : Basis p m rows c) (hx : Good p m x) (hk : ∀ z, Kill p m rows z → dotN m x z % p = 0) {t : Nat} (ht : t < m) : nth x t = sumN rows.length (fun i => nth x (c i) * nth (nthR rows i) t) % p := by
  have e := rest_nth h hx rows.length (Nat.le_refl _) t ht
  rw [rest_null hp h hx hk t ht, Int.zero_emod] at e
  have := sub_zero_iff.1 e.symm
  have hb := hx.2 t ht
  rwa [Int.emod_eq_of_lt hb.1 hb.2] at this
theorem sumN_some {n : Nat} {f : Nat → Int} (h : sumN n f ≠ 0) : ∃ i, i < n ∧ f i ≠ 0 :=
  Classical.byContradiction fun hn => h (sumN_zero fun i hi => Classical.byContradiction fun hf => hn ⟨i, hi, hf⟩)
theorem piv_sub {p : Int} {m : Nat} {R S : List (List Int)} {c d : Nat → Nat} (hp : 3 ≤ p) (h : Basis p m R c) (h' : Basis p m S d) (hk : ∀ z, Kill p m R z → Kill p m S z) {j : Nat} (hj : j < S.length) : ∃ i, i < R.length ∧ c i = d j := by
  have e := span_nth hp h (h'.good j hj) (fun z hz => hk z hz j hj) (h'.clt j hj)
  rw [h'.one j hj j hj, if_pos rfl] at e
  obtain ⟨i, hi, hne⟩ := sumN_some (n := R.length) (f := fun i => nth (nthR S j) (c i) * nth (nthR R i) (d j)) (by intro h0; rw [h0, Int.zero_emod] at e; omega)
  refine ⟨i, hi, ?_⟩
  have h1 : ¬ c i < d j := fun hl => hne (by show _ * _ = (0 : Int); rw [h'.lead j hj _ hl, Int.zero_mul])
  have h2 : ¬ d j < c i := fun hl => hne (by show _ * _ = (0 : Int); rw [h.lead i hi _ hl, Int.mul_zero])
  omega
theorem mono_same {n n' : Nat} {f g : Nat → Nat} (hf : ∀ i j, i < j → j < n → f i < f j) (hg : ∀ i j, i < j → j < n' → g i < g j) (h1 : ∀ i, i < n → ∃ j, j < n' ∧ g j = f i) (h2 : ∀ j, j < n' → ∃ i, i < n ∧ f i = g j) : ∀ i, i < n → i < n' ∧ g i = f i := by
  intro i
  induction i using Nat.strongRecOn with
  | ind i ih =>
    intro hi
    obtain ⟨j, hj, he⟩ := h1 i hi
    have hij : i ≤ j := Classical.byContradiction fun hn => by
      obtain ⟨_, e⟩ := ih j (by omega) (by omega)
      have := hf j i (by omega) hi
      omega
    have hin : i < n' := by omega
    obtain ⟨l, hl, hle⟩ := h2 i hin
    have hil : i ≤ l := Classical.byContradiction fun hn => by
      obtain ⟨_, e⟩ := ih l (by omega) (by omega)
      have := hg l i (by omega) hin
      omega
    refine ⟨hin, ?_⟩
    rcases Nat.lt_or_eq_of_le hij with h | h
    · have := hg i j h hj
      rcases Nat.lt_or_eq_of_le hil with h' | h'
      · have := hf i l h' hl; omega
      · subst h'; omega
    · subst h; exact he
/-- Reduced bases with the same kernel are the same. -/
theorem basis_unique {p : Int} {m : Nat} {R S : List (List Int)} {c d : Nat → Nat} (hp : 3 ≤ p) (h : Basis p m R c) (h' : Basis p m S d) (hk : ∀ z, Kill p m R z ↔ Kill p m S z) : R = S := by
  have s1 := fun j (hj : j < S.length) => piv_sub hp h h' (fun z => (hk z).1) hj
  have s2 := fun j (hj : j < R.length) => piv_sub hp h' h (fun z => (hk z).2) hj
  have m1 := mono_same h.mono h'.mono s2 s1
  have m2 := mono_same h'.mono h.mono s1 s2
  have hl : R.length = S.length := by
    rcases Nat.lt_trichotomy R.length S.length with hlt | he | hlt
    · have := (m2 R.length hlt).1; omega
    · exact he
    · have := (m1 S.length hlt).1; omega
  refine ext_rows hl fun j hj => ?_
  have gj := h.good j hj
  have gj' := h'.good j (by omega)
  refine ext_nth (by rw [gj.1, gj'.1]) fun t ht => ?_
  rw [gj.1] at ht
  have e := span_nth hp h' gj (fun z hz => (hk z).2 hz j hj) ht
  rw [e, sumN_single (show j < S.length by omega) fun i hi hne => by
    rw [(m1 i (by omega)).2, h.one i (by omega) j hj, if_neg (by omega), Int.zero_mul], (m1 j hj).2, h.one j hj j hj, if_pos rfl, Int.one_mul]
  have hb := gj'.2 t ht
  exact Int.emod_eq_of_lt hb.1 hb.2

/-! ### One more list -/
/-- The place of the first row that leads behind the place `at`, or the number of rows. -/
def insQ (rows : List (List Int)) (t : Nat) : Nat := match (List.range rows.length).find? (fun i => decide (t < leadN (nthR rows i))) with | some i => i | none => rows.length
theorem insQ_le (rows : List (List Int)) (t : Nat) : insQ rows t ≤ rows.length := by
  unfold insQ
  split
  · rename_i i h
    rw [List.find?_range_eq_some] at h
    have := h.2.1
    simp at this
    omega
  · exact Nat.le_refl _
theorem insQ_iff {p : Int} {m : Nat} {rows : List (List Int)} {c : Nat → Nat} (h : Basis p m rows c) (t : Nat) {i : Nat} (hi : i < rows.length) : t < c i ↔ insQ rows t ≤ i := by
  unfold insQ
  split
  · rename_i q hq
    rw [List.find?_range_eq_some] at hq
    obtain ⟨h1, h2, h3⟩ := hq
    have h2' : q < rows.length := by simpa using h2
    have h1' : t < c q := by have := of_decide_eq_true h1; rwa [h.leadN h2'] at this
    constructor
    · intro hc
      refine Classical.byContradiction fun hn => ?_
      have := h3 i (by omega)
      simp [h.leadN hi] at this
      omega
    · intro hqi
      rcases Nat.lt_or_eq_of_le hqi with hlt | he
      · have := h.mono q i hlt hi; omega
      · subst he; exact h1'
  · rename_i hn
    rw [List.find?_range_eq_none] at hn
    have := hn i hi
    simp [h.leadN hi] at this
    omega
/-- The rows, without their multiples of r, r inserted at place q: number j. -/
def putN (p : Int) (m : Nat) (rows : List (List Int)) (r : List Int) (t q j : Nat) : List Int :=
  if j < q then plusL p (nthR rows j) r (-(nth (nthR rows j) t)) m else if j = q then r else plusL p (nthR rows (j - 1)) r (-(nth (nthR rows (j - 1)) t)) m
def putP (p : Int) (m : Nat) (rows : List (List Int)) (r : List Int) (t q k : Nat) : List (List Int) := (List.range k).map (putN p m rows r t q)
theorem putP_len (p : Int) (m : Nat) (rows : List (List Int)) (r : List Int) (t q k : Nat) : (putP p m rows r t q k).length = k := by simp [putP]
theorem putP_succ (p : Int) (m : Nat) (rows : List (List Int)) (r : List Int) (t q k : Nat) : putP p m rows r t q (k + 1) = putP p m rows r t q k ++ [putN p m rows r t q k] := by simp [putP, List.range_succ]
theorem putP_nth {p : Int} {m : Nat} {rows : List (List Int)} {r : List Int} {t q k j : Nat} (hj : j < k) : nthR (putP p m rows r t q k) j = putN p m rows r t q j := by
  unfold putP; rw [nthR_map (by simpa using hj)]; simp
theorem putN_good {p : Int} {m : Nat} {rows : List (List Int)} {r : List Int} {t q j : Nat} (hp : 1 ≤ p) (hr : Good p m r) : Good p m (putN p m rows r t q j) := by
  unfold putN
  split
  · exact plus_good hp
  · split
    · exact hr
    · exact plus_good hp
def restL (p : Int) (m : Nat) (rows : List (List Int)) (x : List Int) : List Int := restS p m rows x rows.length
def oneL (p : Int) (m : Nat) (rest : List Int) : List Int := scaleL p rest (invN p (nth rest (leadN rest))) m
def putL (p : Int) (m : Nat) (rows : List (List Int)) (x : List Int) : List (List Int) :=
  if leadN (restL p m rows x) = m then rows
  else putP p m rows (oneL p m (restL p m rows x)) (leadN (restL p m rows x)) (insQ rows (leadN (restL p m rows x))) (rows.length + 1)
theorem put_ok {p : Int} {m : Nat} {rows : List (List Int)} {c : Nat → Nat} {x : List Int} (hp : primeB p = true) (h : Basis p m rows c) (hx : Good p m x) :
    (∃ c', Basis p m (putL p m rows x) c') ∧ ∀ z, Kill p m (putL p m rows x) z ↔ Kill p m rows z ∧ dotN m x z % p = 0 := by
  have hpb := prime_bd hp
  obtain ⟨rest, hrest⟩ : ∃ r, r = restL p m rows x := ⟨_, rfl⟩
  have gr : Good p m rest := by rw [hrest]; exact restS_good (by omega) hx _
  have rp : ∀ i, i < rows.length → nth rest (c i) = 0 := fun i hi => by rw [hrest]; exact rest_piv (by omega) h hx hi
  have rd : ∀ z, Kill p m rows z → dotN m rest z % p = dotN m x z % p := fun z hz => by rw [hrest]; exact rest_dot hz _ (Nat.le_refl _)
  unfold putL
  rw [← hrest]
  clear hrest
  by_cases hl : leadN rest = m
  · rw [if_pos hl]
    refine ⟨⟨c, h⟩, fun z => ⟨fun hz => ⟨hz, ?_⟩, fun hz => hz.1⟩⟩
    rw [← rd z hz]
    unfold dotN
    rw [sumN_zero fun t ht => by rw [leadN_zero (by omega), Int.zero_mul], Int.zero_emod]
  rw [if_neg hl]
  obtain ⟨t, ht⟩ : ∃ t, t = leadN rest := ⟨_, rfl⟩
  have htm : t < m := by have := leadN_le rest; rw [gr.1] at this; omega
  have rz : ∀ s, s < t → nth rest s = 0 := fun s hs => leadN_zero (by omega)
  have rn : nth rest t ≠ 0 := by rw [ht]; exact leadN_ne (by rw [gr.1]; omega)
  have rb := gr.2 t htm
  have hinv := (inv_spec hp (show 0 < nth rest t by omega) rb.2).2.1
  obtain ⟨r, hr⟩ : ∃ r, r = oneL p m rest := ⟨_, rfl⟩
  have grr : Good p m r := by rw [hr]; exact scale_good (by omega)
  have r1 : nth r t = 1 := by rw [hr, oneL, ← ht, scaleL_nth htm, scaleN, hinv]
  have r0 : ∀ s, s < t → nth r s = 0 := fun s hs => by rw [hr, oneL, scaleL_nth (by omega), scaleN, rz s hs, Int.zero_mul, Int.zero_emod]
  have rc : ∀ i, i < rows.length → nth r (c i) = 0 := fun i hi => by rw [hr, oneL, scaleL_nth (h.clt i hi), scaleN, rp i hi, Int.zero_mul, Int.zero_emod]
  have rk : ∀ z, dotN m r z % p = 0 ↔ dotN m rest z % p = 0 := fun z => by
    rw [hr, oneL, ← ht, dot_scale]
    constructor
    · intro h0
      have e : nth rest t * (invN p (nth rest t) * dotN m rest z) % p = 0 := by rw [Int.mul_emod, h0, Int.mul_zero, Int.zero_emod]
      rwa [← Int.mul_assoc, Int.mul_emod, hinv, Int.one_mul, Int.emod_emod] at e
    · intro h0; rw [Int.mul_emod, h0, Int.mul_zero, Int.zero_emod]
  rw [← ht, ← hr]
  clear hr hinv rb rn rz
  have hct : ∀ i, i < rows.length → c i ≠ t := fun i hi he => by have := rc i hi; rw [he, r1] at this; omega
  obtain ⟨q, hq⟩ : ∃ q, q = insQ rows t := ⟨_, rfl⟩
  have hqn : q ≤ rows.length := by rw [hq]; exact insQ_le _ _
  have hqi : ∀ i, i < rows.length → (t < c i ↔ q ≤ i) := fun i hi => by rw [hq]; exact insQ_iff h t hi
  rw [← hq]
  clear hq
  have P : ∀ j, j < rows.length + 1 → nthR (putP p m rows r t q (rows.length + 1)) j = putN p m rows r t q j := fun j hj => putP_nth hj
  -- the rows with multiples taken away
  obtain ⟨U, hU⟩ : ∃ U : Nat → List Int, U = fun j => plusL p (nthR rows j) r (-(nth (nthR rows j) t)) m := ⟨_, rfl⟩
  have U1 : ∀ j, j < rows.length → ∀ i, i < rows.length → nth (U j) (c i) = if j = i then 1 else 0 := fun j hj i hi => by
    rw [hU]; show nth (plusL p _ _ _ m) _ = _
    rw [plusL_nth (h.clt i hi), plusN, rc i hi, Int.mul_zero, Int.add_zero, h.one i hi j hj]
    split
    · exact Int.emod_eq_of_lt (by omega) (by omega)
    · rfl
  have Ut : ∀ j, nth (U j) t = 0 := fun j => by
    rw [hU]; show nth (plusL p _ _ _ m) _ = _
    rw [plusL_nth htm, plusN, r1, Int.mul_one, Int.add_right_neg, Int.zero_emod]
  have Ul : ∀ j, j < rows.length → ∀ s, s < c j → nth (U j) s = 0 := fun j hj s hs => by
    rw [hU]; show nth (plusL p _ _ _ m) _ = _
    have hsm : s < m := by have := h.clt j hj; omega
    rw [plusL_nth hsm, plusN, h.lead j hj s hs]
    by_cases hst : s < t
    · rw [r0 s hst, Int.mul_zero, Int.zero_add, Int.zero_emod]
    · have : nth (nthR rows j) t = 0 := by
        rcases Nat.lt_or_ge t (c j) with h1 | h1
        · exact h.lead j hj t h1
        · omega
      rw [this, Int.neg_zero, Int.zero_mul, Int.zero_add, Int.zero_emod]
  have N1 : ∀ j, j < q → putN p m rows r t q j = U j := fun j hj => by rw [putN, if_pos hj, hU]
  have N2 : putN p m rows r t q q = r := by rw [putN, if_neg (Nat.lt_irrefl _), if_pos rfl]
  have N3 : ∀ j, q < j → putN p m rows r t q j = U (j - 1) := fun j hj => by rw [putN, if_neg (by omega), if_neg (by omega), hU]
  refine ⟨⟨fun j => if j < q then c j else if j = q then t else c (j - 1), ?_⟩, ?_⟩
  · constructor
    · intro j hj
      rw [putP_len] at hj
      rw [P j hj]; exact putN_good (by omega) grr
    · rw [putP_len]
      -- the places are different: at most m of them
      by_cases he : rows.length < m
      · omega
      · exfalso
        have hlen := h.len
        have hm0 : rows.length = m := by omega
        have : ∀ i, i ≤ rows.length → i < rows.length → i ≤ c i := by
          intro i _ hi
          induction i with
          | zero => omega
          | succ k ih => have := ih (by omega) (by omega); have := h.mono k (k + 1) (by omega) hi; omega
        have hup : ∀ e i, i + e + 1 = rows.length → c i ≤ i := by
          intro e
          induction e with
          | zero => intro i hi; have := h.clt i (by omega); omega
          | succ e ih => intro i hi; have := ih (i + 1) (by omega); have := h.mono i (i + 1) (by omega) (by omega); omega
        have e := hct t (by omega)
        have := this t (by omega) (by omega)
        have := hup (rows.length - t - 1) t (by omega)
        omega
    · intro i hi
      rw [putP_len] at hi
      show (if i < q then c i else if i = q then t else c (i - 1)) < m
      split
      · exact h.clt i (by omega)
      · split
        · exact htm
        · exact h.clt (i - 1) (by omega)
    · intro i j hij hj
      rw [putP_len] at hj
      show (if i < q then c i else if i = q then t else c (i - 1)) < (if j < q then c j else if j = q then t else c (j - 1))
      by_cases h1 : i < q
      · rw [if_pos h1]
        have hci : c i < t := by have := hqi i (by omega); have := hct i (by omega); omega
        by_cases h2 : j < q
        · rw [if_pos h2]; exact h.mono i j hij (by omega)
        · rw [if_neg h2]
          by_cases h3 : j = q
          · rw [if_pos h3]; exact hci
          · rw [if_neg h3]
            have := (hqi (j - 1) (by omega)).2 (by omega)
            omega
      · rw [if_neg h1, if_neg (show ¬ j < q by omega), if_neg (show ¬ j = q by omega)]
        by_cases h3 : i = q
        · rw [if_pos h3]; exact (hqi (j - 1) (by omega)).2 (by omega)
        · rw [if_neg h3]; exact h.mono (i - 1) (j - 1) (by omega) (by omega)
    · intro i hi j hj
      rw [putP_len] at hi hj
      rw [P j hj]
      show nth _ (if i < q then c i else if i = q then t else c (i - 1)) = _
      by_cases j1 : j < q
      · rw [N1 j j1]
        by_cases i1 : i < q
        · rw [if_pos i1, U1 j (by omega) i (by omega)]
        · rw [if_neg i1, if_neg (show ¬ j = i by omega)]
          by_cases i2 : i = q
          · rw [if_pos i2]; exact Ut j
          · rw [if_neg i2, U1 j (by omega) (i - 1) (by omega), if_neg (by omega)]
      · by_cases j2 : j = q
        · subst j2
          rw [N2]
          by_cases i1 : i < j
          · rw [if_pos i1, rc i (by omega), if_neg (by omega)]
          · rw [if_neg i1]
            by_cases i2 : i = j
            · rw [if_pos i2, if_pos i2.symm]; exact r1
            · rw [if_neg i2, if_neg (Ne.symm i2)]; exact rc (i - 1) (by omega)
        · rw [N3 j (by omega)]
          by_cases i1 : i < q
          · rw [if_pos i1, U1 (j - 1) (by omega) i (by omega), if_neg (by omega), if_neg (by omega)]
          · rw [if_neg i1]
            by_cases i2 : i = q
            · rw [if_pos i2, if_neg (by omega)]; exact Ut _
            · rw [if_neg i2, U1 (j - 1) (by omega) (i - 1) (by omega)]
              by_cases e : j = i
              · rw [if_pos (by omega), if_pos e]
              · rw [if_neg (by omega), if_neg e]
    · intro i hi s hs
      rw [putP_len] at hi
      rw [P i hi]
      replace hs : s < (if i < q then c i else if i = q then t else c (i - 1)) := hs
      by_cases i1 : i < q
      · rw [if_pos i1] at hs
        rw [N1 i i1]; exact Ul i (by omega) s hs
      · rw [if_neg i1] at hs
        by_cases i2 : i = q
        · rw [if_pos i2] at hs
          subst i2
          rw [N2]; exact r0 s hs
        · rw [if_neg i2] at hs
          rw [N3 i (by omega)]; exact Ul (i - 1) (by omega) s hs
  · intro z
    have Uk : ∀ j, dotN m r z % p = 0 → (dotN m (U j) z % p = 0 ↔ dotN m (nthR rows j) z % p = 0) := fun j h0 => by
      rw [hU]; show dotN m (plusL p _ _ _ m) z % p = 0 ↔ _
      rw [dot_plus, Int.add_emod, Int.mul_emod _ (dotN m r z), h0, Int.mul_zero, Int.zero_emod, Int.add_zero, Int.emod_emod]
    constructor
    · intro hz
      have hz' : ∀ j, j < rows.length + 1 → dotN m (putN p m rows r t q j) z % p = 0 := fun j hj => by
        have := hz j (by rw [putP_len]; exact hj)
        rwa [P j hj] at this
      have hr0 : dotN m r z % p = 0 := by have := hz' q (by omega); rwa [N2] at this
      have hR : Kill p m rows z := fun j hj => by
        rw [← Uk j hr0]
        by_cases hjq : j < q
        · have := hz' j (by omega); rwa [N1 j hjq] at this
        · have := hz' (j + 1) (by omega); rwa [N3 (j + 1) (by omega)] at this
      exact ⟨hR, by rw [← rd z hR]; exact (rk z).1 hr0⟩
    · rintro ⟨hR, h0⟩
      have hr0 : dotN m r z % p = 0 := (rk z).2 (by rw [rd z hR]; exact h0)
      intro j hj
      rw [putP_len] at hj
      rw [P j hj]
      by_cases j1 : j < q
      · rw [N1 j j1, Uk j hr0]; exact hR j (by omega)
      · by_cases j2 : j = q
        · rw [j2, N2]; exact hr0
        · rw [N3 j (by omega), Uk _ hr0]; exact hR _ (by omega)
/-- The reduced basis of the first k lists. -/
def redS (p : Int) (m : Nat) (lists : List (List Int)) : Nat → List (List Int)
  | 0 => []
  | k + 1 => putL p m (redS p m lists k) (nthR lists k)
theorem redS_ok {p : Int} {m : Nat} {lists : List (List Int)} (hp : primeB p = true) (hg : RowsG p m lists) : ∀ k, k ≤ lists.length → (∃ c, Basis p m (redS p m lists k) c) ∧ ∀ z, Kill p m (redS p m lists k) z ↔ ∀ i, i < k → dotN m (nthR lists i) z % p = 0
  | 0, _ => ⟨⟨fun _ => 0, ⟨fun i hi => absurd hi (Nat.not_lt_zero _), Nat.zero_le _, fun i hi => absurd hi (Nat.not_lt_zero _), fun i j _ hj => absurd hj (Nat.not_lt_zero _), fun i hi => absurd hi (Nat.not_lt_zero _), fun i hi => absurd hi (Nat.not_lt_zero _)⟩⟩, fun z => ⟨fun _ i hi => absurd hi (Nat.not_lt_zero _), fun _ i hi => absurd hi (Nat.not_lt_zero _)⟩⟩
  | k + 1, hk => by
    obtain ⟨⟨c, h1⟩, h2⟩ := redS_ok hp hg k (by omega)
    obtain ⟨h3, h4⟩ := put_ok hp h1 (hg k (by omega))
    refine ⟨h3, fun z => ?_⟩
    show Kill p m (putL p m (redS p m lists k) (nthR lists k)) z ↔ _
    rw [h4 z, h2 z]
    constructor
    · rintro ⟨ha, hb⟩ i hi
      by_cases h : i < k
      · exact ha i h
      · rw [show i = k by omega]; exact hb
    · intro h; exact ⟨fun i hi => h i (by omega), h k (by omega)⟩
/-- The two ways to a reduced basis lead to the same one. -/
theorem redS_basis {p : Int} {m : Nat} {lists : List (List Int)} (hp : primeB p = true) (hg : RowsG p m lists) : redS p m lists lists.length = basisL p m lists := by
  obtain ⟨⟨c, h1⟩, h2⟩ := redS_ok hp hg lists.length (Nat.le_refl _)
  obtain ⟨d, h3⟩ := basis_red hp hg
  exact basis_unique (prime_bd hp).1 h1 h3 fun z => by rw [h2 z, kill_basis hp hg]; rfl
end Go.Proofs.Ytcocbainookkcaa
