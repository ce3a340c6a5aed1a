/-
  The law FnVectorSquares returns true.
  No condition.
-/
import Derived.Test.YtbgnfjckbjmgbaaTop5
import Derived.Test.YtbgnfjckbjmgbaaDrawP
import Derived.Test.YtbgnfjckbjmgbaaTopB
import Derived.Test.YtbgnfjckbjmgbaaAlgD
namespace Go.Proofs.Ytbgnfjckbjmgbaa
set_option maxRecDepth 100000
open Go.RowKit

theorem dotS_sum (x y : List Int) : ∀ n, dotS x y n = sumN n fun i => nth x i * nth y i
  | 0 => rfl
  | n + 1 => by rw [dotS, sumN, dotS_sum x y n]
theorem pairL_Z {p : Int} {qs v w : List Int} : pairL p qs v w qs.length = pairZ qs v w % p := by
  unfold pairL dotL pairZ
  rw [dotS_sum]
  refine sumN_emod fun i hi => ?_
  rw [wtL_nth hi, wtN, Int.mul_emod, Int.emod_emod, ← Int.mul_emod]
  congr 1
  ac_rfl
theorem half_mod {p a n : Int} (hp : primeB p = true) (h0 : 0 ≤ a) (h1 : a < p) (h : (a + a) % p = (2 * n) % p) : a = n % p := by
  simp only [primeB, Bool.or_eq_true, beq_iff_eq] at hp
  rcases hp with (((rfl | rfl) | rfl) | rfl) | rfl <;> omega
theorem vec_sym {p : Int} {qs v w : List Int} (hp : 1 ≤ p) (hd : qs.length ≤ 6) (hv : v.length = qs.length) (hw : w.length = qs.length) :
    plusL p (prodL p qs tkA (vecL (2 ^ qs.length) v) (vecL (2 ^ qs.length) w)) (prodL p qs tkA (vecL (2 ^ qs.length) w) (vecL (2 ^ qs.length) v)) 1 (2 ^ qs.length) = (List.replicate (2 ^ qs.length) 0).set 0 ((2 * pairL p qs v w qs.length) % p) := by
  rw [vec_anti hp hd hv hw, pairL_Z, Int.mul_emod 2 (pairZ qs v w % p), Int.emod_emod, ← Int.mul_emod]
theorem vec_square {p : Int} {qs v : List Int} (hp : primeB p = true) (hd : qs.length ≤ 6) (hv : v.length = qs.length) :
    prodL p qs tkA (vecL (2 ^ qs.length) v) (vecL (2 ^ qs.length) v) = (List.replicate (2 ^ qs.length) 0).set 0 (pairL p qs v v qs.length) := by
  have hp1 := (prime_bd hp).1
  have h := vec_anti (p := p) (by omega) hd hv hv
  have hg : Good p (2 ^ qs.length) (prodL p qs tkA (vecL (2 ^ qs.length) v) (vecL (2 ^ qs.length) v)) := prod_good (by omega)
  refine ext_nth (by rw [hg.1]; simp) fun k hk => ?_
  rw [hg.1] at hk
  have hk1 := congrArg (fun l => nth l k) h
  have hN := pow_pos' qs.length
  rw [plusL_nth hk, plusN, Int.one_mul, nth_set (by simp; omega), nth_replicate hk] at hk1
  rw [nth_set (by simp; omega), nth_replicate hk]
  have hb := hg.2 k hk
  by_cases h0 : 0 = k
  · rw [if_pos h0] at hk1 ⊢
    rw [pairL_Z]
    exact half_mod hp hb.1 hb.2 hk1
  · rw [if_neg h0] at hk1 ⊢
    have := half_mod (n := 0) hp hb.1 hb.2 (by rw [hk1]; simp)
    simpa using this

set_option maxHeartbeats 8000000 in
set_option maxRecDepth 100000 in
theorem law_VectorSquares (w : World) (ac : Option Addr) (nc cc : Nat) (hb : RdY w ac nc) :
    Calls Try.prog 3 #[.slice ac nc cc] w fun e w' => e = .returned (.bool true) ∧ Ext w w' := by
  have HB := Lib.hid hb
  clear hb
  go_enter Try.func3, Try.ntmps3
  go_wp2_with (fail)
  refine Calls.mono (l_big ac nc cc w) ?_
  rintro e w1 ⟨rfl, g0⟩
  have E := Lib.hid g0
  by_cases hbig : 4096 < nc
  · have hbb : decide (4096 < nc) = true := by simp [hbig]
    rw [hbb]
    go_wp2_with (fail)
    go_ret
    exact ⟨rfl, E.out⟩
  have hbb : decide (4096 < nc) = false := by simp [hbig]
  rw [hbb]
  clear g0 hbb
  go_wp2_with (fail)
  refine Calls.mono (s_drawPairOf ac nc cc w1 (by omega) (HB.out.ext E.out)) ?_
  rintro e w2 ⟨p, a, d, cap, qs, av, n1, cv, v, au, n2, cu, u, rfl, hp0, hp1, hd, hn1, hn2, hq, hv, hu, g1⟩
  replace E := Lib.hid (E.out.trans g1)
  have HQ := Lib.hid hq.rd
  have HV := Lib.hid hv.rd
  have HU := Lib.hid hu.rd
  clear hq hv hu g1 HB
  go_wp2_with (fail)
  obtain ⟨O, hO⟩ : ∃ O, O = w2.heap.size := ⟨_, rfl⟩
  obtain ⟨W, hW⟩ : ∃ W, W = w2.alloc (.cells #[.int .i64 p, .slice a d cap] 26) := ⟨_, rfl⟩
  have C0 := Lib.hid (show W.cell? ⟨O, 0, none⟩ = some (.int .i64 p) by rw [hW, hO]; simp)
  have C1 := Lib.hid (show W.cell? ⟨O, 1, none⟩ = some (.slice a d cap) by rw [hW, hO]; simp)
  have gg : Ext w2 W := by rw [hW]; exact ext_alloc _ _
  rw [← hO, ← hW]
  clear hO hW
  replace E := Lib.hid (E.out.trans gg)
  replace HQ := Lib.hid (HQ.out.ext gg)
  replace HV := Lib.hid (HV.out.ext gg)
  replace HU := Lib.hid (HU.out.ext gg)
  clear gg
  refine Calls.mono (s_PairOf p a d cap qs av n1 cv v au n2 cu u W (by omega) (by omega) (by omega) HQ.out HV.out HU.out) ?_
  rintro e v1 ⟨rfl, gg⟩
  replace E := Lib.hid (E.out.trans gg)
  replace HQ := Lib.hid (HQ.out.ext gg)
  replace HV := Lib.hid (HV.out.ext gg)
  replace HU := Lib.hid (HU.out.ext gg)
  replace C0 := Lib.hid (gg.cell (p := ⟨O, 0, none⟩) C0.out)
  replace C1 := Lib.hid (gg.cell (p := ⟨O, 1, none⟩) C1.out)
  clear gg
  by_cases hc : codeV p qs [v, u] ≠ 0
  · have hcb : (codeV p qs [v, u] != 0) = true := by simp [hc]
    clear hc
    have c0 := C0.out
    have c1 := C1.out
    go_wp2_with (fail)
    clear c0 c1
    refine Calls.mono (c_PairOf p a d cap qs av n1 cv v au n2 cu u v1 (by omega) (by omega) (by omega) HQ.out HV.out HU.out) ?_
    rintro e v2 ⟨rfl, gg⟩
    replace E := Lib.hid (E.out.trans gg)
    replace HQ := Lib.hid (HQ.out.ext gg)
    replace HV := Lib.hid (HV.out.ext gg)
    replace HU := Lib.hid (HU.out.ext gg)
    replace C0 := Lib.hid (gg.cell (p := ⟨O, 0, none⟩) C0.out)
    replace C1 := Lib.hid (gg.cell (p := ⟨O, 1, none⟩) C1.out)
    clear gg
    go_wp2_with (fail)
    go_ret
    exact ⟨by simp, E.out⟩
  have hc0 : codeV p qs [v, u] = 0 := by simpa using hc
  have HP := Lib.hid (show pairV p qs v u = pairL p qs v u qs.length by rw [pairV, if_pos hc0])
  obtain ⟨hs, hgv, hgu⟩ := codeV_two_of hc0
  have HS := Lib.hid hs
  rw [HP.out, hc0]
  obtain ⟨hpr, hd1, hd6, hqb⟩ := space_of hs
  have hpb := prime_bd hpr
  have HPR := Lib.hid hpr
  have hdl := HQ.out.1
  obtain rfl : n1 = d := by rw [← HV.out.1, hgv.1, hdl]
  obtain rfl : n2 = n1 := by rw [← HU.out.1, hgu.1, hdl]
  have HD := Lib.hid hdl
  rw [hdl] at hgv hgu hd6
  have HGV := Lib.hid hgv
  have HGU := Lib.hid hgu
  obtain ⟨N, hN⟩ : ∃ N, N = 2 ^ n2 := ⟨_, rfl⟩
  have HN := Lib.hid hN
  have hN6 : N ≤ 64 := by rw [hN]; exact pow_le64 hd6
  have hN1 : 1 ≤ N := by rw [hN]; exact pow_pos' n2
  have HGX := Lib.hid (show Good p N (vecL N v) by rw [hN]; exact vec_good (by omega) hgv)
  have HGY := Lib.hid (show Good p N (vecL N u) by rw [hN]; exact vec_good (by omega) hgu)
  have HSYM := Lib.hid (show plusL p (prodL p qs tkA (vecL N v) (vecL N u)) (prodL p qs tkA (vecL N u) (vecL N v)) 1 N = (List.replicate N 0).set 0 ((2 * pairL p qs v u qs.length) % p) by
    have := vec_sym (p := p) (qs := qs) (v := v) (w := u) (by omega) (by rw [hdl]; exact hd6) (by rw [hgv.1, hdl]) (by rw [hgu.1, hdl])
    rw [hdl] at this ⊢
    rw [hN]; exact this)
  have HSQ := Lib.hid (show prodL p qs tkA (vecL N v) (vecL N v) = (List.replicate N 0).set 0 (pairL p qs v v qs.length) by
    have := vec_square (p := p) (qs := qs) (v := v) hpr (by rw [hdl]; exact hd6) (by rw [hgv.1, hdl])
    rw [hdl] at this ⊢
    rw [hN]; exact this)
  have hpl : 0 ≤ pairL p qs v u qs.length ∧ pairL p qs v u qs.length < p := pairL_bd (by omega)
  obtain ⟨m0, hm0⟩ : ∃ m0, m0 = pairL p qs v u qs.length := ⟨_, rfl⟩
  obtain ⟨m1, hm1⟩ : ∃ m1, m1 = pairL p qs v v n2 := ⟨_, rfl⟩
  rw [← hm0] at hpl ⊢
  rw [← hm0] at HSYM
  have HM1 := Lib.hid (show pairL p qs v v qs.length = m1 by rw [hm1, hdl])
  have HM1' := Lib.hid hm1
  have HPG := fun (x y : List Int) => Lib.hid (show Good p N (prodL p qs tkA x y) by rw [hN, ← hdl]; exact prod_good (by omega))
  have hw2 : wrap64 (2 * m0) = 2 * m0 := by unfold wrap64; omega
  clear hc hc0 HP hs hpr hdl hgv hgu hN hm0 hm1 hqb
  have c0 := C0.out
  have c1 := C1.out
  go_wp2_with (fail)
  clear c0 c1
  replace E := Lib.hid (E.out.trans (ext_drew v1))
  replace HQ := Lib.hid (HQ.out.ext (ext_drew v1))
  replace HV := Lib.hid (HV.out.ext (ext_drew v1))
  replace HU := Lib.hid (HU.out.ext (ext_drew v1))
  replace C0 := Lib.hid ((ext_drew v1).cell (p := ⟨O, 0, none⟩) C0.out)
  replace C1 := Lib.hid ((ext_drew v1).cell (p := ⟨O, 1, none⟩) C1.out)
  refine wp_region_lex [(2, .ownG 0 N (vecL N v)), (5, .ownG 0 N (vecL N u))] (by kernel_rfl) (by kernel_rfl) ?_
  (refine LexW.pure (v := ?_) rfl rfl (fun w1 he => ?_) ?_; rotate_left; ( have x0 := he.cell (p := ⟨O, 0, none⟩) C0.out; have x1 := he.cell (p := ⟨O, 1, none⟩) C1.out; go_simp; rfl); simp only [Act.put, List.setIfInBounds_toArray, List.set_cons_zero, List.set_cons_succ])
  (refine LexW.pure (v := ?_) rfl rfl (fun w1 he => ?_) ?_; rotate_left; ( have x0 := he.cell (p := ⟨O, 0, none⟩) C0.out; have x1 := he.cell (p := ⟨O, 1, none⟩) C1.out; go_simp; rfl); simp only [Act.put, List.setIfInBounds_toArray, List.set_cons_zero, List.set_cons_succ])
  (refine LexW.callR (f := ?_) (args := ?_) rfl rfl (fun w1 => ?_) (fun w1 he hdep => ?_) (fun v hv => ?_); rotate_left 2; (go_simp; refine ⟨?_, ?_⟩ <;> rfl); ( refine (l_vector5 p a n2 cap qs av cv v w1 HN.out HS.out (HQ.out.ext he) (HV.out.ext he) HGV.out).mono ?_; rintro e w2 ⟨g, rfl, ho, g2⟩; exact ⟨_, rfl, g2, g, rfl, ho.mono (Nat.zero_le _)⟩); simp only [Act.put, List.setIfInBounds_toArray, List.set_cons_zero, List.set_cons_succ])
  obtain ⟨_, g48, rfl, _⟩ := hv
  (refine LexW.pure (v := ?_) rfl rfl (fun w1 he => ?_) ?_; rotate_left; ( have x0 := he.cell (p := ⟨O, 0, none⟩) C0.out; have x1 := he.cell (p := ⟨O, 1, none⟩) C1.out; go_simp; rfl); simp only [Act.put, List.setIfInBounds_toArray, List.set_cons_zero, List.set_cons_succ])
  (refine LexW.pure (v := ?_) rfl rfl (fun w1 he => ?_) ?_; rotate_left; ( have x0 := he.cell (p := ⟨O, 0, none⟩) C0.out; have x1 := he.cell (p := ⟨O, 1, none⟩) C1.out; go_simp; rfl); simp only [Act.put, List.setIfInBounds_toArray, List.set_cons_zero, List.set_cons_succ])
  (refine LexW.callR (f := ?_) (args := ?_) rfl rfl (fun w1 => ?_) (fun w1 he hdep => ?_) (fun v hv => ?_); rotate_left 2; (go_simp; refine ⟨?_, ?_⟩ <;> rfl); ( refine (l_vector5 p a n2 cap qs au cu u w1 HN.out HS.out (HQ.out.ext he) (HU.out.ext he) HGU.out).mono ?_; rintro e w2 ⟨g, rfl, ho, g2⟩; exact ⟨_, rfl, g2, g, rfl, ho.mono (Nat.zero_le _)⟩); simp only [Act.put, List.setIfInBounds_toArray, List.set_cons_zero, List.set_cons_succ])
  obtain ⟨_, g51, rfl, _⟩ := hv
  (refine LexW.pure (v := ?_) rfl rfl (fun w1 he => ?_) ?_; rotate_left; ( have x0 := he.cell (p := ⟨O, 0, none⟩) C0.out; have x1 := he.cell (p := ⟨O, 1, none⟩) C1.out; go_simp; rfl); simp only [Act.put, List.setIfInBounds_toArray, List.set_cons_zero, List.set_cons_succ])
  (refine LexW.pure (v := ?_) rfl rfl (fun w1 he => ?_) ?_; rotate_left; ( have x0 := he.cell (p := ⟨O, 0, none⟩) C0.out; have x1 := he.cell (p := ⟨O, 1, none⟩) C1.out; go_simp; rfl); simp only [Act.put, List.setIfInBounds_toArray, List.set_cons_zero, List.set_cons_succ])
  refine LexW.nil (fun w3 he hkn => ?_)
  obtain ⟨_, q48, r48⟩ : (SPred.ownG 0 N (vecL N v)).holds (.slice (some ⟨g48, 0, none⟩) N N) w3 := hkn (2, _) (by simp)
  cases q48
  have R48 := Lib.hid r48
  obtain ⟨_, q51, r51⟩ : (SPred.ownG 0 N (vecL N u)).holds (.slice (some ⟨g51, 0, none⟩) N N) w3 := hkn (5, _) (by simp)
  cases q51
  have R51 := Lib.hid r51
  have HE := Lib.hid he
  clear he hkn r48 r51
  rename World => v2
  replace E := Lib.hid (E.out.trans HE.out)
  replace HQ := Lib.hid (HQ.out.ext HE.out)
  replace HV := Lib.hid (HV.out.ext HE.out)
  replace HU := Lib.hid (HU.out.ext HE.out)
  replace C0 := Lib.hid (HE.out.cell (p := ⟨O, 0, none⟩) C0.out)
  replace C1 := Lib.hid (HE.out.cell (p := ⟨O, 1, none⟩) C1.out)
  clear HE
  have c0 := C0.out
  have c1 := C1.out
  go_wp2_with (fail)
  clear c0 c1
  replace E := Lib.hid (E.out.trans (ext_drew v2))
  replace HQ := Lib.hid (HQ.out.ext (ext_drew v2))
  replace HV := Lib.hid (HV.out.ext (ext_drew v2))
  replace HU := Lib.hid (HU.out.ext (ext_drew v2))
  replace R48 := Lib.hid (R48.out.ext (ext_drew v2))
  replace R51 := Lib.hid (R51.out.ext (ext_drew v2))
  replace C0 := Lib.hid ((ext_drew v2).cell (p := ⟨O, 0, none⟩) C0.out)
  replace C1 := Lib.hid ((ext_drew v2).cell (p := ⟨O, 1, none⟩) C1.out)
  refine wp_region_lex [(5, .ownS 0 N (prodL p qs tkA (vecL N v) (vecL N u))), (9, .ownS 0 N (prodL p qs tkA (vecL N u) (vecL N v))), (10, .ownS 0 N (plusL p (prodL p qs tkA (vecL N v) (vecL N u)) (prodL p qs tkA (vecL N u) (vecL N v)) 1 N))] (by kernel_rfl) (by kernel_rfl) ?_
  (refine LexW.pure (v := ?_) rfl rfl (fun w1 he => ?_) ?_; rotate_left; ( have x0 := he.cell (p := ⟨O, 0, none⟩) C0.out; have x1 := he.cell (p := ⟨O, 1, none⟩) C1.out; go_simp; rfl); simp only [Act.put, List.setIfInBounds_toArray, List.set_cons_zero, List.set_cons_succ])
  (refine LexW.pure (v := ?_) rfl rfl (fun w1 he => ?_) ?_; rotate_left; ( have x0 := he.cell (p := ⟨O, 0, none⟩) C0.out; have x1 := he.cell (p := ⟨O, 1, none⟩) C1.out; go_simp; rfl); simp only [Act.put, List.setIfInBounds_toArray, List.set_cons_zero, List.set_cons_succ])
  (refine LexW.pure (v := ?_) rfl rfl (fun w1 he => ?_) ?_; rotate_left; ( have x0 := he.cell (p := ⟨O, 0, none⟩) C0.out; have x1 := he.cell (p := ⟨O, 1, none⟩) C1.out; go_simp; rfl); simp only [Act.put, List.setIfInBounds_toArray, List.set_cons_zero, List.set_cons_succ])
  (refine LexW.pure (v := ?_) rfl rfl (fun w1 he => ?_) ?_; rotate_left; ( have x0 := he.cell (p := ⟨O, 0, none⟩) C0.out; have x1 := he.cell (p := ⟨O, 1, none⟩) C1.out; go_simp; rfl); simp only [Act.put, List.setIfInBounds_toArray, List.set_cons_zero, List.set_cons_succ])
  (refine LexW.pure (v := ?_) rfl rfl (fun w1 he => ?_) ?_; rotate_left; ( have x0 := he.cell (p := ⟨O, 0, none⟩) C0.out; have x1 := he.cell (p := ⟨O, 1, none⟩) C1.out; go_simp; rfl); simp only [Act.put, List.setIfInBounds_toArray, List.set_cons_zero, List.set_cons_succ])
  (refine LexW.callR (f := ?_) (args := ?_) rfl rfl (fun w1 => ?_) (fun w1 he hdep => ?_) (fun v hv => ?_); rotate_left 2; (go_simp; refine ⟨?_, ?_⟩ <;> rfl); ( refine (l_times5 p a n2 cap qs (some ⟨g48, 0, none⟩) N (vecL N v) (some ⟨g51, 0, none⟩) N (vecL N u) w1 HN.out HS.out (HQ.out.ext he) (R48.out.rd.ext he) (R51.out.rd.ext he) HGX.out HGY.out).mono ?_; rintro e w2 ⟨g, rc, rfl, ho, g2⟩; exact ⟨_, rfl, g2, g, rc, rfl, ho.mono (Nat.zero_le _)⟩); simp only [Act.put, List.setIfInBounds_toArray, List.set_cons_zero, List.set_cons_succ])
  obtain ⟨_, g57, c57, rfl, _⟩ := hv
  (refine LexW.pure (v := ?_) rfl rfl (fun w1 he => ?_) ?_; rotate_left; ( have x0 := he.cell (p := ⟨O, 0, none⟩) C0.out; have x1 := he.cell (p := ⟨O, 1, none⟩) C1.out; go_simp; rfl); simp only [Act.put, List.setIfInBounds_toArray, List.set_cons_zero, List.set_cons_succ])
  (refine LexW.pure (v := ?_) rfl rfl (fun w1 he => ?_) ?_; rotate_left; ( have x0 := he.cell (p := ⟨O, 0, none⟩) C0.out; have x1 := he.cell (p := ⟨O, 1, none⟩) C1.out; go_simp; rfl); simp only [Act.put, List.setIfInBounds_toArray, List.set_cons_zero, List.set_cons_succ])
  (refine LexW.pure (v := ?_) rfl rfl (fun w1 he => ?_) ?_; rotate_left; ( have x0 := he.cell (p := ⟨O, 0, none⟩) C0.out; have x1 := he.cell (p := ⟨O, 1, none⟩) C1.out; go_simp; rfl); simp only [Act.put, List.setIfInBounds_toArray, List.set_cons_zero, List.set_cons_succ])
  (refine LexW.callR (f := ?_) (args := ?_) rfl rfl (fun w1 => ?_) (fun w1 he hdep => ?_) (fun v hv => ?_); rotate_left 2; (go_simp; refine ⟨?_, ?_⟩ <;> rfl); ( refine (l_times5 p a n2 cap qs (some ⟨g51, 0, none⟩) N (vecL N u) (some ⟨g48, 0, none⟩) N (vecL N v) w1 HN.out HS.out (HQ.out.ext he) (R51.out.rd.ext he) (R48.out.rd.ext he) HGY.out HGX.out).mono ?_; rintro e w2 ⟨g, rc, rfl, ho, g2⟩; exact ⟨_, rfl, g2, g, rc, rfl, ho.mono (Nat.zero_le _)⟩); simp only [Act.put, List.setIfInBounds_toArray, List.set_cons_zero, List.set_cons_succ])
  obtain ⟨_, g61, c61, rfl, _⟩ := hv
  (refine LexW.callR (f := ?_) (args := ?_) rfl rfl (fun w1 => ?_) (fun w1 he hdep => ?_) (fun v hv => ?_); rotate_left 2; (go_simp; refine ⟨?_, ?_⟩ <;> rfl); ( obtain ⟨_, _, q57, r57⟩ : (SPred.ownS 0 N (prodL p qs tkA (vecL N v) (vecL N u))).holds (.slice (some ⟨g57, 0, none⟩) N c57) w1 := hdep (5, 57) (by decide +kernel); cases q57; obtain ⟨_, _, q61, r61⟩ : (SPred.ownS 0 N (prodL p qs tkA (vecL N u) (vecL N v))).holds (.slice (some ⟨g61, 0, none⟩) N c61) w1 := hdep (9, 61) (by decide +kernel); cases q61; refine (l_plus5 p _ _ N _ _ (prodL p qs tkA (vecL N v) (vecL N u)) (prodL p qs tkA (vecL N u) (vecL N v)) 1 w1 (by omega) (by omega) (by omega) (by omega) r57.rd r61.rd (HPG _ _).out (HPG _ _).out).mono ?_; rintro e w2 ⟨g, rc, rfl, ho, g2⟩; exact ⟨_, rfl, g2, g, rc, rfl, ho.mono (Nat.zero_le _)⟩); simp only [Act.put, List.setIfInBounds_toArray, List.set_cons_zero, List.set_cons_succ])
  obtain ⟨_, g62, c62, rfl, _⟩ := hv
  (refine LexW.pure (v := ?_) rfl rfl (fun w1 he => ?_) ?_; rotate_left; ( have x0 := he.cell (p := ⟨O, 0, none⟩) C0.out; have x1 := he.cell (p := ⟨O, 1, none⟩) C1.out; go_simp; rfl); simp only [Act.put, List.setIfInBounds_toArray, List.set_cons_zero, List.set_cons_succ])
  refine LexW.nil (fun w3 he hkn => ?_)
  obtain ⟨_, _, q62, r62⟩ : (SPred.ownS 0 N (plusL p (prodL p qs tkA (vecL N v) (vecL N u)) (prodL p qs tkA (vecL N u) (vecL N v)) 1 N)).holds (.slice (some ⟨g62, 0, none⟩) N c62) w3 := hkn (10, _) (by simp)
  cases q62
  have R62 := Lib.hid r62
  have HE := Lib.hid he
  clear he hkn r62
  rename World => v3
  replace E := Lib.hid (E.out.trans HE.out)
  replace HQ := Lib.hid (HQ.out.ext HE.out)
  replace HV := Lib.hid (HV.out.ext HE.out)
  replace HU := Lib.hid (HU.out.ext HE.out)
  replace R48 := Lib.hid (R48.out.ext HE.out)
  replace R51 := Lib.hid (R51.out.ext HE.out)
  replace C0 := Lib.hid (HE.out.cell (p := ⟨O, 0, none⟩) C0.out)
  replace C1 := Lib.hid (HE.out.cell (p := ⟨O, 1, none⟩) C1.out)
  clear HE
  have c0 := C0.out
  have c1 := C1.out
  go_wp2_with (fail)
  clear c0 c1
  refine Calls.mono (l_size5 p a n2 cap v3 (by omega) HN.out) ?_
  rintro e v4 ⟨rfl, gg⟩
  replace E := Lib.hid (E.out.trans gg)
  replace HQ := Lib.hid (HQ.out.ext gg)
  replace HV := Lib.hid (HV.out.ext gg)
  replace HU := Lib.hid (HU.out.ext gg)
  replace R48 := Lib.hid (R48.out.ext gg)
  replace R51 := Lib.hid (R51.out.ext gg)
  replace R62 := Lib.hid (R62.out.ext gg)
  replace C0 := Lib.hid (gg.cell (p := ⟨O, 0, none⟩) C0.out)
  replace C1 := Lib.hid (gg.cell (p := ⟨O, 1, none⟩) C1.out)
  clear gg
  have c0 := C0.out
  have c1 := C1.out
  go_wp2_with (fail)
  clear c0 c1
  have G := Lib.hid (Ext.refl v4)
  obtain ⟨w9, hmk, ho, gg⟩ := make_ints v4 N (by omega)
  rw [hmk]
  obtain ⟨zD1, hzD1⟩ : ∃ z, z = v4.heap.size := ⟨_, rfl⟩
  have BD1 : v4.heap.size ≤ zD1 := by have := G.out.size; omega
  rw [← hzD1] at ho ⊢
  have D1 := Lib.hid ho
  obtain ⟨v5, hv9⟩ : ∃ x, x = w9 := ⟨_, rfl⟩
  rw [← hv9] at gg D1 ⊢
  clear hmk ho hv9 hzD1
  replace G := Lib.hid (G.out.trans gg)
  clear gg
  have c0 := G.out.cell (p := ⟨O, 0, none⟩) C0.out
  have c1 := G.out.cell (p := ⟨O, 1, none⟩) C1.out
  go_wp2_with (fail)
  clear c0 c1
  refine Calls.mono (l_mod5 p (2 * m0) v5 (by omega) (by omega)) ?_
  rintro e v6 ⟨rfl, gg⟩
  replace G := Lib.hid (G.out.trans gg)
  replace D1 := Lib.hid (D1.out.ext gg)
  clear gg
  have hne : O ≠ zD1 := by have := lt_of_cell C0.out; dsimp only at this; omega
  have hne2 : zD1 ≠ O := fun h => hne h.symm
  have cz := D1.out.cell (j := 0) (by omega)
  have fz := D1.out.frozen 0
  have c0 := G.out.cell (p := ⟨O, 0, none⟩) C0.out
  have c1 := G.out.cell (p := ⟨O, 1, none⟩) C1.out
  go_wp2_with (fail)
  clear c0 c1
  clear cz fz hne hne2
  obtain ⟨v7, hv9⟩ : ∃ x, x = v6.setCell ⟨zD1, 0, none⟩ (.int .i64 ((2 * m0) % p)) := ⟨_, rfl⟩
  replace G := Lib.hid (G.out.setCell (p := ⟨zD1, 0, none⟩) BD1 (.int .i64 ((2 * m0) % p)))
  replace D1 := Lib.hid (D1.out.store (j := 0) (by omega) ((2 * m0) % p))
  rw [← hv9] at G D1 ⊢
  replace E := Lib.hid (E.out.trans G.out)
  replace HQ := Lib.hid (HQ.out.ext G.out)
  replace HV := Lib.hid (HV.out.ext G.out)
  replace HU := Lib.hid (HU.out.ext G.out)
  replace R48 := Lib.hid (R48.out.ext G.out)
  replace R51 := Lib.hid (R51.out.ext G.out)
  replace R62 := Lib.hid (R62.out.ext G.out)
  replace C0 := Lib.hid (G.out.cell (p := ⟨O, 0, none⟩) C0.out)
  replace C1 := Lib.hid (G.out.cell (p := ⟨O, 1, none⟩) C1.out)
  clear G hv9 BD1
  replace D1 := Lib.hid (D1.out.mono (Nat.zero_le _))
  refine Calls.mono (c_BracketOf_ok p a n2 cap qs _ N _ (vecL N v) _ N _ (vecL N u) v7 (by omega) (by omega) (by omega) HQ.out R48.out.rd R51.out.rd (codeM_two0 HS.out (by rw [HD.out, ← HN.out]; exact HGX.out) (by rw [HD.out, ← HN.out]; exact HGY.out))) ?_
  rintro e v8 ⟨ra, rc, rfl, ho, gg⟩
  obtain ⟨gB, _, rfl, _⟩ := ho.row (by omega)
  have RB := Lib.hid (ho.mono (Nat.zero_le _))
  clear ho
  replace E := Lib.hid (E.out.trans gg)
  replace HQ := Lib.hid (HQ.out.ext gg)
  replace HV := Lib.hid (HV.out.ext gg)
  replace HU := Lib.hid (HU.out.ext gg)
  replace R48 := Lib.hid (R48.out.ext gg)
  replace R51 := Lib.hid (R51.out.ext gg)
  replace R62 := Lib.hid (R62.out.ext gg)
  replace D1 := Lib.hid (D1.out.ext gg)
  replace C0 := Lib.hid (gg.cell (p := ⟨O, 0, none⟩) C0.out)
  replace C1 := Lib.hid (gg.cell (p := ⟨O, 1, none⟩) C1.out)
  clear gg
  have c0 := C0.out
  have c1 := C1.out
  go_wp2_with (fail)
  clear c0 c1
  replace E := Lib.hid (E.out.trans (ext_drew v8))
  replace HQ := Lib.hid (HQ.out.ext (ext_drew v8))
  replace HV := Lib.hid (HV.out.ext (ext_drew v8))
  replace HU := Lib.hid (HU.out.ext (ext_drew v8))
  replace R48 := Lib.hid (R48.out.ext (ext_drew v8))
  replace R51 := Lib.hid (R51.out.ext (ext_drew v8))
  replace R62 := Lib.hid (R62.out.ext (ext_drew v8))
  replace D1 := Lib.hid (D1.out.ext (ext_drew v8))
  replace RB := Lib.hid (RB.out.ext (ext_drew v8))
  replace C0 := Lib.hid ((ext_drew v8).cell (p := ⟨O, 0, none⟩) C0.out)
  replace C1 := Lib.hid ((ext_drew v8).cell (p := ⟨O, 1, none⟩) C1.out)
  refine wp_region_lex [(5, .val (.bool true)), (15, .ownS 0 N (prodL p qs tkA (vecL N v) (vecL N u))), (19, .ownS 0 N (prodL p qs tkA (vecL N u) (vecL N v))), (20, .ownS 0 N (plusL p (prodL p qs tkA (vecL N v) (vecL N u)) (prodL p qs tkA (vecL N u) (vecL N v)) (-1) N)), (21, .val (.bool true))] (by kernel_rfl) (by kernel_rfl) ?_
  (refine LexW.pure (v := ?_) rfl rfl (fun w1 he => ?_) ?_; rotate_left; ( have x0 := he.cell (p := ⟨O, 0, none⟩) C0.out; have x1 := he.cell (p := ⟨O, 1, none⟩) C1.out; go_simp; rfl); simp only [Act.put, List.setIfInBounds_toArray, List.set_cons_zero, List.set_cons_succ])
  (refine LexW.pure (v := ?_) rfl rfl (fun w1 he => ?_) ?_; rotate_left; ( have x0 := he.cell (p := ⟨O, 0, none⟩) C0.out; have x1 := he.cell (p := ⟨O, 1, none⟩) C1.out; go_simp; rfl); simp only [Act.put, List.setIfInBounds_toArray, List.set_cons_zero, List.set_cons_succ])
  (refine LexW.pure (v := ?_) rfl rfl (fun w1 he => ?_) ?_; rotate_left; ( have x0 := he.cell (p := ⟨O, 0, none⟩) C0.out; have x1 := he.cell (p := ⟨O, 1, none⟩) C1.out; go_simp; rfl); simp only [Act.put, List.setIfInBounds_toArray, List.set_cons_zero, List.set_cons_succ])
  (refine LexW.pure (v := ?_) rfl rfl (fun w1 he => ?_) ?_; rotate_left; ( have x0 := he.cell (p := ⟨O, 0, none⟩) C0.out; have x1 := he.cell (p := ⟨O, 1, none⟩) C1.out; go_simp; rfl); simp only [Act.put, List.setIfInBounds_toArray, List.set_cons_zero, List.set_cons_succ])
  (refine LexW.pure (v := ?_) rfl rfl (fun w1 he => ?_) ?_; rotate_left; ( have x0 := he.cell (p := ⟨O, 0, none⟩) C0.out; have x1 := he.cell (p := ⟨O, 1, none⟩) C1.out; go_simp; rfl); simp only [Act.put, List.setIfInBounds_toArray, List.set_cons_zero, List.set_cons_succ])
  (refine LexW.call (f := ?_) (args := ?_) rfl rfl (fun w1 => ?_) (fun w1 he hdep => ?_) ?_; rotate_left 2; (go_simp; refine ⟨?_, ?_⟩ <;> rfl); ( have H := l_like (some ⟨g62, 0, none⟩) (some ⟨zD1, 0, none⟩) N N c62 N _ _ w1 (by omega) (by omega) (R62.out.rd.ext he) (D1.out.rd.ext he); rw [HSYM.out, eqB_self] at H; exact H); simp only [Act.put, List.setIfInBounds_toArray, List.set_cons_zero, List.set_cons_succ])
  (refine LexW.pure (v := ?_) rfl rfl (fun w1 he => ?_) ?_; rotate_left; ( have x0 := he.cell (p := ⟨O, 0, none⟩) C0.out; have x1 := he.cell (p := ⟨O, 1, none⟩) C1.out; go_simp; rfl); simp only [Act.put, List.setIfInBounds_toArray, List.set_cons_zero, List.set_cons_succ])
  (refine LexW.pure (v := ?_) rfl rfl (fun w1 he => ?_) ?_; rotate_left; ( have x0 := he.cell (p := ⟨O, 0, none⟩) C0.out; have x1 := he.cell (p := ⟨O, 1, none⟩) C1.out; go_simp; rfl); simp only [Act.put, List.setIfInBounds_toArray, List.set_cons_zero, List.set_cons_succ])
  (refine LexW.pure (v := ?_) rfl rfl (fun w1 he => ?_) ?_; rotate_left; ( have x0 := he.cell (p := ⟨O, 0, none⟩) C0.out; have x1 := he.cell (p := ⟨O, 1, none⟩) C1.out; go_simp; rfl); simp only [Act.put, List.setIfInBounds_toArray, List.set_cons_zero, List.set_cons_succ])
  (refine LexW.pure (v := ?_) rfl rfl (fun w1 he => ?_) ?_; rotate_left; ( have x0 := he.cell (p := ⟨O, 0, none⟩) C0.out; have x1 := he.cell (p := ⟨O, 1, none⟩) C1.out; go_simp; rfl); simp only [Act.put, List.setIfInBounds_toArray, List.set_cons_zero, List.set_cons_succ])
  (refine LexW.pure (v := ?_) rfl rfl (fun w1 he => ?_) ?_; rotate_left; ( have x0 := he.cell (p := ⟨O, 0, none⟩) C0.out; have x1 := he.cell (p := ⟨O, 1, none⟩) C1.out; go_simp; rfl); simp only [Act.put, List.setIfInBounds_toArray, List.set_cons_zero, List.set_cons_succ])
  (refine LexW.pure (v := ?_) rfl rfl (fun w1 he => ?_) ?_; rotate_left; ( have x0 := he.cell (p := ⟨O, 0, none⟩) C0.out; have x1 := he.cell (p := ⟨O, 1, none⟩) C1.out; go_simp; rfl); simp only [Act.put, List.setIfInBounds_toArray, List.set_cons_zero, List.set_cons_succ])
  (refine LexW.pure (v := ?_) rfl rfl (fun w1 he => ?_) ?_; rotate_left; ( have x0 := he.cell (p := ⟨O, 0, none⟩) C0.out; have x1 := he.cell (p := ⟨O, 1, none⟩) C1.out; go_simp; rfl); simp only [Act.put, List.setIfInBounds_toArray, List.set_cons_zero, List.set_cons_succ])
  (refine LexW.pure (v := ?_) rfl rfl (fun w1 he => ?_) ?_; rotate_left; ( have x0 := he.cell (p := ⟨O, 0, none⟩) C0.out; have x1 := he.cell (p := ⟨O, 1, none⟩) C1.out; go_simp; rfl); simp only [Act.put, List.setIfInBounds_toArray, List.set_cons_zero, List.set_cons_succ])
  (refine LexW.pure (v := ?_) rfl rfl (fun w1 he => ?_) ?_; rotate_left; ( have x0 := he.cell (p := ⟨O, 0, none⟩) C0.out; have x1 := he.cell (p := ⟨O, 1, none⟩) C1.out; go_simp; rfl); simp only [Act.put, List.setIfInBounds_toArray, List.set_cons_zero, List.set_cons_succ])
  (refine LexW.callR (f := ?_) (args := ?_) rfl rfl (fun w1 => ?_) (fun w1 he hdep => ?_) (fun v hv => ?_); rotate_left 2; (go_simp; refine ⟨?_, ?_⟩ <;> rfl); ( refine (l_times5 p a n2 cap qs (some ⟨g48, 0, none⟩) N (vecL N v) (some ⟨g51, 0, none⟩) N (vecL N u) w1 HN.out HS.out (HQ.out.ext he) (R48.out.rd.ext he) (R51.out.rd.ext he) HGX.out HGY.out).mono ?_; rintro e w2 ⟨g, rc, rfl, ho, g2⟩; exact ⟨_, rfl, g2, g, rc, rfl, ho.mono (Nat.zero_le _)⟩); simp only [Act.put, List.setIfInBounds_toArray, List.set_cons_zero, List.set_cons_succ])
  obtain ⟨_, g95, c95, rfl, _⟩ := hv
  (refine LexW.pure (v := ?_) rfl rfl (fun w1 he => ?_) ?_; rotate_left; ( have x0 := he.cell (p := ⟨O, 0, none⟩) C0.out; have x1 := he.cell (p := ⟨O, 1, none⟩) C1.out; go_simp; rfl); simp only [Act.put, List.setIfInBounds_toArray, List.set_cons_zero, List.set_cons_succ])
  (refine LexW.pure (v := ?_) rfl rfl (fun w1 he => ?_) ?_; rotate_left; ( have x0 := he.cell (p := ⟨O, 0, none⟩) C0.out; have x1 := he.cell (p := ⟨O, 1, none⟩) C1.out; go_simp; rfl); simp only [Act.put, List.setIfInBounds_toArray, List.set_cons_zero, List.set_cons_succ])
  (refine LexW.pure (v := ?_) rfl rfl (fun w1 he => ?_) ?_; rotate_left; ( have x0 := he.cell (p := ⟨O, 0, none⟩) C0.out; have x1 := he.cell (p := ⟨O, 1, none⟩) C1.out; go_simp; rfl); simp only [Act.put, List.setIfInBounds_toArray, List.set_cons_zero, List.set_cons_succ])
  (refine LexW.callR (f := ?_) (args := ?_) rfl rfl (fun w1 => ?_) (fun w1 he hdep => ?_) (fun v hv => ?_); rotate_left 2; (go_simp; refine ⟨?_, ?_⟩ <;> rfl); ( refine (l_times5 p a n2 cap qs (some ⟨g51, 0, none⟩) N (vecL N u) (some ⟨g48, 0, none⟩) N (vecL N v) w1 HN.out HS.out (HQ.out.ext he) (R51.out.rd.ext he) (R48.out.rd.ext he) HGY.out HGX.out).mono ?_; rintro e w2 ⟨g, rc, rfl, ho, g2⟩; exact ⟨_, rfl, g2, g, rc, rfl, ho.mono (Nat.zero_le _)⟩); simp only [Act.put, List.setIfInBounds_toArray, List.set_cons_zero, List.set_cons_succ])
  obtain ⟨_, g99, c99, rfl, _⟩ := hv
  (refine LexW.callR (f := ?_) (args := ?_) rfl rfl (fun w1 => ?_) (fun w1 he hdep => ?_) (fun v hv => ?_); rotate_left 2; (go_simp; refine ⟨?_, ?_⟩ <;> rfl); ( obtain ⟨_, _, q95, r95⟩ : (SPred.ownS 0 N (prodL p qs tkA (vecL N v) (vecL N u))).holds (.slice (some ⟨g95, 0, none⟩) N c95) w1 := hdep (15, 95) (by decide +kernel); cases q95; obtain ⟨_, _, q99, r99⟩ : (SPred.ownS 0 N (prodL p qs tkA (vecL N u) (vecL N v))).holds (.slice (some ⟨g99, 0, none⟩) N c99) w1 := hdep (19, 99) (by decide +kernel); cases q99; refine (l_plus5 p _ _ N _ _ (prodL p qs tkA (vecL N v) (vecL N u)) (prodL p qs tkA (vecL N u) (vecL N v)) (-1) w1 (by omega) (by omega) (by omega) (by omega) r95.rd r99.rd (HPG _ _).out (HPG _ _).out).mono ?_; rintro e w2 ⟨g, rc, rfl, ho, g2⟩; exact ⟨_, rfl, g2, g, rc, rfl, ho.mono (Nat.zero_le _)⟩); simp only [Act.put, List.setIfInBounds_toArray, List.set_cons_zero, List.set_cons_succ])
  obtain ⟨_, g100, c100, rfl, _⟩ := hv
  (refine LexW.call (f := ?_) (args := ?_) rfl rfl (fun w1 => ?_) (fun w1 he hdep => ?_) ?_; rotate_left 2; (go_simp; refine ⟨?_, ?_⟩ <;> rfl); ( obtain ⟨_, _, q100, r100⟩ : (SPred.ownS 0 N (plusL p (prodL p qs tkA (vecL N v) (vecL N u)) (prodL p qs tkA (vecL N u) (vecL N v)) (-1) N)).holds (.slice (some ⟨g100, 0, none⟩) N c100) w1 := hdep (20, 100) (by decide +kernel); cases q100; have H := l_like (some ⟨gB, 0, none⟩) (some ⟨g100, 0, none⟩) N N rc c100 _ _ w1 (by omega) (by omega) (RB.out.rd.ext he) r100.rd; rw [eqB_self] at H; exact H); simp only [Act.put, List.setIfInBounds_toArray, List.set_cons_zero, List.set_cons_succ])
  (refine LexW.pure (v := ?_) rfl rfl (fun w1 he => ?_) ?_; rotate_left; ( have x0 := he.cell (p := ⟨O, 0, none⟩) C0.out; have x1 := he.cell (p := ⟨O, 1, none⟩) C1.out; go_simp; rfl); simp only [Act.put, List.setIfInBounds_toArray, List.set_cons_zero, List.set_cons_succ])
  (refine LexW.pure (v := ?_) rfl rfl (fun w1 he => ?_) ?_; rotate_left; ( have x0 := he.cell (p := ⟨O, 0, none⟩) C0.out; have x1 := he.cell (p := ⟨O, 1, none⟩) C1.out; go_simp; rfl); simp only [Act.put, List.setIfInBounds_toArray, List.set_cons_zero, List.set_cons_succ])
  refine LexW.nil (fun w3 he hkn => ?_)
  have HE := Lib.hid he
  clear he hkn 
  rename World => v9
  replace E := Lib.hid (E.out.trans HE.out)
  replace HQ := Lib.hid (HQ.out.ext HE.out)
  replace HV := Lib.hid (HV.out.ext HE.out)
  replace HU := Lib.hid (HU.out.ext HE.out)
  replace R48 := Lib.hid (R48.out.ext HE.out)
  replace R51 := Lib.hid (R51.out.ext HE.out)
  replace R62 := Lib.hid (R62.out.ext HE.out)
  replace D1 := Lib.hid (D1.out.ext HE.out)
  replace RB := Lib.hid (RB.out.ext HE.out)
  replace C0 := Lib.hid (HE.out.cell (p := ⟨O, 0, none⟩) C0.out)
  replace C1 := Lib.hid (HE.out.cell (p := ⟨O, 1, none⟩) C1.out)
  clear HE
  have c0 := C0.out
  have c1 := C1.out
  go_wp2_with (fail)
  clear c0 c1
  refine Calls.mono (c_NormOf_ok p a n2 cap qs av cv v v9 HS.out HQ.out HV.out HGV.out) ?_
  rintro e v10 ⟨rfl, gg⟩
  replace E := Lib.hid (E.out.trans gg)
  replace HQ := Lib.hid (HQ.out.ext gg)
  replace HV := Lib.hid (HV.out.ext gg)
  replace HU := Lib.hid (HU.out.ext gg)
  replace R48 := Lib.hid (R48.out.ext gg)
  replace R51 := Lib.hid (R51.out.ext gg)
  replace C0 := Lib.hid (gg.cell (p := ⟨O, 0, none⟩) C0.out)
  replace C1 := Lib.hid (gg.cell (p := ⟨O, 1, none⟩) C1.out)
  clear gg
  rw [← HM1'.out]
  have c0 := C0.out
  have c1 := C1.out
  go_wp2_with (fail)
  clear c0 c1
  refine Calls.mono (l_size5 p a n2 cap v10 (by omega) HN.out) ?_
  rintro e v11 ⟨rfl, gg⟩
  replace E := Lib.hid (E.out.trans gg)
  replace HQ := Lib.hid (HQ.out.ext gg)
  replace HV := Lib.hid (HV.out.ext gg)
  replace HU := Lib.hid (HU.out.ext gg)
  replace R48 := Lib.hid (R48.out.ext gg)
  replace R51 := Lib.hid (R51.out.ext gg)
  replace C0 := Lib.hid (gg.cell (p := ⟨O, 0, none⟩) C0.out)
  replace C1 := Lib.hid (gg.cell (p := ⟨O, 1, none⟩) C1.out)
  clear gg
  have c0 := C0.out
  have c1 := C1.out
  go_wp2_with (fail)
  clear c0 c1
  have G := Lib.hid (Ext.refl v11)
  obtain ⟨w9, hmk, ho, gg⟩ := make_ints v11 N (by omega)
  rw [hmk]
  obtain ⟨zD2, hzD2⟩ : ∃ z, z = v11.heap.size := ⟨_, rfl⟩
  have BD2 : v11.heap.size ≤ zD2 := by have := G.out.size; omega
  rw [← hzD2] at ho ⊢
  have D2 := Lib.hid ho
  obtain ⟨v12, hv9⟩ : ∃ x, x = w9 := ⟨_, rfl⟩
  rw [← hv9] at gg D2 ⊢
  clear hmk ho hv9 hzD2
  replace G := Lib.hid (G.out.trans gg)
  clear gg
  have hne : O ≠ zD2 := by have := lt_of_cell C0.out; dsimp only at this; omega
  have hne2 : zD2 ≠ O := fun h => hne h.symm
  have cz := D2.out.cell (j := 0) (by omega)
  have fz := D2.out.frozen 0
  have c0 := G.out.cell (p := ⟨O, 0, none⟩) C0.out
  have c1 := G.out.cell (p := ⟨O, 1, none⟩) C1.out
  go_wp2_with (fail)
  clear c0 c1
  clear cz fz hne hne2
  obtain ⟨v13, hv9⟩ : ∃ x, x = v12.setCell ⟨zD2, 0, none⟩ (.int .i64 (m1)) := ⟨_, rfl⟩
  replace G := Lib.hid (G.out.setCell (p := ⟨zD2, 0, none⟩) BD2 (.int .i64 (m1)))
  replace D2 := Lib.hid (D2.out.store (j := 0) (by omega) (m1))
  rw [← hv9] at G D2 ⊢
  replace E := Lib.hid (E.out.trans G.out)
  replace HQ := Lib.hid (HQ.out.ext G.out)
  replace HV := Lib.hid (HV.out.ext G.out)
  replace HU := Lib.hid (HU.out.ext G.out)
  replace R48 := Lib.hid (R48.out.ext G.out)
  replace R51 := Lib.hid (R51.out.ext G.out)
  replace C0 := Lib.hid (G.out.cell (p := ⟨O, 0, none⟩) C0.out)
  replace C1 := Lib.hid (G.out.cell (p := ⟨O, 1, none⟩) C1.out)
  clear G hv9 BD2
  replace D2 := Lib.hid (D2.out.mono (Nat.zero_le _))
  refine Calls.mono (l_times5 p a n2 cap qs (some ⟨g48, 0, none⟩) N (vecL N v) (some ⟨g48, 0, none⟩) N (vecL N v) v13 HN.out HS.out HQ.out R48.out.rd R48.out.rd HGX.out HGX.out) ?_
  rintro e v14 ⟨g9, c9, rfl, ho, gg⟩
  have R9 := Lib.hid (ho.mono (Nat.zero_le _))
  clear ho
  replace E := Lib.hid (E.out.trans gg)
  replace HQ := Lib.hid (HQ.out.ext gg)
  replace HV := Lib.hid (HV.out.ext gg)
  replace HU := Lib.hid (HU.out.ext gg)
  replace R48 := Lib.hid (R48.out.ext gg)
  replace R51 := Lib.hid (R51.out.ext gg)
  replace D2 := Lib.hid (D2.out.ext gg)
  replace C0 := Lib.hid (gg.cell (p := ⟨O, 0, none⟩) C0.out)
  replace C1 := Lib.hid (gg.cell (p := ⟨O, 1, none⟩) C1.out)
  clear gg
  have c0 := C0.out
  have c1 := C1.out
  go_wp2_with (fail)
  clear c0 c1
  have H := l_like (some ⟨g9, 0, none⟩) (some ⟨zD2, 0, none⟩) N N c9 N _ _ v14 (by omega) (by omega) R9.out.rd D2.out.rd
  rw [HSQ.out, HM1.out, eqB_self] at H
  refine Calls.mono H ?_
  rintro e v99 ⟨rfl, gg⟩
  go_wp2_with (fail)
  go_ret
  exact ⟨rfl, E.out.trans gg⟩
end Go.Proofs.Ytbgnfjckbjmgbaa
