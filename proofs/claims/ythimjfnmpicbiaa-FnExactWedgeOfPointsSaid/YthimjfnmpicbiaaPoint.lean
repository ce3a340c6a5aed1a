/-
  Point vectors: contracts of the program and the reference.
  No condition.
-/
import Derived.Test.YthimjfnmpicbiaaExtS
import Derived.Test.YthimjfnmpicbiaaEleven
import Derived.Test.YthimjfnmpicbiaaNorm
namespace Go.Proofs.Ythimjfnmpicbiaa
set_option maxRecDepth 100000
open Go.RowKit

theorem good_app2 {p : Int} {n : Nat} {x : List Int} {u t : Int} (hx : Good p n x) (hu : 0 ≤ u ∧ u < p) (ht : 0 ≤ t ∧ t < p) : Good p (n + 2) (x ++ [u, t]) := by
  have e : x ++ [u, t] = (x ++ [u]) ++ [t] := by simp
  have h1 : ∀ {m : Nat} {y : List Int} {s : Int}, Good p m y → 0 ≤ s ∧ s < p → Good p (m + 1) (y ++ [s]) := fun {m y s} hy hs => ⟨by simp [hy.1], fun i hi => by
    by_cases h : i < m
    · rw [nth_append_left (by rw [hy.1]; exact h)]; exact hy.2 i h
    · have : i = y.length := by rw [hy.1]; omega
      rw [this, nth_append_len]; exact hs⟩
  rw [e]
  exact h1 (h1 hx hu) ht
theorem infL_len (d : Nat) : (infL d).length = d + 2 := by simp [infL]
theorem infL_good {p : Int} (hp : 3 ≤ p) (d : Nat) : Good p (d + 2) (infL d) := good_app2 (good_zero (by omega)) (by omega) (by omega)
def pointL (p : Int) (qs v : List Int) : List Int := plusL p (v ++ [((-1) * invN p 2) % p, (1 * invN p 2) % p]) (infL qs.length) ((pairL p qs v v qs.length * invN p 2) % p) (qs.length + 2)
theorem pointL_good {p : Int} {qs v : List Int} {d : Nat} (hp : 1 ≤ p) (hd : qs.length = d) : Good p (d + 2) (pointL p qs v) := by subst hd; exact plus_good hp
theorem app2_nth {x : List Int} {u t : Int} {n i : Nat} (hx : x.length = n) : nth (x ++ [u, t]) i = if i < n then nth x i else if i = n then u else if i = n + 1 then t else 0 := by
  subst hx
  by_cases h : i < x.length
  · rw [if_pos h, nth_append_left h]
  · rw [if_neg h]
    unfold nth
    rw [List.getD_eq_getElem?_getD, List.getElem?_append_right (by omega)]
    by_cases h1 : i = x.length
    · subst h1; simp
    · rw [if_neg h1]
      by_cases h2 : i = x.length + 1
      · subst h2
        rw [if_pos rfl, show x.length + 1 - x.length = 1 by omega]; rfl
      · rw [if_neg h2, List.getElem?_eq_none (by simp; omega)]; rfl
theorem point_eq {p : Int} {qs v : List Int} {d : Nat} (hd : qs.length = d) (hv : v.length = d) :
    plusL p (v ++ [p - invN p 2, invN p 2]) (scaleL p (infL d) (invN p 2 * pairL p qs v v d) (d + 2)) 1 (d + 2) = pointL p qs v := by
  unfold pointL
  rw [hd]
  generalize hN : pairL p qs v v d = N
  generalize hh : invN p 2 = h
  unfold plusL
  refine List.map_congr_left fun i hi => ?_
  have hi' : i < d + 2 := List.mem_range.1 hi
  unfold plusN
  rw [scaleL_nth hi', scaleN, app2_nth hv, app2_nth hv]
  have hinf : nth (infL d) i = if i < d then 0 else if i = d then 1 else if i = d + 1 then 1 else 0 := by
    unfold infL
    rw [app2_nth (List.length_replicate)]
    by_cases h : i < d
    · rw [if_pos h, if_pos h, nth_replicate h]
    · rw [if_neg h, if_neg h]
  rw [hinf]
  by_cases h1 : i < d
  · simp only [if_pos h1, Int.zero_mul, Int.zero_emod, Int.mul_zero]
  · rw [if_neg h1, if_neg h1, if_neg h1]
    by_cases h2 : i = d
    · simp only [if_pos h2, Int.one_mul, Int.mul_one, Int.add_emod_emod, Int.emod_add_emod]
      rw [show p - h + h * N = (-1 * h + N * h) + p by rw [Int.mul_comm N h]; omega, Int.add_emod_right]
    · rw [if_neg h2, if_neg h2, if_neg h2, if_pos (by omega), if_pos (by omega), if_pos (by omega)]
      simp only [Int.one_mul, Int.mul_one, Int.add_emod_emod, Int.emod_add_emod]
      rw [Int.mul_comm N h]
set_option maxHeartbeats 400000 in
theorem c_half (p n h : Int) (w : World) (hp1 : 3 ≤ p) (hp2 : p ≤ 1000) (hn : -1000 ≤ n ∧ n ≤ 1000) (hh : (n * invN p 2) % p = h) :
    Calls Try.prog 158 #[.int .i64 p, .int .i64 n] w fun e w' => e = .returned (.int .i64 h) ∧ Ext w w' := by
  have hb := invN_bd (a := 2) hp1
  obtain ⟨I, hI⟩ : ∃ I, I = invN p 2 := ⟨_, rfl⟩
  have HI := Lib.hid hI.symm
  rw [← hI] at hb hh
  have hkb := kmul_bd hn hb.1 (show I ≤ 1000 by omega)
  have hw1 : IntKind.i64.wrap (n * I) = n * I := IntWalk.i64_in _ (by omega)
  have HH := Lib.hid hh
  clear hh hI
  go_enter Try.func158, Try.ntmps158
  go_wp2_with (first | (go_at_call 219; refine (c_inv p 2 _ hp1 hp2 (by omega) (by omega)).mono ?_; rintro e w1 ⟨rfl, g1⟩; rw [HI.out]) | (go_at_call 178; refine (c_num _ _ _ (by omega) hp2).mono ?_; rintro e w2 ⟨rfl, g2⟩; rw [HH.out]))
  go_ret
  exact ⟨rfl, g1.trans g2⟩

set_option maxHeartbeats 4000000 in
set_option maxRecDepth 100000 in
theorem c_point (p : Int) (a : Option Addr) (d cap : Nat) (qs : List Int) (av : Option Addr) (cv : Nat) (v : List Int) (w : World) (hd1 : 0 < d) (hd : d ≤ 4) (hpr : primeB p = true) (hq : RdC w a d qs) (hqb : isB p qs = true) (hv : RdC w av d v) (hg : Good p d v) :
    Calls Try.prog 84 #[.agg #[.int .i64 p, .slice a d cap], .slice av d cv] w fun e w' => ∃ g rc, e = .returned (.slice (some ⟨g, 0, none⟩) (d + 2) rc) ∧ OwnC w.heap.size w' (some ⟨g, 0, none⟩) (d + 2) rc (pointL p qs v) ∧ Ext w w' := by
  have hpb := prime_bd hpr
  obtain ⟨bv, ov, rfl, _⟩ := hv.2 0 hd1
  have HPR := Lib.hid hpr
  have HQ := Lib.hid hq
  have HQB := Lib.hid hqb
  have HV := Lib.hid hv
  have HG := Lib.hid hg
  have HIG : Hid (Good p (d + 2) (infL d)) := Lib.hid (infL_good (by omega) d)
  obtain ⟨I, hI⟩ : ∃ I, I = invN p 2 := ⟨_, rfl⟩
  obtain ⟨N, hN⟩ : ∃ N, N = pairL p qs v v d := ⟨_, rfl⟩
  have HN := Lib.hid hN
  have hNb : 0 ≤ N ∧ N < p := by rw [hN]; exact pairL_bd (by omega)
  obtain ⟨H1, hH1⟩ : ∃ h, ((-1) * invN p 2) % p = h := ⟨_, rfl⟩
  obtain ⟨H2, hH2⟩ : ∃ h, (1 * invN p 2) % p = h := ⟨_, rfl⟩
  obtain ⟨K, hK⟩ : ∃ h, (N * invN p 2) % p = h := ⟨_, rfl⟩
  have hb1 : 0 ≤ H1 ∧ H1 < p := by rw [← hH1]; exact ⟨Int.emod_nonneg _ (by omega), Int.emod_lt_of_pos _ (by omega)⟩
  have hb2 : 0 ≤ H2 ∧ H2 < p := by rw [← hH2]; exact ⟨Int.emod_nonneg _ (by omega), Int.emod_lt_of_pos _ (by omega)⟩
  have hbK : 0 ≤ K ∧ K < p := by rw [← hK]; exact ⟨Int.emod_nonneg _ (by omega), Int.emod_lt_of_pos _ (by omega)⟩
  have HP := Lib.hid (show pointL p qs v = plusL p (v ++ [H1, H2]) (infL d) K (d + 2) by unfold pointL; rw [hq.1, ← hN, hH1, hH2, hK])
  have HOG := Lib.hid (good_app2 HG.out hb1 hb2)
  have HH1 := Lib.hid hH1
  have HH2 := Lib.hid hH2
  have HK := Lib.hid hK
  clear hq hqb hv hg hpr hI hN hH1 hH2 hK
  obtain ⟨W, hW⟩ : ∃ W, W = w.alloc (.cells #[.int .i64 p, .slice a d cap] 30) := ⟨_, rfl⟩
  have gW : Ext w W := by rw [hW]; exact ext_alloc _ _
  have hs0 : W.cell? ⟨w.heap.size, 0, none⟩ = some (.int .i64 p) := by rw [hW]; simp
  have hs1 : W.cell? ⟨w.heap.size, 1, none⟩ = some (.slice a d cap) := by rw [hW]; simp
  have HS0 := Lib.hid (hs0)
  have HS1 := Lib.hid (hs1)
  have GW := Lib.hid (gW)
  have HW := Lib.hid hW
  clear hs0 hs1 gW hW
  go_enter Try.func84, Try.ntmps84
  go_wp2_with (fail)
  rw [← HW.out]
  have hs0 := HS0.out
  have hs1 := HS1.out
  go_wp2_with (first
    | (go_at_call 99; refine (c_field _ _ _).mono ?_; rintro e w1 ⟨rfl, g1⟩; have G1 := Lib.hid g1; clear g1)
    | (go_at_call 157; refine (c_clone bv ov d cv v _ hd1 (by omega) (HV.out.ext (GW.out.trans G1.out))).mono ?_; rintro e w2 ⟨g2, r2, rfl, ho2, x2⟩; have HO2 := Lib.hid ho2; have G2 := Lib.hid (G1.out.trans x2); clear ho2 x2)
    | (go_at_call 158; refine (c_half p _ _ _ (by omega) (by omega) (by omega) rfl).mono ?_; rintro e w3 ⟨rfl, g3⟩; (first | rw [HH1.out] | rw [HH2.out]); first | (have X4 := Lib.hid (X3.out.trans g3); clear g3) | (have X3 := Lib.hid g3; clear g3))
    | (at_builtin; refine wpList_appendAll rfl (.tmp 10) (.tmp 15) rfl rfl rfl (HO2.out.ext (X4.out.trans (ext_alloc _ _))) (rdC_two (x := H1) (y := H2) (by simp) (by simp)) (by omega) (by omega) (by omega) ?hB ?hk))
  case hB => have h1 := (G2.out.trans X4.out).size'; have h2 := (HO2.out.base_of _ rfl).1; have h3 := G1.out.size'; have h4 := X4.out.size'; have h5 := (HO2.out.base_of _ rfl).2; simp; omega
  case hk =>
    intro g5 c5 w5 ho5 hg5 he5
    have HO5 := Lib.hid ho5
    have G5 := Lib.hid (he5 W G1.out.size' ((G2.out.trans X4.out).trans (ext_alloc _ _)))
    clear ho5 hg5 he5 hs0 hs1
    go_wp2_with (fail)
    have T0 := Lib.hid ((G5.out.trans (ext_drew _)).cell HS0.out)
    have T1 := Lib.hid ((G5.out.trans (ext_drew _)).cell HS1.out)
    have GX := Lib.hid (GW.out.trans (G5.out.trans (ext_drew w5)))
    have O5 := Lib.hid (HO5.out.ext (ext_drew w5))
    refine wp_region_lex [(3, .ownS w.heap.size (d + 2) (infL d)), (7, .val (.int .i64 N)), (8, .val (.int .i64 K)), (9, .ownS w.heap.size (d + 2) (plusL p (v ++ [H1, H2]) (infL d) K (d + 2)))] (by kernel_rfl) (by kernel_rfl) ?_
    (refine LexW.pure (v := ?_) rfl rfl (fun w1 he => ?_) ?_; rotate_left; ( have e1 := he.cell T0.out; have e2 := he.cell T1.out; go_simp; rfl); simp only [Act.put, List.setIfInBounds_toArray, List.set_cons_zero, List.set_cons_succ])
    (refine LexW.pure (v := ?_) rfl rfl (fun w1 he => ?_) ?_; rotate_left; ( have e1 := he.cell T0.out; have e2 := he.cell T1.out; go_simp; rfl); simp only [Act.put, List.setIfInBounds_toArray, List.set_cons_zero, List.set_cons_succ])
    (refine LexW.pure (v := ?_) rfl rfl (fun w1 he => ?_) ?_; rotate_left; ( have e1 := he.cell T0.out; have e2 := he.cell T1.out; go_simp; rfl); simp only [Act.put, List.setIfInBounds_toArray, List.set_cons_zero, List.set_cons_succ])
    (refine LexW.callR (f := ?_) (args := ?_) rfl rfl (fun w1 => ?_) (fun w1 he hdep => ?_) (fun v hv => ?_); rotate_left 2; (go_simp; refine ⟨?_, ?_⟩ <;> rfl); ( refine (c_infinity p a d cap w1 (by omega)).mono ?_; rintro e w2 ⟨g, rc, rfl, ho, g2⟩; exact ⟨_, rfl, g2, g, rc, rfl, ho.mono (Nat.le_trans GX.out.size he.size)⟩); simp only [Act.put, List.setIfInBounds_toArray, List.set_cons_zero, List.set_cons_succ])
    obtain ⟨_, g20, c20, rfl, _⟩ := hv
    (refine LexW.pure (v := ?_) rfl rfl (fun w1 he => ?_) ?_; rotate_left; ( have e1 := he.cell T0.out; have e2 := he.cell T1.out; go_simp; rfl); simp only [Act.put, List.setIfInBounds_toArray, List.set_cons_zero, List.set_cons_succ])
    (refine LexW.pure (v := ?_) rfl rfl (fun w1 he => ?_) ?_; rotate_left; ( have e1 := he.cell T0.out; have e2 := he.cell T1.out; go_simp; rfl); simp only [Act.put, List.setIfInBounds_toArray, List.set_cons_zero, List.set_cons_succ])
    (refine LexW.pure (v := ?_) rfl rfl (fun w1 he => ?_) ?_; rotate_left; ( have e1 := he.cell T0.out; have e2 := he.cell T1.out; go_simp; rfl); simp only [Act.put, List.setIfInBounds_toArray, List.set_cons_zero, List.set_cons_succ])
    (refine LexW.call (f := ?_) (args := ?_) rfl rfl (fun w1 => ?_) (fun w1 he hdep => ?_) ?_; rotate_left 2; (go_simp; refine ⟨?_, ?_⟩ <;> rfl); ( rw [HN.out]; exact c_norm p a d cap qs _ cv v w1 (by omega) (by omega) (by omega) (HQ.out.ext (GX.out.trans he)) HQB.out (HV.out.ext (GX.out.trans he)) HG.out); simp only [Act.put, List.setIfInBounds_toArray, List.set_cons_zero, List.set_cons_succ])
    (refine LexW.call (f := ?_) (args := ?_) rfl rfl (fun w1 => ?_) (fun w1 he hdep => ?_) ?_; rotate_left 2; (go_simp; refine ⟨?_, ?_⟩ <;> rfl); ( exact c_half p N K w1 (by omega) (by omega) (by omega) HK.out); simp only [Act.put, List.setIfInBounds_toArray, List.set_cons_zero, List.set_cons_succ])
    (refine LexW.callR (f := ?_) (args := ?_) rfl rfl (fun w1 => ?_) (fun w1 he hdep => ?_) (fun v hv => ?_); rotate_left 2; (go_simp; refine ⟨?_, ?_⟩ <;> rfl); ( obtain ⟨_, _, q20, r20⟩ : (SPred.ownS w.heap.size (d + 2) (infL d)).holds (.slice (some ⟨g20, 0, none⟩) (d + 2) c20) w1 := hdep (3, 20) (by decide +kernel); cases q20; refine (c_plus p _ _ (d + 2) c5 c20 (v ++ [H1, H2]) (infL d) K w1 (by omega) (by omega) (by omega) (by omega) (O5.out.rd.ext he) r20.rd HOG.out HIG.out).mono ?_; rintro e w2 ⟨g, rc, rfl, ho, g2⟩; exact ⟨_, rfl, g2, g, rc, rfl, ho.mono (Nat.le_trans GX.out.size he.size)⟩); simp only [Act.put, List.setIfInBounds_toArray, List.set_cons_zero, List.set_cons_succ])
    obtain ⟨_, g26, c26, rfl, _⟩ := hv
    (refine LexW.pure (v := ?_) rfl rfl (fun w1 he => ?_) ?_; rotate_left; ( have e1 := he.cell T0.out; have e2 := he.cell T1.out; go_simp; rfl); simp only [Act.put, List.setIfInBounds_toArray, List.set_cons_zero, List.set_cons_succ])
    refine LexW.nil (fun w3 he hkn => ?_)
    obtain ⟨_, _, q26, r26⟩ : (SPred.ownS w.heap.size (d + 2) (plusL p (v ++ [H1, H2]) (infL d) K (d + 2))).holds (.slice (some ⟨g26, 0, none⟩) (d + 2) c26) w3 := hkn (9, _) (by simp)
    cases q26
    have R26 := Lib.hid r26
    have HE := Lib.hid (GX.out.trans he)
    clear he hkn r26
    go_wp2_with (fail)
    go_ret
    exact ⟨_, _, rfl, by rw [HP.out]; exact R26.out, HE.out⟩

set_option maxHeartbeats 4000000 in
set_option maxRecDepth 100000 in
theorem s_point (p : Int) (a : Option Addr) (d cap : Nat) (qs : List Int) (av : Option Addr) (cv : Nat) (v : List Int) (w : World) (hd1 : 0 < d) (hd : d ≤ 4) (hpr : primeB p = true) (hq : RdC w a d qs) (hqb : isB p qs = true) (hv : RdC w av d v) (hg : Good p d v) :
    Calls Try.prog 82 #[.agg #[.int .i64 p, .slice a d cap], .slice av d cv] w fun e w' => ∃ g rc, e = .returned (.slice (some ⟨g, 0, none⟩) (d + 2) rc) ∧ OwnC w.heap.size w' (some ⟨g, 0, none⟩) (d + 2) rc (pointL p qs v) ∧ Ext w w' := by
  have hpb := prime_bd hpr
  obtain ⟨bv, ov, rfl, _⟩ := hv.2 0 hd1
  have HPR := Lib.hid hpr
  have HQ := Lib.hid hq
  have HQB := Lib.hid hqb
  have HV := Lib.hid hv
  have HG := Lib.hid hg
  have HIG : Hid (Good p (d + 2) (infL d)) := Lib.hid (infL_good (by omega) d)
  obtain ⟨I, hI⟩ : ∃ I, I = invN p 2 := ⟨_, rfl⟩
  obtain ⟨N, hN⟩ : ∃ N, N = pairL p qs v v d := ⟨_, rfl⟩
  have HN := Lib.hid hN
  have hNb : 0 ≤ N ∧ N < p := by rw [hN]; exact pairL_bd (by omega)
  have hib : 0 ≤ I ∧ I < p := by rw [hI]; exact invN_bd (by omega)
  obtain ⟨M, hM⟩ : ∃ M, M = I * N := ⟨_, rfl⟩
  have hMb : 0 ≤ M ∧ M ≤ 1000 := by
    rw [hM]
    refine ⟨Int.mul_nonneg hib.1 hNb.1, ?_⟩
    have h1 : I * N ≤ 13 * N := Int.mul_le_mul_of_nonneg_right (by omega) hNb.1
    omega
  have hwM : IntKind.i64.wrap (I * N) = M := by rw [hM]; exact IntWalk.i64_in _ (by omega)
  have hwI0 : IntKind.i64.wrap (p - I) = p - I := IntWalk.i64_in _ (by omega)
  have HP := Lib.hid (show plusL p (v ++ [p - I, I]) (scaleL p (infL d) M (d + 2)) 1 (d + 2) = pointL p qs v by rw [hM, hI, hN]; exact point_eq hq.1 hv.1)
  obtain ⟨J, hJ⟩ : ∃ J, J = p - I := ⟨_, rfl⟩
  rw [← hJ] at HP
  have hwI : IntKind.i64.wrap (p - I) = J := hwI0.trans hJ.symm
  have hJb : 0 ≤ J ∧ J ≤ 1000 := by omega
  have HOB : Hid (∀ i, i < d + 2 → 0 ≤ nth (v ++ [J, I]) i ∧ nth (v ++ [J, I]) i ≤ 1000) := Lib.hid (fun i hi => by
    rw [app2_nth hv.1]
    by_cases h1 : i < d
    · rw [if_pos h1]; have := hg.2 i h1; omega
    · rw [if_neg h1]
      by_cases h2 : i = d
      · rw [if_pos h2]; exact hJb
      · rw [if_neg h2, if_pos (by omega)]; omega)
  have HI := Lib.hid hI.symm
  clear hq hqb hv hg hpr hI hN hM hJ hwI0
  obtain ⟨W, hW⟩ : ∃ W, W = w.alloc (.cells #[.int .i64 p, .slice a d cap] 30) := ⟨_, rfl⟩
  have gW : Ext w W := by rw [hW]; exact ext_alloc _ _
  have hs0 : W.cell? ⟨w.heap.size, 0, none⟩ = some (.int .i64 p) := by rw [hW]; simp
  have hs1 : W.cell? ⟨w.heap.size, 1, none⟩ = some (.slice a d cap) := by rw [hW]; simp
  have HS0 := Lib.hid (hs0)
  have HS1 := Lib.hid (hs1)
  have GW := Lib.hid (gW)
  have HW := Lib.hid hW
  clear hs0 hs1 gW hW
  go_enter Try.func82, Try.ntmps82
  go_wp2_with (fail)
  rw [← HW.out]
  have hs0 := HS0.out
  have hs1 := HS1.out
  go_wp2_with (go_at_call 152; refine (s_inv p 2 _ HPR.out (by omega) (by omega)).mono ?_; rintro e w1 ⟨rfl, g1⟩; rw [HI.out]; have G1 := Lib.hid g1; clear g1)
  have T0 := Lib.hid ((G1.out.trans (ext_drew _)).cell HS0.out)
  have T1 := Lib.hid ((G1.out.trans (ext_drew _)).cell HS1.out)
  have GX := Lib.hid (GW.out.trans (G1.out.trans (ext_drew w1)))
  clear hs0 hs1
  rename World => w0
  refine wp_region_lex_tail 8 [(1, .ownS w0.drew.heap.size d v), (7, .two J I)] (by kernel_rfl) (by kernel_rfl) ?_
  simp only [List.take, List.drop]
  (refine LexW.pure (v := ?_) rfl rfl (fun w1 he => ?_) ?_; rotate_left; ( go_simp; rfl); simp only [Act.put, List.setIfInBounds_toArray, List.set_cons_zero, List.set_cons_succ])
  (refine LexW.callR (f := ?_) (args := ?_) rfl rfl (fun w1 => ?_) (fun w1 he hdep => ?_) (fun v hv => ?_); rotate_left 2; (go_simp; refine ⟨?_, ?_⟩ <;> rfl); ( refine (s_own bv ov d cv v w1 hd1 (by omega) (HV.out.ext (GX.out.trans he))).mono ?_; rintro e w2 ⟨g2, rc2, rfl, ho, x2⟩; exact ⟨_, rfl, x2, g2, rc2, rfl, ho.mono he.size⟩); simp only [Act.put, List.setIfInBounds_toArray, List.set_cons_zero, List.set_cons_succ])
  obtain ⟨_, g11, c11, rfl, _⟩ := hv
  (refine LexW.pure (v := ?_) rfl rfl (fun w1 he => ?_) ?_; rotate_left; ( have e1 := he.cell T0.out; have e2 := he.cell T1.out; go_simp; rfl); simp only [Act.put, List.setIfInBounds_toArray, List.set_cons_zero, List.set_cons_succ])
  (refine LexW.pure (v := ?_) rfl rfl (fun w1 he => ?_) ?_; rotate_left; ( have e1 := he.cell T0.out; have e2 := he.cell T1.out; go_simp; rfl); simp only [Act.put, List.setIfInBounds_toArray, List.set_cons_zero, List.set_cons_succ])
  (refine LexW.pure (v := ?_) rfl rfl (fun w1 he => ?_) ?_; rotate_left; ( go_simp; rfl); simp only [Act.put, List.setIfInBounds_toArray, List.set_cons_zero, List.set_cons_succ])
  (refine LexW.pure (v := ?_) rfl rfl (fun w1 he => ?_) ?_; rotate_left; ( go_simp; rfl); simp only [Act.put, List.setIfInBounds_toArray, List.set_cons_zero, List.set_cons_succ])
  (refine LexW.pure (v := ?_) rfl rfl (fun w1 he => ?_) ?_; rotate_left; ( go_simp; rfl); simp only [Act.put, List.setIfInBounds_toArray, List.set_cons_zero, List.set_cons_succ])
  (refine LexW.rel rfl rfl (fun w1 he hdep => ?_) (fun v hv => ?_); ( exact ⟨.slice (some ⟨w1.heap.size, 0, none⟩) 2 2, w1.alloc (.cells #[.int .i64 J, .int .i64 I] 2), (by go_simp), ext_alloc _ _, _, rfl, (by simp), (by simp)⟩); simp only [Act.put, List.setIfInBounds_toArray, List.set_cons_zero, List.set_cons_succ])
  obtain ⟨_, g17, rfl, _⟩ := hv
  refine LexW.nil (fun w3 he hkn => ?_)
  obtain ⟨_, _, q11, r11⟩ : (SPred.ownS w0.drew.heap.size d v).holds (.slice (some ⟨g11, 0, none⟩) d c11) w3 := hkn (1, _) (by simp)
  cases q11
  obtain ⟨_, q17, r17, r17'⟩ : (SPred.two J I).holds (.slice (some ⟨g17, 0, none⟩) 2 2) w3 := hkn (7, _) (by simp)
  cases q17
  have R11 := Lib.hid r11
  have R17 := Lib.hid (rdC_two r17 r17')
  have X3 := Lib.hid he
  clear he hkn r11 r17 r17'
  go_wp2_with (at_builtin; refine wpList_appendAll rfl (.tmp 11) (.tmp 17) rfl rfl rfl R11.out R17.out (by omega) (by omega) (by omega) X3.out.size ?hk)
  case hk =>
    intro g5 c5 w5 ho5 hg5 he5
    have HO5 := Lib.hid ho5
    have X5 := Lib.hid (he5 w0.drew (Nat.le_refl _) X3.out)
    clear ho5 hg5 he5
    go_wp2_with (fail)
    have GY := Lib.hid (GX.out.trans (X5.out.trans (ext_drew w5)))
    have U0 := Lib.hid ((X5.out.trans (ext_drew w5)).cell T0.out)
    have U1 := Lib.hid ((X5.out.trans (ext_drew w5)).cell T1.out)
    have O5 := Lib.hid (HO5.out.ext (ext_drew w5))
    refine wp_region_lex [(9, .val (.int .i64 N)), (12, .ownS w.heap.size (d + 2) (infL d)), (13, .ownS w.heap.size (d + 2) (scaleL p (infL d) M (d + 2))), (14, .ownS w.heap.size (d + 2) (plusL p (v ++ [J, I]) (scaleL p (infL d) M (d + 2)) 1 (d + 2)))] (by kernel_rfl) (by kernel_rfl) ?_
    (refine LexW.pure (v := ?_) rfl rfl (fun w1 he => ?_) ?_; rotate_left; ( have e1 := he.cell U0.out; have e2 := he.cell U1.out; go_simp; rfl); simp only [Act.put, List.setIfInBounds_toArray, List.set_cons_zero, List.set_cons_succ])
    (refine LexW.pure (v := ?_) rfl rfl (fun w1 he => ?_) ?_; rotate_left; ( have e1 := he.cell U0.out; have e2 := he.cell U1.out; go_simp; rfl); simp only [Act.put, List.setIfInBounds_toArray, List.set_cons_zero, List.set_cons_succ])
    (refine LexW.pure (v := ?_) rfl rfl (fun w1 he => ?_) ?_; rotate_left; ( have e1 := he.cell U0.out; have e2 := he.cell U1.out; go_simp; rfl); simp only [Act.put, List.setIfInBounds_toArray, List.set_cons_zero, List.set_cons_succ])
    (refine LexW.pure (v := ?_) rfl rfl (fun w1 he => ?_) ?_; rotate_left; ( have e1 := he.cell U0.out; have e2 := he.cell U1.out; go_simp; rfl); simp only [Act.put, List.setIfInBounds_toArray, List.set_cons_zero, List.set_cons_succ])
    (refine LexW.pure (v := ?_) rfl rfl (fun w1 he => ?_) ?_; rotate_left; ( have e1 := he.cell U0.out; have e2 := he.cell U1.out; go_simp; rfl); simp only [Act.put, List.setIfInBounds_toArray, List.set_cons_zero, List.set_cons_succ])
    (refine LexW.pure (v := ?_) rfl rfl (fun w1 he => ?_) ?_; rotate_left; ( have e1 := he.cell U0.out; have e2 := he.cell U1.out; go_simp; rfl); simp only [Act.put, List.setIfInBounds_toArray, List.set_cons_zero, List.set_cons_succ])
    (refine LexW.pure (v := ?_) rfl rfl (fun w1 he => ?_) ?_; rotate_left; ( have e1 := he.cell U0.out; have e2 := he.cell U1.out; go_simp; rfl); simp only [Act.put, List.setIfInBounds_toArray, List.set_cons_zero, List.set_cons_succ])
    (refine LexW.pure (v := ?_) rfl rfl (fun w1 he => ?_) ?_; rotate_left; ( have e1 := he.cell U0.out; have e2 := he.cell U1.out; go_simp; rfl); simp only [Act.put, List.setIfInBounds_toArray, List.set_cons_zero, List.set_cons_succ])
    (refine LexW.pure (v := ?_) rfl rfl (fun w1 he => ?_) ?_; rotate_left; ( have e1 := he.cell U0.out; have e2 := he.cell U1.out; go_simp; rfl); simp only [Act.put, List.setIfInBounds_toArray, List.set_cons_zero, List.set_cons_succ])
    (refine LexW.call (f := ?_) (args := ?_) rfl rfl (fun w1 => ?_) (fun w1 he hdep => ?_) ?_; rotate_left 2; (go_simp; refine ⟨?_, ?_⟩ <;> rfl); ( rw [HN.out]; exact s_pair p a d cap qs _ cv v _ cv v w1 (by omega) (by omega) (by omega) (HQ.out.ext (GY.out.trans he)) HQB.out (HV.out.ext (GY.out.trans he)) HG.out (HV.out.ext (GY.out.trans he)) HG.out); simp only [Act.put, List.setIfInBounds_toArray, List.set_cons_zero, List.set_cons_succ])
    (refine LexW.pure (v := ?_) rfl rfl (fun w1 he => ?_) ?_; rotate_left; ( have e1 := he.cell U0.out; have e2 := he.cell U1.out; go_simp; rfl); simp only [Act.put, List.setIfInBounds_toArray, List.set_cons_zero, List.set_cons_succ])
    (refine LexW.pure (v := ?_) rfl rfl (fun w1 he => ?_) ?_; rotate_left; ( have e1 := he.cell U0.out; have e2 := he.cell U1.out; go_simp; rfl); simp only [Act.put, List.setIfInBounds_toArray, List.set_cons_zero, List.set_cons_succ])
    (refine LexW.callR (f := ?_) (args := ?_) rfl rfl (fun w1 => ?_) (fun w1 he hdep => ?_) (fun v hv => ?_); rotate_left 2; (go_simp; refine ⟨?_, ?_⟩ <;> rfl); ( refine (s_infinity p a d cap w1 (by omega)).mono ?_; rintro e w2 ⟨g, rc, rfl, ho, g2⟩; exact ⟨_, rfl, g2, g, rc, rfl, ho.mono (Nat.le_trans GY.out.size he.size)⟩); simp only [Act.put, List.setIfInBounds_toArray, List.set_cons_zero, List.set_cons_succ])
    obtain ⟨_, g31, c31, rfl, _⟩ := hv
    (refine LexW.callR (f := ?_) (args := ?_) rfl rfl (fun w1 => ?_) (fun w1 he hdep => ?_) (fun v hv => ?_); rotate_left 2; (go_simp; refine ⟨?_, ?_⟩ <;> rfl); ( obtain ⟨_, _, q31, r31⟩ : (SPred.ownS w.heap.size (d + 2) (infL d)).holds (.slice (some ⟨g31, 0, none⟩) (d + 2) c31) w1 := hdep (12, 31) (by decide +kernel); cases q31; refine (s_scale11 p _ (d + 2) c31 (infL d) M w1 (by omega) (by omega) (by omega) (by omega) r31.rd HIG.out).mono ?_; rintro e w2 ⟨g, rc, rfl, ho, g2⟩; exact ⟨_, rfl, g2, g, rc, rfl, ho.mono (Nat.le_trans GY.out.size he.size)⟩); simp only [Act.put, List.setIfInBounds_toArray, List.set_cons_zero, List.set_cons_succ])
    obtain ⟨_, g32, c32, rfl, _⟩ := hv
    (refine LexW.callR (f := ?_) (args := ?_) rfl rfl (fun w1 => ?_) (fun w1 he hdep => ?_) (fun v hv => ?_); rotate_left 2; (go_simp; refine ⟨?_, ?_⟩ <;> rfl); ( obtain ⟨_, _, q32, r32⟩ : (SPred.ownS w.heap.size (d + 2) (scaleL p (infL d) M (d + 2))).holds (.slice (some ⟨g32, 0, none⟩) (d + 2) c32) w1 := hdep (13, 32) (by decide +kernel); cases q32; refine (s_add11 p _ _ (d + 2) c5 c32 (v ++ [J, I]) (scaleL p (infL d) M (d + 2)) w1 (by omega) (by omega) (by omega) (O5.out.rd.ext he) r32.rd HOB.out (scale_good (by omega))).mono ?_; rintro e w2 ⟨g, rc, rfl, ho, g2⟩; exact ⟨_, rfl, g2, g, rc, rfl, ho.mono (Nat.le_trans GY.out.size he.size)⟩); simp only [Act.put, List.setIfInBounds_toArray, List.set_cons_zero, List.set_cons_succ])
    obtain ⟨_, g33, c33, rfl, _⟩ := hv
    (refine LexW.pure (v := ?_) rfl rfl (fun w1 he => ?_) ?_; rotate_left; ( have e1 := he.cell U0.out; have e2 := he.cell U1.out; go_simp; rfl); simp only [Act.put, List.setIfInBounds_toArray, List.set_cons_zero, List.set_cons_succ])
    refine LexW.nil (fun w3 he hkn => ?_)
    obtain ⟨_, _, q33, r33⟩ : (SPred.ownS w.heap.size (d + 2) (plusL p (v ++ [J, I]) (scaleL p (infL d) M (d + 2)) 1 (d + 2))).holds (.slice (some ⟨g33, 0, none⟩) (d + 2) c33) w3 := hkn (14, _) (by simp)
    cases q33
    have R33 := Lib.hid r33
    have HE := Lib.hid (GY.out.trans he)
    clear he hkn r33
    go_wp2_with (fail)
    go_ret
    exact ⟨_, _, rfl, by rw [← HP.out]; exact R33.out, HE.out⟩

end Go.Proofs.Ythimjfnmpicbiaa
