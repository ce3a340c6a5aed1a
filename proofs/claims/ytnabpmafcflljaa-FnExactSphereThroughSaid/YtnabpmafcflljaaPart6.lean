/-
  Contracts and plain laws, part 6: RedW, KernelS, RedK, Float2.
  No condition.
-/
import Derived.Test.YtnabpmafcflljaaPart5
import Derived.Test.YtnabpmafcflljaaPart3
import Derived.Test.YtnabpmafcflljaaPart4
/-
  Reduced bases with one more list, in the reference.
  No condition.
-/
namespace Go.Proofs.Ytnabpmafcflljaa
set_option maxRecDepth 100000
open Go.RowKit

theorem plus_scale_neg {p : Int} {x y : List Int} {k : Int} {n : Nat} : plusL p x (scaleL p y k n) (-1) n = plusL p x y (-k) n := by
  unfold plusL
  refine List.map_congr_left fun i hi => ?_
  have hi' : i < n := by simpa using hi
  unfold plusN
  rw [scaleL_nth hi', scaleN, Int.add_emod, Int.mul_emod, Int.emod_emod, ← Int.mul_emod, ← Int.add_emod]
  congr 1
  grind
set_option maxHeartbeats 400000 in
theorem s_first12 (a : Option Addr) (n cap : Nat) (xs : List Int) (w : World) (hl : n ≤ 4194303) (hx : RdC w a n xs) :
    Calls Try.prog 69 #[.slice a n cap] w fun e w' => e = .returned (.int .i64 (leadN xs)) ∧ Ext w w' := by
  have HX := Lib.hid hx
  clear hx
  go_enter Try.func69, Try.ntmps69
  go_wp2_with (fail)
  go_loopw [3] (fun i wr => ∃ k : Nat, k ≤ n ∧ i = .int .i64 k ∧ Hid (∀ j, j < k → nth xs j = 0) ∧ Ext w wr) (fun i _ => n - (intOf i).toNat)
  case atStart => exact ⟨0, Nat.zero_le _, rfl, Lib.hid (fun j hj => by omega), Ext.refl _⟩
  case round =>
    obtain ⟨k, hk, rfl, HT, hext⟩ := hrel
    by_cases hlt : k < n
    · obtain ⟨b, off, rfl, hc⟩ := HX.out.2 k hlt
      have hc' := hext.cell hc
      clear hc
      by_cases hz : nth xs k = 0
      · have HZ := Lib.hid hz
        have hzb : (nth xs k == 0) = true := by simp [hz]
        clear hz
        go_wp2_with (fail)
        go_roundw
        case rel => exact ⟨k + 1, by omega, by go_num, Lib.hid (fun j hj => by
          by_cases hjk : j = k
          · subst hjk; exact HZ.out
          · exact HT.out j (by omega)), hext⟩
        case measure => simp [intOf]; omega
      · have HZ := Lib.hid hz
        have hzb : (nth xs k == 0) = false := by simp [hz]
        clear hz
        go_wp2_with (fail)
        go_ret
        exact ⟨ret_int (by rw [leadN_eq (by rw [HX.out.1]; omega) HT.out (.inr HZ.out)]), hext⟩
    · go_wp2_with (fail)
      go_ret
      exact ⟨ret_int (by rw [leadN_eq (by rw [HX.out.1]; omega) HT.out (.inl (by rw [HX.out.1]; omega))]), hext⟩
set_option maxHeartbeats 4000000 in
set_option maxRecDepth 100000 in
theorem s_rest (p : Int) (ax : Option Addr) (n cap m : Nat) (rows : List (List Int)) (ay : Option Addr) (cy : Nat) (x : List Int) (c : Nat → Nat) (w : World) (hp1 : 3 ≤ p) (hp2 : p ≤ 13) (hm0 : 0 < m) (hm : m ≤ 4095) (hb : Basis p m rows c) (hx : RdR w ax n rows) (hy : RdC w ay m x) (hg : Good p m x) :
    Calls Try.prog 144 #[.int .i64 p, .slice ax n cap, .slice ay m cy] w fun e w' => ∃ g rc, e = .returned (.slice (some ⟨g, 0, none⟩) m rc) ∧ OwnC w.heap.size w' (some ⟨g, 0, none⟩) m rc (restL p m rows x) ∧ Ext w w' := by
  obtain ⟨by0, oy0, rfl, _⟩ := hy.2 0 hm0
  have HX := Lib.hid hx
  have HY := Lib.hid hy
  have HG := Lib.hid hg
  have HB := Lib.hid hb
  have hnm : n ≤ 4095 := by have := hb.len; have := hx.1; omega
  have HLN := Lib.hid hx.1
  clear hx hy hg hb
  go_enter Try.func144, Try.ntmps144
  go_wp2_with (fail)
  refine Calls.mono (s_own by0 oy0 m cy x w hm0 (by omega) HY.out) ?_
  rintro e w1 ⟨g1, c1, rfl, o1, x1⟩
  have HO1 := Lib.hid o1
  have X1 := Lib.hid x1
  clear o1 x1
  go_wp2_with (fail)
  go_loopw [7, 8] (fun v i wr => ∃ (k g rc : Nat), k ≤ n ∧ i = .int .i64 k ∧ v = .slice (some ⟨g, 0, none⟩) m rc ∧ Hid (OwnC w.heap.size wr (some ⟨g, 0, none⟩) m rc (restS p m rows x k)) ∧ Hid (Ext w wr)) (fun _ i _ => n - (intOf i).toNat)
  case atStart => exact ⟨0, _, _, Nat.zero_le _, rfl, rfl, HO1, X1⟩
  case round =>
    obtain ⟨k, g, rc, hk, rfl, rfl, HO, HE⟩ := hrel
    clear HO1 X1
    by_cases hlt : k < n
    · obtain ⟨b, off, ai, ci, rfl, hc, hri⟩ := HX.out.2 k hlt
      have hkl : k < rows.length := by rw [HLN.out]; exact hlt
      have hl := (HB.out.good k hkl).1
      rw [hl] at hc hri
      have HGR := Lib.hid (HB.out.good k hkl)
      have hlead : leadN (nthR rows k) < m := by rw [HB.out.leadN hkl]; exact HB.out.clt k hkl
      have hc' := HE.out.cell hc
      have HRi := Lib.hid (hri.ext HE.out)
      have HGS := Lib.hid (restS_good (rows := rows) (by omega : 1 ≤ p) HG.out k)
      have HSZ : Hid (nth (restS p m rows x k) (leadN (nthR rows k)) = 0 → restS p m rows x (k + 1) = restS p m rows x k) := Lib.hid (fun h => restS_zero (by omega) HG.out h)
      have HSN : Hid (restS p m rows x (k + 1) = plusL p (restS p m rows x k) (nthR rows k) (-(nth (restS p m rows x k) (leadN (nthR rows k)))) m) := Lib.hid rfl
      obtain ⟨S, hS⟩ : ∃ s, s = restS p m rows x k := ⟨_, rfl⟩
      rw [← hS] at HO HGS HSZ HSN
      obtain ⟨L, hL⟩ : ∃ s, s = leadN (nthR rows k) := ⟨_, rfl⟩
      have HL := Lib.hid hL.symm
      rw [← hL] at hlead HSZ HSN
      obtain ⟨u, hu⟩ : ∃ s, s = nth S L := ⟨_, rfl⟩
      have hub : 0 ≤ u ∧ u < p := by rw [hu]; exact HGS.out.2 L hlead
      rw [← hu] at HSZ HSN
      have HU := Lib.hid hu.symm
      clear hc hri hl hS hL hu
      go_wp2_with (fail)
      refine Calls.mono (s_first12 ai m ci (nthR rows k) _ (by omega) HRi.out) ?_
      rintro e w2 ⟨rfl, x2⟩
      rw [HL.out]
      have hcl := (HO.out.ext x2).cell hlead
      rw [HU.out] at hcl
      have hc2 := x2.cell hc'
      have HO2 := Lib.hid (HO.out.ext x2)
      have HE2 := Lib.hid (HE.out.trans x2)
      have HRi2 := Lib.hid (HRi.out.ext x2)
      clear x2 hc'
      by_cases hz : u = 0
      · subst hz
        have hzb : ((0 : Int) != 0) = false := by simp
        have HZ := Lib.hid (HSZ.out rfl)
        go_wp2_with (fail)
        go_roundw
        case rel => exact ⟨k + 1, g, rc, by omega, by go_num, rfl, Lib.hid (by rw [HZ.out]; exact HO2.out), HE2⟩
        case measure => simp [intOf]; omega
      · have hzb : (u != 0) = true := by simp [hz]
        go_wp2_with (fail)
        refine Calls.mono (s_scale11 p ai m ci (nthR rows k) u _ (by omega) (by omega) (by omega) (by omega) HRi2.out HGR.out) ?_
        rintro e w3 ⟨g3, c3, rfl, o3, x3⟩
        have HO3 := Lib.hid o3
        have X3 := Lib.hid x3
        clear o3 x3 hcl hc2
        go_wp2_with (fail)
        refine Calls.mono (s_minus11 p _ _ m rc c3 S (scaleL p (nthR rows k) u m) _ (by omega) (by omega) (by omega) (HO2.out.rd.ext X3.out) HO3.out.rd (fun i hi => by have := HGS.out.2 i hi; omega) (scale_good (by omega))) ?_
        rintro e w4 ⟨g4, c4, rfl, o4, x4⟩
        have HO4 := Lib.hid ((o4.mono (B' := w2.heap.size) X3.out.size).mono HE2.out.size)
        have HE4 := Lib.hid ((HE2.out.trans X3.out).trans x4)
        clear o4 x4
        go_wp2_with (fail)
        go_roundw
        case rel => exact ⟨k + 1, g4, c4, by omega, by go_num, rfl, Lib.hid (by rw [HSN.out, ← plus_scale_neg]; exact HO4.out), HE4⟩
        case measure => simp [intOf]; omega
    · obtain rfl : k = n := by omega
      go_wp2_with (fail)
      go_ret
      exact ⟨_, _, rfl, by rw [restL, HLN.out]; exact HO.out, HE.out⟩
set_option maxHeartbeats 16000000 in
set_option maxRecDepth 100000 in
theorem s_put12 (p : Int) (ax : Option Addr) (n cap m : Nat) (rows : List (List Int)) (ay : Option Addr) (cy : Nat) (x : List Int) (c : Nat → Nat) (B : Nat) (w : World) (hpr : primeB p = true) (hm0 : 0 < m) (hm : m ≤ 4095) (hb : Basis p m rows c) (hB : B ≤ w.heap.size) (hx : RdO B w ax n rows) (hy : RdC w ay m x) (hg : Good p m x) :
    Calls Try.prog 115 #[.int .i64 p, .slice ax n cap, .slice ay m cy] w fun e w' => ∃ ra rn rc, e = .returned (.slice ra rn rc) ∧ (ra = ax ∨ ∃ g, ra = some ⟨g, 0, none⟩) ∧ RdO B w' ra rn (putL p m rows x) ∧ Ext w w' := by
  have hpb := prime_bd hpr
  have HX := Lib.hid hx
  have HY := Lib.hid hy
  have HG := Lib.hid hg
  have HB := Lib.hid hb
  have hnm : n ≤ 4095 := by have := hb.len; have := hx.1; omega
  have HLN := Lib.hid hx.1
  have HPR := Lib.hid hpr
  clear hx hy hg hb hpr
  go_enter Try.func115, Try.ntmps115
  go_wp2_with (fail)
  refine Calls.mono (s_rest p ax n cap m rows ay cy x c w (by omega) (by omega) hm0 hm HB.out HX.out.rd HY.out HG.out) ?_
  rintro e w1 ⟨gR, cR, rfl, o1, x1⟩
  have HPL : Hid (putL p m rows x = if leadN (restL p m rows x) = m then rows else putP p m rows (oneL p m (restL p m rows x)) (leadN (restL p m rows x)) (insQ rows (leadN (restL p m rows x))) (rows.length + 1)) := Lib.hid rfl
  have HGR0 : Hid (Good p m (restL p m rows x)) := Lib.hid (restS_good (by omega) HG.out _)
  obtain ⟨R, hR⟩ : ∃ s, s = restL p m rows x := ⟨_, rfl⟩
  rw [← hR] at HPL o1 HGR0
  have HO1 := Lib.hid o1
  have X1 := Lib.hid x1
  clear o1 x1 hR
  go_wp2_with (fail)
  refine Calls.mono (s_first12 _ m cR R _ (by omega) HO1.out.rd) ?_
  rintro e w2 ⟨rfl, x2⟩
  have HO2 := Lib.hid (HO1.out.ext x2)
  have X2 := Lib.hid (X1.out.trans x2)
  have htm : leadN R ≤ m := by have := leadN_le R; rw [HGR0.out.1] at this; exact this
  have HTN : Hid (leadN R ≠ m → nth R (leadN R) ≠ 0) := Lib.hid (fun h => leadN_ne (by rw [HGR0.out.1]; omega))
  obtain ⟨t, ht⟩ : ∃ s, s = leadN R := ⟨_, rfl⟩
  rw [← ht] at HPL htm HTN ⊢
  have HT := Lib.hid ht.symm
  clear x2 ht
  by_cases hz : t = m
  · subst hz
    have HP2 := Lib.hid (HPL.out.trans (if_pos rfl))
    go_wp2_with (fail)
    go_ret
    exact ⟨_, _, _, rfl, .inl rfl, by rw [HP2.out]; exact HX.out.ext X2.out, X2.out⟩
  have htl : t < m := by omega
  have hzi : ¬ (t : Int) = (m : Int) := by omega
  have HP2 := Lib.hid (HPL.out.trans (if_neg hz))
  have hub := HGR0.out.2 t htl
  have hun := HTN.out hz
  have hct := HO2.out.cell htl
  obtain ⟨y, hy⟩ : ∃ s, s = nth R t := ⟨_, rfl⟩
  rw [← hy] at hub hun hct
  have HYv := Lib.hid hy
  obtain ⟨iv, hiv⟩ : ∃ s, s = invN p y := ⟨_, rfl⟩
  have HIV := Lib.hid hiv
  have hib : 0 ≤ iv ∧ iv < p := by rw [hiv]; exact invN_bd (by omega)
  clear hy hiv
  go_wp2_with (fail)
  refine Calls.mono (s_inv p y _ HPR.out (by omega) (by omega)) ?_
  rintro e w3 ⟨rfl, x3⟩
  rw [← HIV.out]
  have HO3 := Lib.hid (HO2.out.ext x3)
  have X3 := Lib.hid (X2.out.trans x3)
  clear x3 hct
  go_wp2_with (fail)
  refine Calls.mono (s_scale11 p _ m cR R iv _ (by omega) (by omega) (by omega) (by omega) HO3.out.rd HGR0.out) ?_
  rintro e w4 ⟨gr, cr, rfl, o4, x4⟩
  have HON : Hid (scaleL p R iv m = oneL p m R) := Lib.hid (by rw [HIV.out, HYv.out, ← HT.out]; rfl)
  rw [HON.out] at o4
  have HGr : Hid (Good p m (oneL p m R)) := Lib.hid (scale_good (by omega))
  obtain ⟨r, hr⟩ : ∃ s, s = oneL p m R := ⟨_, rfl⟩
  rw [← hr] at HGr HP2 o4
  have HR4 := Lib.hid ((o4.mono X3.out.size).mono hB)
  have X4 := Lib.hid (X3.out.trans x4)
  obtain ⟨q, hq⟩ : ∃ s, s = insQ rows t := ⟨_, rfl⟩
  have hqn : q ≤ n := by rw [hq, ← HLN.out]; exact insQ_le _ _
  have HQI : Hid (∀ i, i < n → (t < leadN (nthR rows i) ↔ q ≤ i)) := Lib.hid (fun i hi => by rw [hq, HB.out.leadN (by rw [HLN.out]; exact hi)]; exact insQ_iff HB.out t (by rw [HLN.out]; exact hi))
  rw [← hq, HLN.out] at HP2
  clear o4 x4 hr hq HON HIV HYv HT HTN HPL HO1 HO2 HO3 X1 X2 X3 HGR0 hun hub hib
  go_wp2_with (fail)
  obtain ⟨W3, hW3⟩ : ∃ s, s = w4.alloc (.cells #[] 22) := ⟨_, rfl⟩
  have hz3 : w4.heap.size < W3.heap.size := by rw [hW3]; simp
  have G3 : Hid (Ext w4 W3) := Lib.hid (by rw [hW3]; exact ext_alloc _ _)
  have HW3 := Lib.hid hW3
  rw [← hW3]
  clear hW3
  have hBW : B ≤ W3.heap.size := Nat.le_trans hB (Nat.le_trans X4.out.size G3.out.size)
  have HRr := Lib.hid (HR4.out.ext G3.out)
  go_loopw [9, 10, 11] (fun v f i wr => ∃ (k k2 g rc : Nat), k ≤ n ∧ i = .int .i64 k ∧ k2 = k + (if q < k then 1 else 0) ∧ v = .slice (some ⟨g, 0, none⟩) k2 rc ∧ f = .bool (decide (q < k)) ∧ Hid (OwnXC B W3.heap.size wr (some ⟨g, 0, none⟩) k2 rc (putP p m rows r t q k2)) ∧ Hid (Ext W3 wr)) (fun _ _ i _ => n - (intOf i).toNat)
  case atStart => exact ⟨0, 0, _, 0, Nat.zero_le _, rfl, by simp, rfl, by simp, Lib.hid (.inl ⟨rfl, rfl, rfl, _, rfl, hz3⟩), Lib.hid (Ext.refl _)⟩
  case round =>
    obtain ⟨k, k2, g, rc, hk, rfl, hk2, rfl, rfl, HO, HE⟩ := hrel
    by_cases hlt : k < n
    · obtain ⟨b, off, ai, ci, rfl, hc, hri⟩ := HX.out.2 k hlt
      have hkl : k < rows.length := by rw [HLN.out]; exact hlt
      have hl := (HB.out.good k hkl).1
      rw [hl] at hc hri
      have HGR := Lib.hid (HB.out.good k hkl)
      have hut : 0 ≤ nth (nthR rows k) t ∧ nth (nthR rows k) t < p := HGR.out.2 t htl
      obtain ⟨bi, oi, rfl, hcb⟩ := hri.rd.2 t htl
      have HQk := Lib.hid (HQI.out k hlt)
      have HU : Hid (∀ j, j ≠ q → (if j < q then j else j - 1) = k → putN p m rows r t q j = plusL p (nthR rows k) r (-(nth (nthR rows k) t)) m) := Lib.hid (fun j hj h => by
        unfold putN
        by_cases h1 : j < q
        · rw [if_pos h1] at h ⊢; rw [h]
        · rw [if_neg h1] at h ⊢; rw [if_neg hj, h])
      obtain ⟨u, hu⟩ : ∃ s, s = nth (nthR rows k) t := ⟨_, rfl⟩
      rw [← hu] at hut hcb HU
      have HC0 := Lib.hid ((X4.out.trans G3.out).cell hc)
      have HCb0 := Lib.hid ((X4.out.trans G3.out).cell hcb)
      have HRi0 := Lib.hid (hri.rd.ext (X4.out.trans G3.out))
      clear hc hri hl hu hcb
      by_cases hqk : q < k
      · have hqd : decide (q < k) = true := by simpa using hqk
        have hkk : k2 = k + 1 := by rw [hk2, if_pos hqk]
        subst hkk
        have hcx := HE.out.cell HC0.out
        have HEn := HE
        rename World => wr
        go_wp2_with (fail)
        clear hcx hqd hk2
        have HCA := Lib.hid ((HEn.out.trans (ext_drew wr)).cell HC0.out)
        have HCB := Lib.hid ((HEn.out.trans (ext_drew wr)).cell HCb0.out)
        have HRiw := Lib.hid (HRi0.out.ext (HEn.out.trans (ext_drew wr)))
        have HRw := Lib.hid (HRr.out.ext (HEn.out.trans (ext_drew wr)))
        refine wp_region_lex_tail1 17 [(15, .ownS wr.drew.heap.size m (scaleL p r u m)), (16, .ownS wr.drew.heap.size m (plusL p (nthR rows k) (scaleL p r u m) (-1) m))] (.slice (some ⟨g, 0, none⟩) (k + 1) rc) (by kernel_rfl) (by kernel_rfl) rfl rfl (fun w1 => by go_simp) ?_
        simp only [List.take, List.drop]
        simp only [Act.put, List.setIfInBounds_toArray, List.set_cons_zero, List.set_cons_succ]
        (refine LexW.pure (v := ?_) rfl rfl (fun w1 he => ?_) ?_; rotate_left; ( have e1 := he.cell HCA.out; have e2 := he.cell HCB.out; go_simp; rfl); simp only [Act.put, List.setIfInBounds_toArray, List.set_cons_zero, List.set_cons_succ])
        (refine LexW.pure (v := ?_) rfl rfl (fun w1 he => ?_) ?_; rotate_left; ( have e1 := he.cell HCA.out; have e2 := he.cell HCB.out; go_simp; rfl); simp only [Act.put, List.setIfInBounds_toArray, List.set_cons_zero, List.set_cons_succ])
        (refine LexW.pure (v := ?_) rfl rfl (fun w1 he => ?_) ?_; rotate_left; ( have e1 := he.cell HCA.out; have e2 := he.cell HCB.out; go_simp; rfl); simp only [Act.put, List.setIfInBounds_toArray, List.set_cons_zero, List.set_cons_succ])
        (refine LexW.pure (v := ?_) rfl rfl (fun w1 he => ?_) ?_; rotate_left; ( have e1 := he.cell HCA.out; have e2 := he.cell HCB.out; go_simp; rfl); simp only [Act.put, List.setIfInBounds_toArray, List.set_cons_zero, List.set_cons_succ])
        (refine LexW.pure (v := ?_) rfl rfl (fun w1 he => ?_) ?_; rotate_left; ( have e1 := he.cell HCA.out; have e2 := he.cell HCB.out; go_simp; rfl); simp only [Act.put, List.setIfInBounds_toArray, List.set_cons_zero, List.set_cons_succ])
        (refine LexW.pure (v := ?_) rfl rfl (fun w1 he => ?_) ?_; rotate_left; ( have e1 := he.cell HCA.out; have e2 := he.cell HCB.out; go_simp; rfl); simp only [Act.put, List.setIfInBounds_toArray, List.set_cons_zero, List.set_cons_succ])
        (refine LexW.pure (v := ?_) rfl rfl (fun w1 he => ?_) ?_; rotate_left; ( have e1 := he.cell HCA.out; have e2 := he.cell HCB.out; go_simp; rfl); simp only [Act.put, List.setIfInBounds_toArray, List.set_cons_zero, List.set_cons_succ])
        (refine LexW.pure (v := ?_) rfl rfl (fun w1 he => ?_) ?_; rotate_left; ( have e1 := he.cell HCA.out; have e2 := he.cell HCB.out; go_simp; rfl); simp only [Act.put, List.setIfInBounds_toArray, List.set_cons_zero, List.set_cons_succ])
        (refine LexW.pure (v := ?_) rfl rfl (fun w1 he => ?_) ?_; rotate_left; ( have e1 := he.cell HCA.out; have e2 := he.cell HCB.out; go_simp; rfl); simp only [Act.put, List.setIfInBounds_toArray, List.set_cons_zero, List.set_cons_succ])
        (refine LexW.pure (v := ?_) rfl rfl (fun w1 he => ?_) ?_; rotate_left; ( have e1 := he.cell HCA.out; have e2 := he.cell HCB.out; go_simp; rfl); simp only [Act.put, List.setIfInBounds_toArray, List.set_cons_zero, List.set_cons_succ])
        (refine LexW.pure (v := ?_) rfl rfl (fun w1 he => ?_) ?_; rotate_left; ( have e1 := he.cell HCA.out; have e2 := he.cell HCB.out; go_simp; rfl); simp only [Act.put, List.setIfInBounds_toArray, List.set_cons_zero, List.set_cons_succ])
        (refine LexW.pure (v := ?_) rfl rfl (fun w1 he => ?_) ?_; rotate_left; ( have e1 := he.cell HCA.out; have e2 := he.cell HCB.out; go_simp; rfl); simp only [Act.put, List.setIfInBounds_toArray, List.set_cons_zero, List.set_cons_succ])
        (refine LexW.pure (v := ?_) rfl rfl (fun w1 he => ?_) ?_; rotate_left; ( have e1 := he.cell HCA.out; have e2 := he.cell HCB.out; go_simp; rfl); simp only [Act.put, List.setIfInBounds_toArray, List.set_cons_zero, List.set_cons_succ])
        (refine LexW.pure (v := ?_) rfl rfl (fun w1 he => ?_) ?_; rotate_left; ( have e1 := he.cell HCA.out; have e2 := he.cell HCB.out; go_simp; rfl); simp only [Act.put, List.setIfInBounds_toArray, List.set_cons_zero, List.set_cons_succ])
        (refine LexW.callR (f := ?_) (args := ?_) rfl rfl (fun w1 => ?_) (fun w1 he hdep => ?_) (fun v hv => ?_); rotate_left 2; (go_simp; refine ⟨?_, ?_⟩ <;> rfl); ( refine (s_scale11 p (some ⟨gr, 0, none⟩) m cr r u w1 (by omega) (by omega) (by omega) (by omega) (HRw.out.rd.ext he) HGr.out).mono ?_; rintro e w2 ⟨g, rc, rfl, ho, g2⟩; exact ⟨_, rfl, g2, g, rc, rfl, ho.mono he.size⟩); simp only [Act.put, List.setIfInBounds_toArray, List.set_cons_zero, List.set_cons_succ])
        obtain ⟨_, g69, c69, rfl, _⟩ := hv
        (refine LexW.callR (f := ?_) (args := ?_) rfl rfl (fun w1 => ?_) (fun w1 he hdep => ?_) (fun v hv => ?_); rotate_left 2; (go_simp; refine ⟨?_, ?_⟩ <;> rfl); ( obtain ⟨_, _, q69, r69⟩ : (SPred.ownS wr.drew.heap.size m (scaleL p r u m)).holds (.slice (some ⟨g69, 0, none⟩) m c69) w1 := hdep (15, 69) (by decide +kernel); cases q69; refine (s_minus11 p (some ⟨bi, oi, none⟩) _ m ci c69 (nthR rows k) (scaleL p r u m) w1 (by omega) (by omega) (by omega) (HRiw.out.ext he) r69.rd (fun i hi => by have := HGR.out.2 i hi; omega) (scale_good (by omega))).mono ?_; rintro e w2 ⟨g, rc, rfl, ho, g2⟩; exact ⟨_, rfl, g2, g, rc, rfl, ho.mono he.size⟩); simp only [Act.put, List.setIfInBounds_toArray, List.set_cons_zero, List.set_cons_succ])
        obtain ⟨_, g70, c70, rfl, _⟩ := hv
        refine LexW.nil (fun w3 he hkn => ?_)
        obtain ⟨_, _, q70, r70⟩ : (SPred.ownS wr.drew.heap.size m (plusL p (nthR rows k) (scaleL p r u m) (-1) m)).holds (.slice (some ⟨g70, 0, none⟩) m c70) w3 := hkn (16, _) (by simp)
        cases q70
        have R70 := Lib.hid r70
        have HZ := Lib.hid he
        clear he hkn r70
        have HG70 := Lib.hid (show Good p m (plusL p (nthR rows k) (scaleL p r u m) (-1) m) from plus_good (by omega))
        have HZ2 := Lib.hid ((ext_drew wr).trans HZ.out)
        have R70b : Hid (OwnC B _ (some ⟨g70, 0, none⟩) m c70 (plusL p (nthR rows k) (scaleL p r u m) (-1) m)) := Lib.hid (R70.out.mono (Nat.le_trans hBW (HEn.out.trans (ext_drew wr)).size))
        rename World => w9
        go_wp2_with (at_builtin; refine wpList_appendX rfl (.tmp 54) (.tmp 71) rfl (C := B) (B := W3.heap.size) (rows2 := [plusL p (nthR rows k) (scaleL p r u m) (-1) m]) (us := [.slice (some ⟨g70, 0, none⟩) m c70]) (m := 1) rfl rfl ((HO.out.ext HZ2.out).ext (ext_alloc _ _)) rfl rfl ?hc ?hx (by omega) (by omega) (by omega) ?hb ?hk)
        case hc =>
          intro j v hj
          match j, hj with
          | 0, hj => simp only [List.getElem?_cons_zero, Option.some.injEq] at hj; subst hj; simp
        case hx =>
          intro i hi
          obtain rfl : i = 0 := by omega
          refine ⟨(some ⟨g70, 0, none⟩), c70, ?_, ?_⟩
          · show _ = some (Value.slice _ (plusL p (nthR rows k) (scaleL p r u m) (-1) m).length _)
            rw [HG70.out.1]; rfl
          · show OwnC _ _ _ (plusL p (nthR rows k) (scaleL p r u m) (-1) m).length _ (plusL p (nthR rows k) (scaleL p r u m) (-1) m)
            rw [HG70.out.1]
            exact R70b.out.ext (ext_alloc _ _)
        case hb => exact Nat.le_trans HEn.out.size (Nat.le_trans HZ2.out.size (ext_alloc _ _).size)
        case hk =>
          intro g5 c5 w5 row ho5 _ _ _ he5
          have HE5 := Lib.hid (he5 W3 (Nat.le_refl _) ((HEn.out.trans HZ2.out).alloc _))
          have HO5 := Lib.hid ho5
          clear ho5 he5
          go_wp2_with (fail)
          refine strictQ_normal ?_
          go_wp2_with (fail)
          go_roundw
          case rel => exact ⟨k + 1, k + 2, g5, c5, by omega, by go_num, (by rw [if_pos (by omega)]), rfl, by simp; omega, Lib.hid (by rw [putP_succ, HU.out _ (by omega) (by rw [if_neg (by omega)]; omega), ← plus_scale_neg]; exact .inr HO5.out), HE5⟩
          case measure => simp [intOf]; omega
      · have hqd : decide (q < k) = false := by simpa using hqk
        have hkk : k2 = k := by rw [hk2, if_neg hqk]; rfl
        subst hkk
        have hcx := HE.out.cell HC0.out
        have HRif := Lib.hid (HRi0.out.ext HE.out)
        obtain ⟨L, hL⟩ : ∃ s, s = leadN (nthR rows k2) := ⟨_, rfl⟩
        have HL := Lib.hid hL.symm
        rw [← hL] at HQk
        clear hL hk2
        go_wp2_with (fail)
        refine Calls.mono (s_first12 _ m ci (nthR rows k2) _ (by omega) HRif.out) ?_
        rintro e w6 ⟨rfl, x6⟩
        rw [HL.out]
        have XW := Lib.hid x6
        clear x6 hcx
        by_cases hqe : q ≤ k2
        · obtain rfl : q = k2 := by omega
          have hgt : t < L := HQk.out.2 (Nat.le_refl _)
          have hgi : (t : Int) < (L : Int) := by omega
          have hgd : decide ((t : Int) < (L : Int)) = true := by simpa using hgi
          go_wp2_with (at_builtin; refine wpList_appendX rfl (.tmp 50) (.tmp 52) rfl (C := B) (B := W3.heap.size) (rows2 := [r]) (us := [.slice (some ⟨gr, 0, none⟩) m cr]) (m := 1) rfl rfl ((HO.out.ext XW.out).ext (ext_alloc _ _)) rfl rfl ?hc ?hx (by omega) (by omega) (by omega) ?hb ?hk)
          case hc =>
            intro j v hj
            match j, hj with
            | 0, hj => simp only [List.getElem?_cons_zero, Option.some.injEq] at hj; subst hj; simp
          case hx =>
            intro i hi
            obtain rfl : i = 0 := by omega
            refine ⟨(some ⟨gr, 0, none⟩), cr, ?_, ?_⟩
            · show _ = some (Value.slice _ r.length _)
              rw [HGr.out.1]; rfl
            · show OwnC _ _ _ r.length _ r
              rw [HGr.out.1]
              exact (HRr.out.ext (HE.out.trans XW.out)).ext (ext_alloc _ _)
          case hb => exact Nat.le_trans HE.out.size (Nat.le_trans XW.out.size (ext_alloc _ _).size)
          case hk =>
            intro gq cq w5 row ho5 _ _ _ he5
            have HEn := Lib.hid (he5 W3 (Nat.le_refl _) ((HE.out.trans XW.out).alloc _))
            have HO7 := Lib.hid (show OwnXC B W3.heap.size w5 (some ⟨gq, 0, none⟩) (q + 1) cq (putP p m rows r t q (q + 1)) by rw [putP_succ, show putN p m rows r t q q = r by rw [putN, if_neg (Nat.lt_irrefl _), if_pos rfl]]; exact .inr ho5)
            clear ho5 he5 hqd hgd hgi
            go_wp2_with (fail)
            have HCA := Lib.hid ((HEn.out.trans (ext_drew w5)).cell HC0.out)
            have HCB := Lib.hid ((HEn.out.trans (ext_drew w5)).cell HCb0.out)
            have HRiw := Lib.hid (HRi0.out.ext (HEn.out.trans (ext_drew w5)))
            have HRw := Lib.hid (HRr.out.ext (HEn.out.trans (ext_drew w5)))
            refine wp_region_lex_tail1 17 [(15, .ownS w5.drew.heap.size m (scaleL p r u m)), (16, .ownS w5.drew.heap.size m (plusL p (nthR rows q) (scaleL p r u m) (-1) m))] (.slice (some ⟨gq, 0, none⟩) (q + 1) cq) (by kernel_rfl) (by kernel_rfl) rfl rfl (fun w1 => by go_simp) ?_
            simp only [List.take, List.drop]
            simp only [Act.put, List.setIfInBounds_toArray, List.set_cons_zero, List.set_cons_succ]
            (refine LexW.pure (v := ?_) rfl rfl (fun w1 he => ?_) ?_; rotate_left; ( have e1 := he.cell HCA.out; have e2 := he.cell HCB.out; go_simp; rfl); simp only [Act.put, List.setIfInBounds_toArray, List.set_cons_zero, List.set_cons_succ])
            (refine LexW.pure (v := ?_) rfl rfl (fun w1 he => ?_) ?_; rotate_left; ( have e1 := he.cell HCA.out; have e2 := he.cell HCB.out; go_simp; rfl); simp only [Act.put, List.setIfInBounds_toArray, List.set_cons_zero, List.set_cons_succ])
            (refine LexW.pure (v := ?_) rfl rfl (fun w1 he => ?_) ?_; rotate_left; ( have e1 := he.cell HCA.out; have e2 := he.cell HCB.out; go_simp; rfl); simp only [Act.put, List.setIfInBounds_toArray, List.set_cons_zero, List.set_cons_succ])
            (refine LexW.pure (v := ?_) rfl rfl (fun w1 he => ?_) ?_; rotate_left; ( have e1 := he.cell HCA.out; have e2 := he.cell HCB.out; go_simp; rfl); simp only [Act.put, List.setIfInBounds_toArray, List.set_cons_zero, List.set_cons_succ])
            (refine LexW.pure (v := ?_) rfl rfl (fun w1 he => ?_) ?_; rotate_left; ( have e1 := he.cell HCA.out; have e2 := he.cell HCB.out; go_simp; rfl); simp only [Act.put, List.setIfInBounds_toArray, List.set_cons_zero, List.set_cons_succ])
            (refine LexW.pure (v := ?_) rfl rfl (fun w1 he => ?_) ?_; rotate_left; ( have e1 := he.cell HCA.out; have e2 := he.cell HCB.out; go_simp; rfl); simp only [Act.put, List.setIfInBounds_toArray, List.set_cons_zero, List.set_cons_succ])
            (refine LexW.pure (v := ?_) rfl rfl (fun w1 he => ?_) ?_; rotate_left; ( have e1 := he.cell HCA.out; have e2 := he.cell HCB.out; go_simp; rfl); simp only [Act.put, List.setIfInBounds_toArray, List.set_cons_zero, List.set_cons_succ])
            (refine LexW.pure (v := ?_) rfl rfl (fun w1 he => ?_) ?_; rotate_left; ( have e1 := he.cell HCA.out; have e2 := he.cell HCB.out; go_simp; rfl); simp only [Act.put, List.setIfInBounds_toArray, List.set_cons_zero, List.set_cons_succ])
            (refine LexW.pure (v := ?_) rfl rfl (fun w1 he => ?_) ?_; rotate_left; ( have e1 := he.cell HCA.out; have e2 := he.cell HCB.out; go_simp; rfl); simp only [Act.put, List.setIfInBounds_toArray, List.set_cons_zero, List.set_cons_succ])
            (refine LexW.pure (v := ?_) rfl rfl (fun w1 he => ?_) ?_; rotate_left; ( have e1 := he.cell HCA.out; have e2 := he.cell HCB.out; go_simp; rfl); simp only [Act.put, List.setIfInBounds_toArray, List.set_cons_zero, List.set_cons_succ])
            (refine LexW.pure (v := ?_) rfl rfl (fun w1 he => ?_) ?_; rotate_left; ( have e1 := he.cell HCA.out; have e2 := he.cell HCB.out; go_simp; rfl); simp only [Act.put, List.setIfInBounds_toArray, List.set_cons_zero, List.set_cons_succ])
            (refine LexW.pure (v := ?_) rfl rfl (fun w1 he => ?_) ?_; rotate_left; ( have e1 := he.cell HCA.out; have e2 := he.cell HCB.out; go_simp; rfl); simp only [Act.put, List.setIfInBounds_toArray, List.set_cons_zero, List.set_cons_succ])
            (refine LexW.pure (v := ?_) rfl rfl (fun w1 he => ?_) ?_; rotate_left; ( have e1 := he.cell HCA.out; have e2 := he.cell HCB.out; go_simp; rfl); simp only [Act.put, List.setIfInBounds_toArray, List.set_cons_zero, List.set_cons_succ])
            (refine LexW.pure (v := ?_) rfl rfl (fun w1 he => ?_) ?_; rotate_left; ( have e1 := he.cell HCA.out; have e2 := he.cell HCB.out; go_simp; rfl); simp only [Act.put, List.setIfInBounds_toArray, List.set_cons_zero, List.set_cons_succ])
            (refine LexW.callR (f := ?_) (args := ?_) rfl rfl (fun w1 => ?_) (fun w1 he hdep => ?_) (fun v hv => ?_); rotate_left 2; (go_simp; refine ⟨?_, ?_⟩ <;> rfl); ( refine (s_scale11 p (some ⟨gr, 0, none⟩) m cr r u w1 (by omega) (by omega) (by omega) (by omega) (HRw.out.rd.ext he) HGr.out).mono ?_; rintro e w2 ⟨g, rc, rfl, ho, g2⟩; exact ⟨_, rfl, g2, g, rc, rfl, ho.mono he.size⟩); simp only [Act.put, List.setIfInBounds_toArray, List.set_cons_zero, List.set_cons_succ])
            obtain ⟨_, g69, c69, rfl, _⟩ := hv
            (refine LexW.callR (f := ?_) (args := ?_) rfl rfl (fun w1 => ?_) (fun w1 he hdep => ?_) (fun v hv => ?_); rotate_left 2; (go_simp; refine ⟨?_, ?_⟩ <;> rfl); ( obtain ⟨_, _, q69, r69⟩ : (SPred.ownS w5.drew.heap.size m (scaleL p r u m)).holds (.slice (some ⟨g69, 0, none⟩) m c69) w1 := hdep (15, 69) (by decide +kernel); cases q69; refine (s_minus11 p (some ⟨bi, oi, none⟩) _ m ci c69 (nthR rows q) (scaleL p r u m) w1 (by omega) (by omega) (by omega) (HRiw.out.ext he) r69.rd (fun i hi => by have := HGR.out.2 i hi; omega) (scale_good (by omega))).mono ?_; rintro e w2 ⟨g, rc, rfl, ho, g2⟩; exact ⟨_, rfl, g2, g, rc, rfl, ho.mono he.size⟩); simp only [Act.put, List.setIfInBounds_toArray, List.set_cons_zero, List.set_cons_succ])
            obtain ⟨_, g70, c70, rfl, _⟩ := hv
            refine LexW.nil (fun w3 he hkn => ?_)
            obtain ⟨_, _, q70, r70⟩ : (SPred.ownS w5.drew.heap.size m (plusL p (nthR rows q) (scaleL p r u m) (-1) m)).holds (.slice (some ⟨g70, 0, none⟩) m c70) w3 := hkn (16, _) (by simp)
            cases q70
            have R70 := Lib.hid r70
            have HZ := Lib.hid he
            clear he hkn r70
            have HG70 := Lib.hid (show Good p m (plusL p (nthR rows q) (scaleL p r u m) (-1) m) from plus_good (by omega))
            have HZ2 := Lib.hid ((ext_drew w5).trans HZ.out)
            have R70b : Hid (OwnC B _ (some ⟨g70, 0, none⟩) m c70 (plusL p (nthR rows q) (scaleL p r u m) (-1) m)) := Lib.hid (R70.out.mono (Nat.le_trans hBW (HEn.out.trans (ext_drew w5)).size))
            rename World => w9
            go_wp2_with (at_builtin; refine wpList_appendX rfl (.tmp 54) (.tmp 71) rfl (C := B) (B := W3.heap.size) (rows2 := [plusL p (nthR rows q) (scaleL p r u m) (-1) m]) (us := [.slice (some ⟨g70, 0, none⟩) m c70]) (m := 1) rfl rfl ((HO7.out.ext HZ2.out).ext (ext_alloc _ _)) rfl rfl ?hc ?hx (by omega) (by omega) (by omega) ?hb ?hk)
            case hc =>
              intro j v hj
              match j, hj with
              | 0, hj => simp only [List.getElem?_cons_zero, Option.some.injEq] at hj; subst hj; simp
            case hx =>
              intro i hi
              obtain rfl : i = 0 := by omega
              refine ⟨(some ⟨g70, 0, none⟩), c70, ?_, ?_⟩
              · show _ = some (Value.slice _ (plusL p (nthR rows q) (scaleL p r u m) (-1) m).length _)
                rw [HG70.out.1]; rfl
              · show OwnC _ _ _ (plusL p (nthR rows q) (scaleL p r u m) (-1) m).length _ (plusL p (nthR rows q) (scaleL p r u m) (-1) m)
                rw [HG70.out.1]
                exact R70b.out.ext (ext_alloc _ _)
            case hb => exact Nat.le_trans HEn.out.size (Nat.le_trans HZ2.out.size (ext_alloc _ _).size)
            case hk =>
              intro g5 c5 w5 row ho5 _ _ _ he5
              have HE5 := Lib.hid (he5 W3 (Nat.le_refl _) ((HEn.out.trans HZ2.out).alloc _))
              have HO5 := Lib.hid ho5
              clear ho5 he5
              go_wp2_with (fail)
              refine strictQ_normal ?_
              go_wp2_with (fail)
              go_roundw
              case rel => exact ⟨q + 1, q + 2, g5, c5, by omega, by go_num, (by rw [if_pos (by omega)]), rfl, by simp, Lib.hid (by rw [putP_succ, HU.out _ (by omega) (by rw [if_neg (by omega)]; omega), ← plus_scale_neg]; exact .inr HO5.out), HE5⟩
              case measure => simp [intOf]; omega
        · have hle : ¬ t < L := fun h => hqe (HQk.out.1 h)
          have hgd : decide ((t : Int) < (L : Int)) = false := by simp; omega
          have HOless := Lib.hid (HO.out.ext XW.out)
          have HEn := Lib.hid (HE.out.trans XW.out)
          go_wp2_with (fail)
          clear hqd hgd
          have HCA := Lib.hid ((HEn.out.trans (ext_drew w6)).cell HC0.out)
          have HCB := Lib.hid ((HEn.out.trans (ext_drew w6)).cell HCb0.out)
          have HRiw := Lib.hid (HRi0.out.ext (HEn.out.trans (ext_drew w6)))
          have HRw := Lib.hid (HRr.out.ext (HEn.out.trans (ext_drew w6)))
          refine wp_region_lex_tail1 17 [(15, .ownS w6.drew.heap.size m (scaleL p r u m)), (16, .ownS w6.drew.heap.size m (plusL p (nthR rows k2) (scaleL p r u m) (-1) m))] (.slice (some ⟨g, 0, none⟩) k2 rc) (by kernel_rfl) (by kernel_rfl) rfl rfl (fun w1 => by go_simp) ?_
          simp only [List.take, List.drop]
          simp only [Act.put, List.setIfInBounds_toArray, List.set_cons_zero, List.set_cons_succ]
          (refine LexW.pure (v := ?_) rfl rfl (fun w1 he => ?_) ?_; rotate_left; ( have e1 := he.cell HCA.out; have e2 := he.cell HCB.out; go_simp; rfl); simp only [Act.put, List.setIfInBounds_toArray, List.set_cons_zero, List.set_cons_succ])
          (refine LexW.pure (v := ?_) rfl rfl (fun w1 he => ?_) ?_; rotate_left; ( have e1 := he.cell HCA.out; have e2 := he.cell HCB.out; go_simp; rfl); simp only [Act.put, List.setIfInBounds_toArray, List.set_cons_zero, List.set_cons_succ])
          (refine LexW.pure (v := ?_) rfl rfl (fun w1 he => ?_) ?_; rotate_left; ( have e1 := he.cell HCA.out; have e2 := he.cell HCB.out; go_simp; rfl); simp only [Act.put, List.setIfInBounds_toArray, List.set_cons_zero, List.set_cons_succ])
          (refine LexW.pure (v := ?_) rfl rfl (fun w1 he => ?_) ?_; rotate_left; ( have e1 := he.cell HCA.out; have e2 := he.cell HCB.out; go_simp; rfl); simp only [Act.put, List.setIfInBounds_toArray, List.set_cons_zero, List.set_cons_succ])
          (refine LexW.pure (v := ?_) rfl rfl (fun w1 he => ?_) ?_; rotate_left; ( have e1 := he.cell HCA.out; have e2 := he.cell HCB.out; go_simp; rfl); simp only [Act.put, List.setIfInBounds_toArray, List.set_cons_zero, List.set_cons_succ])
          (refine LexW.pure (v := ?_) rfl rfl (fun w1 he => ?_) ?_; rotate_left; ( have e1 := he.cell HCA.out; have e2 := he.cell HCB.out; go_simp; rfl); simp only [Act.put, List.setIfInBounds_toArray, List.set_cons_zero, List.set_cons_succ])
          (refine LexW.pure (v := ?_) rfl rfl (fun w1 he => ?_) ?_; rotate_left; ( have e1 := he.cell HCA.out; have e2 := he.cell HCB.out; go_simp; rfl); simp only [Act.put, List.setIfInBounds_toArray, List.set_cons_zero, List.set_cons_succ])
          (refine LexW.pure (v := ?_) rfl rfl (fun w1 he => ?_) ?_; rotate_left; ( have e1 := he.cell HCA.out; have e2 := he.cell HCB.out; go_simp; rfl); simp only [Act.put, List.setIfInBounds_toArray, List.set_cons_zero, List.set_cons_succ])
          (refine LexW.pure (v := ?_) rfl rfl (fun w1 he => ?_) ?_; rotate_left; ( have e1 := he.cell HCA.out; have e2 := he.cell HCB.out; go_simp; rfl); simp only [Act.put, List.setIfInBounds_toArray, List.set_cons_zero, List.set_cons_succ])
          (refine LexW.pure (v := ?_) rfl rfl (fun w1 he => ?_) ?_; rotate_left; ( have e1 := he.cell HCA.out; have e2 := he.cell HCB.out; go_simp; rfl); simp only [Act.put, List.setIfInBounds_toArray, List.set_cons_zero, List.set_cons_succ])
          (refine LexW.pure (v := ?_) rfl rfl (fun w1 he => ?_) ?_; rotate_left; ( have e1 := he.cell HCA.out; have e2 := he.cell HCB.out; go_simp; rfl); simp only [Act.put, List.setIfInBounds_toArray, List.set_cons_zero, List.set_cons_succ])
          (refine LexW.pure (v := ?_) rfl rfl (fun w1 he => ?_) ?_; rotate_left; ( have e1 := he.cell HCA.out; have e2 := he.cell HCB.out; go_simp; rfl); simp only [Act.put, List.setIfInBounds_toArray, List.set_cons_zero, List.set_cons_succ])
          (refine LexW.pure (v := ?_) rfl rfl (fun w1 he => ?_) ?_; rotate_left; ( have e1 := he.cell HCA.out; have e2 := he.cell HCB.out; go_simp; rfl); simp only [Act.put, List.setIfInBounds_toArray, List.set_cons_zero, List.set_cons_succ])
          (refine LexW.pure (v := ?_) rfl rfl (fun w1 he => ?_) ?_; rotate_left; ( have e1 := he.cell HCA.out; have e2 := he.cell HCB.out; go_simp; rfl); simp only [Act.put, List.setIfInBounds_toArray, List.set_cons_zero, List.set_cons_succ])
          (refine LexW.callR (f := ?_) (args := ?_) rfl rfl (fun w1 => ?_) (fun w1 he hdep => ?_) (fun v hv => ?_); rotate_left 2; (go_simp; refine ⟨?_, ?_⟩ <;> rfl); ( refine (s_scale11 p (some ⟨gr, 0, none⟩) m cr r u w1 (by omega) (by omega) (by omega) (by omega) (HRw.out.rd.ext he) HGr.out).mono ?_; rintro e w2 ⟨g, rc, rfl, ho, g2⟩; exact ⟨_, rfl, g2, g, rc, rfl, ho.mono he.size⟩); simp only [Act.put, List.setIfInBounds_toArray, List.set_cons_zero, List.set_cons_succ])
          obtain ⟨_, g69, c69, rfl, _⟩ := hv
          (refine LexW.callR (f := ?_) (args := ?_) rfl rfl (fun w1 => ?_) (fun w1 he hdep => ?_) (fun v hv => ?_); rotate_left 2; (go_simp; refine ⟨?_, ?_⟩ <;> rfl); ( obtain ⟨_, _, q69, r69⟩ : (SPred.ownS w6.drew.heap.size m (scaleL p r u m)).holds (.slice (some ⟨g69, 0, none⟩) m c69) w1 := hdep (15, 69) (by decide +kernel); cases q69; refine (s_minus11 p (some ⟨bi, oi, none⟩) _ m ci c69 (nthR rows k2) (scaleL p r u m) w1 (by omega) (by omega) (by omega) (HRiw.out.ext he) r69.rd (fun i hi => by have := HGR.out.2 i hi; omega) (scale_good (by omega))).mono ?_; rintro e w2 ⟨g, rc, rfl, ho, g2⟩; exact ⟨_, rfl, g2, g, rc, rfl, ho.mono he.size⟩); simp only [Act.put, List.setIfInBounds_toArray, List.set_cons_zero, List.set_cons_succ])
          obtain ⟨_, g70, c70, rfl, _⟩ := hv
          refine LexW.nil (fun w3 he hkn => ?_)
          obtain ⟨_, _, q70, r70⟩ : (SPred.ownS w6.drew.heap.size m (plusL p (nthR rows k2) (scaleL p r u m) (-1) m)).holds (.slice (some ⟨g70, 0, none⟩) m c70) w3 := hkn (16, _) (by simp)
          cases q70
          have R70 := Lib.hid r70
          have HZ := Lib.hid he
          clear he hkn r70
          have HG70 := Lib.hid (show Good p m (plusL p (nthR rows k2) (scaleL p r u m) (-1) m) from plus_good (by omega))
          have HZ2 := Lib.hid ((ext_drew w6).trans HZ.out)
          have R70b : Hid (OwnC B _ (some ⟨g70, 0, none⟩) m c70 (plusL p (nthR rows k2) (scaleL p r u m) (-1) m)) := Lib.hid (R70.out.mono (Nat.le_trans hBW (HEn.out.trans (ext_drew w6)).size))
          rename World => w9
          go_wp2_with (at_builtin; refine wpList_appendX rfl (.tmp 54) (.tmp 71) rfl (C := B) (B := W3.heap.size) (rows2 := [plusL p (nthR rows k2) (scaleL p r u m) (-1) m]) (us := [.slice (some ⟨g70, 0, none⟩) m c70]) (m := 1) rfl rfl ((HOless.out.ext HZ2.out).ext (ext_alloc _ _)) rfl rfl ?hc ?hx (by omega) (by omega) (by omega) ?hb ?hk)
          case hc =>
            intro j v hj
            match j, hj with
            | 0, hj => simp only [List.getElem?_cons_zero, Option.some.injEq] at hj; subst hj; simp
          case hx =>
            intro i hi
            obtain rfl : i = 0 := by omega
            refine ⟨(some ⟨g70, 0, none⟩), c70, ?_, ?_⟩
            · show _ = some (Value.slice _ (plusL p (nthR rows k2) (scaleL p r u m) (-1) m).length _)
              rw [HG70.out.1]; rfl
            · show OwnC _ _ _ (plusL p (nthR rows k2) (scaleL p r u m) (-1) m).length _ (plusL p (nthR rows k2) (scaleL p r u m) (-1) m)
              rw [HG70.out.1]
              exact R70b.out.ext (ext_alloc _ _)
          case hb => exact Nat.le_trans HEn.out.size (Nat.le_trans HZ2.out.size (ext_alloc _ _).size)
          case hk =>
            intro g5 c5 w5 row ho5 _ _ _ he5
            have HE5 := Lib.hid (he5 W3 (Nat.le_refl _) ((HEn.out.trans HZ2.out).alloc _))
            have HO5 := Lib.hid ho5
            clear ho5 he5
            go_wp2_with (fail)
            refine strictQ_normal ?_
            go_wp2_with (fail)
            go_roundw
            case rel => exact ⟨k2 + 1, k2 + 1, g5, c5, by omega, by go_num, (by rw [if_neg (by omega)]), rfl, by simp; omega, Lib.hid (by rw [putP_succ, HU.out _ (by omega) (by rw [if_pos (by omega)]), ← plus_scale_neg]; exact .inr HO5.out), HE5⟩
            case measure => simp [intOf]; omega
    · obtain rfl : k = n := by omega
      by_cases hqk : q < k
      · have hqd : decide (q < k) = true := by simpa using hqk
        have hkk : k2 = k + 1 := by rw [hk2, if_pos hqk]
        subst hkk
        go_wp2_with (fail)
        go_ret
        exact ⟨_, _, _, rfl, .inr ⟨_, rfl⟩, by rw [HP2.out]; exact HO.out.ro, (X4.out.trans G3.out).trans HE.out⟩
      · have hqd : decide (q < k) = false := by simpa using hqk
        have hkk : k2 = k := by rw [hk2, if_neg hqk]; rfl
        subst hkk
        have hqe : q = k2 := by omega
        have HQE := Lib.hid hqe
        rename World => wr
        have XW := Lib.hid (Ext.refl wr)
        clear hqe hk2 hqk hk
        go_wp2_with (at_builtin; refine wpList_appendX rfl (.tmp 75) (.tmp 77) rfl (C := B) (B := W3.heap.size) (rows2 := [r]) (us := [.slice (some ⟨gr, 0, none⟩) m cr]) (m := 1) rfl rfl ((HO.out.ext XW.out).ext (ext_alloc _ _)) rfl rfl ?hc ?hx (by omega) (by omega) (by omega) ?hb ?hk)
        case hc =>
          intro j v hj
          match j, hj with
          | 0, hj => simp only [List.getElem?_cons_zero, Option.some.injEq] at hj; subst hj; simp
        case hx =>
          intro i hi
          obtain rfl : i = 0 := by omega
          refine ⟨(some ⟨gr, 0, none⟩), cr, ?_, ?_⟩
          · show _ = some (Value.slice _ r.length _)
            rw [HGr.out.1]; rfl
          · show OwnC _ _ _ r.length _ r
            rw [HGr.out.1]
            exact (HRr.out.ext (HE.out.trans XW.out)).ext (ext_alloc _ _)
        case hb => exact Nat.le_trans HE.out.size (Nat.le_trans XW.out.size (ext_alloc _ _).size)
        case hk =>
          intro gq cq w5 row ho5 _ _ _ he5
          have HEn := Lib.hid (he5 W3 (Nat.le_refl _) ((HE.out.trans XW.out).alloc _))
          have HO7 := Lib.hid (show OwnXC B W3.heap.size w5 (some ⟨gq, 0, none⟩) (k2 + 1) cq (putP p m rows r t q (k2 + 1)) by rw [putP_succ, show putN p m rows r t q k2 = r by rw [putN, if_neg (by have := HQE.out; omega), if_pos HQE.out.symm]]; exact .inr ho5)
          clear ho5 he5 hqd
          go_wp2_with (fail)
          go_ret
          exact ⟨_, _, _, rfl, .inr ⟨_, rfl⟩, by rw [HP2.out]; exact HO7.out.ro, (X4.out.trans G3.out).trans HEn.out⟩
set_option maxHeartbeats 4000000 in
set_option maxRecDepth 100000 in
theorem s_reduced12 (p : Int) (ax : Option Addr) (n cap m : Nat) (lists : List (List Int)) (w : World) (hpr : primeB p = true) (hm0 : 0 < m) (hm : m ≤ 4095) (hn : n ≤ 4194303) (hx : RdR w ax n lists) (hg : RowsG p m lists) :
    Calls Try.prog 68 #[.int .i64 p, .slice ax n cap] w fun e w' => ∃ g rn rc, e = .returned (.slice (some ⟨g, 0, none⟩) rn rc) ∧ RdO w.heap.size w' (some ⟨g, 0, none⟩) rn (basisL p m lists) ∧ Ext w w' := by
  have HX := Lib.hid hx
  have HG := Lib.hid hg
  have HRO : Hid (∀ k, k ≤ n → ∃ c, Basis p m (redS p m lists k) c) := Lib.hid (fun k hk => (redS_ok hpr hg k (by rw [hx.1]; exact hk)).1)
  have HRB : Hid (redS p m lists n = basisL p m lists) := Lib.hid (by rw [← hx.1]; exact redS_basis hpr hg)
  have HPR := Lib.hid hpr
  have HLN := Lib.hid hx.1
  clear hx hg hpr
  go_enter Try.func68, Try.ntmps68
  go_wp2_with (fail)
  go_loopw [5, 6] (fun v i wr => ∃ (k n2 rc gr : Nat), k ≤ n ∧ i = .int .i64 k ∧ v = .slice (some ⟨gr, 0, none⟩) n2 rc ∧ Hid (RdO w.heap.size wr (some ⟨gr, 0, none⟩) n2 (redS p m lists k)) ∧ Hid (Ext w wr)) (fun _ i _ => n - (intOf i).toNat)
  case atStart => exact ⟨0, 0, _, _, Nat.zero_le _, rfl, rfl, Lib.hid (RdO.nil _ _ _), Lib.hid (ext_alloc _ _)⟩
  case round =>
    obtain ⟨k, n2, rc, gr, hk, rfl, rfl, HO, HE⟩ := hrel
    by_cases hlt : k < n
    · obtain ⟨b, off, ai, ci, rfl, hc, hri⟩ := HX.out.2 k hlt
      have HGR := Lib.hid (HG.out k (by rw [HLN.out]; exact hlt))
      rw [HGR.out.1] at hc hri
      have hc' := HE.out.cell hc
      have HRi := Lib.hid (hri.ext HE.out)
      obtain ⟨c, hb⟩ := HRO.out k hk
      have HB := Lib.hid hb
      clear hc hri hb
      go_wp2_with (fail)
      refine Calls.mono (s_put12 p (some ⟨gr, 0, none⟩) n2 rc m (redS p m lists k) ai ci (nthR lists k) c w.heap.size _ HPR.out hm0 hm HB.out HE.out.size HO.out HRi.out HGR.out) ?_
      rintro e w2 ⟨ra2, n3, rc2, rfl, hform, o2, x2⟩
      obtain ⟨g2, rfl⟩ : ∃ g, ra2 = some ⟨g, 0, none⟩ := by
        rcases hform with h | h
        · exact ⟨_, h⟩
        · exact h
      have HO2 : Hid (RdO w.heap.size w2 (some ⟨g2, 0, none⟩) n3 (redS p m lists (k + 1))) := Lib.hid o2
      have HE2 := Lib.hid (HE.out.trans x2)
      clear o2 x2 hc'
      go_wp2_with (fail)
      go_roundw
      case rel => exact ⟨k + 1, n3, rc2, g2, by omega, by go_num, rfl, HO2, HE2⟩
      case measure => simp [intOf]; omega
    · obtain rfl : k = n := by omega
      go_wp2_with (fail)
      go_ret
      exact ⟨_, _, _, rfl, by rw [← HRB.out]; exact HO.out, HE.out⟩
end Go.Proofs.Ytnabpmafcflljaa

/-
  Kernels: contract of the reference.
  No condition.
-/
namespace Go.Proofs.Ytnabpmafcflljaa
set_option maxRecDepth 100000
open Go.RowKit

/-- The places of the first numbers of the first k rows. -/
def pivL (red : List (List Int)) (k : Nat) : List Int := (List.range k).map fun i => ((leadN (nthR red i) : Nat) : Int)
theorem pivL_len (red : List (List Int)) (k : Nat) : (pivL red k).length = k := by simp [pivL]
theorem pivL_succ (red : List (List Int)) (k : Nat) : pivL red (k + 1) = pivL red k ++ [((leadN (nthR red k) : Nat) : Int)] := by simp [pivL, List.range_succ]
theorem pivL_nth {red : List (List Int)} {k i : Nat} (h : i < k) : nth (pivL red k) i = ((leadN (nthR red i) : Nat) : Int) := by
  unfold pivL; rw [nth_map (by simpa using h)]; simp
def inL (xs : List Int) (v : Int) : Bool := (List.range xs.length).any fun i => nth xs i == v
theorem inL_at {xs : List Int} {v : Int} {k : Nat} (hk : k < xs.length) (h : nth xs k = v) : inL xs v = true := by
  unfold inL
  rw [List.any_eq_true]
  exact ⟨k, List.mem_range.2 hk, by simp [h]⟩
theorem inL_none {xs : List Int} {v : Int} (h : ∀ k, k < xs.length → nth xs k ≠ v) : inL xs v = false := by
  unfold inL
  rw [List.any_eq_false]
  intro k hk
  simpa using h k (List.mem_range.1 hk)
theorem inL_piv {red : List (List Int)} {t : Nat} : inL (pivL red red.length) t = (pivIx red t).isSome := by
  cases h : pivIx red t with
  | none => exact inL_none (fun k hk => by rw [pivL_len] at hk; rw [pivL_nth hk]; have := pivIx_none h k hk; omega)
  | some i =>
    obtain ⟨h1, h2⟩ := pivIx_some h
    exact inL_at (k := i) (by rw [pivL_len]; exact h1) (by rw [pivL_nth h1]; omega)
/-- The vector when the first i rows have been gone through. -/
def kerF (p : Int) (red : List (List Int)) (f i t : Nat) : Int := if t = f then 1 else match pivIx red t with | some j => if j < i then (-(nth (nthR red j) f)) % p else 0 | none => 0
def kerI (p : Int) (n : Nat) (red : List (List Int)) (f i : Nat) : List Int := (List.range n).map (kerF p red f i)
theorem kerI_len (p : Int) (n : Nat) (red : List (List Int)) (f i : Nat) : (kerI p n red f i).length = n := by simp [kerI]
theorem kerI_nth {p : Int} {n : Nat} {red : List (List Int)} {f i t : Nat} (h : t < n) : nth (kerI p n red f i) t = kerF p red f i t := by
  unfold kerI; rw [nth_map (by simpa using h)]; simp
theorem kerI_zero {p : Int} {n : Nat} {red : List (List Int)} {f : Nat} (hf : f < n) : kerI p n red f 0 = bladeL n f := by
  refine ext_nth (by rw [kerI_len, bladeL_len]) (fun t ht => ?_)
  rw [kerI_len] at ht
  rw [kerI_nth ht, bladeL_nth hf ht]
  unfold kerF
  by_cases h : t = f
  · rw [if_pos h, if_pos h.symm]
  · rw [if_neg h, if_neg (fun e => h e.symm)]
    cases hp : pivIx red t with
    | none => rfl
    | some i => simp only [Nat.not_lt_zero, if_false]
theorem kerI_all {p : Int} {n : Nat} {red : List (List Int)} {f : Nat} : kerI p n red f red.length = kerV p n red f := by
  unfold kerI kerV
  refine List.map_congr_left fun t _ => ?_
  unfold kerF kerN
  cases hp : pivIx red t with
  | none => rfl
  | some i => simp only [(pivIx_some hp).1, if_true]
theorem kerI_step {p : Int} {m n : Nat} {red : List (List Int)} {c : Nat → Nat} (hb : Basis p m red c) {f i : Nat} (hi : i < red.length) (hx : leadN (nthR red i) < n) (hf : pivIx red f = none) :
    kerI p n red f (i + 1) = (kerI p n red f i).set (leadN (nthR red i)) ((-(nth (nthR red i) f)) % p) := by
  have hpi : pivIx red (leadN (nthR red i)) = some i := by rw [hb.leadN hi]; exact hb.piv hi
  have hne : leadN (nthR red i) ≠ f := fun e => by rw [e, hf] at hpi; cases hpi
  refine ext_nth (by rw [kerI_len, List.length_set, kerI_len]) (fun t ht => ?_)
  rw [kerI_len] at ht
  rw [kerI_nth ht, nth_set (by rw [kerI_len]; exact hx)]
  by_cases h : t = leadN (nthR red i)
  · subst h
    rw [if_pos rfl]
    unfold kerF
    rw [if_neg hne, hpi]
    simp only [Nat.lt_succ_self, if_true]
  · rw [if_neg (fun e => h e.symm), kerI_nth ht]
    unfold kerF
    by_cases htf : t = f
    · rw [if_pos htf, if_pos htf]
    · rw [if_neg htf, if_neg htf]
      cases hp : pivIx red t with
      | none => rfl
      | some j =>
        obtain ⟨h1, h2⟩ := pivIx_some hp
        have hji : j ≠ i := fun e => h (by rw [← h2, e])
        by_cases hlt : j < i
        · simp only [hlt, show j < i + 1 by omega, if_true]
        · simp only [hlt, show ¬ j < i + 1 by omega, if_false]
theorem neg_mod (p x : Int) : (p - x) % p = (-x) % p := by rw [show p - x = -x + p by omega, Int.add_emod_right]

set_option maxHeartbeats 400000 in
theorem s_index (a : Option Addr) (n cap : Nat) (xs : List Int) (v : Int) (w : World) (hl : n ≤ 4194303) (hx : RdC w a n xs) :
    Calls Try.prog 116 #[.slice a n cap, .int .i64 v] w fun e w' => ∃ r : Int, (e = .returned (.int .i64 r) ∧ (inL xs v = true ↔ 0 ≤ r)) ∧ Ext w w' := by
  have HX := Lib.hid hx
  clear hx
  go_enter Try.func116, Try.ntmps116
  go_wp2_with (fail)
  go_loopw [5] (fun i wr => ∃ k : Nat, k ≤ n ∧ i = .int .i64 k ∧ Hid (∀ j, j < k → nth xs j ≠ v) ∧ Ext w wr) (fun i _ => n - (intOf i).toNat)
  case atStart => exact ⟨0, Nat.zero_le _, rfl, Lib.hid (fun j hj => by omega), Ext.refl _⟩
  case round =>
    obtain ⟨k, hk, rfl, HT, hext⟩ := hrel
    by_cases hlt : k < n
    · obtain ⟨b, off, rfl, hc⟩ := HX.out.2 k hlt
      have hc' := hext.cell hc
      clear hc
      by_cases hz : nth xs k = v
      · have HZ := Lib.hid hz
        have hzb : (nth xs k == v) = true := by simp [hz]
        clear hz
        go_wp2_with (fail)
        go_ret
        have hi := inL_at (v := v) (by rw [HX.out.1]; exact hlt) HZ.out
        exact ⟨(k : Int), ⟨rfl, by rw [hi]; simp⟩, hext⟩
      · have HZ := Lib.hid hz
        have hzb : (nth xs k == v) = false := by simp [hz]
        clear hz
        go_wp2_with (fail)
        go_roundw
        case rel => exact ⟨k + 1, by omega, by go_num, Lib.hid (fun j hj => by
          by_cases hjk : j = k
          · subst hjk; exact HZ.out
          · exact HT.out j (by omega)), hext⟩
        case measure => simp [intOf]; omega
    · go_wp2_with (fail)
      go_ret
      have hi := inL_none (xs := xs) (v := v) (fun k' hk' => HT.out k' (by rw [HX.out.1] at hk'; omega))
      exact ⟨-1, ⟨rfl, by rw [hi]; simp⟩, hext⟩
set_option maxHeartbeats 400000 in
theorem s_has (a : Option Addr) (n cap : Nat) (xs : List Int) (v : Int) (w : World) (hl : n ≤ 4194303) (hx : RdC w a n xs) :
    Calls Try.prog 70 #[.slice a n cap, .int .i64 v] w fun e w' => e = .returned (.bool (inL xs v)) ∧ Ext w w' := by
  go_enter Try.func70, Try.ntmps70
  go_wp2_with (go_at_call 116; refine (s_index _ _ _ _ _ _ hl hx).mono ?_; rintro e w1 ⟨r, ⟨rfl, hr⟩, g1⟩)
  go_ret
  refine ⟨ret_bool ?_, g1⟩
  rw [Bool.eq_iff_iff, hr]
  simp

set_option maxHeartbeats 8000000 in
set_option maxRecDepth 100000 in
theorem s_kernel (p : Int) (a : Option Addr) (m cap n : Nat) (rows : List (List Int)) (w : World) (hpr : primeB p = true) (hm0 : 0 < m) (hn : 0 < n) (hn2 : n ≤ 4095) (hm : m ≤ 4095) (hx : RdR w a m rows) (hg : RowsG p n rows) :
    Calls Try.prog 43 #[.int .i64 p, .slice a m cap] w fun e w' => ∃ g rc, e = .returned (.slice (some ⟨g, 0, none⟩) (kernL p n rows).length rc) ∧ OwnR w.heap.size w' (some ⟨g, 0, none⟩) (kernL p n rows).length rc (kernL p n rows) ∧ Ext w w' := by
  have hpb := prime_bd hpr
  have hpz : ¬ p = 0 := by omega
  obtain ⟨cc, hbas⟩ := basis_red hpr hg
  have HPR := Lib.hid hpr
  have HX := Lib.hid hx
  have HG := Lib.hid hg
  obtain ⟨b0, off0, a0, c0, rfl, hc0, _⟩ := hx.2 0 hm0
  rw [(hg 0 (by rw [hx.1]; exact hm0)).1, Nat.add_zero] at hc0
  have HC0 := Lib.hid ((ext_drew w).cell hc0)
  obtain ⟨red, hred⟩ : ∃ red, red = basisL p n rows := ⟨_, rfl⟩
  have HBas := Lib.hid (show Basis p n red cc by rw [hred]; exact hbas)
  have HRed := Lib.hid hred
  have HKL := Lib.hid (show kernL p n rows = basisL p n (kerR p n red n) by unfold kernL; rw [hred])
  have hrl : red.length ≤ 4095 := by have := HBas.out.len; omega
  clear hx hg hbas hpr hred hc0
  go_enter Try.func43, Try.ntmps43
  go_wp2_with (fail)
  refine wp_region_lex [(2, .ownR w.heap.size red.length red)] (by kernel_rfl) (by kernel_rfl) ?_
  (refine LexW.pure (v := ?_) rfl rfl (fun w1 he => ?_) ?_; rotate_left; ( go_simp; rfl); simp only [Act.put, List.setIfInBounds_toArray, List.set_cons_zero, List.set_cons_succ])
  (refine LexW.pure (v := ?_) rfl rfl (fun w1 he => ?_) ?_; rotate_left; ( go_simp; rfl); simp only [Act.put, List.setIfInBounds_toArray, List.set_cons_zero, List.set_cons_succ])
  (refine LexW.callR (f := ?_) (args := ?_) rfl rfl (fun w1 => ?_) (fun w1 he hdep => ?_) (fun v hv => ?_); rotate_left 2; (go_simp; refine ⟨?_, ?_⟩ <;> rfl); ( refine (s_basis p _ m cap n rows w1 HPR.out hn (by omega) (by omega) (HX.out.ext ((ext_drew w).trans he)) HG.out).mono ?_; rintro e w2 ⟨g, rc, r, rfl, ho, g2⟩; rw [← HRed.out] at ho; obtain rfl := ho.len; exact ⟨_, rfl, g2, g, rc, rfl, ho.mono (Nat.le_trans (ext_drew w).size he.size)⟩); simp only [Act.put, List.setIfInBounds_toArray, List.set_cons_zero, List.set_cons_succ])
  obtain ⟨_, gb, cb, rfl, _⟩ := hv
  repeat' first | (refine LexW.pure (v := ?_) rfl rfl (fun w1 he => ?_) ?_; rotate_left; ( have e1 := he.cell HC0.out; go_simp; rfl); simp only [Act.put, List.setIfInBounds_toArray, List.set_cons_zero, List.set_cons_succ])
  refine LexW.nil (fun w3 he hkn => ?_)
  obtain ⟨_, _, q15, r15⟩ : (SPred.ownR w.heap.size red.length red).holds (.slice (some ⟨gb, 0, none⟩) red.length cb) w3 := hkn (2, _) (by simp)
  cases q15
  have HOb := Lib.hid r15
  have GW := Lib.hid ((ext_drew w).trans he)
  clear he hkn r15
  rename World => w1
  go_wp2_with (fail)
  go_loopw [7, 9] (fun v i wr => ∃ (k g rc : Nat), k ≤ red.length ∧ i = .int .i64 k ∧ v = .slice (some ⟨g, 0, none⟩) k rc ∧ OwnC w1.heap.size wr (some ⟨g, 0, none⟩) k rc (pivL red k) ∧ Ext w1 wr) (fun _ i _ => red.length - (intOf i).toNat)
  case atStart => exact ⟨0, _, _, Nat.zero_le _, rfl, rfl, (own_empty w1).ext (ext_alloc _ _), (ext_alloc _ _).alloc _⟩
  case round =>
    obtain ⟨k, gp, rp, hk, rfl, rfl, hown, hext⟩ := hrel
    have HOwn := Lib.hid hown
    have HExt := Lib.hid hext
    clear hown hext
    by_cases hlt : k < red.length
    · obtain ⟨aj, cj, hcj, hoj⟩ := HOb.out.at hlt
      have hjl := (HBas.out.good k hlt).1
      rw [hjl] at hcj hoj
      have hcj' := HExt.out.cell hcj
      have HOj := Lib.hid (hoj.rd.ext HExt.out)
      have hll : leadN (nthR red k) < n := by rw [HBas.out.leadN hlt]; exact HBas.out.clt k hlt
      have HFi := Lib.hid (show firstL (nthR red k) = ((leadN (nthR red k) : Nat) : Int) by unfold firstL; rw [if_neg (by rw [hjl]; omega)])
      obtain ⟨L, hL⟩ : ∃ L, L = leadN (nthR red k) := ⟨_, rfl⟩
      rw [← hL] at HFi
      have HL := Lib.hid hL
      clear hcj hoj hjl hL hll
      go_wp2_with (first
        | (go_at_call 80; refine (s_first aj n cj (nthR red k) _ (by omega) HOj.out).mono ?_; rintro e w2 ⟨rfl, g2⟩; rw [HFi.out]; have G2 := Lib.hid g2; clear g2)
        | (at_builtin; refine wpList_push rfl (.tmp 28) (.tmp 34) rfl rfl rfl (v := (L : Int)) (HOwn.out.ext (G2.out.trans (ext_alloc _ _))) ?hc ?hn ?hB ?hk))
      case hc => simp
      case hn => omega
      case hB => have hz := (HExt.out.trans G2.out).size'; simp; omega
      case hk =>
        intro g' cap' w3 ho3 hg3 he3
        have HO3 := Lib.hid ho3
        have HE3 := Lib.hid (he3 w1 (Nat.le_refl _) ((HExt.out.trans G2.out).alloc _))
        clear ho3 hg3 he3
        go_wp2_with (fail)
        go_roundw
        case rel => exact ⟨k + 1, g', cap', by omega, by go_num, rfl, by rw [pivL_succ, ← HL.out]; exact HO3.out, HE3.out⟩
        case measure => simp [intOf]; omega
    · obtain rfl : k = red.length := by omega
      have HPv := HOwn
      have X2 := HExt
      have HRd := Lib.hid (HOb.out.ext X2.out)
      have G2 := Lib.hid (GW.out.trans X2.out)
      clear HOwn HExt HOb
      rename World => wM
      go_wp2_with (fail)
      go_loopw [8, 10] (fun v i wq => ∃ (f g rc : Nat), f ≤ n ∧ i = .int .i64 f ∧ v = .slice (some ⟨g, 0, none⟩) (kerR p n red f).length rc ∧ OwnW wM.heap.size wq (some ⟨g, 0, none⟩) (kerR p n red f).length rc (kerR p n red f) ∧ Ext wM wq) (fun _ i _ => n - (intOf i).toNat)
      case atStart => exact ⟨0, _, _, Nat.zero_le _, rfl, rfl, OwnW.start _ _ _, Ext.refl _⟩
      case round =>
        obtain ⟨f, g, rc, hf, rfl, rfl, hown, hext⟩ := hrel
        rename World => wq
        have HOwn := Lib.hid hown
        have HExt := Lib.hid hext
        clear hown hext
        have hkl := kerR_len p n red f
        by_cases hlf : f < n
        · have hpiv := @inL_piv red f
          cases hp : pivIx red f with
          | some j =>
            rw [hp] at hpiv
            have HK := Lib.hid (kerR_no (p := p) (n := n) hp)
            have HIn : Hid (inL (pivL red red.length) f = true) := Lib.hid hpiv
            clear hp hpiv
            go_wp2_with (go_at_call 70; refine (s_has _ _ _ _ _ _ (by omega) (HPv.out.rd.ext HExt.out)).mono ?_; rintro e w4 ⟨rfl, g4⟩; rw [HIn.out]; have HE4 := Lib.hid (HExt.out.trans g4); have HO4 : Hid (OwnW wM.heap.size w4 (some ⟨g, 0, none⟩) (kerR p n red f).length rc (kerR p n red f)) := Lib.hid (by
              rcases HOwn.out with h | h
              · exact .inl h
              · exact .inr (h.ext g4)); clear g4)
            go_roundw
            case rel => exact ⟨f + 1, g, rc, by omega, by go_num, by rw [HK.out], by rw [HK.out]; exact HO4.out, HE4.out⟩
            case measure => simp [intOf]; omega
          | none =>
            rw [hp] at hpiv
            have HK := Lib.hid (kerR_yes (p := p) (n := n) hp)
            have HP := Lib.hid hp
            have HIn : Hid (inL (pivL red red.length) f = false) := Lib.hid hpiv
            clear hp hpiv
            go_wp2_with (go_at_call 70; refine (s_has _ _ _ _ _ _ (by omega) (HPv.out.rd.ext HExt.out)).mono ?_; rintro e w4 ⟨rfl, g4⟩; rw [HIn.out]; have HE4 := Lib.hid g4; clear g4)
            obtain ⟨w5, hmk, ho5, he5⟩ := make_ints w4 n (by omega)
            obtain ⟨g0, hg0⟩ : ∃ g, g = w4.heap.size := ⟨_, rfl⟩
            rw [← hg0] at hmk ho5
            have hge4 : w4.heap.size ≤ g0 := by omega
            have hge : wq.heap.size ≤ g0 := by have := HE4.out.size'; omega
            have HO5 := Lib.hid (ho5.mono hge4)
            have HE5 := Lib.hid (HE4.out.trans he5)
            have hcg := ho5.cell hlf
            have hfz := ho5.frozen f
            clear ho5 he5 hg0
            rw [hmk]
            go_wp2_with (fail)
            have X5 := Lib.hid (HE5.out.setCell (p := ⟨g0, f, none⟩) hge (.int .i64 1))
            have HOs := Lib.hid ((HO5.out.store hlf 1).mono HE4.out.size)
            clear hcg hfz hmk
            go_loopw [12] (fun i wz => ∃ (j : Nat), j ≤ red.length ∧ i = .int .i64 j ∧ OwnC wq.heap.size wz (some ⟨g0, 0, none⟩) n n (kerI p n red f j) ∧ Ext wq wz) (fun i _ => red.length - (intOf i).toNat)
            case atStart => exact ⟨0, Nat.zero_le _, rfl, by rw [kerI_zero hlf]; exact HOs.out, X5.out⟩
            case round =>
              obtain ⟨i, hi, rfl, hown, hext⟩ := hrel
              rename World => wz
              have HOz := Lib.hid hown
              have HEz := Lib.hid hext
              clear hown hext
              by_cases hli : i < red.length
              · have hjl := (HBas.out.good i hli).1
                have hlt : leadN (nthR red i) < n := by rw [HBas.out.leadN hli]; exact HBas.out.clt i hli
                have hbd := (HBas.out.good i hli).2 f hlf
                obtain ⟨ai, ci, hci, hoi⟩ := HRd.out.at hli
                rw [hjl] at hci hoi
                have HSt := Lib.hid (kerI_step (p := p) (n := n) HBas.out hli hlt HP.out)
                obtain ⟨bj, oj, rfl, hcm⟩ := hoi.rd.2 f (by omega)
                have hpc := HPv.out.cell hli
                rw [pivL_nth hli] at hpc
                have E7 := Lib.hid (HExt.out.trans (HEz.out.trans (ext_drew wz)))
                have HCi := Lib.hid (E7.out.cell hci)
                have HCm := Lib.hid (E7.out.cell hcm)
                have HPc := Lib.hid (E7.out.cell hpc)
                obtain ⟨u, hu⟩ : ∃ u, u = nth (nthR red i) f := ⟨_, rfl⟩
                rw [← hu] at HCm hbd HSt
                obtain ⟨L, hL⟩ : ∃ L, L = leadN (nthR red i) := ⟨_, rfl⟩
                rw [← hL] at hlt HSt HPc
                have hw1 : IntKind.i64.wrap (p - u) = p - u := IntWalk.i64_in _ (by omega)
                obtain ⟨Z, hZ⟩ : ∃ Z, Z = (-u) % p := ⟨_, rfl⟩
                have hw2 : (p - u).tmod p = Z := by rw [hZ, ← neg_mod]; exact Int.tmod_eq_emod_of_nonneg (by omega)
                rw [← hZ] at HSt
                clear hci hoi hcm hpc hjl hL hu hZ
                go_wp2_with (fail)
                refine wp_region_lex_tail 17 [] (by kernel_rfl) (by kernel_rfl) ?_
                simp only [List.take, List.drop]
                repeat' first | (refine LexW.pure (v := ?_) rfl rfl (fun w1 he => ?_) ?_; rotate_left; ( have e1 := he.cell HCi.out; have e2 := he.cell HCm.out; have e3 := he.cell HPc.out; go_simp; rfl); simp only [Act.put, List.setIfInBounds_toArray, List.set_cons_zero, List.set_cons_succ])
                refine LexW.nil (fun w8 he hkn => ?_)
                have X8 := Lib.hid ((ext_drew wz).trans he)
                clear he hkn
                have HO8 := Lib.hid (HOz.out.ext X8.out)
                have hcg := HO8.out.cell hlt
                have hfz := HO8.out.frozen L
                go_wp2_with (fail)
                go_roundw
                case rel => exact ⟨i + 1, by omega, by go_num, by rw [HSt.out]; exact HO8.out.store hlt _, (HEz.out.trans X8.out).setCell hge _⟩
                case measure => simp [intOf]; omega
              · obtain rfl : i = red.length := by omega
                have HKE := Lib.hid (kerI_all (p := p) (n := n) (red := red) (f := f))
                go_wp2_with (at_builtin; refine wpList_pushRW (w0 := wq) rfl (.tmp 72) (.tmp 74) rfl rfl rfl HOwn.out (HEz.out.trans (ext_alloc _ _)) (xs := kerV p n red f) (by rw [← HKE.out]; exact HOz.out.ext (ext_alloc _ _)) ?hc (by omega) HExt.out.size ?hk)
                case hc => exact cell_new _ _ rfl _ _
                case hk =>
                  intro g' cap' w9 ho9 he9
                  have HO9 := Lib.hid ho9
                  have HE9 := Lib.hid (he9 wM (Nat.le_refl _) ((HExt.out.trans HEz.out).alloc _))
                  clear ho9 he9
                  go_wp2_with (fail)
                  go_roundw
                  case rel => exact ⟨f + 1, g', cap', by omega, by go_num, by rw [HK.out, List.length_append]; rfl, by rw [HK.out, List.length_append]; exact .inr HO9.out, HE9.out⟩
                  case measure => simp [intOf]; omega
        · obtain rfl : f = n := by omega
          have HCnt := Lib.hid (kernL_cnt (n := f) (rows := rows) HPR.out)
          go_wp2_with (first
            | (go_at_call 79; refine (s_basis p (some ⟨g, 0, none⟩) (kerR p f red f).length rc f (kerR p f red f) _ HPR.out hn (by omega) (by omega) HOwn.out.rd (kerR_good (by omega))).mono ?_; rintro e w8 ⟨g8, c8, r, rfl, ho8, x8⟩; rw [← HKL.out] at ho8; obtain rfl := ho8.len; have HO8 := Lib.hid ho8; have X8 := Lib.hid x8; clear ho8 x8)
            | (go_at_call 81; refine (s_own2 _ _ _ f (kernL p f rows) _ hn (by omega) (by have := HCnt.out.1; omega) (fun i hi => (HCnt.out.2 i hi).1) HO8.out.rd).mono ?_; rintro e w9 ⟨g9, c9, rfl, ho9, x9⟩; have HO9 := Lib.hid ho9; have X9 := Lib.hid x9; clear ho9 x9))
          go_ret
          exact ⟨g9, c9, rfl, HO9.out.mono (Nat.le_trans (G2.out.trans HExt.out).size X8.out.size), G2.out.trans (HExt.out.trans (X8.out.trans X9.out))⟩
end Go.Proofs.Ytnabpmafcflljaa

/-
  Kernels by reduced bases with one more list, in the reference.
  No condition.
-/
namespace Go.Proofs.Ytnabpmafcflljaa
set_option maxRecDepth 100000
open Go.RowKit

theorem RdO.mono {B B' : Nat} {w : World} {a : Option Addr} {n : Nat} {rows : List (List Int)} (h : RdO B w a n rows) (hb : B' ≤ B) : RdO B' w a n rows :=
  ⟨h.1, fun i hi => let ⟨b, off, ai, ci, ha, hc, hr⟩ := h.2 i hi; ⟨b, off, ai, ci, ha, hc, hr.mono hb⟩⟩
set_option maxHeartbeats 8000000 in
set_option maxRecDepth 100000 in
theorem s_kernel12 (p : Int) (n : Nat) (a : Option Addr) (m cap : Nat) (rows : List (List Int)) (w : World) (hpr : primeB p = true) (hn : 0 < n) (hn2 : n ≤ 4095) (hm : m ≤ 4095) (hx : RdR w a m rows) (hg : RowsG p n rows) :
    Calls Try.prog 35 #[.int .i64 p, .int .i64 n, .slice a m cap] w fun e w' => ∃ g rc, e = .returned (.slice (some ⟨g, 0, none⟩) (kernL p n rows).length rc) ∧ RdO w.heap.size w' (some ⟨g, 0, none⟩) (kernL p n rows).length (kernL p n rows) ∧ Ext w w' := by
  have hpb := prime_bd hpr
  have hpz : ¬ p = 0 := by omega
  obtain ⟨cc, hbas⟩ := basis_red hpr hg
  have HPR := Lib.hid hpr
  have HX := Lib.hid hx
  have HG := Lib.hid hg
  obtain ⟨red, hred⟩ : ∃ red, red = basisL p n rows := ⟨_, rfl⟩
  have HBas := Lib.hid (show Basis p n red cc by rw [hred]; exact hbas)
  have HRed := Lib.hid hred
  have HKL := Lib.hid (show kernL p n rows = basisL p n (kerR p n red n) by unfold kernL; rw [hred])
  have hrl : red.length ≤ 4095 := by have := HBas.out.len; omega
  clear hx hg hbas hpr hred
  go_enter Try.func35, Try.ntmps35
  go_wp2_with (fail)
  refine Calls.mono (s_reduced12 p a m cap n rows w HPR.out hn hn2 (by omega) HX.out HG.out) ?_
  rintro e w0 ⟨gb, nb, cb, rfl, o0, x0⟩
  rw [← HRed.out] at o0
  obtain rfl : nb = red.length := o0.1.symm
  have HOb0 := Lib.hid o0
  have X0 := Lib.hid x0
  clear o0 x0
  go_wp2_with (fail)
  obtain ⟨w1, hw1⟩ : ∃ x, x = w0.alloc (.cells #[] 22) := ⟨_, rfl⟩
  have HOb : Hid (RdO w.heap.size w1 (some ⟨gb, 0, none⟩) red.length red) := Lib.hid (by rw [hw1]; exact HOb0.out.ext (ext_alloc _ _))
  have GW : Hid (Ext w w1) := Lib.hid (by rw [hw1]; exact X0.out.trans (ext_alloc _ _))
  rw [← hw1]
  have HZ1 : Hid (w0.heap.size + 1 = w1.heap.size) := Lib.hid (by rw [hw1]; simp)
  clear hw1 HOb0 X0
  go_loopw [9, 10] (fun v i wr => ∃ (k g rc : Nat), k ≤ red.length ∧ i = .int .i64 k ∧ v = .slice (some ⟨g, 0, none⟩) k rc ∧ OwnC w1.heap.size wr (some ⟨g, 0, none⟩) k rc (pivL red k) ∧ Ext w1 wr) (fun _ i _ => red.length - (intOf i).toNat)
  case atStart => exact ⟨0, _, _, Nat.zero_le _, rfl, rfl, by rw [HZ1.out]; exact own_empty w1, ext_alloc _ _⟩
  case round =>
    obtain ⟨k, gp, rp, hk, rfl, rfl, hown, hext⟩ := hrel
    have HOwn := Lib.hid hown
    have HExt := Lib.hid hext
    clear hown hext
    by_cases hlt : k < red.length
    · obtain ⟨bj, oj, aj, cj, hax, hcj, hoj⟩ := HOb.out.2 k hlt
      cases hax
      rw [Nat.zero_add] at hcj
      have hjl := (HBas.out.good k hlt).1
      rw [hjl] at hcj hoj
      have hcj' := HExt.out.cell hcj
      have HOj := Lib.hid (hoj.rd.ext HExt.out)
      have hll : leadN (nthR red k) < n := by rw [HBas.out.leadN hlt]; exact HBas.out.clt k hlt
      obtain ⟨L, hL⟩ : ∃ L, L = leadN (nthR red k) := ⟨_, rfl⟩
      have HL := Lib.hid hL
      clear hcj hoj hjl hL hll
      go_wp2_with (first
        | (go_at_call 69; refine (s_first12 aj n cj (nthR red k) _ (by omega) HOj.out).mono ?_; rintro e w2 ⟨rfl, g2⟩; rw [← HL.out]; have G2 := Lib.hid g2; clear g2)
        | (at_builtin; refine wpList_push rfl (.tmp 25) (.tmp 31) rfl rfl rfl (v := (L : Int)) (HOwn.out.ext (G2.out.trans (ext_alloc _ _))) ?hc ?hn ?hB ?hk))
      case hc => simp
      case hn => omega
      case hB => have hz := (HExt.out.trans G2.out).size'; simp; omega
      case hk =>
        intro g' cap' w3 ho3 hg3 he3
        have HO3 := Lib.hid ho3
        have HE3 := Lib.hid (he3 w1 (Nat.le_refl _) ((HExt.out.trans G2.out).alloc _))
        clear ho3 hg3 he3
        go_wp2_with (fail)
        go_roundw
        case rel => exact ⟨k + 1, g', cap', by omega, by go_num, rfl, by rw [pivL_succ, ← HL.out]; exact HO3.out, HE3.out⟩
        case measure => simp [intOf]; omega
    · obtain rfl : k = red.length := by omega
      have HPv := HOwn
      have X2 := HExt
      have HRd := Lib.hid (HOb.out.ext X2.out)
      have G2 := Lib.hid (GW.out.trans X2.out)
      clear HOwn HExt HOb
      rename World => wM
      go_wp2_with (fail)
      go_loopw [8, 11] (fun v i wq => ∃ (f g rc : Nat), f ≤ n ∧ i = .int .i64 f ∧ v = .slice (some ⟨g, 0, none⟩) (kerR p n red f).length rc ∧ OwnW wM.heap.size wq (some ⟨g, 0, none⟩) (kerR p n red f).length rc (kerR p n red f) ∧ Ext wM wq) (fun _ i _ => n - (intOf i).toNat)
      case atStart => exact ⟨0, _, _, Nat.zero_le _, rfl, rfl, OwnW.start _ _ _, Ext.refl _⟩
      case round =>
        obtain ⟨f, g, rc, hf, rfl, rfl, hown, hext⟩ := hrel
        rename World => wq
        have HOwn := Lib.hid hown
        have HExt := Lib.hid hext
        clear hown hext
        have hkl := kerR_len p n red f
        by_cases hlf : f < n
        · have hpiv := @inL_piv red f
          cases hp : pivIx red f with
          | some j =>
            rw [hp] at hpiv
            have HK := Lib.hid (kerR_no (p := p) (n := n) hp)
            have HIn : Hid (inL (pivL red red.length) f = true) := Lib.hid hpiv
            clear hp hpiv
            go_wp2_with (go_at_call 70; refine (s_has _ _ _ _ _ _ (by omega) (HPv.out.rd.ext HExt.out)).mono ?_; rintro e w4 ⟨rfl, g4⟩; rw [HIn.out]; have HE4 := Lib.hid (HExt.out.trans g4); have HO4 : Hid (OwnW wM.heap.size w4 (some ⟨g, 0, none⟩) (kerR p n red f).length rc (kerR p n red f)) := Lib.hid (by
              rcases HOwn.out with h | h
              · exact .inl h
              · exact .inr (h.ext g4)); clear g4)
            go_roundw
            case rel => exact ⟨f + 1, g, rc, by omega, by go_num, by rw [HK.out], by rw [HK.out]; exact HO4.out, HE4.out⟩
            case measure => simp [intOf]; omega
          | none =>
            rw [hp] at hpiv
            have HK := Lib.hid (kerR_yes (p := p) (n := n) hp)
            have HP := Lib.hid hp
            have HIn : Hid (inL (pivL red red.length) f = false) := Lib.hid hpiv
            clear hp hpiv
            go_wp2_with (go_at_call 70; refine (s_has _ _ _ _ _ _ (by omega) (HPv.out.rd.ext HExt.out)).mono ?_; rintro e w4 ⟨rfl, g4⟩; rw [HIn.out]; have HE4 := Lib.hid g4; clear g4)
            obtain ⟨w5, hmk, ho5, he5⟩ := make_ints w4 n (by omega)
            obtain ⟨g0, hg0⟩ : ∃ g, g = w4.heap.size := ⟨_, rfl⟩
            rw [← hg0] at hmk ho5
            have hge4 : w4.heap.size ≤ g0 := by omega
            have hge : wq.heap.size ≤ g0 := by have := HE4.out.size'; omega
            have HO5 := Lib.hid (ho5.mono hge4)
            have HE5 := Lib.hid (HE4.out.trans he5)
            have hcg := ho5.cell hlf
            have hfz := ho5.frozen f
            clear ho5 he5 hg0
            rw [hmk]
            go_wp2_with (fail)
            have X5 := Lib.hid (HE5.out.setCell (p := ⟨g0, f, none⟩) hge (.int .i64 1))
            have HOs := Lib.hid ((HO5.out.store hlf 1).mono HE4.out.size)
            clear hcg hfz hmk
            go_loopw [13] (fun i wz => ∃ (j : Nat), j ≤ red.length ∧ i = .int .i64 j ∧ OwnC wq.heap.size wz (some ⟨g0, 0, none⟩) n n (kerI p n red f j) ∧ Ext wq wz) (fun i _ => red.length - (intOf i).toNat)
            case atStart => exact ⟨0, Nat.zero_le _, rfl, by rw [kerI_zero hlf]; exact HOs.out, X5.out⟩
            case round =>
              obtain ⟨i, hi, rfl, hown, hext⟩ := hrel
              rename World => wz
              have HOz := Lib.hid hown
              have HEz := Lib.hid hext
              clear hown hext
              by_cases hli : i < red.length
              · have hjl := (HBas.out.good i hli).1
                have hlt : leadN (nthR red i) < n := by rw [HBas.out.leadN hli]; exact HBas.out.clt i hli
                have hbd := (HBas.out.good i hli).2 f hlf
                obtain ⟨bd, od, ai, ci, hax, hci, hoi⟩ := HRd.out.2 i hli
                cases hax
                rw [Nat.zero_add] at hci
                rw [hjl] at hci hoi
                have HSt := Lib.hid (kerI_step (p := p) (n := n) HBas.out hli hlt HP.out)
                obtain ⟨bj, oj, rfl, hcm⟩ := hoi.rd.2 f (by omega)
                have hpc := HPv.out.cell hli
                rw [pivL_nth hli] at hpc
                have E7 := Lib.hid (HExt.out.trans (HEz.out.trans (ext_drew wz)))
                have HCi := Lib.hid (E7.out.cell hci)
                have HCm := Lib.hid (E7.out.cell hcm)
                have HPc := Lib.hid (E7.out.cell hpc)
                obtain ⟨u, hu⟩ : ∃ u, u = nth (nthR red i) f := ⟨_, rfl⟩
                rw [← hu] at HCm hbd HSt
                obtain ⟨L, hL⟩ : ∃ L, L = leadN (nthR red i) := ⟨_, rfl⟩
                rw [← hL] at hlt HSt HPc
                obtain ⟨v, hv⟩ : ∃ v, v = -u := ⟨_, rfl⟩
                have hw1 : IntKind.i64.wrap (-u) = v := by rw [hv]; exact IntWalk.i64_in _ (by omega)
                rw [← hv] at HSt
                obtain ⟨Z, hZ⟩ : ∃ Z, Z = v % p := ⟨_, rfl⟩
                have HMd : Hid (∀ w1, Calls Try.prog 34 #[.int .i64 p, .int .i64 v] w1 fun e w' => e = .returned (.int .i64 Z) ∧ Ext w1 w') := Lib.hid (fun w1 => by rw [hZ]; exact s_mod p v w1 (by omega) (by omega))
                rw [← hZ] at HSt
                clear hv
                clear hci hoi hcm hpc hjl hL hu hZ
                go_wp2_with (fail)
                refine wp_region_lex_tail 15 [(14, .val (.int .i64 Z))] (by kernel_rfl) (by kernel_rfl) ?_
                simp only [List.take, List.drop]
                (refine LexW.pure (v := ?_) rfl rfl (fun w1 he => ?_) ?_; rotate_left; ( have e1 := he.cell HCi.out; have e2 := he.cell HCm.out; have e3 := he.cell HPc.out; go_simp; rfl); simp only [Act.put, List.setIfInBounds_toArray, List.set_cons_zero, List.set_cons_succ])
                (refine LexW.pure (v := ?_) rfl rfl (fun w1 he => ?_) ?_; rotate_left; ( have e1 := he.cell HCi.out; have e2 := he.cell HCm.out; have e3 := he.cell HPc.out; go_simp; rfl); simp only [Act.put, List.setIfInBounds_toArray, List.set_cons_zero, List.set_cons_succ])
                (refine LexW.pure (v := ?_) rfl rfl (fun w1 he => ?_) ?_; rotate_left; ( have e1 := he.cell HCi.out; have e2 := he.cell HCm.out; have e3 := he.cell HPc.out; go_simp; rfl); simp only [Act.put, List.setIfInBounds_toArray, List.set_cons_zero, List.set_cons_succ])
                (refine LexW.pure (v := ?_) rfl rfl (fun w1 he => ?_) ?_; rotate_left; ( have e1 := he.cell HCi.out; have e2 := he.cell HCm.out; have e3 := he.cell HPc.out; go_simp; rfl); simp only [Act.put, List.setIfInBounds_toArray, List.set_cons_zero, List.set_cons_succ])
                (refine LexW.pure (v := ?_) rfl rfl (fun w1 he => ?_) ?_; rotate_left; ( have e1 := he.cell HCi.out; have e2 := he.cell HCm.out; have e3 := he.cell HPc.out; go_simp; rfl); simp only [Act.put, List.setIfInBounds_toArray, List.set_cons_zero, List.set_cons_succ])
                (refine LexW.pure (v := ?_) rfl rfl (fun w1 he => ?_) ?_; rotate_left; ( have e1 := he.cell HCi.out; have e2 := he.cell HCm.out; have e3 := he.cell HPc.out; go_simp; rfl); simp only [Act.put, List.setIfInBounds_toArray, List.set_cons_zero, List.set_cons_succ])
                (refine LexW.pure (v := ?_) rfl rfl (fun w1 he => ?_) ?_; rotate_left; ( have e1 := he.cell HCi.out; have e2 := he.cell HCm.out; have e3 := he.cell HPc.out; go_simp; rfl); simp only [Act.put, List.setIfInBounds_toArray, List.set_cons_zero, List.set_cons_succ])
                (refine LexW.pure (v := ?_) rfl rfl (fun w1 he => ?_) ?_; rotate_left; ( have e1 := he.cell HCi.out; have e2 := he.cell HCm.out; have e3 := he.cell HPc.out; go_simp; rfl); simp only [Act.put, List.setIfInBounds_toArray, List.set_cons_zero, List.set_cons_succ])
                (refine LexW.pure (v := ?_) rfl rfl (fun w1 he => ?_) ?_; rotate_left; ( have e1 := he.cell HCi.out; have e2 := he.cell HCm.out; have e3 := he.cell HPc.out; go_simp; rfl); simp only [Act.put, List.setIfInBounds_toArray, List.set_cons_zero, List.set_cons_succ])
                (refine LexW.pure (v := ?_) rfl rfl (fun w1 he => ?_) ?_; rotate_left; ( have e1 := he.cell HCi.out; have e2 := he.cell HCm.out; have e3 := he.cell HPc.out; go_simp; rfl); simp only [Act.put, List.setIfInBounds_toArray, List.set_cons_zero, List.set_cons_succ])
                (refine LexW.pure (v := ?_) rfl rfl (fun w1 he => ?_) ?_; rotate_left; ( have e1 := he.cell HCi.out; have e2 := he.cell HCm.out; have e3 := he.cell HPc.out; go_simp; rfl); simp only [Act.put, List.setIfInBounds_toArray, List.set_cons_zero, List.set_cons_succ])
                (refine LexW.pure (v := ?_) rfl rfl (fun w1 he => ?_) ?_; rotate_left; ( have e1 := he.cell HCi.out; have e2 := he.cell HCm.out; have e3 := he.cell HPc.out; go_simp; rfl); simp only [Act.put, List.setIfInBounds_toArray, List.set_cons_zero, List.set_cons_succ])
                (refine LexW.pure (v := ?_) rfl rfl (fun w1 he => ?_) ?_; rotate_left; ( have e1 := he.cell HCi.out; have e2 := he.cell HCm.out; have e3 := he.cell HPc.out; go_simp; rfl); simp only [Act.put, List.setIfInBounds_toArray, List.set_cons_zero, List.set_cons_succ])
                (refine LexW.pure (v := ?_) rfl rfl (fun w1 he => ?_) ?_; rotate_left; ( have e1 := he.cell HCi.out; have e2 := he.cell HCm.out; have e3 := he.cell HPc.out; go_simp; rfl); simp only [Act.put, List.setIfInBounds_toArray, List.set_cons_zero, List.set_cons_succ])
                (refine LexW.call (f := ?_) (args := ?_) rfl rfl (fun w1 => ?_) (fun w1 he hdep => ?_) ?_; rotate_left 2; (go_simp; refine ⟨?_, ?_⟩ <;> rfl); ( exact HMd.out w1); simp only [Act.put, List.setIfInBounds_toArray, List.set_cons_zero, List.set_cons_succ])
                refine LexW.nil (fun w8 he hkn => ?_)
                have X8 := Lib.hid ((ext_drew wz).trans he)
                clear he hkn
                have HO8 := Lib.hid (HOz.out.ext X8.out)
                have hcg := HO8.out.cell hlt
                have hfz := HO8.out.frozen L
                go_wp2_with (fail)
                go_roundw
                case rel => exact ⟨i + 1, by omega, by go_num, by rw [HSt.out]; exact HO8.out.store hlt _, (HEz.out.trans X8.out).setCell hge _⟩
                case measure => simp [intOf]; omega
              · obtain rfl : i = red.length := by omega
                have HKE := Lib.hid (kerI_all (p := p) (n := n) (red := red) (f := f))
                go_wp2_with (at_builtin; refine wpList_pushRW (w0 := wq) rfl (.tmp 68) (.tmp 70) rfl rfl rfl HOwn.out (HEz.out.trans (ext_alloc _ _)) (xs := kerV p n red f) (by rw [← HKE.out]; exact HOz.out.ext (ext_alloc _ _)) ?hc (by omega) HExt.out.size ?hk)
                case hc => exact cell_new _ _ rfl _ _
                case hk =>
                  intro g' cap' w9 ho9 he9
                  have HO9 := Lib.hid ho9
                  have HE9 := Lib.hid (he9 wM (Nat.le_refl _) ((HExt.out.trans HEz.out).alloc _))
                  clear ho9 he9
                  go_wp2_with (fail)
                  go_roundw
                  case rel => exact ⟨f + 1, g', cap', by omega, by go_num, by rw [HK.out, List.length_append]; rfl, by rw [HK.out, List.length_append]; exact .inr HO9.out, HE9.out⟩
                  case measure => simp [intOf]; omega
        · obtain rfl : f = n := by omega
          go_wp2_with (fail)
          refine Calls.mono (s_reduced12 p _ (kerR p f red f).length rc f (kerR p f red f) _ HPR.out hn hn2 (by omega) HOwn.out.rd (kerR_good (by omega))) ?_
          rintro e w8 ⟨r8, n8, c8, rfl, o8, x8⟩
          rw [← HKL.out] at o8
          obtain rfl : n8 = (kernL p f rows).length := o8.1.symm
          have HO8 := Lib.hid (o8.mono (G2.out.trans HExt.out).size)
          have X8 := Lib.hid x8
          clear o8 x8
          go_wp2_with (fail)
          go_ret
          exact ⟨_, _, rfl, HO8.out, G2.out.trans (HExt.out.trans X8.out)⟩
end Go.Proofs.Ytnabpmafcflljaa

/-
  A region whose first two operations (an address, a load) may be carried out at any time while an invariant of the worlds holds: they are carried out first; its last operations go one after another and may write.
  No condition. General over every program.
-/
namespace Go.Proofs.Ytnabpmafcflljaa
set_option maxRecDepth 100000
open Go.RowKit

section
variable {P : Program} {ops : Array Oper} {md : Region.Mode} {Q : Exit → Act → World → Prop} {I : World → Prop}

variable (P md ops Q I) in
/-- Whatever order is picked; the invariant holds of each world on the way. -/
def wpAnyI : Nat → Array Bool → Act → World → Prop
  | 0, listed, a, w => I w ∧ Region.ready md ops listed = [] ∧ Q .normal a w
  | f + 1, listed, a, w => I w ∧ (Region.ready md ops listed = [] → Q .normal a w) ∧ ∀ i ∈ Region.ready md ops listed, wpOp P ops Q i (wpAnyI f (listed.setIfInBounds i true)) a w
theorem wpAnyI.inv : ∀ {f : Nat} {listed : Array Bool} {a : Act} {w : World}, wpAnyI P ops md Q I f listed a w → I w
  | 0, _, _, _, h => h.1
  | _ + 1, _, _, _, h => h.1
theorem wpAnyI.plain : ∀ (f : Nat) (listed : Array Bool) (a : Act) (w : World), wpAnyI P ops md Q I f listed a w → wpAny P md ops Q f listed a w
  | 0, _, _, _, h => h.2
  | f + 1, _, _, _, h => ⟨h.2.1, fun i hi => wpOp_mono (fun a w => wpAnyI.plain f _ a w) (h.2.2 i hi)⟩

variable (P ops I) in
/-- The operation yields this value in every world of which the invariant holds. -/
def YieldsI (o : Oper) (v : Value) (a : Act) : Prop := Region.wanted o (yielded ops a.tmps) = true ∧ ∀ w, I w → (execOp a.eval o).run P w = .ok (.value v) w
theorem YieldsI.wpOp {i : Nat} {o : Oper} {v : Value} {a : Act} (hi : ops[i]? = some o) (hy : YieldsI P ops I o v a) {K : Act → World → Prop} {w : World} (hI : I w) (h : K (a.put o.dst v) w) : wpOp P ops Q i K a w := by
  unfold Go.wpOp
  simp only [hi]
  simp only [hy.1, if_true, Oper.wp, hy.2 w hI, Oper.upon]
  exact .inl h
theorem YieldsI.of_same {o : Oper} {v : Value} {a a' : Act} (hy : YieldsI P ops I o v a) (he : execOp a'.eval o = execOp a.eval o) (hw : Region.wanted o (yielded ops a'.tmps) = Region.wanted o (yielded ops a.tmps)) : YieldsI P ops I o v a' := by
  unfold YieldsI at *
  rw [he, hw]
  exact hy

theorem wpOp_putI {j : Nat} {oi oj : Oper} {v : Value} (hj : ops[j]? = some oj) (hap : oi.apart ops oj = true) (hsi : ∀ cs b, oi.op ≠ .select cs b) (hsj : ∀ cs b, oj.op ≠ .select cs b)
    (hQ : ∀ c a w, Q (.panic c) (a.put oi.dst v) w → Q (.panic c) a w) {K : Act → World → Prop} {a : Act} {w : World} (hy : YieldsI P ops I oi v a) (h : wpOp P ops Q j K (a.put oi.dst v) w) :
    wpOp P ops Q j (fun a' w' => YieldsI P ops I oi v a' ∧ K (a'.put oi.dst v) w') a w := by
  obtain ⟨h1, h2, h3⟩ := Oper.apart_spec hap
  have keep : ∀ (a : Act), YieldsI P ops I oi v a → ∀ u, YieldsI P ops I oi v (a.put oj.dst u) := fun a hy u => hy.of_same (execOp_put oi hsi a oj.dst u h3) (wanted_put oi a oj.dst u h3)
  have keepD : ∀ d, YieldsI P ops I oi v { a with defers := d :: a.defers } := fun d => hy.of_same rfl rfl
  unfold wpOp at *
  simp only [hj] at *
  rw [wanted_put oj a oi.dst v h1] at h
  split
  · rename_i hw
    simp only [hw, if_true] at h
    rcases h with h | ⟨hasks, hlets⟩
    · refine .inl ?_
      unfold Oper.wp at *
      rw [execOp_put oj hsj a oi.dst v h1] at h
      generalize (execOp a.eval oj).run P w = r at *
      cases r with
      | ok n w' =>
        cases n <;> simp only [Oper.upon] at h ⊢
        case value u => exact ⟨keep a hy u, by rw [← Act.put_comm a v u h2]; exact h⟩
        case skip => exact ⟨keep a hy _, by rw [← Act.put_comm a v undef h2]; exact h⟩
        case defer d => exact ⟨keep _ (keepD d) _, by rw [← Act.put_comm _ v undef h2, ← Act.put_defers]; exact h⟩
        case enter f args =>
          refine Calls.mono h fun e w'' he => ?_
          cases e with
          | returned u => exact ⟨keep a hy u, by rw [← Act.put_comm a v u h2]; exact he⟩
          | panicked c => exact hQ _ _ _ he
          | outgrown => exact he
        case row row args => exact Rows.mono h fun u w'' he => ⟨keep a hy u, by rw [← Act.put_comm a v u h2]; exact he⟩
      | halt x w' =>
        cases x <;> simp only [Oper.upon] at h ⊢
        case panic u => exact hQ _ _ _ h
    · exact .inr ⟨by unfold Oper.asks at *; rw [execOp_put oj hsj a oi.dst v h1] at hasks; exact hasks, hlets⟩
  · rename_i hw
    simp only [hw] at h
    exact ⟨keep a hy _, by rw [← Act.put_comm a v undef h2]; exact h⟩

theorem wpAnyI_first {i : Nat} {oi : Oper} {v : Value} (hi : ops[i]? = some oi) (hsel : ∀ (j : Nat) (o : Oper) cs b, ops[j]? = some o → o.op ≠ .select cs b)
    (hQ : ∀ c a w, Q (.panic c) (a.put oi.dst v) w → Q (.panic c) a w) :
    ∀ (f : Nat) (listed : Array Bool) (a : Act) (w : World),
      (∀ j oj, ops[j]? = some oj → j ≠ i → listed.getD j true = false → (∀ e ∈ oj.after, Region.binds md e = true → e.on ≠ i) → oi.apart ops oj = true) →
      i ∈ Region.ready md ops listed → YieldsI P ops I oi v a →
      wpAnyI P ops md Q I f (listed.setIfInBounds i true) (a.put oi.dst v) w → wpAnyI P ops md Q I (f + 1) listed a w := by
  intro f
  induction f with
  | zero =>
    intro listed a w _ hr hy H
    refine ⟨H.1, fun h => (by rw [h] at hr; cases hr), fun j hj => ?_⟩
    by_cases hji : j = i
    · subst hji; exact hy.wpOp hi H.1 H
    · have := ready_mono hj hji
      rw [H.2.1] at this
      cases this
  | succ f ih =>
    intro listed a w hfree hr hy H
    refine ⟨H.1, fun h => (by rw [h] at hr; cases hr), fun j hj => ?_⟩
    by_cases hji : j = i
    · subst hji; exact hy.wpOp hi H.1 H
    · have h1 := H.2.2 j (ready_mono hj hji)
      obtain ⟨hjun, oj, hoj, hall⟩ := mem_ready.1 hj
      have hnot : ∀ e ∈ oj.after, Region.binds md e = true → e.on ≠ i := fun e he hb heq => by
        have h1 := hall e he hb
        have h0 := (mem_ready.1 hr).1
        rw [heq, getD_both h0] at h1
        cases h1
      have h2 := wpOp_putI hoj (hfree j oj hoj hji hjun hnot) (fun cs b => hsel i oi cs b hi) (fun cs b => hsel j oj cs b hoj) hQ hy h1
      refine wpOp_mono (fun a' w' h3 => ih (listed.setIfInBounds j true) a' w' (fun k ok hk hki hun hno => ?_) (ready_mono hr (Ne.symm hji)) h3.1 ?_) h2
      · refine hfree k ok hk hki ?_ hno
        by_cases hjk : j = k
        · subst hjk; exact hjun
        · rw [getD_set_ne true hjk] at hun; exact hun
      · rw [Array.setIfInBounds_comm _ _ hji]
        exact h3.2

variable (P ops Q I) in
/-- Operations one after another; the invariant holds of each world on the way. -/
def wpListI : List Oper → Act → World → Prop
  | [], a, w => I w ∧ Q .normal a w
  | o :: l, a, w => I w ∧ Region.wanted o (yielded ops a.tmps) = true ∧ o.wp P a w (wpListI l) Q
theorem wpListI.value {o : Oper} {l : List Oper} {a : Act} {w w' : World} {v : Value} (hI : I w) (hw : Region.wanted o (yielded ops a.tmps) = true) (hr : (execOp a.eval o).run P w = .ok (.value v) w') (h : wpListI P ops Q I l (a.put o.dst v) w') : wpListI P ops Q I (o :: l) a w :=
  ⟨hI, hw, by unfold Oper.wp; rw [hr]; exact h⟩
theorem wpListI.skip {o : Oper} {l : List Oper} {a : Act} {w w' : World} (hI : I w) (hw : Region.wanted o (yielded ops a.tmps) = true) (hr : (execOp a.eval o).run P w = .ok .skip w') (h : wpListI P ops Q I l (a.put o.dst undef) w') : wpListI P ops Q I (o :: l) a w :=
  ⟨hI, hw, by unfold Oper.wp; rw [hr]; exact h⟩
theorem wpAnyI_of_seq : ∀ (l : List Oper) (k : Nat) (listed : Array Bool) (a : Act) (w : World), (∀ j, l[j]? = ops[k + j]?) →
    Region.seqB md ops l.length k listed = true → wpListI P ops Q I l a w → wpAnyI P ops md Q I l.length listed a w
  | [], _, _, _, _, _, hB, h => ⟨h.1, by simpa [Region.seqB] using hB, h.2⟩
  | o :: l, k, listed, a, w, hl, hB, h => by
    have h0 : ops[k]? = some o := by simpa using (hl 0).symm
    simp only [List.length_cons, Region.seqB, Bool.and_eq_true, decide_eq_true_eq] at hB
    refine ⟨h.1, fun h1 => (by rw [hB.1] at h1; cases h1), fun i hi => ?_⟩
    rw [hB.1] at hi
    have hik : i = k := by simpa using hi
    subst hik
    have hw : wpOp P ops Q i (wpListI P ops Q I l) a w := by unfold wpOp; simp only [h0, h.2.1, if_true]; exact .inl h.2.2
    exact wpOp_mono (fun a' w' h' => wpAnyI_of_seq l (i + 1) _ a' w' (fun j => by have := hl (j + 1); simpa [Nat.add_assoc, Nat.add_comm 1 j] using this) hB.2 h') hw

theorem AnyR.soundI {w0 : World} {sp : Nat → Option SPred} {n g : Nat} {L : Array Bool → Act → World → Prop} (hI : ∀ w, Ext w0 w → I w) (hL : ∀ listed a w, L listed a w → wpAnyI P ops md Q I g listed a w) :
    ∀ (f : Nat) (listed : Array Bool) (a : Act) (env : List (Nat × Value)) (w : World), Ext w0 w → Known sp env w → AnyR P ops md w0 sp n L f listed a env → wpAnyI P ops md Q I (f + g) listed a w
  | 0, _, _, _, w, he, hk, h => by rw [Nat.zero_add]; exact hL _ _ _ (h w he hk)
  | f + 1, listed, a, env, w, he, hk, h => by
    rw [show f + 1 + g = (f + g) + 1 by omega]
    refine ⟨hI w he, fun h0 => absurd h0 h.1, fun i hi => ?_⟩
    unfold wpOp
    split
    · rename_i hn
      obtain ⟨_, o, ho, _⟩ := mem_ready.1 hi
      rw [hn] at ho; cases ho
    · rename_i o ho
      obtain ⟨hc, hr⟩ := (h.2 i hi).2 o ho
      unfold Can at hc
      cases hp : sp i with
      | none =>
        rw [hp] at hc
        obtain ⟨v, hv⟩ := hc
        have hk' : Known sp ((i, v) :: env) w := hk.cons (by rw [hp]; trivial)
        have hres : Res P ops w0 sp i o a env v := by unfold Res; rw [hp]; exact hv
        have hnext := AnyR.soundI hI hL f _ _ _ w he hk' (hr v hres)
        rcases hv with ⟨hw, hrun⟩ | ⟨hw, rfl⟩
        · rw [if_pos hw]
          refine .inl ?_
          unfold Oper.wp
          rw [hrun w he]
          exact hnext
        · rw [if_neg (by rw [hw]; decide)]
          exact hnext
      | some p =>
        rw [hp] at hc
        obtain ⟨hw, hd, hrr⟩ := hc
        rw [if_pos hw]
        refine .inl (wp_of_wpS (hrr w he (hk.dep hd)) fun v w' ⟨he', hv⟩ => ?_)
        exact AnyR.soundI hI hL f _ _ _ w' (he.trans he') ((hk.ext he').cons (by rw [hp]; exact hv)) (hr v (by unfold Res; rw [hp]; exact ⟨w', he.trans he', hk.ext he', hv⟩))
end

def Region.tail2B (ops : Array Oper) (n N : Nat) : Bool :=
  Region.noSelect ops && decide (n < ops.size) && decide (2 ≤ n) && Region.sinkB1 .any ops 2 n && Region.chainB .any ops n && ((Region.ready .any ops (Array.replicate ops.size false)).contains 0 && Region.free .any ops (Array.replicate ops.size false) 0) &&
    ((Region.ready .any ops ((Array.replicate ops.size false).setIfInBounds 0 true)).contains 1 && Region.free .any ops ((Array.replicate ops.size false).setIfInBounds 0 true) 1) &&
    Region.lexHead .any ops (ops.size - n) (n - 2) 2 (((Array.replicate ops.size false).setIfInBounds 0 true).setIfInBounds 1 true) && ssaB ops && dstB ops N

/-- The first two operations yield their values wherever the invariant holds; the operations from number n on go one after another behind all others but these. -/
theorem wp_region_lex_tail2 {P : Program} {id : Nat} {Q : Exit → Act → World → Prop} {a : Act} {w : World} {o0 o1 : Oper} {l : List Oper} (n : Nat) (sps : List (Nat × SPred)) (v0 v1 : Value) (I : World → Prop) (hm : P.follows .mixedOrders = true)
    (hB : Region.tail2B (o0 :: o1 :: l).toArray n a.tmps.size = true) (hsp0 : spOf sps 0 = none) (hsp1 : spOf sps 1 = none) (hI : ∀ w', Ext w.drew w' → I w')
    (hy0 : YieldsI P (o0 :: o1 :: l).toArray I o0 v0 a) (hy1 : YieldsI P (o0 :: o1 :: l).toArray I o1 v1 (a.put o0.dst v0))
    (h : LexW P (o0 :: o1 :: l).toArray w.drew (spOf sps) (fun a' w' => wpListI P (o0 :: o1 :: l).toArray (strictQ Q) I ((o0 :: o1 :: l).drop n) a' w') (((o0 :: o1 :: l).take n).drop 2) 2 ((a.put o0.dst v0).put o1.dst v1) [(1, v1), (0, v0)]) : (Code.region id (o0 :: o1 :: l).toArray true).wp P Q a w := by
  simp only [Region.tail2B, Bool.and_eq_true, decide_eq_true_eq] at hB
  obtain ⟨⟨⟨⟨⟨⟨⟨⟨⟨hsel, hn⟩, hn1⟩, hs⟩, hc⟩, hr0, hf0⟩, hr1, hf1⟩, hlex⟩, hssa⟩, hdst⟩ := hB
  obtain ⟨ops, hops⟩ : ∃ ops, ops = (o0 :: o1 :: l).toArray := ⟨_, rfl⟩
  have h0 : ops[0]? = some o0 := by rw [hops]; simp
  have h1 : ops[1]? = some o1 := by rw [hops]; simp
  rw [← hops] at hn hsel hs hc hr0 hf0 hr1 hf1 hlex hssa hdst hy0 hy1 h ⊢
  have hsize : ops.size = l.length + 2 := by rw [hops]; simp
  obtain ⟨L, hL⟩ : ∃ L, L = o0 :: o1 :: l := ⟨_, rfl⟩
  have hLl : L.length = ops.size := by rw [hL, hsize]; simp
  rw [← hL] at h
  have hget : ∀ j, L[j]? = ops[j]? := fun j => by rw [hL, hops, List.getElem?_toArray]
  have htl : ((L.take n).drop 2).length = n - 2 := by simp; omega
  have hdl : (L.drop n).length = ops.size - n := by simp; omega
  have inv0 : HeadInv .any ops n (Array.replicate ops.size false) := by rw [hops]; exact headInv0 _ n
  have inv1 := inv0.set (by simpa using hr0) (show 0 < n by omega)
  have inv2 := inv1.set (by simpa using hr1) (show 1 < n by omega)
  have linv : LexInv ops a.tmps.size 2 ((a.put o0.dst v0).put o1.dst v1) [(1, v1), (0, v0)] := ((lexInv0 (ops := ops) a.tmps.size a rfl).step h0 hdst v0).step h1 hdst v1
  have hk1 : Known (spOf sps) [(1, v1), (0, v0)] w.drew := fun p hp => by
    simp only [List.mem_cons, List.not_mem_nil, or_false] at hp
    rcases hp with rfl | rfl
    · simp only [hsp1, holdsO]
    · simp only [hsp0, holdsO]
  have hR := LexW.lexR hssa hdst _ 2 _ _ (fun j hj => by
    rw [htl] at hj
    rw [List.getElem?_drop, List.getElem?_take_of_lt (by omega), hget]) linv h
  have H := LexR.any1 (md := .any) (m := 2) (n := n) (B := fun listed => Region.seqB .any ops (ops.size - n) n listed) hsel
    (fun i hi1 hin listed inv hun j hj => by
      rcases Nat.lt_or_ge j n with h | h
      · exact h
      · exact absurd hj (tail_waits1 hs hc hn inv _ i rfl hi1 hin hun j h))
    (fun listed hb => seqB_ready hb)
    (fun f k listed => Region.lexHead .any ops (ops.size - n) f k listed) (fun listed hh => by simpa [Region.lexHead] using hh)
    (fun f k listed hh => by simpa [Region.lexHead] using hh) ((L.take n).drop 2) 2 _ _ [(1, v1), (0, v0)] (Nat.le_refl _) (fun j hj => by
      rw [htl] at hj
      rw [List.getElem?_drop, List.getElem?_take_of_lt (by omega), hget]) (by rw [htl]; omega) inv2 ⟨w.drew, Ext.refl _, hk1⟩ (by rw [htl]; exact hlex) hR
  refine wp_region_any hm ?_
  have S := AnyR.soundI (Q := strictQ Q) (I := I) (g := ops.size - n) hI (fun listed a' w' hL' => by
    have := wpAnyI_of_seq (md := .any) (Q := strictQ Q) (I := I) (L.drop n) n listed a' w' (fun j => by rw [List.getElem?_drop, hget]) (by rw [hdl]; exact hL'.1) hL'.2
    rwa [hdl] at this) _ _ _ _ w.drew (Ext.refl _) hk1 H
  rw [htl, show n - 2 + (ops.size - n) = ops.size - 2 by omega] at S
  have T1 := wpAnyI_first (md := .any) (Q := strictQ Q) (I := I) h1 (Region.noSelect_spec hsel) (fun c a w hq => absurd hq.1 (by simp)) (ops.size - 2) ((Array.replicate ops.size false).setIfInBounds 0 true) (a.put o0.dst v0) w.drew (Region.free_spec h1 hf1) (by simpa using hr1) hy1 S
  rw [show ops.size - 2 + 1 = ops.size - 1 by omega] at T1
  have T0 := wpAnyI_first (md := .any) (Q := strictQ Q) (I := I) h0 (Region.noSelect_spec hsel) (fun c a w hq => absurd hq.1 (by simp)) (ops.size - 1) (Array.replicate ops.size false) a w.drew (Region.free_spec h0 hf0) (by simpa using hr0) hy0 T1
  rw [show ops.size - 1 + 1 = ops.size by omega] at T0
  exact wpAny_strict _ _ _ _ (wpAnyI.plain _ _ _ _ T0)

end Go.Proofs.Ytnabpmafcflljaa
