/-
  The listed function MinimalPolynomial.
  No condition.
-/
import Derived.Test.YtkmegekpfmjdlaaMinP
import Derived.Test.YtkmegekpfmjdlaaInverse
import Derived.Test.YtkmegekpfmjdlaaScale
namespace Go.Proofs.Ytkmegekpfmjdlaa
set_option maxRecDepth 100000
open Go.RowKit

def lenV : Value → Nat
  | .slice _ n _ => n
  | _ => 0
theorem ownR_one {B : Nat} {w : World} {a : Option Addr} {n cap : Nat} {xs : List Int} (h : OwnC B w a n cap xs) (hB : B ≤ w.heap.size) : OwnR B (w.alloc (.cells #[.slice a n cap] 22)) (some ⟨w.heap.size, 0, none⟩) 1 1 [xs] := by
  obtain rfl : xs.length = n := h.1
  refine ⟨rfl, [.slice a xs.length cap], World.ownsRow_lit w #[.slice a xs.length cap] 1 hB (by unfold maxLen; omega) rfl, ?_, fun i hi => ?_⟩
  · intro i j g n1 c1 n2 c2 hij h1 h2
    have hi := (List.getElem?_eq_some_iff.1 h1).1
    have hj := (List.getElem?_eq_some_iff.1 h2).1
    simp at hi hj
    omega
  · obtain rfl : i = 0 := by omega
    exact ⟨a, cap, rfl, h.ext (ext_alloc _ _)⟩
theorem minL_len {p : Int} {qs x : List Int} : (minL p qs x).length = minK p qs x + 1 := by
  unfold minL polyK; rw [List.length_append, scaleL_len]; rfl
theorem minK_le {p : Int} {qs x : List Int} : minK p qs x ≤ 2 ^ qs.length := by
  unfold minK
  split
  · rename_i k h
    rw [List.find?_range_eq_some] at h
    have := h.2.1
    simp at this; omega
  · exact Nat.zero_le _

set_option maxHeartbeats 400000 in
theorem c_MinimalPolynomial_bad (p : Int) (a : Option Addr) (d cap : Nat) (qs : List Int) (ax1 : Option Addr) (n1 cx1 : Nat) (xs1 : List Int) (w : World) (hd : d ≤ 4194304) (hn1 : n1 ≤ 4194304) (hq : RdC w a d qs) (hx1 : RdC w ax1 n1 xs1) (hc : codeA p qs [xs1] ≠ 0) :
    Calls Try.prog 58 #[.agg #[.int .i64 p, .slice a d cap], .slice ax1 n1 cx1] w fun e w' => ∃ ra rc, e = .returned (.tuple #[.slice ra 0 rc, .int .i64 (codeA p qs [xs1])]) ∧ OwnC w.heap.size w' ra 0 rc [] ∧ Ext w w' := by
  have hcb : (codeA p qs [xs1] != 0) = true := by simp [hc]
  clear hc
  go_enter Try.func58, Try.ntmps58
  go_wp2_with (go_at_call 68; refine (c_checkAlgebra p a d cap qs _ 1 _ [xs1] _ hd (by omega) (len_one (by rw [hx1.1]; exact hn1)) (hq.ext ((ext_alloc _ _).alloc _)) (rdR_one (a := ax1) (n := _) (cap := cx1) (by simp) (hx1.ext ((ext_alloc _ _).alloc _)))).mono ?_; rintro e w1 ⟨rfl, g1⟩)
  go_ret2
  exact ⟨none, 0, rfl, own_nil _ _, ((ext_alloc _ _).alloc _).trans g1⟩
set_option maxHeartbeats 8000000 in
set_option maxRecDepth 100000 in
theorem c_MinimalPolynomial_ok (p : Int) (a : Option Addr) (d cap : Nat) (qs : List Int) (ax1 : Option Addr) (n1 cx1 : Nat) (xs1 : List Int) (w : World) (hd : d ≤ 4194304) (hn1 : n1 ≤ 4194304) (hq : RdC w a d qs) (hx1 : RdC w ax1 n1 xs1) (hc : codeA p qs [xs1] = 0) :
    Calls Try.prog 58 #[.agg #[.int .i64 p, .slice a d cap], .slice ax1 n1 cx1] w fun e w' => ∃ ra rc, e = .returned (.tuple #[.slice ra (minL p qs xs1).length rc, .int .i64 0]) ∧ OwnC w.heap.size w' ra (minL p qs xs1).length rc (minL p qs xs1) ∧ Ext w w' := by
  obtain ⟨hcm, hq4⟩ := codeA_zero hc
  obtain ⟨hs, hm⟩ := codeM_one hcm
  obtain ⟨hpr, hd1, hd6, hqb⟩ := space_of hs
  have hpb := prime_bd hpr
  obtain ⟨hxl, hxb⟩ := multi_of hm
  have HD := Lib.hid (show n1 = 2 ^ qs.length from hx1.1.symm.trans hxl)
  rw [hq.1] at hd6 hxl
  have HN := Lib.hid (show n1 = 2 ^ d from hx1.1.symm.trans hxl)
  have hn64 : n1 ≤ 64 := by rw [HN.out]; exact pow_le64 hd6
  have hnp : 0 < n1 := by rw [HN.out]; exact pow_pos' d
  have HQB := Lib.hid hqb
  have HPR := Lib.hid hpr
  have HGX := Lib.hid (good_isB hx1.1 hxb)
  have HPG : Hid (∀ k, Good p n1 (powL p qs xs1 k)) := Lib.hid (fun k => by rw [HD.out]; exact pow_good hpb.1 k)
  have HPM : Hid (∀ k, turnL (powsL p qs xs1 k) k n1 = powM p qs xs1 k) := Lib.hid (fun k => by rw [HD.out]; rfl)
  have HMG : Hid (∀ k, RowsG p k (powM p qs xs1 k)) := Lib.hid (fun k => powM_good hpb.1)
  have HLE : Hid (∀ k, (∀ j, 1 ≤ j → j ≤ k → stopB p qs xs1 j = false) → k + 1 ≤ n1) := Lib.hid (fun k h => by rw [HD.out]; exact stop_le HPR.out h)
  have HQ := Lib.hid hq
  have HX := Lib.hid hx1
  have HC := Lib.hid hc
  have hcb : ((0 : Int) != 0) = false := by simp
  clear hc hcm hq4 hs hm hpr hd1 hqb hxl hxb
  go_enter Try.func58, Try.ntmps58
  go_wp2_with (first | (go_at_call 68; refine (c_checkAlgebra p a d cap qs _ 1 _ [xs1] _ hd (by omega) (len_one (by rw [hx1.1]; exact hn1)) (hq.ext ((ext_alloc _ _).alloc _)) (rdR_one (a := ax1) (n := _) (cap := cx1) (by simp) (hx1.ext ((ext_alloc _ _).alloc _)))).mono ?_; rintro e w1 ⟨rfl, g1⟩; rw [HC.out]; have hq0 : w1.cell? ⟨w.heap.size, 0, none⟩ = some (.int .i64 p) := g1.cell (by simp); have hq1 : w1.cell? ⟨w.heap.size, 1, none⟩ = some (.slice a d cap) := g1.cell (by simp)) | (go_at_call 110; refine (c_oneN HN.out p a cap _ hd6).mono ?_; rintro e w2 ⟨g2, rfl, ho, h2⟩))
  have HS0 := Lib.hid hq0
  have HS1 := Lib.hid hq1
  have GW := Lib.hid (((ext_alloc w (.cells #[.int .i64 p, .slice a d cap] 30)).alloc (.cells #[.slice ax1 n1 cx1] 22)).trans g1)
  have HO2 := Lib.hid ho
  have H2 := Lib.hid h2
  clear g1 hq0 hq1 hq hx1 ho h2
  go_loopw [7] (fun s wr => ∃ (k g rc : Nat), s = .slice (some ⟨g, 0, none⟩) (k + 1) rc ∧ OwnR w1.heap.size wr (some ⟨g, 0, none⟩) (k + 1) rc (powsL p qs xs1 (k + 1)) ∧ Ext w1 wr ∧ Hid (∀ j, 1 ≤ j → j ≤ k → stopB p qs xs1 j = false)) (fun s _ => n1 - lenV s)
  case atStart => exact ⟨0, _, _, rfl, by have h := ownR_one HO2.out H2.out.size; rw [HD.out] at h; rw [HD.out]; exact h, H2.out.alloc _, Lib.hid (fun j h1 h2 => by omega)⟩
  case round =>
    obtain ⟨k, g, rc, rfl, hown, hext, HNo⟩ := hrel
    have hkn := HLE.out k HNo.out
    have HOwn := Lib.hid hown
    have HExt := Lib.hid hext
    clear hown hext
    obtain ⟨ak, ck, hck, hrk⟩ := HOwn.out.at (show k < k + 1 by omega)
    rw [powsL_nth (Nat.lt_succ_self k), (HPG.out k).1] at hck hrk
    have HRk := Lib.hid hrk.rd
    have HCk := Lib.hid ((ext_drew wr).cell hck)
    clear hck hrk
    have GX := Lib.hid (GW.out.trans (HExt.out.trans (ext_drew wr)))
    have HT0 := Lib.hid ((HExt.out.trans (ext_drew wr)).cell HS0.out)
    have HT1 := Lib.hid ((HExt.out.trans (ext_drew wr)).cell HS1.out)
    go_wp2_with (fail)
    refine wp_region_lex [(8, .rows 2 [powL p qs xs1 k, xs1]), (9, .ownG wr.drew.heap.size n1 (timesL p qs [powL p qs xs1 k, xs1]))] (by kernel_rfl) (by kernel_rfl) ?_
    (refine LexW.pure (v := ?_) rfl rfl (fun w1 he => ?_) ?_; rotate_left; ( have hwk : IntKind.i64.wrap (k : Int) = k := IntWalk.i64_in _ (by omega); have hk1 : (k : Int) < (k : Int) + 1 := (by omega); have hk0 : 0 ≤ (k : Int) := (by omega); have e1 := he.cell HT0.out; have e2 := he.cell HT1.out; have e3 := he.cell HCk.out; go_simp; rfl); simp only [Act.put, List.setIfInBounds_toArray, List.set_cons_zero, List.set_cons_succ])
    (refine LexW.pure (v := ?_) rfl rfl (fun w1 he => ?_) ?_; rotate_left; ( have hwk : IntKind.i64.wrap (k : Int) = k := IntWalk.i64_in _ (by omega); have hk1 : (k : Int) < (k : Int) + 1 := (by omega); have hk0 : 0 ≤ (k : Int) := (by omega); have e1 := he.cell HT0.out; have e2 := he.cell HT1.out; have e3 := he.cell HCk.out; go_simp; rfl); simp only [Act.put, List.setIfInBounds_toArray, List.set_cons_zero, List.set_cons_succ])
    (refine LexW.pure (v := ?_) rfl rfl (fun w1 he => ?_) ?_; rotate_left; ( have hwk : IntKind.i64.wrap (k : Int) = k := IntWalk.i64_in _ (by omega); have hk1 : (k : Int) < (k : Int) + 1 := (by omega); have hk0 : 0 ≤ (k : Int) := (by omega); have e1 := he.cell HT0.out; have e2 := he.cell HT1.out; have e3 := he.cell HCk.out; go_simp; rfl); simp only [Act.put, List.setIfInBounds_toArray, List.set_cons_zero, List.set_cons_succ])
    (refine LexW.pure (v := ?_) rfl rfl (fun w1 he => ?_) ?_; rotate_left; ( have hwk : IntKind.i64.wrap (k : Int) = k := IntWalk.i64_in _ (by omega); have hk1 : (k : Int) < (k : Int) + 1 := (by omega); have hk0 : 0 ≤ (k : Int) := (by omega); have e1 := he.cell HT0.out; have e2 := he.cell HT1.out; have e3 := he.cell HCk.out; go_simp; rfl); simp only [Act.put, List.setIfInBounds_toArray, List.set_cons_zero, List.set_cons_succ])
    (refine LexW.pure (v := ?_) rfl rfl (fun w1 he => ?_) ?_; rotate_left; ( have hwk : IntKind.i64.wrap (k : Int) = k := IntWalk.i64_in _ (by omega); have hk1 : (k : Int) < (k : Int) + 1 := (by omega); have hk0 : 0 ≤ (k : Int) := (by omega); have e1 := he.cell HT0.out; have e2 := he.cell HT1.out; have e3 := he.cell HCk.out; go_simp; rfl); simp only [Act.put, List.setIfInBounds_toArray, List.set_cons_zero, List.set_cons_succ])
    (refine LexW.pure (v := ?_) rfl rfl (fun w1 he => ?_) ?_; rotate_left; ( have hwk : IntKind.i64.wrap (k : Int) = k := IntWalk.i64_in _ (by omega); have hk1 : (k : Int) < (k : Int) + 1 := (by omega); have hk0 : 0 ≤ (k : Int) := (by omega); have e1 := he.cell HT0.out; have e2 := he.cell HT1.out; have e3 := he.cell HCk.out; go_simp; rfl); simp only [Act.put, List.setIfInBounds_toArray, List.set_cons_zero, List.set_cons_succ])
    (refine LexW.pure (v := ?_) rfl rfl (fun w1 he => ?_) ?_; rotate_left; ( have hwk : IntKind.i64.wrap (k : Int) = k := IntWalk.i64_in _ (by omega); have hk1 : (k : Int) < (k : Int) + 1 := (by omega); have hk0 : 0 ≤ (k : Int) := (by omega); have e1 := he.cell HT0.out; have e2 := he.cell HT1.out; have e3 := he.cell HCk.out; go_simp; rfl); simp only [Act.put, List.setIfInBounds_toArray, List.set_cons_zero, List.set_cons_succ])
    (refine LexW.pure (v := ?_) rfl rfl (fun w1 he => ?_) ?_; rotate_left; ( have hwk : IntKind.i64.wrap (k : Int) = k := IntWalk.i64_in _ (by omega); have hk1 : (k : Int) < (k : Int) + 1 := (by omega); have hk0 : 0 ≤ (k : Int) := (by omega); have e1 := he.cell HT0.out; have e2 := he.cell HT1.out; have e3 := he.cell HCk.out; go_simp; rfl); simp only [Act.put, List.setIfInBounds_toArray, List.set_cons_zero, List.set_cons_succ])
    (refine LexW.rel rfl rfl (fun w1 he hdep => ?_) (fun v hv => ?_); ( exact ⟨.slice (some ⟨w1.heap.size, 0, none⟩) 2 2, w1.alloc (.cells #[.slice ak n1 ck, .slice ax1 n1 cx1] 22), (by go_simp), ext_alloc _ _, _, rfl, rdR_two (a := ak) (b := ax1) (n := n1) (m := n1) (ca := ck) (cb := cx1) (by simp) (by simp) ((HRk.out.ext ((ext_drew wr).trans he)).ext (ext_alloc _ _)) ((HX.out.ext (GX.out.trans he)).ext (ext_alloc _ _))⟩); simp only [Act.put, List.setIfInBounds_toArray, List.set_cons_zero, List.set_cons_succ])
    obtain ⟨_, g29, rfl, _⟩ := hv
    (refine LexW.callR (f := ?_) (args := ?_) rfl rfl (fun w1 => ?_) (fun w1 he hdep => ?_) (fun v hv => ?_); rotate_left 2; (go_simp; refine ⟨?_, ?_⟩ <;> rfl); ( obtain ⟨_, q29, r29⟩ : (SPred.rows 2 [powL p qs xs1 k, xs1]).holds (.slice (some ⟨g29, 0, none⟩) 2 2) w1 := hdep (8, 29) (by decide +kernel); cases q29; refine (c_timesN HN.out p a cap qs _ 2 _ [powL p qs xs1 k, xs1] w1 hd6 (by omega) (by omega) (by omega) (HQ.out.ext (GX.out.trans he)) HQB.out r29 (good_two (HPG.out k) HGX.out)).mono ?_; rintro e w2 ⟨g, rfl, ho, g2⟩; exact ⟨_, rfl, g2, g, rfl, ho.mono he.size⟩); simp only [Act.put, List.setIfInBounds_toArray, List.set_cons_zero, List.set_cons_succ])
    obtain ⟨_, g30, rfl, _⟩ := hv
    (refine LexW.pure (v := ?_) rfl rfl (fun w1 he => ?_) ?_; rotate_left; ( have hwk : IntKind.i64.wrap (k : Int) = k := IntWalk.i64_in _ (by omega); have hk1 : (k : Int) < (k : Int) + 1 := (by omega); have hk0 : 0 ≤ (k : Int) := (by omega); have e1 := he.cell HT0.out; have e2 := he.cell HT1.out; have e3 := he.cell HCk.out; go_simp; rfl); simp only [Act.put, List.setIfInBounds_toArray, List.set_cons_zero, List.set_cons_succ])
    refine LexW.nil (fun w3 he hkn => ?_)
    obtain ⟨_, q30, r30⟩ : (SPred.ownG wr.drew.heap.size n1 (timesL p qs [powL p qs xs1 k, xs1])).holds (.slice (some ⟨g30, 0, none⟩) n1 n1) w3 := hkn (9, _) (by simp)
    cases q30
    have R30 := Lib.hid r30
    have HE := Lib.hid (GX.out.trans he)
    have X3 := Lib.hid ((ext_drew wr).trans he)
    clear he hkn r30
    have HO : Hid (OwnC wr.heap.size w3 (some ⟨g30, 0, none⟩) n1 n1 (powL p qs xs1 (k + 1))) := Lib.hid (by
      have h := R30.out.mono (B' := wr.heap.size) (ext_drew wr).size
      rw [prod_two HD.out (by omega) (HPG.out k)] at h
      exact h)
    have q0 := (HExt.out.trans X3.out).cell HS0.out
    have q1 := (HExt.out.trans X3.out).cell HS1.out
    obtain ⟨sol, hsol⟩ : ∃ sol, sol = solR (k + 1) (redL p (k + 1) (powM p qs xs1 (k + 1)) (powL p qs xs1 (k + 1)) n1) := ⟨_, rfl⟩
    obtain ⟨ok, hok⟩ : ∃ ok, ok = stopB p qs xs1 (k + 1) := ⟨_, rfl⟩
    have HOk := Lib.hid hok
    have hok2 : ok = okS (k + 1) (redL p (k + 1) (powM p qs xs1 (k + 1)) (powL p qs xs1 (k + 1)) n1) := by rw [hok, HD.out]; rfl
    have HSol : Hid (∀ (am : Option Addr) (cm : Nat) (au : Option Addr) (cu : Nat) (w4 : World), RdR w4 am n1 (powM p qs xs1 (k + 1)) → RdC w4 au n1 (powL p qs xs1 (k + 1)) →
        Calls Try.prog 112 #[.int .i64 p, .slice am n1 cm, .slice au n1 cu] w4 fun e w' => ∃ ra rc, e = .returned (.tuple #[.slice ra sol.length rc, .bool ok]) ∧ OwnC w4.heap.size w' ra sol.length rc sol ∧ Ext w4 w') := Lib.hid (fun am cm au cu w4 h1 h2 => by
      have h := c_solve p am n1 cm (k + 1) (powM p qs xs1 (k + 1)) au cu (powL p qs xs1 (k + 1)) w4 HPR.out hnp (by omega) (by omega) (by omega) h1 (HMG.out _) h2 (HPG.out _)
      rw [← hsol, ← hok2] at h; exact h)
    have HTu : Hid (∀ (am : Option Addr) (cm : Nat) (w4 : World), RdR w4 am (k + 1) (powsL p qs xs1 (k + 1)) →
        Calls Try.prog 105 #[.slice am (k + 1) cm] w4 fun e w' => ∃ g rc, e = .returned (.slice (some ⟨g, 0, none⟩) n1 rc) ∧ OwnR w4.heap.size w' (some ⟨g, 0, none⟩) n1 rc (powM p qs xs1 (k + 1)) ∧ Ext w4 w') := Lib.hid (fun am cm w4 h1 => by
      have h := c_transpose am (k + 1) cm n1 (powsL p qs xs1 (k + 1)) w4 (by omega) (by omega) (by omega) (fun i hi => by rw [powsL_nth hi, (HPG.out i).1]) h1
      rw [HPM.out] at h; exact h)
    clear hok
    cases ok
    · clear hsol hok2
      go_wp2_with (fail)
      refine (c_field p _ _).mono ?_
      rintro e w4 ⟨rfl, g4⟩
      have G4 := Lib.hid g4
      clear g4
      go_wp2_with (fail)
      refine (HTu.out _ _ w4 (HOwn.out.rd.ext (X3.out.trans G4.out))).mono ?_
      rintro e w5 ⟨g5, c5, rfl, ho5, h5⟩
      have HO5 := Lib.hid ho5
      have H5 := Lib.hid h5
      clear ho5 h5
      go_wp2_with (fail)
      refine (HSol.out _ _ _ _ w5 HO5.out.rd ((HO.out.ext (G4.out.trans H5.out)).rd)).mono ?_
      rintro e w6 ⟨ra, r6, rfl, ho6, h6⟩
      have HO6 := Lib.hid ho6
      have X36 := Lib.hid (G4.out.trans (H5.out.trans h6))
      have X6 := Lib.hid (X3.out.trans (G4.out.trans (H5.out.trans h6)))
      clear ho6 h6 q0 q1
      have q0 := (HExt.out.trans X6.out).cell HS0.out
      have q1 := (HExt.out.trans X6.out).cell HS1.out
      go_wp2_with (at_builtin; refine wpList_pushR (w0 := wr) rfl (.tmp 47) (.tmp 49) rfl rfl rfl HOwn.out (X6.out.trans (ext_alloc _ _)) (HO.out.ext (X36.out.trans (ext_alloc _ _))) ?hc (by omega) HExt.out.size ?hk)
      case hc => exact cell_new _ _ rfl _ _
      case hk =>
        intro g7 c7 w7 ho7 hg7 he7
        have HO7 := Lib.hid ho7
        have HE7 := Lib.hid (he7 w1 (Nat.le_refl _) ((HExt.out.trans X6.out).alloc _))
        clear ho7 hg7 he7
        have HNo2 : Hid (∀ j, 1 ≤ j → j ≤ k + 1 → stopB p qs xs1 j = false) := Lib.hid (fun j h1 h2 => by
          by_cases h : j = k + 1
          · subst h; exact HOk.out.symm
          · exact HNo.out j h1 (by omega))
        go_wp2_with (fail)
        go_roundw
        case rel => exact ⟨k + 1, g7, c7, rfl, by rw [powsL_succ]; exact HO7.out, HE7.out, HNo2⟩
        case measure => have := HLE.out (k + 1) HNo2.out; simp [lenV]; omega
    · have hlen : sol.length = k + 1 := by rw [hsol]; unfold solR; rw [if_pos hok2.symm]; exact solL_len'
      have HSG : Hid (Good p (k + 1) sol) := Lib.hid (by
        rw [hsol]; unfold solR; rw [if_pos hok2.symm]
        obtain ⟨c, hb⟩ := basis_red HPR.out (wideL_good (HMG.out (k + 1)) (HPG.out (k + 1)) (by rw [powM_len, HD.out]; exact Nat.le_refl _))
        exact sol_good (by omega) hb.good)
      have HML : Hid (minL p qs xs1 = scaleL p sol (-1) (k + 1) ++ [1]) := Lib.hid (by
        unfold minL
        rw [minK_eq HPR.out (show 1 ≤ k + 1 by omega) HOk.out.symm (fun j h1 h2 => HNo.out j h1 (by omega))]
        unfold polyK
        rw [hsol, HD.out])
      clear hsol hok2
      rw [hlen] at HSol
      clear hlen
      go_wp2_with (fail)
      refine (c_field p _ _).mono ?_
      rintro e w4 ⟨rfl, g4⟩
      have G4 := Lib.hid g4
      clear g4
      go_wp2_with (fail)
      refine (HTu.out _ _ w4 (HOwn.out.rd.ext (X3.out.trans G4.out))).mono ?_
      rintro e w5 ⟨g5, c5, rfl, ho5, h5⟩
      have HO5 := Lib.hid ho5
      have H5 := Lib.hid h5
      clear ho5 h5
      go_wp2_with (fail)
      refine (HSol.out _ _ _ _ w5 HO5.out.rd ((HO.out.ext (G4.out.trans H5.out)).rd)).mono ?_
      rintro e w6 ⟨ra, r6, rfl, ho6, h6⟩
      have HO6 := Lib.hid ho6
      have X36 := Lib.hid (G4.out.trans (H5.out.trans h6))
      have X6 := Lib.hid (X3.out.trans (G4.out.trans (H5.out.trans h6)))
      clear ho6 h6 q0 q1
      have q0 := (HExt.out.trans X6.out).cell HS0.out
      have q1 := (HExt.out.trans X6.out).cell HS1.out
      go_wp2_with (fail)
      refine (c_field p _ _).mono ?_
      rintro e w7 ⟨rfl, g7⟩
      have G7 := Lib.hid g7
      clear g7 q0 q1
      go_wp2_with (fail)
      refine (c_scaled p _ (k + 1) _ sol (-1) w7 (by omega) (by omega) (by omega) (by omega) (HO6.out.ext G7.out).rd HSG.out).mono ?_
      rintro e w8 ⟨g8, c8, rfl, ho8, h8⟩
      have E8 := Lib.hid ((GW.out.trans (HExt.out.trans (X6.out.trans G7.out))).trans h8)
      have HO8 := Lib.hid (ho8.mono (GW.out.trans (HExt.out.trans (X6.out.trans G7.out))).size)
      clear ho8 h8
      go_wp2_with (at_builtin; refine wpList_push rfl (.tmp 44) (.tmp 45) rfl rfl rfl (v := 1) (HO8.out.ext (ext_alloc _ _)) ?hc (by omega) ?hB ?hk)
      case hc => simp
      case hB => have hz := E8.out.size'; simp; omega
      case hk =>
        intro g9 c9 w9 ho9 hg9 he9
        have HO9 := Lib.hid ho9
        have HE9 := Lib.hid (he9 w (Nat.le_refl _) (E8.out.alloc _))
        clear ho9 hg9 he9
        go_wp2_with (fail)
        go_ret2
        exact ⟨_, _, by rw [HML.out, List.length_append, scaleL_len]; rfl, by rw [HML.out, List.length_append, scaleL_len]; exact HO9.out, HE9.out⟩

set_option maxHeartbeats 400000 in
theorem s_MinimalPolynomial_bad (p : Int) (a : Option Addr) (d cap : Nat) (qs : List Int) (ax1 : Option Addr) (n1 cx1 : Nat) (xs1 : List Int) (w : World) (hd : d ≤ 4194304) (hn1 : n1 ≤ 4194304) (hq : RdC w a d qs) (hx1 : RdC w ax1 n1 xs1) (hc : codeA p qs [xs1] ≠ 0) :
    Calls Try.prog 57 #[.agg #[.int .i64 p, .slice a d cap], .slice ax1 n1 cx1] w fun e w' => ∃ ra rc, e = .returned (.tuple #[.slice ra 0 rc, .int .i64 (codeA p qs [xs1])]) ∧ OwnC w.heap.size w' ra 0 rc [] ∧ Ext w w' := by
  have hcb : (codeA p qs [xs1] != 0) = true := by simp [hc]
  clear hc
  go_enter Try.func57, Try.ntmps57
  go_wp2_with (go_at_call 66; refine (s_code9 p a d cap qs _ 1 _ [xs1] _ hd (by omega) (len_one (by rw [hx1.1]; exact hn1)) (hq.ext ((ext_alloc _ _).alloc _)) (rdR_one (a := ax1) (n := _) (cap := cx1) (by simp) (hx1.ext ((ext_alloc _ _).alloc _)))).mono ?_; rintro e w1 ⟨rfl, g1⟩)
  go_ret2
  exact ⟨none, 0, rfl, own_nil _ _, ((ext_alloc _ _).alloc _).trans g1⟩
set_option maxHeartbeats 8000000 in
set_option maxRecDepth 100000 in
theorem s_MinimalPolynomial_ok (p : Int) (a : Option Addr) (d cap : Nat) (qs : List Int) (ax1 : Option Addr) (n1 cx1 : Nat) (xs1 : List Int) (w : World) (hd : d ≤ 4194304) (hn1 : n1 ≤ 4194304) (hq : RdC w a d qs) (hx1 : RdC w ax1 n1 xs1) (hc : codeA p qs [xs1] = 0) :
    Calls Try.prog 57 #[.agg #[.int .i64 p, .slice a d cap], .slice ax1 n1 cx1] w fun e w' => ∃ ra rc, e = .returned (.tuple #[.slice ra (minL p qs xs1).length rc, .int .i64 0]) ∧ OwnC w.heap.size w' ra (minL p qs xs1).length rc (minL p qs xs1) ∧ Ext w w' := by
  obtain ⟨hcm, hq4⟩ := codeA_zero hc
  obtain ⟨hs, hm⟩ := codeM_one hcm
  obtain ⟨hpr, hd1, hd6, hqb⟩ := space_of hs
  have hpb := prime_bd hpr
  obtain ⟨hxl, hxb⟩ := multi_of hm
  have HD := Lib.hid (show n1 = 2 ^ qs.length from hx1.1.symm.trans hxl)
  rw [hq.1] at hd6 hxl
  have HN := Lib.hid (show n1 = 2 ^ d from hx1.1.symm.trans hxl)
  have hn64 : n1 ≤ 64 := by rw [HN.out]; exact pow_le64 hd6
  have hnp : 0 < n1 := by rw [HN.out]; exact pow_pos' d
  have HQB := Lib.hid hqb
  have HPR := Lib.hid hpr
  have HGX := Lib.hid (good_isB hx1.1 hxb)
  have HPG : Hid (∀ k, Good p n1 (powL p qs xs1 k)) := Lib.hid (fun k => by rw [HD.out]; exact pow_good hpb.1 k)
  have HPM : Hid (∀ k, turnL (powsL p qs xs1 k) k n1 = powM p qs xs1 k) := Lib.hid (fun k => by rw [HD.out]; rfl)
  have HMG : Hid (∀ k, RowsG p k (powM p qs xs1 k)) := Lib.hid (fun k => powM_good hpb.1)
  have HLE : Hid (∀ k, (∀ j, 1 ≤ j → j ≤ k → stopB p qs xs1 j = false) → k + 1 ≤ n1) := Lib.hid (fun k h => by rw [HD.out]; exact stop_le HPR.out h)
  have HQ := Lib.hid hq
  have HX := Lib.hid hx1
  have HC := Lib.hid hc
  have hcb : ((0 : Int) != 0) = false := by simp
  clear hc hcm hq4 hs hm hpr hd1 hqb hxl hxb
  go_enter Try.func57, Try.ntmps57
  go_wp2_with (first | (go_at_call 66; refine (s_code9 p a d cap qs _ 1 _ [xs1] _ hd (by omega) (len_one (by rw [hx1.1]; exact hn1)) (hq.ext ((ext_alloc _ _).alloc _)) (rdR_one (a := ax1) (n := _) (cap := cx1) (by simp) (hx1.ext ((ext_alloc _ _).alloc _)))).mono ?_; rintro e w1 ⟨rfl, g1⟩; rw [HC.out]; have hq0 : w1.cell? ⟨w.heap.size, 0, none⟩ = some (.int .i64 p) := g1.cell (by simp); have hq1 : w1.cell? ⟨w.heap.size, 1, none⟩ = some (.slice a d cap) := g1.cell (by simp)) | (go_at_call 87; refine (s_oneN HN.out p a cap _ hd6).mono ?_; rintro e w2 ⟨g2, rfl, ho, h2⟩))
  have HS0 := Lib.hid hq0
  have HS1 := Lib.hid hq1
  have GW := Lib.hid (((ext_alloc w (.cells #[.int .i64 p, .slice a d cap] 30)).alloc (.cells #[.slice ax1 n1 cx1] 22)).trans g1)
  have HO2 := Lib.hid ho
  have H2 := Lib.hid h2
  clear g1 hq0 hq1 hq hx1 ho h2
  go_loopw [7] (fun s wr => ∃ (k g rc : Nat), s = .slice (some ⟨g, 0, none⟩) (k + 1) rc ∧ OwnR w1.heap.size wr (some ⟨g, 0, none⟩) (k + 1) rc (powsL p qs xs1 (k + 1)) ∧ Ext w1 wr ∧ Hid (∀ j, 1 ≤ j → j ≤ k → stopB p qs xs1 j = false)) (fun s _ => n1 - lenV s)
  case atStart => exact ⟨0, _, _, rfl, by have h := ownR_one HO2.out H2.out.size; rw [HD.out] at h; rw [HD.out]; exact h, H2.out.alloc _, Lib.hid (fun j h1 h2 => by omega)⟩
  case round =>
    obtain ⟨k, g, rc, rfl, hown, hext, HNo⟩ := hrel
    have hkn := HLE.out k HNo.out
    have HOwn := Lib.hid hown
    have HExt := Lib.hid hext
    clear hown hext
    obtain ⟨ak, ck, hck, hrk⟩ := HOwn.out.at (show k < k + 1 by omega)
    rw [powsL_nth (Nat.lt_succ_self k), (HPG.out k).1] at hck hrk
    have HRk := Lib.hid hrk.rd
    have HCk := Lib.hid ((ext_drew wr).cell hck)
    clear hck hrk
    have GX := Lib.hid (GW.out.trans (HExt.out.trans (ext_drew wr)))
    have HT0 := Lib.hid ((HExt.out.trans (ext_drew wr)).cell HS0.out)
    have HT1 := Lib.hid ((HExt.out.trans (ext_drew wr)).cell HS1.out)
    go_wp2_with (fail)
    refine wp_region_lex [(8, .ownG wr.drew.heap.size n1 (prodL p qs tkA (powL p qs xs1 k) xs1))] (by kernel_rfl) (by kernel_rfl) ?_
    (refine LexW.pure (v := ?_) rfl rfl (fun w1 he => ?_) ?_; rotate_left; ( have hwk : IntKind.i64.wrap (k : Int) = k := IntWalk.i64_in _ (by omega); have hk1 : (k : Int) < (k : Int) + 1 := (by omega); have hk0 : 0 ≤ (k : Int) := (by omega); have e1 := he.cell HT0.out; have e2 := he.cell HT1.out; have e3 := he.cell HCk.out; go_simp; rfl); simp only [Act.put, List.setIfInBounds_toArray, List.set_cons_zero, List.set_cons_succ])
    (refine LexW.pure (v := ?_) rfl rfl (fun w1 he => ?_) ?_; rotate_left; ( have hwk : IntKind.i64.wrap (k : Int) = k := IntWalk.i64_in _ (by omega); have hk1 : (k : Int) < (k : Int) + 1 := (by omega); have hk0 : 0 ≤ (k : Int) := (by omega); have e1 := he.cell HT0.out; have e2 := he.cell HT1.out; have e3 := he.cell HCk.out; go_simp; rfl); simp only [Act.put, List.setIfInBounds_toArray, List.set_cons_zero, List.set_cons_succ])
    (refine LexW.pure (v := ?_) rfl rfl (fun w1 he => ?_) ?_; rotate_left; ( have hwk : IntKind.i64.wrap (k : Int) = k := IntWalk.i64_in _ (by omega); have hk1 : (k : Int) < (k : Int) + 1 := (by omega); have hk0 : 0 ≤ (k : Int) := (by omega); have e1 := he.cell HT0.out; have e2 := he.cell HT1.out; have e3 := he.cell HCk.out; go_simp; rfl); simp only [Act.put, List.setIfInBounds_toArray, List.set_cons_zero, List.set_cons_succ])
    (refine LexW.pure (v := ?_) rfl rfl (fun w1 he => ?_) ?_; rotate_left; ( have hwk : IntKind.i64.wrap (k : Int) = k := IntWalk.i64_in _ (by omega); have hk1 : (k : Int) < (k : Int) + 1 := (by omega); have hk0 : 0 ≤ (k : Int) := (by omega); have e1 := he.cell HT0.out; have e2 := he.cell HT1.out; have e3 := he.cell HCk.out; go_simp; rfl); simp only [Act.put, List.setIfInBounds_toArray, List.set_cons_zero, List.set_cons_succ])
    (refine LexW.pure (v := ?_) rfl rfl (fun w1 he => ?_) ?_; rotate_left; ( have hwk : IntKind.i64.wrap (k : Int) = k := IntWalk.i64_in _ (by omega); have hk1 : (k : Int) < (k : Int) + 1 := (by omega); have hk0 : 0 ≤ (k : Int) := (by omega); have e1 := he.cell HT0.out; have e2 := he.cell HT1.out; have e3 := he.cell HCk.out; go_simp; rfl); simp only [Act.put, List.setIfInBounds_toArray, List.set_cons_zero, List.set_cons_succ])
    (refine LexW.pure (v := ?_) rfl rfl (fun w1 he => ?_) ?_; rotate_left; ( have hwk : IntKind.i64.wrap (k : Int) = k := IntWalk.i64_in _ (by omega); have hk1 : (k : Int) < (k : Int) + 1 := (by omega); have hk0 : 0 ≤ (k : Int) := (by omega); have e1 := he.cell HT0.out; have e2 := he.cell HT1.out; have e3 := he.cell HCk.out; go_simp; rfl); simp only [Act.put, List.setIfInBounds_toArray, List.set_cons_zero, List.set_cons_succ])
    (refine LexW.pure (v := ?_) rfl rfl (fun w1 he => ?_) ?_; rotate_left; ( have hwk : IntKind.i64.wrap (k : Int) = k := IntWalk.i64_in _ (by omega); have hk1 : (k : Int) < (k : Int) + 1 := (by omega); have hk0 : 0 ≤ (k : Int) := (by omega); have e1 := he.cell HT0.out; have e2 := he.cell HT1.out; have e3 := he.cell HCk.out; go_simp; rfl); simp only [Act.put, List.setIfInBounds_toArray, List.set_cons_zero, List.set_cons_succ])
    (refine LexW.pure (v := ?_) rfl rfl (fun w1 he => ?_) ?_; rotate_left; ( have hwk : IntKind.i64.wrap (k : Int) = k := IntWalk.i64_in _ (by omega); have hk1 : (k : Int) < (k : Int) + 1 := (by omega); have hk0 : 0 ≤ (k : Int) := (by omega); have e1 := he.cell HT0.out; have e2 := he.cell HT1.out; have e3 := he.cell HCk.out; go_simp; rfl); simp only [Act.put, List.setIfInBounds_toArray, List.set_cons_zero, List.set_cons_succ])
    (refine LexW.callR (f := ?_) (args := ?_) rfl rfl (fun w1 => ?_) (fun w1 he hdep => ?_) (fun v hv => ?_); rotate_left 2; (go_simp; refine ⟨?_, ?_⟩ <;> rfl); ( refine (s_timesN HN.out p a cap qs _ ax1 _ cx1 (powL p qs xs1 k) xs1 w1 hd6 (by omega) (by omega) (HQ.out.ext (GX.out.trans he)) HQB.out (HRk.out.ext ((ext_drew wr).trans he)) (HX.out.ext (GX.out.trans he)) (HPG.out k).isB HGX.out.isB).mono ?_; rintro e w2 ⟨g, rfl, ho, g2⟩; exact ⟨_, rfl, g2, g, rfl, ho.mono he.size⟩); simp only [Act.put, List.setIfInBounds_toArray, List.set_cons_zero, List.set_cons_succ])
    obtain ⟨_, g29, rfl, _⟩ := hv
    (refine LexW.pure (v := ?_) rfl rfl (fun w1 he => ?_) ?_; rotate_left; ( have hwk : IntKind.i64.wrap (k : Int) = k := IntWalk.i64_in _ (by omega); have hk1 : (k : Int) < (k : Int) + 1 := (by omega); have hk0 : 0 ≤ (k : Int) := (by omega); have e1 := he.cell HT0.out; have e2 := he.cell HT1.out; have e3 := he.cell HCk.out; go_simp; rfl); simp only [Act.put, List.setIfInBounds_toArray, List.set_cons_zero, List.set_cons_succ])
    refine LexW.nil (fun w3 he hkn => ?_)
    obtain ⟨_, q29, r29⟩ : (SPred.ownG wr.drew.heap.size n1 (prodL p qs tkA (powL p qs xs1 k) xs1)).holds (.slice (some ⟨g29, 0, none⟩) n1 n1) w3 := hkn (8, _) (by simp)
    cases q29
    have R29 := Lib.hid r29
    have HE := Lib.hid (GX.out.trans he)
    have X3 := Lib.hid ((ext_drew wr).trans he)
    clear he hkn r29
    have HO : Hid (OwnC wr.heap.size w3 (some ⟨g29, 0, none⟩) n1 n1 (powL p qs xs1 (k + 1))) := Lib.hid (R29.out.mono (ext_drew wr).size)
    have q0 := (HExt.out.trans X3.out).cell HS0.out
    have q1 := (HExt.out.trans X3.out).cell HS1.out
    obtain ⟨sol, hsol⟩ : ∃ sol, sol = solR (k + 1) (redL p (k + 1) (powM p qs xs1 (k + 1)) (powL p qs xs1 (k + 1)) n1) := ⟨_, rfl⟩
    obtain ⟨ok, hok⟩ : ∃ ok, ok = stopB p qs xs1 (k + 1) := ⟨_, rfl⟩
    have HOk := Lib.hid hok
    have hok2 : ok = okS (k + 1) (redL p (k + 1) (powM p qs xs1 (k + 1)) (powL p qs xs1 (k + 1)) n1) := by rw [hok, HD.out]; rfl
    have HSol : Hid (∀ (am : Option Addr) (cm : Nat) (au : Option Addr) (cu : Nat) (w4 : World), RdR w4 am n1 (powM p qs xs1 (k + 1)) → RdC w4 au n1 (powL p qs xs1 (k + 1)) →
        Calls Try.prog 107 #[.int .i64 p, .slice am n1 cm, .slice au n1 cu] w4 fun e w' => ∃ ra rc, e = .returned (.tuple #[.slice ra sol.length rc, .bool ok]) ∧ OwnC w4.heap.size w' ra sol.length rc sol ∧ Ext w4 w') := Lib.hid (fun am cm au cu w4 h1 h2 => by
      have h := s_solve p am n1 cm (k + 1) (powM p qs xs1 (k + 1)) au cu (powL p qs xs1 (k + 1)) w4 HPR.out hnp (by omega) (by omega) (by omega) h1 (HMG.out _) h2 (HPG.out _)
      rw [← hsol, ← hok2] at h; exact h)
    have HTu : Hid (∀ (am : Option Addr) (cm : Nat) (w4 : World), RdR w4 am (k + 1) (powsL p qs xs1 (k + 1)) →
        Calls Try.prog 108 #[.slice am (k + 1) cm] w4 fun e w' => ∃ g rc, e = .returned (.slice (some ⟨g, 0, none⟩) n1 rc) ∧ OwnR w4.heap.size w' (some ⟨g, 0, none⟩) n1 rc (powM p qs xs1 (k + 1)) ∧ Ext w4 w') := Lib.hid (fun am cm w4 h1 => by
      have h := s_turn am (k + 1) cm n1 (powsL p qs xs1 (k + 1)) w4 (by omega) (by omega) (by omega) (fun i hi => by rw [powsL_nth hi, (HPG.out i).1]) h1
      rw [HPM.out] at h; exact h)
    clear hok
    cases ok
    · clear hsol hok2
      have HU0 := Lib.hid ((ext_drew _).cell q0)
      have HU1 := Lib.hid ((ext_drew _).cell q1)
      clear q0 q1
      go_wp2_with (fail)
      refine wp_region_lex [(3, .ownR w3.drew.heap.size n1 (powM p qs xs1 (k + 1))), (5, .sol w3.drew.heap.size (sol.length) (sol) (false))] (by kernel_rfl) (by kernel_rfl) ?_
      (refine LexW.pure (v := ?_) rfl rfl (fun w1 he => ?_) ?_; rotate_left; ( have e1 := he.cell HU0.out; have e2 := he.cell HU1.out; go_simp; rfl); simp only [Act.put, List.setIfInBounds_toArray, List.set_cons_zero, List.set_cons_succ])
      (refine LexW.pure (v := ?_) rfl rfl (fun w1 he => ?_) ?_; rotate_left; ( have e1 := he.cell HU0.out; have e2 := he.cell HU1.out; go_simp; rfl); simp only [Act.put, List.setIfInBounds_toArray, List.set_cons_zero, List.set_cons_succ])
      (refine LexW.pure (v := ?_) rfl rfl (fun w1 he => ?_) ?_; rotate_left; ( have e1 := he.cell HU0.out; have e2 := he.cell HU1.out; go_simp; rfl); simp only [Act.put, List.setIfInBounds_toArray, List.set_cons_zero, List.set_cons_succ])
      (refine LexW.callR (f := ?_) (args := ?_) rfl rfl (fun w1 => ?_) (fun w1 he hdep => ?_) (fun v hv => ?_); rotate_left 2; (go_simp; refine ⟨?_, ?_⟩ <;> rfl); ( refine (HTu.out _ _ w1 (HOwn.out.rd.ext (X3.out.trans ((ext_drew w3).trans he)))).mono ?_; rintro e w2 ⟨g, rc, rfl, ho, g2⟩; exact ⟨_, rfl, g2, g, rc, rfl, ho.mono he.size⟩); simp only [Act.put, List.setIfInBounds_toArray, List.set_cons_zero, List.set_cons_succ])
      obtain ⟨_, g34, c34, rfl, _⟩ := hv
      (refine LexW.pure (v := ?_) rfl rfl (fun w1 he => ?_) ?_; rotate_left; ( have e1 := he.cell HU0.out; have e2 := he.cell HU1.out; go_simp; rfl); simp only [Act.put, List.setIfInBounds_toArray, List.set_cons_zero, List.set_cons_succ])
      (refine LexW.callR (f := ?_) (args := ?_) rfl rfl (fun w1 => ?_) (fun w1 he hdep => ?_) (fun v hv => ?_); rotate_left 2; (go_simp; refine ⟨?_, ?_⟩ <;> rfl); ( obtain ⟨_, _, q34, r34⟩ : (SPred.ownR w3.drew.heap.size n1 (powM p qs xs1 (k + 1))).holds (.slice (some ⟨g34, 0, none⟩) n1 c34) w1 := hdep (3, 34) (by decide +kernel); cases q34; refine (HSol.out _ _ _ _ w1 r34.rd (HO.out.ext ((ext_drew w3).trans he)).rd).mono ?_; rintro e w2 ⟨ra, rc, rfl, ho, g2⟩; exact ⟨_, rfl, g2, ra, rc, rfl, ho.mono he.size⟩); simp only [Act.put, List.setIfInBounds_toArray, List.set_cons_zero, List.set_cons_succ])
      obtain ⟨_, ra36, c36, rfl, _⟩ := hv
      (refine LexW.pure (v := ?_) rfl rfl (fun w1 he => ?_) ?_; rotate_left; ( have e1 := he.cell HU0.out; have e2 := he.cell HU1.out; go_simp; rfl); simp only [Act.put, List.setIfInBounds_toArray, List.set_cons_zero, List.set_cons_succ])
      (refine LexW.pure (v := ?_) rfl rfl (fun w1 he => ?_) ?_; rotate_left; ( have e1 := he.cell HU0.out; have e2 := he.cell HU1.out; go_simp; rfl); simp only [Act.put, List.setIfInBounds_toArray, List.set_cons_zero, List.set_cons_succ])
      (refine LexW.pure (v := ?_) rfl rfl (fun w1 he => ?_) ?_; rotate_left; ( have e1 := he.cell HU0.out; have e2 := he.cell HU1.out; go_simp; rfl); simp only [Act.put, List.setIfInBounds_toArray, List.set_cons_zero, List.set_cons_succ])
      (refine LexW.pure (v := ?_) rfl rfl (fun w1 he => ?_) ?_; rotate_left; ( have e1 := he.cell HU0.out; have e2 := he.cell HU1.out; go_simp; rfl); simp only [Act.put, List.setIfInBounds_toArray, List.set_cons_zero, List.set_cons_succ])
      (refine LexW.pure (v := ?_) rfl rfl (fun w1 he => ?_) ?_; rotate_left; ( have e1 := he.cell HU0.out; have e2 := he.cell HU1.out; go_simp; rfl); simp only [Act.put, List.setIfInBounds_toArray, List.set_cons_zero, List.set_cons_succ])
      refine LexW.nil (fun w6 he hkn => ?_)
      obtain ⟨_, _, q36, r36⟩ : (SPred.sol w3.drew.heap.size (sol.length) (sol) (false)).holds (.tuple #[.slice ra36 (sol.length) c36, .bool (false)]) w6 := hkn (5, _) (by simp)
      cases q36
      have R36 := Lib.hid r36
      have X36 := Lib.hid ((ext_drew w3).trans he)
      clear he hkn r36
      have HO6 := R36
      have X6 := Lib.hid (X3.out.trans X36.out)
      have q0 := (HExt.out.trans X6.out).cell HS0.out
      have q1 := (HExt.out.trans X6.out).cell HS1.out
      go_wp2_with (at_builtin; refine wpList_pushR (w0 := wr) rfl (.tmp 49) (.tmp 51) rfl rfl rfl HOwn.out (X6.out.trans (ext_alloc _ _)) (HO.out.ext (X36.out.trans (ext_alloc _ _))) ?hc (by omega) HExt.out.size ?hk)
      case hc => exact cell_new _ _ rfl _ _
      case hk =>
        intro g7 c7 w7 ho7 hg7 he7
        have HO7 := Lib.hid ho7
        have HE7 := Lib.hid (he7 w1 (Nat.le_refl _) ((HExt.out.trans X6.out).alloc _))
        clear ho7 hg7 he7
        have HNo2 : Hid (∀ j, 1 ≤ j → j ≤ k + 1 → stopB p qs xs1 j = false) := Lib.hid (fun j h1 h2 => by
          by_cases h : j = k + 1
          · subst h; exact HOk.out.symm
          · exact HNo.out j h1 (by omega))
        go_wp2_with (fail)
        go_roundw
        case rel => exact ⟨k + 1, g7, c7, rfl, by rw [powsL_succ]; exact HO7.out, HE7.out, HNo2⟩
        case measure => have := HLE.out (k + 1) HNo2.out; simp [lenV]; omega
    · have hlen : sol.length = k + 1 := by rw [hsol]; unfold solR; rw [if_pos hok2.symm]; exact solL_len'
      have HSG : Hid (Good p (k + 1) sol) := Lib.hid (by
        rw [hsol]; unfold solR; rw [if_pos hok2.symm]
        obtain ⟨c, hb⟩ := basis_red HPR.out (wideL_good (HMG.out (k + 1)) (HPG.out (k + 1)) (by rw [powM_len, HD.out]; exact Nat.le_refl _))
        exact sol_good (by omega) hb.good)
      have HML : Hid (minL p qs xs1 = scaleL p sol (-1) (k + 1) ++ [1]) := Lib.hid (by
        unfold minL
        rw [minK_eq HPR.out (show 1 ≤ k + 1 by omega) HOk.out.symm (fun j h1 h2 => HNo.out j h1 (by omega))]
        unfold polyK
        rw [hsol, HD.out])
      clear hsol hok2
      rw [hlen] at HSol
      clear hlen
      have HU0 := Lib.hid ((ext_drew _).cell q0)
      have HU1 := Lib.hid ((ext_drew _).cell q1)
      clear q0 q1
      go_wp2_with (fail)
      refine wp_region_lex [(3, .ownR w3.drew.heap.size n1 (powM p qs xs1 (k + 1))), (5, .sol w3.drew.heap.size ((k + 1)) (sol) (true))] (by kernel_rfl) (by kernel_rfl) ?_
      (refine LexW.pure (v := ?_) rfl rfl (fun w1 he => ?_) ?_; rotate_left; ( have e1 := he.cell HU0.out; have e2 := he.cell HU1.out; go_simp; rfl); simp only [Act.put, List.setIfInBounds_toArray, List.set_cons_zero, List.set_cons_succ])
      (refine LexW.pure (v := ?_) rfl rfl (fun w1 he => ?_) ?_; rotate_left; ( have e1 := he.cell HU0.out; have e2 := he.cell HU1.out; go_simp; rfl); simp only [Act.put, List.setIfInBounds_toArray, List.set_cons_zero, List.set_cons_succ])
      (refine LexW.pure (v := ?_) rfl rfl (fun w1 he => ?_) ?_; rotate_left; ( have e1 := he.cell HU0.out; have e2 := he.cell HU1.out; go_simp; rfl); simp only [Act.put, List.setIfInBounds_toArray, List.set_cons_zero, List.set_cons_succ])
      (refine LexW.callR (f := ?_) (args := ?_) rfl rfl (fun w1 => ?_) (fun w1 he hdep => ?_) (fun v hv => ?_); rotate_left 2; (go_simp; refine ⟨?_, ?_⟩ <;> rfl); ( refine (HTu.out _ _ w1 (HOwn.out.rd.ext (X3.out.trans ((ext_drew w3).trans he)))).mono ?_; rintro e w2 ⟨g, rc, rfl, ho, g2⟩; exact ⟨_, rfl, g2, g, rc, rfl, ho.mono he.size⟩); simp only [Act.put, List.setIfInBounds_toArray, List.set_cons_zero, List.set_cons_succ])
      obtain ⟨_, g34, c34, rfl, _⟩ := hv
      (refine LexW.pure (v := ?_) rfl rfl (fun w1 he => ?_) ?_; rotate_left; ( have e1 := he.cell HU0.out; have e2 := he.cell HU1.out; go_simp; rfl); simp only [Act.put, List.setIfInBounds_toArray, List.set_cons_zero, List.set_cons_succ])
      (refine LexW.callR (f := ?_) (args := ?_) rfl rfl (fun w1 => ?_) (fun w1 he hdep => ?_) (fun v hv => ?_); rotate_left 2; (go_simp; refine ⟨?_, ?_⟩ <;> rfl); ( obtain ⟨_, _, q34, r34⟩ : (SPred.ownR w3.drew.heap.size n1 (powM p qs xs1 (k + 1))).holds (.slice (some ⟨g34, 0, none⟩) n1 c34) w1 := hdep (3, 34) (by decide +kernel); cases q34; refine (HSol.out _ _ _ _ w1 r34.rd (HO.out.ext ((ext_drew w3).trans he)).rd).mono ?_; rintro e w2 ⟨ra, rc, rfl, ho, g2⟩; exact ⟨_, rfl, g2, ra, rc, rfl, ho.mono he.size⟩); simp only [Act.put, List.setIfInBounds_toArray, List.set_cons_zero, List.set_cons_succ])
      obtain ⟨_, ra36, c36, rfl, _⟩ := hv
      (refine LexW.pure (v := ?_) rfl rfl (fun w1 he => ?_) ?_; rotate_left; ( have e1 := he.cell HU0.out; have e2 := he.cell HU1.out; go_simp; rfl); simp only [Act.put, List.setIfInBounds_toArray, List.set_cons_zero, List.set_cons_succ])
      (refine LexW.pure (v := ?_) rfl rfl (fun w1 he => ?_) ?_; rotate_left; ( have e1 := he.cell HU0.out; have e2 := he.cell HU1.out; go_simp; rfl); simp only [Act.put, List.setIfInBounds_toArray, List.set_cons_zero, List.set_cons_succ])
      (refine LexW.pure (v := ?_) rfl rfl (fun w1 he => ?_) ?_; rotate_left; ( have e1 := he.cell HU0.out; have e2 := he.cell HU1.out; go_simp; rfl); simp only [Act.put, List.setIfInBounds_toArray, List.set_cons_zero, List.set_cons_succ])
      (refine LexW.pure (v := ?_) rfl rfl (fun w1 he => ?_) ?_; rotate_left; ( have e1 := he.cell HU0.out; have e2 := he.cell HU1.out; go_simp; rfl); simp only [Act.put, List.setIfInBounds_toArray, List.set_cons_zero, List.set_cons_succ])
      (refine LexW.pure (v := ?_) rfl rfl (fun w1 he => ?_) ?_; rotate_left; ( have e1 := he.cell HU0.out; have e2 := he.cell HU1.out; go_simp; rfl); simp only [Act.put, List.setIfInBounds_toArray, List.set_cons_zero, List.set_cons_succ])
      refine LexW.nil (fun w6 he hkn => ?_)
      obtain ⟨_, _, q36, r36⟩ : (SPred.sol w3.drew.heap.size ((k + 1)) (sol) (true)).holds (.tuple #[.slice ra36 ((k + 1)) c36, .bool (true)]) w6 := hkn (5, _) (by simp)
      cases q36
      have R36 := Lib.hid r36
      have X36 := Lib.hid ((ext_drew w3).trans he)
      clear he hkn r36
      have HO6 := R36
      have X6 := Lib.hid (X3.out.trans X36.out)
      have q0 := (HExt.out.trans X6.out).cell HS0.out
      have q1 := (HExt.out.trans X6.out).cell HS1.out
      have hwp : IntKind.i64.wrap (p - 1) = p - 1 := IntWalk.i64_in _ (by omega)
      go_wp2_with (fail)
      refine (s_scale p _ (k + 1) _ sol (p - 1) w6 (by omega) (by omega) (by omega) (by omega) HO6.out.rd HSG.out).mono ?_
      rintro e w8 ⟨g8, c8, rfl, ho8, h8⟩
      have E8 := Lib.hid ((GW.out.trans (HExt.out.trans X6.out)).trans h8)
      have HO8 := Lib.hid (ho8.mono (GW.out.trans (HExt.out.trans X6.out)).size)
      clear ho8 h8
      go_wp2_with (at_builtin; refine wpList_push rfl (.tmp 46) (.tmp 47) rfl rfl rfl (v := 1) (HO8.out.ext (ext_alloc _ _)) ?hc (by omega) ?hB ?hk)
      case hc => simp
      case hB => have hz := E8.out.size'; simp; omega
      case hk =>
        intro g9 c9 w9 ho9 hg9 he9
        have HO9 := Lib.hid ho9
        have HE9 := Lib.hid (he9 w (Nat.le_refl _) (E8.out.alloc _))
        clear ho9 hg9 he9
        go_wp2_with (fail)
        go_ret2
        exact ⟨_, _, by rw [HML.out, List.length_append, scaleL_len]; rfl, by rw [HML.out, List.length_append, scaleL_len]; rw [← scale_minus]; exact HO9.out, HE9.out⟩

end Go.Proofs.Ytkmegekpfmjdlaa
