/-
  The listed function CentreBasis.
  No condition.
-/
import Derived.Test.YthimjfnmpicbiaaSumM
import Derived.Test.YthimjfnmpicbiaaCentral
import Derived.Test.YthimjfnmpicbiaaAnn
import Derived.Test.YthimjfnmpicbiaaMat
import Derived.Test.YthimjfnmpicbiaaKernelS
import Derived.Test.YthimjfnmpicbiaaPlus
namespace Go.Proofs.Ythimjfnmpicbiaa
set_option maxRecDepth 100000
open Go.RowKit

theorem rdR_nil1 (w : World) : RdR w none 0 [] := ⟨rfl, fun _ hi => absurd hi (Nat.not_lt_zero _)⟩
theorem codeA_nil1 {p : Int} {qs : List Int} (h : codeA p qs [] = 0) : spaceB p qs = true ∧ qs.length ≤ 4 := by
  obtain ⟨hm, h4⟩ := codeA_zero h
  refine ⟨?_, h4⟩
  unfold codeM at hm
  cases hs : spaceB p qs
  · simp [hs] at hm
  · rfl
def cmE (p : Int) (qs : List Int) (k : Nat) : List (List Int) := sumM p (matM p qs (bladeL (2 ^ qs.length) (2 ^ k)) true) (matM p qs (bladeL (2 ^ qs.length) (2 ^ k)) false) (-1) (2 ^ qs.length) (2 ^ qs.length)
def cbRows (p : Int) (qs : List Int) : Nat → List (List Int)
  | 0 => []
  | k + 1 => cbRows p qs k ++ cmE p qs k
def cbL (p : Int) (qs : List Int) : List (List Int) := kernL p (2 ^ qs.length) (cbRows p qs qs.length)
theorem cbRows_len (p : Int) (qs : List Int) : ∀ k, (cbRows p qs k).length = 2 ^ qs.length * k
  | 0 => rfl
  | k + 1 => by rw [cbRows, List.length_append, cbRows_len p qs k, cmE, sumM_len, Nat.mul_succ]
theorem rowsG_append {p : Int} {m : Nat} {A B : List (List Int)} (hA : RowsG p m A) (hB : RowsG p m B) : RowsG p m (A ++ B) := fun i hi => by
  unfold nthR
  rw [List.length_append] at hi
  rw [List.getD_eq_getElem?_getD]
  by_cases h : i < A.length
  · rw [List.getElem?_append_left h, ← List.getD_eq_getElem?_getD]; exact hA i h
  · rw [List.getElem?_append_right (by omega), ← List.getD_eq_getElem?_getD]; exact hB _ (by omega)
theorem cbRows_good {p : Int} {qs : List Int} (hp : 1 ≤ p) : ∀ k, RowsG p (2 ^ qs.length) (cbRows p qs k)
  | 0 => fun _ hi => absurd hi (Nat.not_lt_zero _)
  | k + 1 => rowsG_append (cbRows_good hp k) (sumM_good hp)
theorem cb_cnt {p : Int} {qs : List Int} (hp : primeB p = true) (hq : qs.length ≤ 6) : (cbL p qs).length ≤ 1048576 ∧ cntR (cbL p qs) (cbL p qs).length ≤ 1048576 := by
  have h := kernL_cnt (n := 2 ^ qs.length) (rows := cbRows p qs qs.length) hp
  have h64 := pow_le64 hq
  have hl : (cbL p qs).length ≤ 64 := by have := h.1; unfold cbL; omega
  have := cntR_rows (rows := cbL p qs) h.2 h64 _ (Nat.le_refl _)
  omega

set_option maxHeartbeats 1000000 in
theorem c_CentreBasis_bad (p : Int) (a : Option Addr) (d cap : Nat) (qs : List Int) (w : World) (hd : d ≤ 4194304) (hq : RdC w a d qs) (hc : codeA p qs [] ≠ 0) :
    Calls Try.prog 37 #[.agg #[.int .i64 p, .slice a d cap]] w fun e w' => ∃ ra rc, e = .returned (.tuple #[.slice ra 0 rc, .int .i64 (codeA p qs [])]) ∧ OwnR w.heap.size w' ra 0 rc [] ∧ Ext w w' := by
  have hcb : (codeA p qs [] != 0) = true := by simp [hc]
  clear hc
  go_enter Try.func37, Try.ntmps37
  go_wp2_with (go_at_call 98; refine (c_checkAlgebra p a d cap qs none 0 0 [] _ hd (by omega) (fun _ hi => absurd hi (Nat.not_lt_zero _)) (hq.ext (ext_alloc _ _)) (rdR_nil1 _)).mono ?_; rintro e w1 ⟨rfl, g1⟩)
  go_ret2
  exact ⟨none, 0, rfl, OwnR.nil _ _, (ext_alloc _ _).trans g1⟩

set_option maxHeartbeats 1000000 in
theorem s_CentreBasis_bad (p : Int) (a : Option Addr) (d cap : Nat) (qs : List Int) (w : World) (hd : d ≤ 4194304) (hq : RdC w a d qs) (hc : codeA p qs [] ≠ 0) :
    Calls Try.prog 36 #[.agg #[.int .i64 p, .slice a d cap]] w fun e w' => ∃ ra rc, e = .returned (.tuple #[.slice ra 0 rc, .int .i64 (codeA p qs [])]) ∧ OwnR w.heap.size w' ra 0 rc [] ∧ Ext w w' := by
  have hcb : (codeA p qs [] != 0) = true := by simp [hc]
  clear hc
  go_enter Try.func36, Try.ntmps36
  go_wp2_with (go_at_call 95; refine (s_code9 p a d cap qs none 0 0 [] _ hd (by omega) (fun _ hi => absurd hi (Nat.not_lt_zero _)) (hq.ext (ext_alloc _ _)) (rdR_nil1 _)).mono ?_; rintro e w1 ⟨rfl, g1⟩)
  go_ret2
  exact ⟨none, 0, rfl, OwnR.nil _ _, (ext_alloc _ _).trans g1⟩

set_option maxHeartbeats 8000000 in
set_option maxRecDepth 100000 in
theorem c_CentreBasis_ok (p : Int) (a : Option Addr) (d cap : Nat) (qs : List Int) (w : World) (hd : d ≤ 4194304) (hq : RdC w a d qs) (hc : codeA p qs [] = 0) :
    Calls Try.prog 37 #[.agg #[.int .i64 p, .slice a d cap]] w fun e w' => ∃ ra rc, e = .returned (.tuple #[.slice ra (cbL p qs).length rc, .int .i64 0]) ∧ OwnR w.heap.size w' ra (cbL p qs).length rc (cbL p qs) ∧ Ext w w' := by
  obtain ⟨hs, h4⟩ := codeA_nil1 hc
  obtain ⟨hpr, hd1, hd6, hqb⟩ := space_of hs
  have hpb := prime_bd hpr
  rw [hq.1] at h4 hd1 hd6
  have HQB := Lib.hid hqb
  have HPR := Lib.hid hpr
  have HQ := Lib.hid hq
  have HC := Lib.hid hc
  obtain ⟨N, hN⟩ : ∃ N, N = 2 ^ d := ⟨_, rfl⟩
  have HN := Lib.hid hN
  have HD := Lib.hid (show N = 2 ^ qs.length by rw [hq.1]; exact hN)
  have HQL := Lib.hid hq.1
  have hN6 : N ≤ 64 := by rw [HN.out]; exact pow_le64 (by omega)
  have hN1 : 1 ≤ N := by rw [HN.out]; exact pow_pos' d
  have hwd : wrap64 (2 ^ d) = (N : Int) := by rw [hN]; exact pow_wrap hd6
  have hwd2 : IntKind.i64.wrap (2 ^ d) = (N : Int) := by rw [hN]; exact pow_wrapI hd6
  have HMG : Hid (∀ x left, RowsG p N (matM p qs x left)) := Lib.hid (fun x left => by rw [HD.out]; exact matM_good (by omega))
  have HCM : Hid (∀ k, cmE p qs k = sumM p (matM p qs (bladeL N (2 ^ k)) true) (matM p qs (bladeL N (2 ^ k)) false) (-1) N N) := Lib.hid (fun k => by unfold cmE; rw [← HD.out])
  have HCL : Hid (∀ k, (cbRows p qs k).length = N * k) := Lib.hid (fun k => by rw [cbRows_len, ← HD.out])
  have HCG : Hid (RowsG p N (cbRows p qs d)) := Lib.hid (by rw [HD.out]; exact cbRows_good (by omega) _)
  have HCB : Hid (cbL p qs = kernL p N (cbRows p qs d)) := Lib.hid (by unfold cbL; rw [← HD.out, HQL.out])
  have hcb : ((0 : Int) != 0) = false := by simp
  have hNd : N * d ≤ 4095 := Nat.le_trans (Nat.mul_le_mul hN6 hd6) (by decide)
  have hNd1 : 0 < N * d := Nat.mul_pos (by omega) (by omega)
  clear hc hs hpr hqb hq hN
  go_enter Try.func37, Try.ntmps37
  go_wp2_with (first | (go_at_call 98; refine (c_checkAlgebra p a d cap qs none 0 0 [] _ hd (by omega) (fun _ hi => absurd hi (Nat.not_lt_zero _)) (HQ.out.ext (ext_alloc _ _)) (rdR_nil1 _)).mono ?_; rintro e w1 ⟨rfl, g1⟩; rw [HC.out]; have hq0 : w1.cell? ⟨w.heap.size, 0, none⟩ = some (.int .i64 p) := g1.cell (by simp); have hq1 : w1.cell? ⟨w.heap.size, 1, none⟩ = some (.slice a d cap) := g1.cell (by simp); have G1 := Lib.hid ((ext_alloc w (.cells #[.int .i64 p, .slice a d cap] 30)).trans g1); have Q0 := Lib.hid hq0; have Q1 := Lib.hid hq1; have Z1 := Lib.hid ((ext_alloc w1 (.cells #[] 22))); have hy0 := Z1.out.cell hq0; have hy1 := Z1.out.cell hq1) | (go_at_call 93; refine (c_dim _ _ _ _ _).mono ?_; rintro e w2 ⟨rfl, g2⟩; have G2 := Lib.hid (Z1.out.trans g2)) | (go_at_call 105; refine (c_unit d _ (by omega)).mono ?_; rintro e wu ⟨gu, ru, rfl, hu, g3⟩; have HU := Lib.hid hu; have G3 := Lib.hid (G1.out.trans (G2.out.trans g3)); have S0 := Lib.hid ((G2.out.trans g3).cell Q0.out); have S1 := Lib.hid ((G2.out.trans g3).cell Q1.out); clear hu g3))
  clear g1 g2 hq0 hq1 hy0 hy1
  go_loopw [5, 19] (fun s i wr => ∃ (k : Nat) (ra : Option Addr) (rc : Nat), k ≤ d ∧ i = .int .i64 k ∧ s = .slice ra (N * k) rc ∧ OwnW wu.heap.size wr ra (N * k) rc (cbRows p qs k) ∧ Ext wu wr) (fun _ i _ => d - (intOf i).toNat)
  case atStart => exact ⟨0, _, _, Nat.zero_le _, rfl, rfl, OwnW.start _ _ _, Ext.refl _⟩
  case round =>
    obtain ⟨k, ra, rc, hk, rfl, rfl, hown, hext⟩ := hrel
    have HOwn := Lib.hid hown
    have HExt := Lib.hid hext
    have hs0 := hext.cell S0.out
    have hs1 := hext.cell S1.out
    clear hown hext
    by_cases hlt : k < d
    · obtain ⟨ak, ck, hck, hok⟩ := HU.out.at hlt
      rw [unitL_nth hlt, bladeL_len] at hck hok
      have hck' := HExt.out.cell hck
      have HRk := Lib.hid hok.rd
      have HVU := Lib.hid (show vecL N (bladeL d k) = bladeL N (2 ^ k) by rw [HN.out]; exact vec_unit hlt)
      have HGB := Lib.hid (show Good p N (bladeL N (2 ^ k)) from blade_good (by omega))
      have hNk : N * k ≤ 4095 := Nat.le_trans (Nat.mul_le_mul_left N (show k ≤ d by omega)) hNd
      clear hck hok
      go_wp2_with (fail)
      clear hck' hs0 hs1
      refine (HVU.out ▸ c_vector HN.out p a cap ak ck (bladeL d k) wr hd6 (HRk.out.ext HExt.out)).mono ?_
      rintro e w4 ⟨gv, rfl, hv4, g4⟩
      have HV := Lib.hid hv4
      have HR4 := Lib.hid g4
      have HT0 := Lib.hid ((HExt.out.trans (g4.trans (ext_drew w4))).cell S0.out)
      have HT1 := Lib.hid ((HExt.out.trans (g4.trans (ext_drew w4))).cell S1.out)
      have GX := Lib.hid (G3.out.trans (HExt.out.trans (g4.trans (ext_drew w4))))
      clear hv4 g4
      go_wp2_with (fail)
      refine wp_region_lex_tail1 10 [(2, .val (.int .i64 p)), (5, .ownR wr.heap.size N (matM p qs (bladeL N (2 ^ k)) true)), (8, .ownR wr.heap.size N (matM p qs (bladeL N (2 ^ k)) false)), (9, .ownR wr.heap.size N (sumM p (matM p qs (bladeL N (2 ^ k)) true) (matM p qs (bladeL N (2 ^ k)) false) (-1) N N))] (.slice ra (N * k) rc) (by kernel_rfl) (by kernel_rfl) rfl rfl (fun w1 => by go_simp) ?_
      simp only [List.take, List.drop]
      simp only [Act.put, List.setIfInBounds_toArray, List.set_cons_zero, List.set_cons_succ]
      (refine LexW.pure (v := ?_) rfl rfl (fun w1 he => ?_) ?_; rotate_left; ( have e1 := he.cell HT0.out; have e2 := he.cell HT1.out; go_simp; rfl); simp only [Act.put, List.setIfInBounds_toArray, List.set_cons_zero, List.set_cons_succ])
      (refine LexW.call (f := ?_) (args := ?_) rfl rfl (fun w1 => ?_) (fun w1 he hdep => ?_) ?_; rotate_left 2; (go_simp; refine ⟨?_, ?_⟩ <;> rfl); ( exact c_field p _ w1); simp only [Act.put, List.setIfInBounds_toArray, List.set_cons_zero, List.set_cons_succ])
      (refine LexW.pure (v := ?_) rfl rfl (fun w1 he => ?_) ?_; rotate_left; ( have e1 := he.cell HT0.out; have e2 := he.cell HT1.out; go_simp; rfl); simp only [Act.put, List.setIfInBounds_toArray, List.set_cons_zero, List.set_cons_succ])
      (refine LexW.pure (v := ?_) rfl rfl (fun w1 he => ?_) ?_; rotate_left; ( have e1 := he.cell HT0.out; have e2 := he.cell HT1.out; go_simp; rfl); simp only [Act.put, List.setIfInBounds_toArray, List.set_cons_zero, List.set_cons_succ])
      (refine LexW.callR (f := ?_) (args := ?_) rfl rfl (fun w1 => ?_) (fun w1 he hdep => ?_) (fun v hv => ?_); rotate_left 2; (go_simp; refine ⟨?_, ?_⟩ <;> rfl); ( refine (c_leftMatrix HN.out p a cap qs _ N (bladeL N (2 ^ k)) w1 hd6 (by omega) (by omega) (HQ.out.ext (GX.out.trans he)) HQB.out (HV.out.rd.ext ((ext_drew w4).trans he)) HGB.out).mono ?_; rintro e w2 ⟨g, rc, rfl, ho, g2⟩; exact ⟨_, rfl, g2, g, rc, rfl, ho.mono (Nat.le_trans (HR4.out.trans (ext_drew w4)).size he.size)⟩); simp only [Act.put, List.setIfInBounds_toArray, List.set_cons_zero, List.set_cons_succ])
      obtain ⟨_, g31, c31, rfl, _⟩ := hv
      (refine LexW.pure (v := ?_) rfl rfl (fun w1 he => ?_) ?_; rotate_left; ( have e1 := he.cell HT0.out; have e2 := he.cell HT1.out; go_simp; rfl); simp only [Act.put, List.setIfInBounds_toArray, List.set_cons_zero, List.set_cons_succ])
      (refine LexW.pure (v := ?_) rfl rfl (fun w1 he => ?_) ?_; rotate_left; ( have e1 := he.cell HT0.out; have e2 := he.cell HT1.out; go_simp; rfl); simp only [Act.put, List.setIfInBounds_toArray, List.set_cons_zero, List.set_cons_succ])
      (refine LexW.callR (f := ?_) (args := ?_) rfl rfl (fun w1 => ?_) (fun w1 he hdep => ?_) (fun v hv => ?_); rotate_left 2; (go_simp; refine ⟨?_, ?_⟩ <;> rfl); ( refine (c_rightMatrix HN.out p a cap qs _ N (bladeL N (2 ^ k)) w1 hd6 (by omega) (by omega) (HQ.out.ext (GX.out.trans he)) HQB.out (HV.out.rd.ext ((ext_drew w4).trans he)) HGB.out).mono ?_; rintro e w2 ⟨g, rc, rfl, ho, g2⟩; exact ⟨_, rfl, g2, g, rc, rfl, ho.mono (Nat.le_trans (HR4.out.trans (ext_drew w4)).size he.size)⟩); simp only [Act.put, List.setIfInBounds_toArray, List.set_cons_zero, List.set_cons_succ])
      obtain ⟨_, g34, c34, rfl, _⟩ := hv
      (refine LexW.callR (f := ?_) (args := ?_) rfl rfl (fun w1 => ?_) (fun w1 he hdep => ?_) (fun v hv => ?_); rotate_left 2; (go_simp; refine ⟨?_, ?_⟩ <;> rfl); ( obtain ⟨_, _, q31, r31⟩ : (SPred.ownR wr.heap.size N (matM p qs (bladeL N (2 ^ k)) true)).holds (.slice (some ⟨g31, 0, none⟩) N c31) w1 := hdep (5, 31) (by decide +kernel); cases q31; obtain ⟨_, _, q34, r34⟩ : (SPred.ownR wr.heap.size N (matM p qs (bladeL N (2 ^ k)) false)).holds (.slice (some ⟨g34, 0, none⟩) N c34) w1 := hdep (8, 34) (by decide +kernel); cases q34; refine (c_sum p _ _ N N _ _ _ _ (-1) w1 (by omega) (by omega) (by omega) (by omega) (by omega) r31.rd r34.rd (HMG.out _ _) (HMG.out _ _)).mono ?_; rintro e w2 ⟨g, rc, rfl, ho, g2⟩; exact ⟨_, rfl, g2, g, rc, rfl, ho.mono (Nat.le_trans (HR4.out.trans (ext_drew w4)).size he.size)⟩); simp only [Act.put, List.setIfInBounds_toArray, List.set_cons_zero, List.set_cons_succ])
      obtain ⟨_, g35, c35, rfl, _⟩ := hv
      refine LexW.nil (fun w3 he hkn => ?_)
      obtain ⟨_, _, q35, r35⟩ : (SPred.ownR wr.heap.size N (sumM p (matM p qs (bladeL N (2 ^ k)) true) (matM p qs (bladeL N (2 ^ k)) false) (-1) N N)).holds (.slice (some ⟨g35, 0, none⟩) N c35) w3 := hkn (9, _) (by simp)
      cases q35
      have R35 := Lib.hid r35
      have HE := Lib.hid (GX.out.trans he)
      have X5 := Lib.hid ((HR4.out.trans (ext_drew w4)).trans he)
      clear he hkn r35
      go_wp2_with (at_builtin; refine wpList_appendRowsW (w0 := wr) rfl (.tmp 26) (.tmp 35) rfl rfl rfl HOwn.out X5.out R35.out (by omega) (by omega) (by omega) HExt.out.size ?hk)
      case hk =>
        intro g6 c6 w6 ho6 he6
        have HO6 := Lib.hid ho6
        have HE6 := Lib.hid (he6 wu (Nat.le_refl _) (HExt.out.trans X5.out))
        clear ho6 he6
        go_wp2_with (fail)
        refine strictQ_normal ?_
        go_wp2_with (fail)
        go_roundw
        case rel => exact ⟨k + 1, _, c6, by omega, by go_num, by rw [Nat.mul_succ], by rw [Nat.mul_succ, cbRows, HCM.out]; exact .inr HO6.out, HE6.out⟩
        case measure => simp [intOf]; omega
    · obtain rfl : k = d := by omega
      rcases HOwn.out with ⟨h0, _⟩ | hown
      · omega
      have HOwn := Lib.hid hown
      have HT0 := Lib.hid ((HExt.out.trans (ext_drew wr)).cell S0.out)
      have HT1 := Lib.hid ((HExt.out.trans (ext_drew wr)).cell S1.out)
      have GX := Lib.hid (G3.out.trans (HExt.out.trans (ext_drew wr)))
      clear hown hs0 hs1
      go_wp2_with (fail)
      refine wp_region_lex [(1, .val (.int .i64 p)), (4, .val (.int .i64 k)), (6, .ownR w.heap.size (kernL p N (cbRows p qs k)).length ((kernL p N (cbRows p qs k))))] (by kernel_rfl) (by kernel_rfl) ?_
      (refine LexW.pure (v := ?_) rfl rfl (fun w1 he => ?_) ?_; rotate_left; ( have e1 := he.cell HT0.out; have e2 := he.cell HT1.out; go_simp; rfl); simp only [Act.put, List.setIfInBounds_toArray, List.set_cons_zero, List.set_cons_succ])
      (refine LexW.call (f := ?_) (args := ?_) rfl rfl (fun w1 => ?_) (fun w1 he hdep => ?_) ?_; rotate_left 2; (go_simp; refine ⟨?_, ?_⟩ <;> rfl); ( exact c_field p _ w1); simp only [Act.put, List.setIfInBounds_toArray, List.set_cons_zero, List.set_cons_succ])
      (refine LexW.pure (v := ?_) rfl rfl (fun w1 he => ?_) ?_; rotate_left; ( have e1 := he.cell HT0.out; have e2 := he.cell HT1.out; go_simp; rfl); simp only [Act.put, List.setIfInBounds_toArray, List.set_cons_zero, List.set_cons_succ])
      (refine LexW.pure (v := ?_) rfl rfl (fun w1 he => ?_) ?_; rotate_left; ( have e1 := he.cell HT0.out; have e2 := he.cell HT1.out; go_simp; rfl); simp only [Act.put, List.setIfInBounds_toArray, List.set_cons_zero, List.set_cons_succ])
      (refine LexW.call (f := ?_) (args := ?_) rfl rfl (fun w1 => ?_) (fun w1 he hdep => ?_) ?_; rotate_left 2; (go_simp; refine ⟨?_, ?_⟩ <;> rfl); ( exact c_dim _ _ _ _ _); simp only [Act.put, List.setIfInBounds_toArray, List.set_cons_zero, List.set_cons_succ])
      (refine LexW.pure (v := ?_) rfl rfl (fun w1 he => ?_) ?_; rotate_left; ( have e1 := he.cell HT0.out; have e2 := he.cell HT1.out; go_simp; rfl); simp only [Act.put, List.setIfInBounds_toArray, List.set_cons_zero, List.set_cons_succ])
      (refine LexW.callR (f := ?_) (args := ?_) rfl rfl (fun w1 => ?_) (fun w1 he hdep => ?_) (fun v hv => ?_); rotate_left 2; (go_simp; refine ⟨?_, ?_⟩ <;> rfl); ( refine (c_kernel p _ (N * k) _ N (cbRows p qs k) w1 HPR.out (by omega) (by omega) (by omega) (HOwn.out.rd.ext ((ext_drew wr).trans he)) HCG.out).mono ?_; rintro e w2 ⟨g, rc, rfl, ho, g2⟩; exact ⟨_, rfl, g2, g, rc, rfl, ho.mono (Nat.le_trans GX.out.size he.size)⟩); simp only [Act.put, List.setIfInBounds_toArray, List.set_cons_zero, List.set_cons_succ])
      obtain ⟨_, g44, c44, rfl, _⟩ := hv
      (refine LexW.pure (v := ?_) rfl rfl (fun w1 he => ?_) ?_; rotate_left; ( have e1 := he.cell HT0.out; have e2 := he.cell HT1.out; go_simp; rfl); simp only [Act.put, List.setIfInBounds_toArray, List.set_cons_zero, List.set_cons_succ])
      (refine LexW.pure (v := ?_) rfl rfl (fun w1 he => ?_) ?_; rotate_left; ( have e1 := he.cell HT0.out; have e2 := he.cell HT1.out; go_simp; rfl); simp only [Act.put, List.setIfInBounds_toArray, List.set_cons_zero, List.set_cons_succ])
      refine LexW.nil (fun w3 he hkn => ?_)
      obtain ⟨_, _, q44, r44⟩ : (SPred.ownR w.heap.size (kernL p N (cbRows p qs k)).length ((kernL p N (cbRows p qs k)))).holds (.slice (some ⟨g44, 0, none⟩) (kernL p N (cbRows p qs k)).length c44) w3 := hkn (6, _) (by simp)
      cases q44
      have R44 := Lib.hid r44
      have HE := Lib.hid (GX.out.trans he)
      clear he hkn r44
      go_wp2_with (fail)
      go_ret2
      exact ⟨_, _, by rw [HCB.out]; rfl, by rw [HCB.out]; exact R44.out, HE.out⟩

theorem s_minus (p : Int) (ax ay : Option Addr) (n cx cy : Nat) (x y : List Int) (w : World) (hp1 : 3 ≤ p) (hp2 : p ≤ 1000) (hn : n ≤ 4194303) (hx : RdC w ax n x) (hy : RdC w ay n y) (hgx : Good p n x) (hgy : Good p n y) (q : Int) (hq : q = p - 1) :
    Calls Try.prog 104 #[.int .i64 p, .slice ax n cx, .slice ay n cy, .int .i64 q] w fun e w' => ∃ g rc, e = .returned (.slice (some ⟨g, 0, none⟩) n rc) ∧ OwnC w.heap.size w' (some ⟨g, 0, none⟩) n rc (plusL p x y (-1) n) ∧ Ext w w' := by
  have h := s_plus p ax ay n cx cy x y (p - 1) w hp1 hp2 (by omega) hn hx hy hgx hgy
  rw [plus_minus] at h
  rw [hq]
  exact h
set_option maxHeartbeats 8000000 in
set_option maxRecDepth 100000 in
theorem s_CentreBasis_ok (p : Int) (a : Option Addr) (d cap : Nat) (qs : List Int) (w : World) (hd : d ≤ 4194304) (hq : RdC w a d qs) (hc : codeA p qs [] = 0) :
    Calls Try.prog 36 #[.agg #[.int .i64 p, .slice a d cap]] w fun e w' => ∃ ra rc, e = .returned (.tuple #[.slice ra (cbL p qs).length rc, .int .i64 0]) ∧ OwnR w.heap.size w' ra (cbL p qs).length rc (cbL p qs) ∧ Ext w w' := by
  obtain ⟨hs, h4⟩ := codeA_nil1 hc
  obtain ⟨hpr, hd1, hd6, hqb⟩ := space_of hs
  have hpb := prime_bd hpr
  rw [hq.1] at h4 hd1 hd6
  have HQB := Lib.hid hqb
  have HPR := Lib.hid hpr
  have HQ := Lib.hid hq
  have HC := Lib.hid hc
  obtain ⟨N, hN⟩ : ∃ N, N = 2 ^ d := ⟨_, rfl⟩
  have HN := Lib.hid hN
  have HD := Lib.hid (show N = 2 ^ qs.length by rw [hq.1]; exact hN)
  have HQL := Lib.hid hq.1
  have hN6 : N ≤ 64 := by rw [HN.out]; exact pow_le64 (by omega)
  have hN1 : 1 ≤ N := by rw [HN.out]; exact pow_pos' d
  have hwd : wrap64 (2 ^ d) = (N : Int) := by rw [hN]; exact pow_wrap hd6
  have hwd2 : IntKind.i64.wrap (2 ^ d) = (N : Int) := by rw [hN]; exact pow_wrapI hd6
  have HMG : Hid (∀ x left, RowsG p N (matM p qs x left)) := Lib.hid (fun x left => by rw [HD.out]; exact matM_good (by omega))
  have HCM : Hid (∀ k, cmE p qs k = sumM p (matM p qs (bladeL N (2 ^ k)) true) (matM p qs (bladeL N (2 ^ k)) false) (-1) N N) := Lib.hid (fun k => by unfold cmE; rw [← HD.out])
  have HCL : Hid (∀ k, (cbRows p qs k).length = N * k) := Lib.hid (fun k => by rw [cbRows_len, ← HD.out])
  have HCG : Hid (RowsG p N (cbRows p qs d)) := Lib.hid (by rw [HD.out]; exact cbRows_good (by omega) _)
  have HCB : Hid (cbL p qs = kernL p N (cbRows p qs d)) := Lib.hid (by unfold cbL; rw [← HD.out, HQL.out])
  have hcb : ((0 : Int) != 0) = false := by simp
  have hNd : N * d ≤ 4095 := Nat.le_trans (Nat.mul_le_mul hN6 hd6) (by decide)
  have hNd1 : 0 < N * d := Nat.mul_pos (by omega) (by omega)
  clear hc hs hpr hqb hq hN
  have HPM : Hid (IntKind.i64.wrap (p - 1) = p - 1) := Lib.hid (wrap_small _ (by omega) (by omega))
  go_enter Try.func36, Try.ntmps36
  go_wp2_with ((go_at_call 95; refine (s_code9 p a d cap qs none 0 0 [] _ hd (by omega) (fun _ hi => absurd hi (Nat.not_lt_zero _)) (HQ.out.ext (ext_alloc _ _)) (rdR_nil1 _)).mono ?_; rintro e w1 ⟨rfl, g1⟩; rw [HC.out]; have hq0 : w1.cell? ⟨w.heap.size, 0, none⟩ = some (.int .i64 p) := g1.cell (by simp); have hq1 : w1.cell? ⟨w.heap.size, 1, none⟩ = some (.slice a d cap) := g1.cell (by simp); have G1 := Lib.hid ((ext_alloc w (.cells #[.int .i64 p, .slice a d cap] 30)).trans g1); have Q0 := Lib.hid hq0; have Q1 := Lib.hid hq1; have Z1 := Lib.hid ((ext_alloc w1 (.cells #[] 22))); have hy0 := Z1.out.cell hq0; have hy1 := Z1.out.cell hq1))
  clear g1 hq0 hq1 hy0 hy1
  go_loopw [5, 6] (fun s i wr => ∃ (k g rc : Nat), k ≤ d ∧ i = .int .i64 k ∧ s = .slice (some ⟨g, 0, none⟩) (N * k) rc ∧ OwnR w1.heap.size wr (some ⟨g, 0, none⟩) (N * k) rc (cbRows p qs k) ∧ Ext w1 wr) (fun _ i _ => d - (intOf i).toNat)
  case atStart => exact ⟨0, _, _, Nat.zero_le _, rfl, rfl, ownR_empty w1, Z1.out⟩
  case round =>
    obtain ⟨k, g, rc, hk, rfl, rfl, hown, hext⟩ := hrel
    rename World => wo
    have HOwn := Lib.hid hown
    have HExt := Lib.hid hext
    have hs0 := hext.cell Q0.out
    have hs1 := hext.cell Q1.out
    clear hown hext
    by_cases hlt : k < d
    · have hpi : IntKind.i64.wrap (2 ^ k) = ((2 ^ k : Nat) : Int) := pow_wrapI (by omega)
      have hpw : wrap64 (2 ^ k) = ((2 ^ k : Nat) : Int) := pow_wrap (by omega)
      have hcv := conv_u k (by omega)
      have hMN : 2 ^ k < N := by rw [HN.out]; exact Nat.pow_lt_pow_right (by omega) hlt
      have hNk : N * k ≤ 4095 := Nat.le_trans (Nat.mul_le_mul_left N (show k ≤ d by omega)) hNd
      have HGB := Lib.hid (show Good p N (bladeL N (2 ^ k)) from blade_good (by omega))
      obtain ⟨M, hM⟩ : ∃ M, M = 2 ^ k := ⟨_, rfl⟩
      rw [← hM] at hpi hpw hMN HGB
      have HM := Lib.hid hM
      clear hM
      go_wp2_with (fail)
      refine (s_zeroN HN.out p a cap _ hd6).mono ?_
      rintro e wz ⟨g0, rfl, ho0, h0⟩
      have HO0 := Lib.hid ho0
      have HE0 := Lib.hid h0
      have hge : wo.heap.size ≤ g0 := ho0.base_le.1
      have hcg := ho0.cell hMN
      have hfz := ho0.frozen M
      have hs0c := h0.cell hs0
      have hs1c := h0.cell hs1
      have hl0 : w.heap.size < g0 := by have hb0 : w.heap.size < w1.heap.size := lt_of_cell Q0.out; have := HExt.out.size'; omega
      have HGE := Lib.hid hge
      clear ho0 h0 hs0 hs1
      have XS := Lib.hid (HE0.out.setCell (p := ⟨g0, M, none⟩) hge (.int .i64 1))
      have HV : Hid (OwnC wo.heap.size (wz.setCell ⟨g0, M, none⟩ (.int .i64 1)) (some ⟨g0, 0, none⟩) N N (bladeL N M)) := Lib.hid (HO0.out.store hMN 1)
      have HT0 := Lib.hid ((HExt.out.trans (XS.out.trans (ext_drew _))).cell Q0.out)
      have HT1 := Lib.hid ((HExt.out.trans (XS.out.trans (ext_drew _))).cell Q1.out)
      have GX := Lib.hid (G1.out.trans (HExt.out.trans (XS.out.trans (ext_drew _))))
      go_wp2_with (fail)
      clear hs0c hs1c hcg hfz
      refine wp_region_lex [(2, .ownR wo.heap.size N (matM p qs (bladeL N M) true)), (5, .ownR wo.heap.size N (matM p qs (bladeL N M) false))] (by kernel_rfl) (by kernel_rfl) ?_
      (refine LexW.pure (v := ?_) rfl rfl (fun w1 he => ?_) ?_; rotate_left; ( have e1 := he.cell HT0.out; have e2 := he.cell HT1.out; go_simp; rfl); simp only [Act.put, List.setIfInBounds_toArray, List.set_cons_zero, List.set_cons_succ])
      (refine LexW.pure (v := ?_) rfl rfl (fun w1 he => ?_) ?_; rotate_left; ( have e1 := he.cell HT0.out; have e2 := he.cell HT1.out; go_simp; rfl); simp only [Act.put, List.setIfInBounds_toArray, List.set_cons_zero, List.set_cons_succ])
      (refine LexW.callR (f := ?_) (args := ?_) rfl rfl (fun w1 => ?_) (fun w1 he hdep => ?_) (fun v hv => ?_); rotate_left 2; (go_simp; refine ⟨?_, ?_⟩ <;> rfl); ( refine (s_leftMatrix HN.out p a cap qs _ N (bladeL N M) w1 hd6 (by omega) (by omega) (HQ.out.ext (GX.out.trans he)) HQB.out (HV.out.rd.ext ((ext_drew _).trans he)) HGB.out).mono ?_; rintro e w2 ⟨g, rc, rfl, ho, g2⟩; exact ⟨_, rfl, g2, g, rc, rfl, ho.mono (Nat.le_trans (XS.out.trans (ext_drew _)).size he.size)⟩); simp only [Act.put, List.setIfInBounds_toArray, List.set_cons_zero, List.set_cons_succ])
      obtain ⟨_, g33, c33, rfl, _⟩ := hv
      (refine LexW.pure (v := ?_) rfl rfl (fun w1 he => ?_) ?_; rotate_left; ( have e1 := he.cell HT0.out; have e2 := he.cell HT1.out; go_simp; rfl); simp only [Act.put, List.setIfInBounds_toArray, List.set_cons_zero, List.set_cons_succ])
      (refine LexW.pure (v := ?_) rfl rfl (fun w1 he => ?_) ?_; rotate_left; ( have e1 := he.cell HT0.out; have e2 := he.cell HT1.out; go_simp; rfl); simp only [Act.put, List.setIfInBounds_toArray, List.set_cons_zero, List.set_cons_succ])
      (refine LexW.callR (f := ?_) (args := ?_) rfl rfl (fun w1 => ?_) (fun w1 he hdep => ?_) (fun v hv => ?_); rotate_left 2; (go_simp; refine ⟨?_, ?_⟩ <;> rfl); ( refine (s_rightMatrix HN.out p a cap qs _ N (bladeL N M) w1 hd6 (by omega) (by omega) (HQ.out.ext (GX.out.trans he)) HQB.out (HV.out.rd.ext ((ext_drew _).trans he)) HGB.out).mono ?_; rintro e w2 ⟨g, rc, rfl, ho, g2⟩; exact ⟨_, rfl, g2, g, rc, rfl, ho.mono (Nat.le_trans (XS.out.trans (ext_drew _)).size he.size)⟩); simp only [Act.put, List.setIfInBounds_toArray, List.set_cons_zero, List.set_cons_succ])
      obtain ⟨_, g36, c36, rfl, _⟩ := hv
      (refine LexW.pure (v := ?_) rfl rfl (fun w1 he => ?_) ?_; rotate_left; ( have e1 := he.cell HT0.out; have e2 := he.cell HT1.out; go_simp; rfl); simp only [Act.put, List.setIfInBounds_toArray, List.set_cons_zero, List.set_cons_succ])
      (refine LexW.pure (v := ?_) rfl rfl (fun w1 he => ?_) ?_; rotate_left; ( have e1 := he.cell HT0.out; have e2 := he.cell HT1.out; go_simp; rfl); simp only [Act.put, List.setIfInBounds_toArray, List.set_cons_zero, List.set_cons_succ])
      refine LexW.nil (fun w3 he hkn => ?_)
      obtain ⟨_, _, q33, r33⟩ : (SPred.ownR wo.heap.size N (matM p qs (bladeL N M) true)).holds (.slice (some ⟨g33, 0, none⟩) N c33) w3 := hkn (2, _) (by simp)
      cases q33
      have R33 := Lib.hid r33
      obtain ⟨_, _, q36, r36⟩ : (SPred.ownR wo.heap.size N (matM p qs (bladeL N M) false)).holds (.slice (some ⟨g36, 0, none⟩) N c36) w3 := hkn (5, _) (by simp)
      cases q36
      have R36 := Lib.hid r36
      have HE := Lib.hid (GX.out.trans he)
      have X3 := Lib.hid ((XS.out.trans (ext_drew _)).trans he)
      clear he hkn r33 r36
      obtain ⟨A, hA⟩ : ∃ A, A = matM p qs (bladeL N M) true := ⟨_, rfl⟩
      obtain ⟨B, hB⟩ : ∃ B, B = matM p qs (bladeL N M) false := ⟨_, rfl⟩
      have HMA : Hid (RowsG p N A) := Lib.hid (by rw [hA]; exact HMG.out _ _)
      have HMB : Hid (RowsG p N B) := Lib.hid (by rw [hB]; exact HMG.out _ _)
      have HCk : Hid (cmE p qs k = sumM p A B (-1) N N) := Lib.hid (by rw [HCM.out, ← HM.out, hA, hB])
      rw [← hA] at R33
      rw [← hB] at R36
      clear hA hB HT0 HT1 GX
      rename World => wA
      have HK0 := Lib.hid (X3.out.cell (HExt.out.cell Q0.out))
      have HK1 := Lib.hid (X3.out.cell (HExt.out.cell Q1.out))
      go_wp2_with (fail)
      go_loopw [5, 10] (fun s i wr => ∃ (j gi ri : Nat), j ≤ N ∧ i = .int .i64 j ∧ s = .slice (some ⟨gi, 0, none⟩) (N * k + j) ri ∧ OwnR w1.heap.size wr (some ⟨gi, 0, none⟩) (N * k + j) ri (cbRows p qs k ++ sumM p A B (-1) N j) ∧ OwnR wo.heap.size wr (some ⟨g33, 0, none⟩) N c33 A ∧ OwnR wo.heap.size wr (some ⟨g36, 0, none⟩) N c36 B ∧ gi ≠ g33 ∧ gi ≠ g36 ∧ Ext w1 wr) (fun _ i _ => N - (intOf i).toNat)
      case atStart => exact ⟨0, g, rc, Nat.zero_le _, rfl, rfl, by have h := HOwn.out.ext X3.out; simpa [sumM] using h, R33.out, R36.out, by have h1 := HOwn.out.base_of g rfl; have h2 := R33.out.base_of g33 rfl; omega, by have h1 := HOwn.out.base_of g rfl; have h2 := R36.out.base_of g36 rfl; omega, HExt.out.trans X3.out⟩
      case round =>
        obtain ⟨j, gi, ri, hj, rfl, rfl, hown, hoa, hob, hne1, hne2, hext⟩ := hrel
        rename World => wi
        have HOi := Lib.hid hown
        have HAi := Lib.hid hoa
        have HBi := Lib.hid hob
        have HXi := Lib.hid hext
        clear hown hext hoa hob
        by_cases hlj : j < N
        · have hjA : j < A.length := by have := HAi.out.1; omega
          have hjB : j < B.length := by have := HBi.out.1; omega
          obtain ⟨ai, ci, hca, hra⟩ := HAi.out.at hlj
          obtain ⟨bi, di, hcc, hrb⟩ := HBi.out.at hlj
          have HGa := Lib.hid (HMA.out j hjA)
          have HGb := Lib.hid (HMB.out j hjB)
          rw [HGa.out.1] at hca hra
          rw [HGb.out.1] at hcc hrb
          have HCa := Lib.hid ((ext_drew wi).cell hca)
          have HCb := Lib.hid ((ext_drew wi).cell hcc)
          have HRa := Lib.hid hra
          have HRb := Lib.hid hrb
          have HU0 := Lib.hid ((HXi.out.trans (ext_drew wi)).cell Q0.out)
          have HU1 := Lib.hid ((HXi.out.trans (ext_drew wi)).cell Q1.out)
          clear hca hra hcc hrb
          go_wp2_with (fail)
          refine wp_region_lex_tail1 15 [(14, .ownS wi.heap.size N (plusL p (nthR A j) (nthR B j) (-1) N))] (.slice (some ⟨gi, 0, none⟩) (N * k + j) ri) (by kernel_rfl) (by kernel_rfl) rfl rfl (fun w1 => by go_simp) ?_
          simp only [List.take, List.drop]
          simp only [Act.put, List.setIfInBounds_toArray, List.set_cons_zero, List.set_cons_succ]
          (refine LexW.pure (v := ?_) rfl rfl (fun w1 he => ?_) ?_; rotate_left; ( have e1 := he.cell HU0.out; have e2 := he.cell HU1.out; have e3 := he.cell HCa.out; have e4 := he.cell HCb.out; go_simp; rfl); simp only [Act.put, List.setIfInBounds_toArray, List.set_cons_zero, List.set_cons_succ])
          (refine LexW.pure (v := ?_) rfl rfl (fun w1 he => ?_) ?_; rotate_left; ( have e1 := he.cell HU0.out; have e2 := he.cell HU1.out; have e3 := he.cell HCa.out; have e4 := he.cell HCb.out; go_simp; rfl); simp only [Act.put, List.setIfInBounds_toArray, List.set_cons_zero, List.set_cons_succ])
          (refine LexW.pure (v := ?_) rfl rfl (fun w1 he => ?_) ?_; rotate_left; ( have e1 := he.cell HU0.out; have e2 := he.cell HU1.out; have e3 := he.cell HCa.out; have e4 := he.cell HCb.out; go_simp; rfl); simp only [Act.put, List.setIfInBounds_toArray, List.set_cons_zero, List.set_cons_succ])
          (refine LexW.pure (v := ?_) rfl rfl (fun w1 he => ?_) ?_; rotate_left; ( have e1 := he.cell HU0.out; have e2 := he.cell HU1.out; have e3 := he.cell HCa.out; have e4 := he.cell HCb.out; go_simp; rfl); simp only [Act.put, List.setIfInBounds_toArray, List.set_cons_zero, List.set_cons_succ])
          (refine LexW.pure (v := ?_) rfl rfl (fun w1 he => ?_) ?_; rotate_left; ( have e1 := he.cell HU0.out; have e2 := he.cell HU1.out; have e3 := he.cell HCa.out; have e4 := he.cell HCb.out; go_simp; rfl); simp only [Act.put, List.setIfInBounds_toArray, List.set_cons_zero, List.set_cons_succ])
          (refine LexW.pure (v := ?_) rfl rfl (fun w1 he => ?_) ?_; rotate_left; ( have e1 := he.cell HU0.out; have e2 := he.cell HU1.out; have e3 := he.cell HCa.out; have e4 := he.cell HCb.out; go_simp; rfl); simp only [Act.put, List.setIfInBounds_toArray, List.set_cons_zero, List.set_cons_succ])
          (refine LexW.pure (v := ?_) rfl rfl (fun w1 he => ?_) ?_; rotate_left; ( have e1 := he.cell HU0.out; have e2 := he.cell HU1.out; have e3 := he.cell HCa.out; have e4 := he.cell HCb.out; go_simp; rfl); simp only [Act.put, List.setIfInBounds_toArray, List.set_cons_zero, List.set_cons_succ])
          (refine LexW.pure (v := ?_) rfl rfl (fun w1 he => ?_) ?_; rotate_left; ( have e1 := he.cell HU0.out; have e2 := he.cell HU1.out; have e3 := he.cell HCa.out; have e4 := he.cell HCb.out; go_simp; rfl); simp only [Act.put, List.setIfInBounds_toArray, List.set_cons_zero, List.set_cons_succ])
          (refine LexW.pure (v := ?_) rfl rfl (fun w1 he => ?_) ?_; rotate_left; ( have e1 := he.cell HU0.out; have e2 := he.cell HU1.out; have e3 := he.cell HCa.out; have e4 := he.cell HCb.out; go_simp; rfl); simp only [Act.put, List.setIfInBounds_toArray, List.set_cons_zero, List.set_cons_succ])
          (refine LexW.pure (v := ?_) rfl rfl (fun w1 he => ?_) ?_; rotate_left; ( have e1 := he.cell HU0.out; have e2 := he.cell HU1.out; have e3 := he.cell HCa.out; have e4 := he.cell HCb.out; go_simp; rfl); simp only [Act.put, List.setIfInBounds_toArray, List.set_cons_zero, List.set_cons_succ])
          (refine LexW.pure (v := ?_) rfl rfl (fun w1 he => ?_) ?_; rotate_left; ( have e1 := he.cell HU0.out; have e2 := he.cell HU1.out; have e3 := he.cell HCa.out; have e4 := he.cell HCb.out; go_simp; rfl); simp only [Act.put, List.setIfInBounds_toArray, List.set_cons_zero, List.set_cons_succ])
          (refine LexW.pure (v := ?_) rfl rfl (fun w1 he => ?_) ?_; rotate_left; ( have e1 := he.cell HU0.out; have e2 := he.cell HU1.out; have e3 := he.cell HCa.out; have e4 := he.cell HCb.out; go_simp; rfl); simp only [Act.put, List.setIfInBounds_toArray, List.set_cons_zero, List.set_cons_succ])
          (refine LexW.pure (v := ?_) rfl rfl (fun w1 he => ?_) ?_; rotate_left; ( have e1 := he.cell HU0.out; have e2 := he.cell HU1.out; have e3 := he.cell HCa.out; have e4 := he.cell HCb.out; go_simp; rfl); simp only [Act.put, List.setIfInBounds_toArray, List.set_cons_zero, List.set_cons_succ])
          (refine LexW.callR (f := ?_) (args := ?_) rfl rfl (fun w1 => ?_) (fun w1 he hdep => ?_) (fun v hv => ?_); rotate_left 2; (go_simp; refine ⟨?_, ?_⟩ <;> rfl); ( refine (s_minus p _ _ N _ _ (nthR A j) (nthR B j) w1 (by omega) (by omega) (by omega) (HRa.out.rd.ext ((ext_drew wi).trans he)) (HRb.out.rd.ext ((ext_drew wi).trans he)) HGa.out HGb.out _ HPM.out).mono ?_; rintro e w2 ⟨g, rc, rfl, ho, g2⟩; exact ⟨_, rfl, g2, g, rc, rfl, ho.mono (Nat.le_trans (ext_drew wi).size he.size)⟩); simp only [Act.put, List.setIfInBounds_toArray, List.set_cons_zero, List.set_cons_succ])
          obtain ⟨_, g57, c57, rfl, _⟩ := hv
          refine LexW.nil (fun w3 he hkn => ?_)
          obtain ⟨_, _, q57, r57⟩ : (SPred.ownS wi.heap.size N (plusL p (nthR A j) (nthR B j) (-1) N)).holds (.slice (some ⟨g57, 0, none⟩) N c57) w3 := hkn (14, _) (by simp)
          cases q57
          have R57 := Lib.hid r57
          have HE := Lib.hid ((ext_drew wi).trans he)
          clear he hkn r57
          go_wp2_with (at_builtin; refine wpList_pushR_at (w0 := wi) rfl (.tmp 43) (.tmp 58) rfl rfl rfl HOi.out (HE.out.trans (ext_alloc _ _)) (R57.out.ext (ext_alloc _ _)) ?hc (by omega) HXi.out.size ?hk)
          case hc => exact cell_new _ _ rfl _ _
          case hk =>
            intro g5 c5 w5 ho5 hg5 hn5 he5
            have HO5 := Lib.hid ho5
            have HE5 := Lib.hid (he5 w1 (Nat.le_refl _) ((HXi.out.trans HE.out).alloc _))
            have XI := Lib.hid (HE.out.trans (ext_alloc _ (.cells #[.slice (some ⟨g57, 0, none⟩) N c57] 22)))
            have HA5 := Lib.hid ((HAi.out.ext XI.out).grown2 (HOi.out.ext XI.out) hg5 (fun q hq => by cases hq; simp only [Value.ownBlock, ne_eq, Option.some.injEq]; exact hne1))
            have HB5 := Lib.hid ((HBi.out.ext XI.out).grown2 (HOi.out.ext XI.out) hg5 (fun q hq => by cases hq; simp only [Value.ownBlock, ne_eq, Option.some.injEq]; exact hne2))
            have hN1' : g5 ≠ g33 := by
              rcases hn5 with h | h
              · have h1 := (HAi.out.base_of g33 rfl).2; have h2 := HE.out.size'; omega
              · simp only [Value.ownBlock, Option.some.injEq] at h; omega
            have hN2' : g5 ≠ g36 := by
              rcases hn5 with h | h
              · have h1 := (HBi.out.base_of g36 rfl).2; have h2 := HE.out.size'; omega
              · simp only [Value.ownBlock, Option.some.injEq] at h; omega
            clear ho5 hg5 hn5 he5
            go_wp2_with (fail)
            refine strictQ_normal ?_
            go_wp2_with (fail)
            go_roundw
            case rel => exact ⟨j + 1, g5, c5, by omega, by go_num, rfl, by rw [sumM_succ]; exact HO5.out, HA5.out, HB5.out, hN1', hN2', HE5.out⟩
            case measure => simp [intOf]; omega
        · obtain rfl : j = N := by omega
          go_wp2_with (fail)
          go_roundw
          case rel => exact ⟨k + 1, gi, ri, by omega, by go_num, by rw [Nat.mul_succ], by rw [Nat.mul_succ, cbRows, HCk.out]; exact HOi.out, HXi.out⟩
          case measure => simp [intOf]; omega
    · obtain rfl : k = d := by omega
      go_wp2_with (go_at_call 96; refine (s_kernel p _ (N * k) _ N (cbRows p qs k) wo HPR.out (by omega) (by omega) (by omega) (by omega) HOwn.out.rd HCG.out).mono ?_; rintro e w5 ⟨gk, rk, rfl, ho5, x5⟩; have HO5 := Lib.hid (ho5.mono (B' := w.heap.size) (G1.out.trans HExt.out).size); have X5 := Lib.hid ((G1.out.trans HExt.out).trans x5); clear ho5 x5)
      go_ret2
      exact ⟨_, _, by rw [HCB.out]; rfl, by rw [HCB.out]; exact HO5.out, X5.out⟩

end Go.Proofs.Ythimjfnmpicbiaa
