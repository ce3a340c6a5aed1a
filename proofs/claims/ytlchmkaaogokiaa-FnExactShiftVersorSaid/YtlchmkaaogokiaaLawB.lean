/-
  Contracts: the helpers of the exact laws for slices of slices: sizes, copies, comparisons, marks.
  No condition.
-/
import Derived.Test.YtlchmkaaogokiaaLawR
namespace Go.Proofs.Ytlchmkaaogokiaa
set_option maxRecDepth 100000
open Go.RowKit



set_option maxHeartbeats 1000000 in
theorem l_eqRows (a b : Option Addr) (n m ca cb : Nat) (xs ys : List (List Int)) (w : World) (hl : n ≤ 4194304) (_hm : m ≤ 4194304) (hxl : ∀ i, i < n → (nthR xs i).length ≤ 4194304) (hyl : ∀ i, i < m → (nthR ys i).length ≤ 4194304) (hx : RdR w a n xs) (hy : RdR w b m ys) :
    Calls Try.prog 106 #[.slice a n ca, .slice b m cb] w fun e w' => e = .returned (.bool (eqR xs ys)) ∧ Ext w w' := by
  have HXL := Lib.hid hxl
  have HYL := Lib.hid hyl
  clear hxl hyl
  by_cases hnm : n = m
  · subst hnm
    have hcb : ((n : Int) != (n : Int)) = false := by simp
    have HX := Lib.hid hx.2
    have HXN := Lib.hid hx.1
    have HY := Lib.hid hy.2
    have HYN := Lib.hid hy.1
    clear hx hy
    go_enter Try.func106, Try.ntmps106
    go_wp2_with (fail)
    go_loopw [5] (fun i wr => ∃ (k : Nat), k ≤ n ∧ i = .int .i64 k ∧ Hid (∀ j, j < k → nthR xs j = nthR ys j) ∧ Ext w wr) (fun i _ => n - (intOf i).toNat)
    case atStart => exact ⟨0, Nat.zero_le _, rfl, Lib.hid (fun j hj => by omega), Ext.refl _⟩
    case round =>
      obtain ⟨k, hk, rfl, HT, hext⟩ := hrel
      have HExt := Lib.hid hext
      clear hext
      by_cases hlt : k < n
      · obtain ⟨b1, off1, a1, c1, rfl, hc1, hr1⟩ := HX.out k hlt
        obtain ⟨b2, off2, a2, c2, rfl, hc2, hr2⟩ := HY.out k hlt
        have Hc1 := Lib.hid ((HExt.out.trans (ext_drew _)).cell hc1)
        have Hc2 := Lib.hid ((HExt.out.trans (ext_drew _)).cell hc2)
        have Hr1 := Lib.hid (hr1.ext (HExt.out.trans (ext_drew _)))
        have Hr2 := Lib.hid (hr2.ext (HExt.out.trans (ext_drew _)))
        have hl1 := HXL.out k hlt
        have hl2 := HYL.out k hlt
        clear hc1 hc2 hr1 hr2
        by_cases hb : nthR xs k = nthR ys k
        · have HB := Lib.hid hb
          have HE := Lib.hid (show eqB (nthR xs k) (nthR ys k) = true by simp [eqB, hb])
          clear hb
          go_wp2_with (fail)
          refine wp_region_lex [(8, .val (.bool true))] (by kernel_rfl) (by kernel_rfl) ?_
          repeat' first | (refine LexW.pure (v := ?_) rfl rfl (fun w1 he => ?_) ?_; rotate_left; ( have hc1 := he.cell Hc1.out; have hc2 := he.cell Hc2.out; go_simp; rfl); simp only [Act.put, List.setIfInBounds_toArray, List.set_cons_zero, List.set_cons_succ]) | (refine LexW.call (f := ?_) (args := ?_) rfl rfl (fun w1 => ?_) (fun w1 he hdep => ?_) ?_; rotate_left 2; (go_simp; refine ⟨?_, ?_⟩ <;> rfl); ( have H := l_eqInts a1 a2 _ _ c1 c2 _ _ w1 hl1 hl2 (Hr1.out.ext he) (Hr2.out.ext he); rw [HE.out] at H; exact H); simp only [Act.put, List.setIfInBounds_toArray, List.set_cons_zero, List.set_cons_succ])
          refine LexW.nil (fun w2 he hk => ?_)
          have G := Lib.hid (HExt.out.trans ((ext_drew _).trans he))
          clear he hk
          go_wp2_with (fail)
          go_roundw
          case rel => exact ⟨k + 1, by omega, by go_num, Lib.hid (fun j hj => by
            by_cases hjk : j = k
            · subst hjk; exact HB.out
            · exact HT.out j (by omega)), G.out⟩
          case measure => simp [intOf]; omega
        · have HB := Lib.hid (eqR_nth hb)
          have HE := Lib.hid (show eqB (nthR xs k) (nthR ys k) = false by simp [eqB, hb])
          clear hb
          go_wp2_with (fail)
          refine wp_region_lex [(8, .val (.bool false))] (by kernel_rfl) (by kernel_rfl) ?_
          repeat' first | (refine LexW.pure (v := ?_) rfl rfl (fun w1 he => ?_) ?_; rotate_left; ( have hc1 := he.cell Hc1.out; have hc2 := he.cell Hc2.out; go_simp; rfl); simp only [Act.put, List.setIfInBounds_toArray, List.set_cons_zero, List.set_cons_succ]) | (refine LexW.call (f := ?_) (args := ?_) rfl rfl (fun w1 => ?_) (fun w1 he hdep => ?_) ?_; rotate_left 2; (go_simp; refine ⟨?_, ?_⟩ <;> rfl); ( have H := l_eqInts a1 a2 _ _ c1 c2 _ _ w1 hl1 hl2 (Hr1.out.ext he) (Hr2.out.ext he); rw [HE.out] at H; exact H); simp only [Act.put, List.setIfInBounds_toArray, List.set_cons_zero, List.set_cons_succ])
          refine LexW.nil (fun w2 he hk => ?_)
          have G := Lib.hid (HExt.out.trans ((ext_drew _).trans he))
          clear he hk
          go_wp2_with (fail)
          go_ret
          exact ⟨ret_bool HB.out.symm, G.out⟩
      · go_wp2_with (fail)
        go_ret
        exact ⟨ret_bool (eqR_all HXN.out HYN.out (fun j hj => HT.out j (by omega))).symm, HExt.out⟩
  · have HF := Lib.hid (eqR_len (xs := xs) (ys := ys) (by rw [hx.1, hy.1]; exact hnm))
    have hcb : ((n : Int) != (m : Int)) = true := by simp; omega
    go_enter Try.func106, Try.ntmps106
    go_wp2_with (fail)
    go_ret
    exact ⟨ret_bool HF.out.symm, Ext.refl _⟩

set_option maxHeartbeats 1000000 in
theorem l_markRows (lo hi : Nat) (a : Option Addr) (n cap : Nat) (rows : List (List Int)) (k : Int) (w : World) (hl : n ≤ 1048576) (hT : cntR rows n ≤ 1048576) (hk0 : 0 ≤ k) (hk : k ≤ 50000000) (ho : OwnRH lo hi w a n cap rows) :
    Calls Try.prog 107 #[.slice a n cap, .int .i64 k] w fun e w' => e = .returned (.int .i64 (k + cntR rows n)) ∧ OwnRH lo hi w' a n cap (markR k rows n) ∧ WroteIn lo hi w w' := by
  have HO := Lib.hid ho
  clear ho
  go_enter Try.func107, Try.ntmps107
  go_wp2_with (fail)
  go_loopw [1, 5] (fun kk i wr => ∃ (j c : Nat) (ys : List (List Int)), j ≤ n ∧ i = .int .i64 j ∧ kk = .int .i64 (k + c) ∧ Hid (c = cntR rows j) ∧ OwnRH lo hi wr a n cap ys ∧ Hid (∀ t, t < j → nthR ys t = marks (k + cntR rows t) (nthR rows t).length) ∧ Hid (∀ t, j ≤ t → t < n → nthR ys t = nthR rows t) ∧ WroteIn lo hi w wr) (fun _ i _ => n - (intOf i).toNat)
  case atStart => exact ⟨0, 0, rows, Nat.zero_le _, rfl, by simp, Lib.hid rfl, HO.out, Lib.hid (fun j hj => by omega), Lib.hid (fun _ _ _ => rfl), WroteIn.refl _ _ _⟩
  case round =>
    obtain ⟨j, c, ys, hj, rfl, rfl, HC, hown, HT, HU, hwr⟩ := hrel
    have HOwn := Lib.hid hown
    have HW := Lib.hid hwr
    clear hown hwr
    by_cases hlt : j < n
    · obtain ⟨b, off, ai, ci, rfl, hc, hoi, hai, hput⟩ := HOwn.out.atRow hlt
      have hcT : c ≤ 1048576 := by rw [HC.out]; exact Nat.le_trans (cntR_le rows hj) hT
      have hll : (nthR ys j).length ≤ 4194304 := by rw [HU.out j (Nat.le_refl _) hlt]; exact Nat.le_trans (cntR_row rows hlt) (by omega)
      have hcl : c + (nthR ys j).length ≤ 1048576 := by
        rw [HU.out j (Nat.le_refl _) hlt, HC.out]
        exact Nat.le_trans (cntR_le rows (show j + 1 ≤ n by omega)) hT
      have HOi := Lib.hid hoi
      have HAi := Lib.hid hai
      have HPut := Lib.hid hput
      clear hoi hai hput
      go_wp2_with (fail)
      refine (l_mark lo ai _ ci _ (k + (c : Int)) _ hll (by omega) (by omega) HOi.out).mono ?_
      rintro e w1 ⟨rfl, g1, g2⟩
      have G1 := Lib.hid g1
      have G2 := Lib.hid g2
      clear g1 g2 hc
      go_wp2_with (fail)
      go_roundw
      case rel => exact ⟨j + 1, c + (nthR ys j).length, ys.set j (marks (k + (c : Int)) (nthR ys j).length), by omega, by go_num, by rw [Int.natCast_add, Int.add_assoc], Lib.hid (by rw [HC.out, HU.out j (Nat.le_refl _) hlt]; rfl), HPut.out w1 _ (marks_len _ _) G2.out G1.out, Lib.hid (fun t ht => by
          rw [nthR_set (by rw [HOwn.out.1]; exact hlt)]
          by_cases hjk : j = t
          · subst hjk; rw [if_pos rfl, HC.out, HU.out j (Nat.le_refl _) hlt]
          · rw [if_neg hjk]; exact HT.out t (by omega)), Lib.hid (fun t ht1 ht2 => by
          rw [nthR_set (by rw [HOwn.out.1]; exact hlt), if_neg (by omega)]; exact HU.out t (by omega) ht2), HW.out.trans (G2.out.inR HAi.out)⟩
      case measure => simp [intOf]; omega
    · go_wp2_with (fail)
      go_ret
      have hjn : j = n := by omega
      subst hjn
      refine ⟨ret_int (by rw [HC.out]), ?_, HW.out⟩
      have : ys = markR k rows j := ext_rows (by rw [HOwn.out.1, markR_len]) (fun i hi => by
        rw [HOwn.out.1] at hi
        rw [HT.out i hi, markR_nth hi])
      rw [← this]; exact HOwn.out

set_option maxHeartbeats 1000000 in
theorem l_heldRows (a : Option Addr) (n cap : Nat) (rows : List (List Int)) (k : Int) (w : World) (hl : n ≤ 1048576) (hT : cntR rows n ≤ 1048576) (hk0 : 0 ≤ k) (hk : k ≤ 50000000) (hx : RdR w a n (markR k rows n)) :
    Calls Try.prog 108 #[.slice a n cap, .int .i64 k] w fun e w' => e = .returned (.int .i64 (k + cntR rows n)) ∧ Ext w w' := by
  have HX := Lib.hid hx
  clear hx
  go_enter Try.func108, Try.ntmps108
  go_wp2_with (fail)
  go_loopw [1, 5] (fun kk i wr => ∃ (j c : Nat), j ≤ n ∧ i = .int .i64 j ∧ kk = .int .i64 (k + c) ∧ Hid (c = cntR rows j) ∧ Ext w wr) (fun _ i _ => n - (intOf i).toNat)
  case atStart => exact ⟨0, 0, Nat.zero_le _, rfl, by simp, Lib.hid rfl, Ext.refl _⟩
  case round =>
    obtain ⟨j, c, hj, rfl, rfl, HC, hext⟩ := hrel
    have HExt := Lib.hid hext
    clear hext
    by_cases hlt : j < n
    · obtain ⟨b, off, ai, ci, rfl, hc, hri⟩ := HX.out.2 j hlt
      rw [markR_nth hlt, marks_len] at hc hri
      have hcT : c ≤ 1048576 := by rw [HC.out]; exact Nat.le_trans (cntR_le rows hj) hT
      have hll : (nthR rows j).length ≤ 1048576 := Nat.le_trans (cntR_row rows hlt) hT
      have hc' := HExt.out.cell hc
      rw [← HC.out] at hri
      have HRi := Lib.hid (hri.ext HExt.out)
      clear hc hri
      go_wp2_with (fail)
      refine (l_held ai _ ci (k + (c : Int)) _ (by omega) (by omega) (by omega) HRi.out).mono ?_
      rintro e w1 ⟨rfl, g1⟩
      have G1 := Lib.hid g1
      have hnn : ¬ (k + (c : Int) + ((nthR rows j).length : Int)) < 0 := by omega
      clear g1 hc'
      go_wp2_with (fail)
      go_roundw
      case rel => exact ⟨j + 1, c + (nthR rows j).length, by omega, by go_num, by rw [Int.natCast_add, Int.add_assoc], Lib.hid (by rw [HC.out]; rfl), HExt.out.trans G1.out⟩
      case measure => simp [intOf]; omega
    · go_wp2_with (fail)
      go_ret
      have hjn : j = n := by omega
      subst hjn
      exact ⟨ret_int (by rw [HC.out]), HExt.out⟩

end Go.Proofs.Ytlchmkaaogokiaa
