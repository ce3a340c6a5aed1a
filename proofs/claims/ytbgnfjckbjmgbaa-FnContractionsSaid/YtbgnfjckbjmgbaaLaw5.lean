/-
  Contracts: the helpers of the laws of algebra.
  No condition.
-/
import Derived.Test.YtbgnfjckbjmgbaaLawA
import Derived.Test.YtbgnfjckbjmgbaaLawR
import Derived.Test.YtbgnfjckbjmgbaaPlus
namespace Go.Proofs.Ytbgnfjckbjmgbaa
set_option maxRecDepth 100000
open Go.RowKit

set_option maxHeartbeats 400000 in
theorem l_big (a : Option Addr) (n cap : Nat) (w : World) :
    Calls Try.prog 10 #[.slice a n cap] w fun e w' => e = .returned (.bool (decide (4096 < n))) ∧ Ext w w' := by
  by_cases h : 4096 < n
  · have hg : (4096 : Int) < n := by omega
    have HD := Lib.hid (show decide (4096 < n) = true by simp [h])
    go_enter Try.func10, Try.ntmps10
    go_wp2_with (fail)
    go_ret
    first | exact ⟨rfl, Ext.refl _⟩ | exact ⟨ret_bool HD.out.symm, Ext.refl _⟩
  · have hg : ¬ (4096 : Int) < n := by omega
    have HD := Lib.hid (show decide (4096 < n) = false by simp [h])
    go_enter Try.func10, Try.ntmps10
    go_wp2_with (fail)
    go_ret
    first | exact ⟨rfl, Ext.refl _⟩ | exact ⟨ret_bool HD.out.symm, Ext.refl _⟩
set_option maxHeartbeats 400000 in
theorem l_like (a b : Option Addr) (n m ca cb : Nat) (xs ys : List Int) (w : World) (hl : n ≤ 4194304) (hm : m ≤ 4194304) (hx : RdC w a n xs) (hy : RdC w b m ys) :
    Calls Try.prog 20 #[.slice a n ca, .slice b m cb] w fun e w' => e = .returned (.bool (eqB xs ys)) ∧ Ext w w' := by
  by_cases hnm : n = m
  · subst hnm
    have hcb : ((n : Int) != (n : Int)) = false := by simp
    have HX := Lib.hid hx.2
    have HXN := Lib.hid hx.1
    have HY := Lib.hid hy.2
    have HYN := Lib.hid hy.1
    clear hx hy
    go_enter Try.func20, Try.ntmps20
    go_wp2_with (fail)
    go_loopw [5] (fun i wr => ∃ (k : Nat), k ≤ n ∧ i = .int .i64 k ∧ Hid (∀ j, j < k → nth xs j = nth ys j) ∧ Ext w wr) (fun i _ => n - (intOf i).toNat)
    case atStart => exact ⟨0, Nat.zero_le _, rfl, Lib.hid (fun j hj => by omega), Ext.refl _⟩
    case round =>
      obtain ⟨k, hk, rfl, HT, hext⟩ := hrel
      by_cases hlt : k < n
      · obtain ⟨b1, off1, rfl, hc1⟩ := HX.out k hlt
        obtain ⟨b2, off2, rfl, hc2⟩ := HY.out k hlt
        have Hc1 := Lib.hid ((hext.trans (ext_drew _)).cell hc1)
        have Hc2 := Lib.hid ((hext.trans (ext_drew _)).cell hc2)
        clear hc1 hc2
        by_cases hb : nth xs k = nth ys k
        · have HB := Lib.hid hb
          have hbb : (nth xs k != nth ys k) = false := by simp [hb]
          clear hb
          go_wp2_with (fail)
          refine wp_region_lex [] (by kernel_rfl) (by kernel_rfl) ?_
          repeat' first | (refine LexW.pure (v := ?_) rfl rfl (fun w1 he => ?_) ?_; rotate_left; ( have hc1 := he.cell Hc1.out; have hc2 := he.cell Hc2.out; go_simp; rfl); simp only [Act.put, List.setIfInBounds_toArray, List.set_cons_zero, List.set_cons_succ])
          refine LexW.nil (fun w2 he hk => ?_)
          go_wp2_with (fail)
          go_roundw
          case rel => exact ⟨k + 1, by omega, by go_num, Lib.hid (fun j hj => by
            by_cases hjk : j = k
            · subst hjk; exact HB.out
            · exact HT.out j (by omega)), hext.trans ((ext_drew _).trans he)⟩
          case measure => simp [intOf]; omega
        · have HB := Lib.hid hb
          have hbb : (nth xs k != nth ys k) = true := by simp [hb]
          clear hb
          go_wp2_with (fail)
          refine wp_region_lex [] (by kernel_rfl) (by kernel_rfl) ?_
          repeat' first | (refine LexW.pure (v := ?_) rfl rfl (fun w1 he => ?_) ?_; rotate_left; ( have hc1 := he.cell Hc1.out; have hc2 := he.cell Hc2.out; go_simp; rfl); simp only [Act.put, List.setIfInBounds_toArray, List.set_cons_zero, List.set_cons_succ])
          refine LexW.nil (fun w2 he hk => ?_)
          go_wp2_with (fail)
          go_ret
          exact ⟨ret_bool (eqB_nth HB.out).symm, hext.trans ((ext_drew _).trans he)⟩
      · go_wp2_with (fail)
        go_ret
        exact ⟨ret_bool (eqB_all HXN.out HYN.out (fun j hj => HT.out j (by omega))).symm, hext⟩
  · have HF := Lib.hid (eqB_len (xs := xs) (ys := ys) (by rw [hx.1, hy.1]; exact hnm))
    have hcb : ((n : Int) != (m : Int)) = true := by simp; omega
    go_enter Try.func20, Try.ntmps20
    go_wp2_with (fail)
    go_ret
    exact ⟨ret_bool HF.out.symm, Ext.refl _⟩
set_option maxHeartbeats 1000000 in
theorem l_likeRows (a b : Option Addr) (n m ca cb : Nat) (xs ys : List (List Int)) (w : World) (hl : n ≤ 4194304) (_hm : m ≤ 4194304) (hxl : ∀ i, i < n → (nthR xs i).length ≤ 4194304) (hyl : ∀ i, i < m → (nthR ys i).length ≤ 4194304) (hx : RdR w a n xs) (hy : RdR w b m ys) :
    Calls Try.prog 59 #[.slice a n ca, .slice b m cb] w fun e w' => e = .returned (.bool (eqR xs ys)) ∧ Ext w w' := by
  have HXL := Lib.hid hxl
  have HYL := Lib.hid hyl
  clear hxl hyl
  by_cases hnm : n = m
  · subst hnm
    have hcb : ((n : Int) != (n : Int)) = false := by simp
    have HX := Lib.hid hx.2
    have HXN := Lib.hid hx.1
    have HY := Lib.hid hy.2
    have HYN := Lib.hid hy.1
    clear hx hy
    go_enter Try.func59, Try.ntmps59
    go_wp2_with (fail)
    go_loopw [5] (fun i wr => ∃ (k : Nat), k ≤ n ∧ i = .int .i64 k ∧ Hid (∀ j, j < k → nthR xs j = nthR ys j) ∧ Ext w wr) (fun i _ => n - (intOf i).toNat)
    case atStart => exact ⟨0, Nat.zero_le _, rfl, Lib.hid (fun j hj => by omega), Ext.refl _⟩
    case round =>
      obtain ⟨k, hk, rfl, HT, hext⟩ := hrel
      have HExt := Lib.hid hext
      clear hext
      by_cases hlt : k < n
      · obtain ⟨b1, off1, a1, c1, rfl, hc1, hr1⟩ := HX.out k hlt
        obtain ⟨b2, off2, a2, c2, rfl, hc2, hr2⟩ := HY.out k hlt
        have Hc1 := Lib.hid ((HExt.out.trans (ext_drew _)).cell hc1)
        have Hc2 := Lib.hid ((HExt.out.trans (ext_drew _)).cell hc2)
        have Hr1 := Lib.hid (hr1.ext (HExt.out.trans (ext_drew _)))
        have Hr2 := Lib.hid (hr2.ext (HExt.out.trans (ext_drew _)))
        have hl1 := HXL.out k hlt
        have hl2 := HYL.out k hlt
        clear hc1 hc2 hr1 hr2
        by_cases hb : nthR xs k = nthR ys k
        · have HB := Lib.hid hb
          have HE := Lib.hid (show eqB (nthR xs k) (nthR ys k) = true by simp [eqB, hb])
          clear hb
          go_wp2_with (fail)
          refine wp_region_lex [(8, .val (.bool true))] (by kernel_rfl) (by kernel_rfl) ?_
          repeat' first | (refine LexW.pure (v := ?_) rfl rfl (fun w1 he => ?_) ?_; rotate_left; ( have hc1 := he.cell Hc1.out; have hc2 := he.cell Hc2.out; go_simp; rfl); simp only [Act.put, List.setIfInBounds_toArray, List.set_cons_zero, List.set_cons_succ]) | (refine LexW.call (f := ?_) (args := ?_) rfl rfl (fun w1 => ?_) (fun w1 he hdep => ?_) ?_; rotate_left 2; (go_simp; refine ⟨?_, ?_⟩ <;> rfl); ( have H := l_like a1 a2 _ _ c1 c2 _ _ w1 hl1 hl2 (Hr1.out.ext he) (Hr2.out.ext he); rw [HE.out] at H; exact H); simp only [Act.put, List.setIfInBounds_toArray, List.set_cons_zero, List.set_cons_succ])
          refine LexW.nil (fun w2 he hk => ?_)
          have G := Lib.hid (HExt.out.trans ((ext_drew _).trans he))
          clear he hk
          go_wp2_with (fail)
          go_roundw
          case rel => exact ⟨k + 1, by omega, by go_num, Lib.hid (fun j hj => by
            by_cases hjk : j = k
            · subst hjk; exact HB.out
            · exact HT.out j (by omega)), G.out⟩
          case measure => simp [intOf]; omega
        · have HB := Lib.hid (eqR_nth hb)
          have HE := Lib.hid (show eqB (nthR xs k) (nthR ys k) = false by simp [eqB, hb])
          clear hb
          go_wp2_with (fail)
          refine wp_region_lex [(8, .val (.bool false))] (by kernel_rfl) (by kernel_rfl) ?_
          repeat' first | (refine LexW.pure (v := ?_) rfl rfl (fun w1 he => ?_) ?_; rotate_left; ( have hc1 := he.cell Hc1.out; have hc2 := he.cell Hc2.out; go_simp; rfl); simp only [Act.put, List.setIfInBounds_toArray, List.set_cons_zero, List.set_cons_succ]) | (refine LexW.call (f := ?_) (args := ?_) rfl rfl (fun w1 => ?_) (fun w1 he hdep => ?_) ?_; rotate_left 2; (go_simp; refine ⟨?_, ?_⟩ <;> rfl); ( have H := l_like a1 a2 _ _ c1 c2 _ _ w1 hl1 hl2 (Hr1.out.ext he) (Hr2.out.ext he); rw [HE.out] at H; exact H); simp only [Act.put, List.setIfInBounds_toArray, List.set_cons_zero, List.set_cons_succ])
          refine LexW.nil (fun w2 he hk => ?_)
          have G := Lib.hid (HExt.out.trans ((ext_drew _).trans he))
          clear he hk
          go_wp2_with (fail)
          go_ret
          exact ⟨ret_bool HB.out.symm, G.out⟩
      · go_wp2_with (fail)
        go_ret
        exact ⟨ret_bool (eqR_all HXN.out HYN.out (fun j hj => HT.out j (by omega))).symm, HExt.out⟩
  · have HF := Lib.hid (eqR_len (xs := xs) (ys := ys) (by rw [hx.1, hy.1]; exact hnm))
    have hcb : ((n : Int) != (m : Int)) = true := by simp; omega
    go_enter Try.func59, Try.ntmps59
    go_wp2_with (fail)
    go_ret
    exact ⟨ret_bool HF.out.symm, Ext.refl _⟩
set_option maxHeartbeats 400000 in
theorem l_mod5 (p n : Int) (w : World) (h1 : 1 ≤ p) (h2 : p ≤ 1000) :
    Calls Try.prog 18 #[.int .i64 p, .int .i64 n] w fun e w' => e = .returned (.int .i64 (n % p)) ∧ Ext w w' := by
  have HE := Lib.hid (num_eq (n := n) h1 h2)
  have hpz : ¬ p = 0 := by omega
  go_enter Try.func18, Try.ntmps18
  go_wp2
  go_ret
  exact ⟨ret_int HE.out, Ext.refl _⟩
set_option maxHeartbeats 400000 in
theorem l_size5 {N : Nat} (p : Int) (a : Option Addr) (d cap : Nat) (w : World) (hd : d ≤ 6) (hN : N = 2 ^ d) :
    Calls Try.prog 17 #[.agg #[.int .i64 p, .slice a d cap]] w fun e w' => e = .returned (.int .i64 N) ∧ Ext w w' := by
  have hp := pow_wrap hd
  rw [← hN] at hp
  go_enter Try.func17, Try.ntmps17
  go_wp2_with (fail)
  go_ret
  exact ⟨ret_int hp, ext_alloc _ _⟩
set_option maxHeartbeats 2000000 in
theorem l_plus5 (p : Int) (ax ay : Option Addr) (n cx cy : Nat) (x y : List Int) (k : Int) (w : World) (hp1 : 3 ≤ p) (hp2 : p ≤ 1000) (hk : -1000 ≤ k ∧ k ≤ 1000) (hn : n ≤ 4194303) (hx : RdC w ax n x) (hy : RdC w ay n y) (hgx : Good p n x) (hgy : Good p n y) :
    Calls Try.prog 15 #[.int .i64 p, .slice ax n cx, .slice ay n cy, .int .i64 k] w fun e w' => ∃ g rc, e = .returned (.slice (some ⟨g, 0, none⟩) n rc) ∧ OwnC w.heap.size w' (some ⟨g, 0, none⟩) n rc (plusL p x y k n) ∧ Ext w w' := by
  have HX := Lib.hid hx
  have HY := Lib.hid hy
  have HGX := Lib.hid hgx
  have HGY := Lib.hid hgy
  have hnn : ((n : Int) != (n : Int)) = false := by simp
  clear hx hy hgx hgy
  go_enter Try.func15, Try.ntmps15
  go_wp2_with (fail)
  go_loopw [9, 10] (fun o i wr => ∃ (j g rc : Nat), j ≤ n ∧ i = .int .i64 j ∧ o = .slice (some ⟨g, 0, none⟩) j rc ∧ OwnC w.heap.size wr (some ⟨g, 0, none⟩) j rc (plusL p x y k j) ∧ Ext w wr) (fun _ i _ => n - (intOf i).toNat)
  case atStart => exact ⟨0, _, 0, Nat.zero_le _, rfl, rfl, own_empty w, ext_alloc _ _⟩
  case round =>
    obtain ⟨j, g, rc, hj, rfl, rfl, hown, hext⟩ := hrel
    have HOwn := Lib.hid hown
    have HExt := Lib.hid hext
    clear hown hext
    by_cases hlt : j < n
    · obtain ⟨bx, ox, rfl, hcx⟩ := HX.out.2 j hlt
      obtain ⟨by', oy, rfl, hcy⟩ := HY.out.2 j hlt
      have Hcx := Lib.hid ((HExt.out.trans (ext_drew _)).cell hcx)
      have Hcy := Lib.hid ((HExt.out.trans (ext_drew _)).cell hcy)
      have hbx := HGX.out.2 j hlt
      have hby := HGY.out.2 j hlt
      have hkb := kmul_bd hk hby.1 (show nth y j ≤ 1000 by omega)
      have hw1 : IntKind.i64.wrap (k * nth y j) = k * nth y j := IntWalk.i64_in _ (by omega)
      have hw2 : IntKind.i64.wrap (nth x j + k * nth y j) = nth x j + k * nth y j := IntWalk.i64_in _ (by omega)
      clear hcx hcy
      go_wp2_with (fail)
      refine wp_region_lex_tail 15 [(13, .val (.int .i64 (plusN p x y k j))), (14, .one (plusN p x y k j))] (by kernel_rfl) (by kernel_rfl) ?_
      simp only [List.take, List.drop]
      repeat' first | (refine LexW.pure (v := ?_) rfl rfl (fun w1 he => ?_) ?_; rotate_left; ( have e3 := he.cell Hcx.out; have e4 := he.cell Hcy.out; go_simp; rfl); simp only [Act.put, List.setIfInBounds_toArray, List.set_cons_zero, List.set_cons_succ]) | (refine LexW.call (f := ?_) (args := ?_) rfl rfl (fun w1 => ?_) (fun w1 he hdep => ?_) ?_; rotate_left 2; (go_simp; refine ⟨?_, ?_⟩ <;> rfl); ( exact l_mod5 _ _ _ (by omega) (by omega)); simp only [Act.put, List.setIfInBounds_toArray, List.set_cons_zero, List.set_cons_succ]) | ((refine LexW.rel rfl rfl (fun w1 he hdep => ?_) (fun v hv => ?_); ( exact ⟨.slice (some ⟨w1.heap.size, 0, none⟩) 1 1, w1.alloc (.cells #[.int .i64 (plusN p x y k j)] 2), (by go_simp), ext_alloc _ _, _, rfl, (by simp)⟩); simp only [Act.put, List.setIfInBounds_toArray, List.set_cons_zero, List.set_cons_succ]); obtain ⟨_, g9, rfl, _⟩ := hv)
      refine LexW.nil (fun w2 he hkn => ?_)
      obtain ⟨_, q9, r9⟩ : (SPred.one (plusN p x y k j)).holds (.slice (some ⟨g9, 0, none⟩) 1 1) w2 := hkn (14, _) (by simp)
      cases q9
      have G2 := Lib.hid ((ext_drew _).trans he)
      have R9 := Lib.hid r9
      clear he hkn r9
      go_wp2_with (at_builtin; refine wpList_push rfl (.tmp 23) (.tmp 37) rfl rfl rfl (v := plusN p x y k j) (HOwn.out.ext G2.out) ?hc ?hn ?hB ?hk)
      case hc => exact R9.out
      case hn => omega
      case hB => exact (HExt.out.trans G2.out).size'
      case hk =>
        intro g' cap' w3 ho3 hg3 he3
        have HO3 := Lib.hid ho3
        have HE3 := Lib.hid (he3 w (Nat.le_refl _) (HExt.out.trans G2.out))
        clear ho3 hg3 he3
        go_wp2_with (fail)
        go_roundw
        case rel => exact ⟨j + 1, g', cap', by omega, by go_num, rfl, by rw [plusL_succ]; exact HO3.out, HE3.out⟩
        case measure => simp [intOf]; omega
    · go_wp2_with (fail)
      go_ret
      obtain rfl : j = n := by omega
      exact ⟨g, rc, rfl, HOwn.out, HExt.out⟩
def zeroZ (xs : List Int) (n : Nat) : Bool := decide (∀ i, i < n → nth xs i = 0)
set_option maxHeartbeats 400000 in
theorem l_zero5 (a : Option Addr) (n cap : Nat) (xs : List Int) (w : World) (hl : n ≤ 4194304) (hx : RdC w a n xs) :
    Calls Try.prog 68 #[.slice a n cap] w fun e w' => e = .returned (.bool (zeroZ xs n)) ∧ Ext w w' := by
  have HX := Lib.hid hx
  clear hx
  go_enter Try.func68, Try.ntmps68
  go_wp2_with (fail)
  go_loopw [3] (fun i wr => ∃ (k : Nat), k ≤ n ∧ i = .int .i64 k ∧ Hid (∀ j, j < k → nth xs j = 0) ∧ Ext w wr) (fun i _ => n - (intOf i).toNat)
  case atStart => exact ⟨0, Nat.zero_le _, rfl, Lib.hid (fun j hj => by omega), Ext.refl _⟩
  case round =>
    obtain ⟨k, hk, rfl, HT, hext⟩ := hrel
    by_cases hlt : k < n
    · obtain ⟨b, off, rfl, hc⟩ := HX.out.2 k hlt
      have hc1 := hext.cell hc
      by_cases hb : nth xs k = 0
      · have hbb : (nth xs k != 0) = false := by simp [hb]
        have HB := Lib.hid hb
        clear hc hb
        go_wp2_with (fail)
        go_roundw
        case rel => exact ⟨k + 1, by omega, by go_num, Lib.hid (fun j hj => by
            by_cases hjk : j = k
            · subst hjk; exact HB.out
            · exact HT.out j (by omega)), hext⟩
        case measure => simp [intOf]; omega
      · have hbb : (nth xs k != 0) = true := by simp [hb]
        have HB := Lib.hid (show zeroZ xs n = false by simp only [zeroZ, decide_eq_false_iff_not]; intro h; exact hb (h k hlt))
        clear hc hb
        go_wp2_with (fail)
        go_ret
        exact ⟨ret_bool HB.out.symm, hext⟩
    · have HB := Lib.hid (show zeroZ xs n = true by simp only [zeroZ, decide_eq_true_eq]; intro i hi; exact HT.out i (by omega))
      go_wp2_with (fail)
      go_ret
      exact ⟨ret_bool HB.out.symm, hext⟩
end Go.Proofs.Ytbgnfjckbjmgbaa
