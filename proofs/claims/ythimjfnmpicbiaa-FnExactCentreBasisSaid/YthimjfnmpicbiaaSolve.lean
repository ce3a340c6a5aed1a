/-
  Contracts: solutions of linear systems, in the program and in the reference.
  No condition.
-/
import Derived.Test.YthimjfnmpicbiaaBasis
import Derived.Test.YthimjfnmpicbiaaBasisS
import Derived.Test.YthimjfnmpicbiaaKill
import Derived.Test.YthimjfnmpicbiaaPlus
import Derived.Test.YthimjfnmpicbiaaFloat
import Derived.Test.YthimjfnmpicbiaaLawR
namespace Go.Proofs.Ythimjfnmpicbiaa
set_option maxRecDepth 100000
open Go.RowKit

theorem OwnR.other {B : Nat} {w : World} {a : Option Addr} {n cap : Nat} {rows : List (List Int)} (h : OwnR B w a n cap rows) {p : Addr} (hp : p.block < B) (v : Value) : OwnR B (w.setCell p v) a n cap rows := by
  obtain ⟨h1, vs, ⟨h2, h3⟩, hap, h4⟩ := h
  refine ⟨h1, vs, ⟨h2, ?_⟩, hap, fun i hi => ?_⟩
  · rcases h3 with h3 | ⟨g, c, cur, hv, hb, hh, h5⟩
    · exact .inl h3
    · exact .inr ⟨g, c, cur, hv, hb, by rw [Below.heap_setCell _ _ _ _ (by omega)]; exact hh, h5⟩
  · obtain ⟨ai, ci, h5, h6⟩ := h4 i hi
    exact ⟨ai, ci, h5, h6.other hp v⟩

/-- The solution and whether there is one. -/
def redL (p : Int) (m : Nat) (rows : List (List Int)) (u : List Int) (n : Nat) : List (List Int) := basisL p (m + 1) (wideL rows u n)
def solR (m : Nat) (red : List (List Int)) : List Int := if okS m red = true then solL m red else []

theorem solL_len' {n : Nat} {red : List (List Int)} : (solL n red).length = n := by simp [solL]

set_option maxHeartbeats 8000000 in
set_option maxRecDepth 100000 in
theorem c_solve (p : Int) (a : Option Addr) (n cap m : Nat) (rows : List (List Int)) (au : Option Addr) (cu : Nat) (u : List Int) (w : World) (hpr : primeB p = true) (hn : 0 < n) (hn2 : n ≤ 4095) (hm : 0 < m) (hm2 : m ≤ 4095) (hx : RdR w a n rows) (hg : RowsG p m rows) (hu : RdC w au n u) (hgu : Good p n u) :
    Calls Try.prog 169 #[.int .i64 p, .slice a n cap, .slice au n cu] w fun e w' => ∃ ra rc, e = .returned (.tuple #[.slice ra (solR m (redL p m rows u n)).length rc, .bool (okS m (redL p m rows u n))]) ∧ OwnC w.heap.size w' ra (solR m (redL p m rows u n)).length rc (solR m (redL p m rows u n)) ∧ Ext w w' := by
  have hpb := prime_bd hpr
  have HX := Lib.hid hx
  have HU := Lib.hid hu
  have HXL := Lib.hid hx.1
  have HLen := Lib.hid (show ∀ i, i < n → (nthR rows i).length = m from fun i hi => (hg i (by rw [hx.1]; exact hi)).1)
  have HWG := Lib.hid (wideL_good hg hgu (by rw [hx.1]; exact Nat.le_refl _))
  obtain ⟨cc, hbas⟩ := basis_red hpr HWG.out
  have HBas := Lib.hid (show Basis p (m + 1) (redL p m rows u n) cc from hbas)
  have HPR := Lib.hid hpr
  obtain ⟨b0, off0, a0, c0, rfl, hc0, _⟩ := hx.2 0 hn
  rw [HLen.out 0 hn, Nat.add_zero] at hc0
  have HC0 := Lib.hid hc0
  clear hx hg hu hgu hbas hpr
  go_enter Try.func169, Try.ntmps169
  go_wp2_with (fail)
  clear hc0
  go_loopw [9, 23] (fun s i wr => ∃ (k g rc : Nat), k ≤ n ∧ i = .int .i64 k ∧ s = .slice (some ⟨g, 0, none⟩) k rc ∧ OwnR w.heap.size wr (some ⟨g, 0, none⟩) k rc (wideL rows u k) ∧ Ext w wr) (fun _ i _ => n - (intOf i).toNat)
  case atStart => exact ⟨0, _, _, Nat.zero_le _, rfl, rfl, ownR_empty w, ext_alloc _ _⟩
  case round =>
    obtain ⟨k, g, rc, hk, rfl, rfl, hown, hext⟩ := hrel
    have HOwn := Lib.hid hown
    have HExt := Lib.hid hext
    clear hown hext
    by_cases hlt : k < n
    · obtain ⟨b, off, ai, ci, hab, hc, hri⟩ := HX.out.2 k hlt
      cases hab
      rw [HLen.out k hlt] at hc hri
      obtain ⟨bi, oi, rfl⟩ := hri.addr hm
      obtain ⟨bu, ou, rfl, hcu⟩ := HU.out.2 k hlt
      have hc' := HExt.out.cell hc
      have HRi := Lib.hid (hri.ext (HExt.out.trans (ext_drew wr)))
      have HCu := Lib.hid ((HExt.out.trans (ext_drew wr)).cell hcu)
      clear hc hri hcu
      go_wp2_with (fail)
      clear hc'
      refine wp_region_lex_tail1 8 [(2, .ownS wr.drew.heap.size m (nthR rows k)), (7, .one (nth u k))] (.slice (some ⟨g, 0, none⟩) k rc) (by kernel_rfl) (by kernel_rfl) rfl rfl (fun w1 => by go_simp) ?_
      simp only [List.take, List.drop]
      simp only [Act.put, List.setIfInBounds_toArray, List.set_cons_zero, List.set_cons_succ]
      (refine LexW.pure (v := ?_) rfl rfl (fun w1 he => ?_) ?_; rotate_left; ( go_simp; rfl); simp only [Act.put, List.setIfInBounds_toArray, List.set_cons_zero, List.set_cons_succ])
      (refine LexW.callR (f := ?_) (args := ?_) rfl rfl (fun w1 => ?_) (fun w1 he hdep => ?_) (fun v hv => ?_); rotate_left 2; (go_simp; refine ⟨?_, ?_⟩ <;> rfl); ( refine (c_clone bi oi m ci (nthR rows k) w1 hm (by omega) (HRi.out.ext he)).mono ?_; rintro e w2 ⟨g2, rc2, rfl, ho, x2⟩; exact ⟨_, rfl, x2, g2, rc2, rfl, ho.mono he.size⟩); simp only [Act.put, List.setIfInBounds_toArray, List.set_cons_zero, List.set_cons_succ])
      obtain ⟨_, g30, c30, rfl, _⟩ := hv
      (refine LexW.pure (v := ?_) rfl rfl (fun w1 he => ?_) ?_; rotate_left; ( go_simp; rfl); simp only [Act.put, List.setIfInBounds_toArray, List.set_cons_zero, List.set_cons_succ])
      (refine LexW.pure (v := ?_) rfl rfl (fun w1 he => ?_) ?_; rotate_left; ( go_simp; rfl); simp only [Act.put, List.setIfInBounds_toArray, List.set_cons_zero, List.set_cons_succ])
      (refine LexW.pure (v := ?_) rfl rfl (fun w1 he => ?_) ?_; rotate_left; ( have e1 := he.cell HCu.out; go_simp; rfl); simp only [Act.put, List.setIfInBounds_toArray, List.set_cons_zero, List.set_cons_succ])
      (refine LexW.pure (v := ?_) rfl rfl (fun w1 he => ?_) ?_; rotate_left; ( have e1 := he.cell HCu.out; go_simp; rfl); simp only [Act.put, List.setIfInBounds_toArray, List.set_cons_zero, List.set_cons_succ])
      (refine LexW.rel rfl rfl (fun w1 he hdep => ?_) (fun v hv => ?_); ( exact ⟨.slice (some ⟨w1.heap.size, 0, none⟩) 1 1, w1.alloc (.cells #[.int .i64 (nth u k)] 2), (by go_simp), ext_alloc _ _, _, rfl, (by simp)⟩); simp only [Act.put, List.setIfInBounds_toArray, List.set_cons_zero, List.set_cons_succ])
      obtain ⟨_, g35, rfl, _⟩ := hv
      refine LexW.nil (fun w3 he hkn => ?_)
      obtain ⟨_, _, q30, r30⟩ : (SPred.ownS wr.drew.heap.size m (nthR rows k)).holds (.slice (some ⟨g30, 0, none⟩) m c30) w3 := hkn (2, _) (by simp)
      cases q30
      obtain ⟨_, q35, r35⟩ : (SPred.one (nth u k)).holds (.slice (some ⟨g35, 0, none⟩) 1 1) w3 := hkn (7, _) (by simp)
      cases q35
      have R30 := Lib.hid r30
      have R35 := Lib.hid r35
      have X3 := Lib.hid he
      clear he hkn r30 r35
      go_wp2_with (at_builtin; refine wpList_push rfl (.tmp 30) (.tmp 35) rfl rfl rfl (v := nth u k) R30.out R35.out (by omega) X3.out.size ?hk1)
      case hk1 =>
        intro g4 c4 w4 ho4 hg4 he4
        have HO4 := Lib.hid ho4
        have X4 := Lib.hid ((ext_drew wr).trans (he4 wr.drew (Nat.le_refl _) X3.out))
        clear ho4 hg4 he4
        go_wp2_with (at_builtin; refine wpList_pushR (w0 := wr) rfl (.tmp 28) (.tmp 37) rfl rfl rfl HOwn.out (X4.out.trans (ext_alloc _ _)) ((HO4.out.mono (ext_drew wr).size).ext (ext_alloc _ _)) ?hc (by omega) HExt.out.size ?hk2)
        case hc => exact cell_new _ _ rfl _ _
        case hk2 =>
          intro g5 c5 w5 ho5 hg5 he5
          have HO5 := Lib.hid ho5
          have HE5 := Lib.hid (he5 w (Nat.le_refl _) ((HExt.out.trans X4.out).alloc _))
          clear ho5 hg5 he5
          go_wp2_with (fail)
          refine strictQ_normal ?_
          go_wp2_with (fail)
          go_roundw
          case rel => exact ⟨k + 1, g5, c5, by omega, by go_num, rfl, by rw [wideL_succ]; exact HO5.out, HE5.out⟩
          case measure => simp [intOf]; omega
    · obtain rfl : k = n := by omega
      obtain ⟨w0, hmk, hown0, hext0⟩ := make_ints wr m (by omega)
      obtain ⟨gm, hgm⟩ : ∃ g, g = wr.heap.size := ⟨_, rfl⟩
      rw [← hgm] at hmk hown0
      have hgw : w.heap.size ≤ gm := by have := HExt.out.size'; omega
      have HM0 := Lib.hid (hown0.mono hgw)
      have hgm0 : gm < w0.heap.size := (hown0.base_of gm rfl).2
      have HE0 := Lib.hid (HExt.out.trans hext0)
      have HOw0 := Lib.hid (HOwn.out.ext hext0)
      clear hown0 hext0 hgm
      go_wp2_with (fail)
      refine (c_basis p (some ⟨g, 0, none⟩) k rc (m + 1) (wideL rows u k) w0 HPR.out (by omega) (by omega) (by omega) HOw0.out.rd HWG.out).mono ?_
      rintro e w6 ⟨gb, cb, r, rfl, hob, hxb⟩
      obtain rfl := hob.len
      have HOb := Lib.hid (show OwnR w0.heap.size w6 (some ⟨gb, 0, none⟩) (redL p m rows u k).length cb (redL p m rows u k) from hob)
      have HE6 := Lib.hid (HE0.out.trans hxb)
      have HM6 := Lib.hid (HM0.out.ext hxb)
      clear hob hxb hmk
      obtain ⟨red, hred⟩ : ∃ red, red = redL p m rows u k := ⟨_, rfl⟩
      have HRed := Lib.hid hred
      have hredb : basisL p (m + 1) (wideL rows u k) = red := hred.symm
      rw [hredb]
      rw [← hred] at HOb HBas
      clear hred hredb
      have hrl : red.length ≤ 4096 := by have := HBas.out.len; omega
      go_wp2_with (fail)
      go_loopw [46] (fun i wr => ∃ (j : Nat), j ≤ red.length ∧ i = .int .i64 j ∧ Hid (∀ t, t < j → cc t ≠ m) ∧ OwnC w.heap.size wr (some ⟨gm, 0, none⟩) m m (solS m red j) ∧ OwnR w0.heap.size wr (some ⟨gb, 0, none⟩) red.length cb red ∧ Ext w wr) (fun i _ => red.length - (intOf i).toNat)
      case atStart => exact ⟨0, Nat.zero_le _, rfl, Lib.hid (fun t ht => by omega), HM6.out, HOb.out, HE6.out⟩
      case round =>
        obtain ⟨j, hj, rfl, HT, hown, hownr, hext⟩ := hrel
        have HOu := Lib.hid hown
        have HOr := Lib.hid hownr
        have HEx := Lib.hid hext
        clear hown hownr hext
        by_cases hlt2 : j < red.length
        · obtain ⟨aj, cj, hcj, hoj⟩ := HOr.out.at hlt2
          have hjl := (HBas.out.good j hlt2).1
          have hlead := HBas.out.leadN hlt2
          have hcl := HBas.out.clt j hlt2
          rw [hjl] at hcj hoj
          have HOj := Lib.hid hoj
          obtain ⟨bj, oj, rfl, hcm⟩ := hoj.rd.2 m (by omega)
          have HLd := Lib.hid hlead
          have HCm := Lib.hid hcm
          clear hoj hjl hlead hcm
          go_wp2_with (fail)
          refine (c_lead (some ⟨bj, oj, none⟩) (m + 1) cj (nthR red j) wr (by omega) HOj.out.rd).mono ?_
          rintro e w7 ⟨rfl, h7⟩
          rw [HLd.out]
          have H7 := Lib.hid h7
          clear h7 hcj
          by_cases hcm : cc j = m
          · have hcb : ((cc j : Int) == (m : Int)) = true := by simp [hcm]
            have HF : Hid (okS m red = false) := Lib.hid (by
              cases h : okS m red
              · rfl
              · exact absurd hcm ((okS_iff HBas.out).1 h j hlt2))
            clear hcm
            go_wp2_with (fail)
            go_ret2
            have hr := HRed.out
            subst hr
            exact ⟨none, 0, by rw [solR, HF.out]; rfl, by rw [solR, HF.out]; exact own_nil _ _, HEx.out.trans H7.out⟩
          · have hcb : ((cc j : Int) == (m : Int)) = false := by simp; omega
            have hcm2 : cc j < m := by omega
            have hcr := H7.out.cell HCm.out
            have ho7 := HOu.out.ext H7.out
            have hcg := ho7.cell hcm2
            have hfz := ho7.frozen (cc j)
            have HO7 := Lib.hid ho7
            have HNe := Lib.hid hcm
            clear ho7 hcm
            go_wp2_with (fail)
            go_roundw
            case rel => exact ⟨j + 1, by omega, by go_num, Lib.hid (fun t ht => by
              by_cases htj : t = j
              · subst htj; exact HNe.out
              · exact HT.out t (by omega)), by (show OwnC _ _ _ _ _ ((solS m red j).set (leadN (nthR red j)) (nth (nthR red j) m))); rw [HLd.out]; exact HO7.out.store hcm2 _, (HOr.out.ext H7.out).other hgm0 _, (HEx.out.trans H7.out).setCell hgw _⟩
            case measure => simp [intOf]; omega
        · obtain rfl : j = red.length := by omega
          have HF : Hid (okS m red = true) := Lib.hid ((okS_iff HBas.out).2 fun i hi => HT.out i hi)
          have HSA := Lib.hid (solS_all (n := m) HBas.out)
          go_wp2_with (fail)
          go_ret2
          have hr := HRed.out
          subst hr
          exact ⟨_, _, by rw [solR, HF.out, if_pos rfl, solL_len']; rfl, by rw [solR, HF.out, if_pos rfl, solL_len', ← HSA.out]; exact HOu.out, HEx.out⟩

/-- The place of the first number other than 0, or -1. -/
def firstL (xs : List Int) : Int := if leadN xs = xs.length then -1 else (leadN xs : Int)
set_option maxHeartbeats 400000 in
theorem s_first (a : Option Addr) (n cap : Nat) (xs : List Int) (w : World) (hl : n ≤ 4194303) (hx : RdC w a n xs) :
    Calls Try.prog 172 #[.slice a n cap] w fun e w' => e = .returned (.int .i64 (firstL xs)) ∧ Ext w w' := by
  have HX := Lib.hid hx
  clear hx
  go_enter Try.func172, Try.ntmps172
  go_wp2_with (fail)
  go_loopw [3] (fun i wr => ∃ k : Nat, k ≤ n ∧ i = .int .i64 k ∧ Hid (∀ j, j < k → nth xs j = 0) ∧ Ext w wr) (fun i _ => n - (intOf i).toNat)
  case atStart => exact ⟨0, Nat.zero_le _, rfl, Lib.hid (fun j hj => by omega), Ext.refl _⟩
  case round =>
    obtain ⟨k, hk, rfl, HT, hext⟩ := hrel
    by_cases hlt : k < n
    · obtain ⟨b, off, rfl, hc⟩ := HX.out.2 k hlt
      have hc' := hext.cell hc
      clear hc
      by_cases hz : nth xs k = 0
      · have HZ := Lib.hid hz
        have hzb : (nth xs k != 0) = false := by simp [hz]
        clear hz
        go_wp2_with (fail)
        go_roundw
        case rel => exact ⟨k + 1, by omega, by go_num, Lib.hid (fun j hj => by
          by_cases hjk : j = k
          · subst hjk; exact HZ.out
          · exact HT.out j (by omega)), hext⟩
        case measure => simp [intOf]; omega
      · have HZ := Lib.hid hz
        have hzb : (nth xs k != 0) = true := by simp [hz]
        clear hz
        go_wp2_with (fail)
        go_ret
        exact ⟨ret_int (by unfold firstL; rw [leadN_eq (k := k) (by rw [HX.out.1]; omega) HT.out (.inr HZ.out), if_neg (by rw [HX.out.1]; omega)]), hext⟩
    · go_wp2_with (fail)
      go_ret
      exact ⟨ret_int (by unfold firstL; rw [leadN_eq (k := k) (by rw [HX.out.1]; omega) HT.out (.inl (by rw [HX.out.1]; omega)), if_pos (by rw [HX.out.1]; omega)]), hext⟩
theorem OwnRH.otherH {lo hi : Nat} {w : World} {a : Option Addr} {n cap : Nat} {rows : List (List Int)} (h : OwnRH lo hi w a n cap rows) {p : Addr} (hp : p.block < lo ∨ hi ≤ p.block) (v : Value) : OwnRH lo hi (w.setCell p v) a n cap rows := by
  have hb := h.low.base_of
  obtain ⟨h1, h0, vs, ⟨h2, h3⟩, hap, h4⟩ := h
  refine ⟨h1, h0, vs, ⟨h2, ?_⟩, hap, fun i hi => ?_⟩
  · rcases h3 with h3 | ⟨g, c, cur, hv, hb', hh, h5⟩
    · exact .inl h3
    · refine .inr ⟨g, c, cur, hv, hb', ?_, h5⟩
      simp only [Value.slice.injEq] at hv
      have := h0 g hv.1
      rw [Below.heap_setCell _ _ _ _ (by omega)]; exact hh
  · obtain ⟨ai, ci, h5, h6, h7⟩ := h4 i hi
    refine ⟨ai, ci, h5, h6.keep fun g hg => ?_, h7⟩
    have := h7 g hg
    have := (h6.base_of g hg).1
    exact Below.heap_setCell _ _ _ _ (by omega)
set_option maxHeartbeats 8000000 in
set_option maxRecDepth 100000 in
theorem s_solve (p : Int) (a : Option Addr) (n cap m : Nat) (rows : List (List Int)) (au : Option Addr) (cu : Nat) (u : List Int) (w : World) (hpr : primeB p = true) (hn : 0 < n) (hn2 : n ≤ 4095) (hm : 0 < m) (hm2 : m ≤ 4095) (hx : RdR w a n rows) (hg : RowsG p m rows) (hu : RdC w au n u) (hgu : Good p n u) :
    Calls Try.prog 164 #[.int .i64 p, .slice a n cap, .slice au n cu] w fun e w' => ∃ ra rc, e = .returned (.tuple #[.slice ra (solR m (redL p m rows u n)).length rc, .bool (okS m (redL p m rows u n))]) ∧ OwnC w.heap.size w' ra (solR m (redL p m rows u n)).length rc (solR m (redL p m rows u n)) ∧ Ext w w' := by
  have hpb := prime_bd hpr
  have HX := Lib.hid hx
  have HU := Lib.hid hu
  have HXL := Lib.hid hx.1
  have HLen := Lib.hid (show ∀ i, i < n → (nthR rows i).length = m from fun i hi => (hg i (by rw [hx.1]; exact hi)).1)
  have HWG := Lib.hid (wideL_good hg hgu (by rw [hx.1]; exact Nat.le_refl _))
  obtain ⟨cc, hbas⟩ := basis_red hpr HWG.out
  have HBas := Lib.hid (show Basis p (m + 1) (redL p m rows u n) cc from hbas)
  have HPR := Lib.hid hpr
  obtain ⟨b0, off0, a0, c0, rfl, hc0, _⟩ := hx.2 0 hn
  rw [HLen.out 0 hn, Nat.add_zero] at hc0
  have HC0 := Lib.hid hc0
  clear hx hg hu hgu hbas hpr
  go_enter Try.func164, Try.ntmps164
  go_wp2_with (fail)
  clear hc0
  go_loopw [8, 9] (fun s i wr => ∃ (k g rc : Nat), k ≤ n ∧ i = .int .i64 k ∧ s = .slice (some ⟨g, 0, none⟩) k rc ∧ OwnR w.heap.size wr (some ⟨g, 0, none⟩) k rc (wideL rows u k) ∧ Ext w wr) (fun _ i _ => n - (intOf i).toNat)
  case atStart => exact ⟨0, _, _, Nat.zero_le _, rfl, rfl, ownR_empty w, ext_alloc _ _⟩
  case round =>
    obtain ⟨k, g, rc, hk, rfl, rfl, hown, hext⟩ := hrel
    have HOwn := Lib.hid hown
    have HExt := Lib.hid hext
    clear hown hext
    by_cases hlt : k < n
    · obtain ⟨b, off, ai, ci, hab, hc, hri⟩ := HX.out.2 k hlt
      cases hab
      rw [HLen.out k hlt] at hc hri
      obtain ⟨bi, oi, rfl⟩ := hri.addr hm
      obtain ⟨bu, ou, rfl, hcu⟩ := HU.out.2 k hlt
      have HCc := Lib.hid ((HExt.out.trans (ext_drew wr)).cell hc)
      have HRi := Lib.hid (hri.ext (HExt.out.trans (ext_drew wr)))
      have HCu := Lib.hid ((HExt.out.trans (ext_drew wr)).cell hcu)
      clear hc hri hcu
      go_wp2_with (fail)
      refine wp_region_lex_tail1 11 [(5, .ownS wr.drew.heap.size m (nthR rows k)), (10, .one (nth u k))] (.slice (some ⟨g, 0, none⟩) k rc) (by kernel_rfl) (by kernel_rfl) rfl rfl (fun w1 => by go_simp) ?_
      simp only [List.take, List.drop]
      simp only [Act.put, List.setIfInBounds_toArray, List.set_cons_zero, List.set_cons_succ]
      (refine LexW.pure (v := ?_) rfl rfl (fun w1 he => ?_) ?_; rotate_left; ( go_simp; rfl); simp only [Act.put, List.setIfInBounds_toArray, List.set_cons_zero, List.set_cons_succ])
      (refine LexW.pure (v := ?_) rfl rfl (fun w1 he => ?_) ?_; rotate_left; ( go_simp; rfl); simp only [Act.put, List.setIfInBounds_toArray, List.set_cons_zero, List.set_cons_succ])
      (refine LexW.pure (v := ?_) rfl rfl (fun w1 he => ?_) ?_; rotate_left; ( have e1 := he.cell HCc.out; go_simp; rfl); simp only [Act.put, List.setIfInBounds_toArray, List.set_cons_zero, List.set_cons_succ])
      (refine LexW.pure (v := ?_) rfl rfl (fun w1 he => ?_) ?_; rotate_left; ( have e1 := he.cell HCc.out; go_simp; rfl); simp only [Act.put, List.setIfInBounds_toArray, List.set_cons_zero, List.set_cons_succ])
      (refine LexW.callR (f := ?_) (args := ?_) rfl rfl (fun w1 => ?_) (fun w1 he hdep => ?_) (fun v hv => ?_); rotate_left 2; (go_simp; refine ⟨?_, ?_⟩ <;> rfl); ( refine (s_own bi oi m ci (nthR rows k) w1 hm (by omega) (HRi.out.ext he)).mono ?_; rintro e w2 ⟨g2, rc2, rfl, ho, x2⟩; exact ⟨_, rfl, x2, g2, rc2, rfl, ho.mono he.size⟩); simp only [Act.put, List.setIfInBounds_toArray, List.set_cons_zero, List.set_cons_succ])
      obtain ⟨_, g26, c26, rfl, _⟩ := hv
      (refine LexW.pure (v := ?_) rfl rfl (fun w1 he => ?_) ?_; rotate_left; ( go_simp; rfl); simp only [Act.put, List.setIfInBounds_toArray, List.set_cons_zero, List.set_cons_succ])
      (refine LexW.pure (v := ?_) rfl rfl (fun w1 he => ?_) ?_; rotate_left; ( go_simp; rfl); simp only [Act.put, List.setIfInBounds_toArray, List.set_cons_zero, List.set_cons_succ])
      (refine LexW.pure (v := ?_) rfl rfl (fun w1 he => ?_) ?_; rotate_left; ( have e1 := he.cell HCu.out; go_simp; rfl); simp only [Act.put, List.setIfInBounds_toArray, List.set_cons_zero, List.set_cons_succ])
      (refine LexW.pure (v := ?_) rfl rfl (fun w1 he => ?_) ?_; rotate_left; ( have e1 := he.cell HCu.out; go_simp; rfl); simp only [Act.put, List.setIfInBounds_toArray, List.set_cons_zero, List.set_cons_succ])
      (refine LexW.rel rfl rfl (fun w1 he hdep => ?_) (fun v hv => ?_); ( exact ⟨.slice (some ⟨w1.heap.size, 0, none⟩) 1 1, w1.alloc (.cells #[.int .i64 (nth u k)] 2), (by go_simp), ext_alloc _ _, _, rfl, (by simp)⟩); simp only [Act.put, List.setIfInBounds_toArray, List.set_cons_zero, List.set_cons_succ])
      obtain ⟨_, g31, rfl, _⟩ := hv
      refine LexW.nil (fun w3 he hkn => ?_)
      obtain ⟨_, _, q26, r26⟩ : (SPred.ownS wr.drew.heap.size m (nthR rows k)).holds (.slice (some ⟨g26, 0, none⟩) m c26) w3 := hkn (5, _) (by simp)
      cases q26
      obtain ⟨_, q31, r31⟩ : (SPred.one (nth u k)).holds (.slice (some ⟨g31, 0, none⟩) 1 1) w3 := hkn (10, _) (by simp)
      cases q31
      have R26 := Lib.hid r26
      have R31 := Lib.hid r31
      have X3 := Lib.hid he
      clear he hkn r26 r31
      go_wp2_with (at_builtin; refine wpList_push rfl (.tmp 26) (.tmp 31) rfl rfl rfl (v := nth u k) R26.out R31.out (by omega) X3.out.size ?hk1)
      case hk1 =>
        intro g4 c4 w4 ho4 hg4 he4
        have HO4 := Lib.hid ho4
        have X4 := Lib.hid ((ext_drew wr).trans (he4 wr.drew (Nat.le_refl _) X3.out))
        clear ho4 hg4 he4
        go_wp2_with (at_builtin; refine wpList_pushR (w0 := wr) rfl (.tmp 21) (.tmp 33) rfl rfl rfl HOwn.out (X4.out.trans (ext_alloc _ _)) ((HO4.out.mono (ext_drew wr).size).ext (ext_alloc _ _)) ?hc (by omega) HExt.out.size ?hk2)
        case hc => exact cell_new _ _ rfl _ _
        case hk2 =>
          intro g5 c5 w5 ho5 hg5 he5
          have HO5 := Lib.hid ho5
          have HE5 := Lib.hid (he5 w (Nat.le_refl _) ((HExt.out.trans X4.out).alloc _))
          clear ho5 hg5 he5
          go_wp2_with (fail)
          refine strictQ_normal ?_
          go_wp2_with (fail)
          go_roundw
          case rel => exact ⟨k + 1, g5, c5, by omega, by go_num, rfl, by rw [wideL_succ]; exact HO5.out, HE5.out⟩
          case measure => simp [intOf]; omega
    · obtain rfl : k = n := by omega
      go_wp2_with (fail)
      refine (s_basis p (some ⟨g, 0, none⟩) k rc (m + 1) (wideL rows u k) wr HPR.out (by omega) (by omega) (by omega) HOwn.out.rd HWG.out).mono ?_
      rintro e w5 ⟨gb, cb, r, rfl, hob, hxb⟩
      obtain rfl := hob.len
      obtain ⟨w6, hmk, hown0, hext0⟩ := make_ints w5 m (by omega)
      obtain ⟨gm, hgm⟩ : ∃ g, g = w5.heap.size := ⟨_, rfl⟩
      rw [← hgm] at hmk hown0
      have hgw : w.heap.size ≤ gm := by have := (HExt.out.trans hxb).size'; omega
      have HM6 := Lib.hid (hown0.mono hgw)
      have HHi := Lib.hid (show OwnRH wr.heap.size w5.heap.size w5 (some ⟨gb, 0, none⟩) (redL p m rows u k).length cb (redL p m rows u k) from hob.high)
      have hgm0 : w5.heap.size ≤ gm := by omega
      have HOb := Lib.hid (HHi.out.ext hext0)
      have HE6 := Lib.hid ((HExt.out.trans hxb).trans hext0)
      have hc0 := (HExt.out.trans hxb).cell HC0.out
      clear hown0 hext0 hgm hob hxb
      obtain ⟨red, hred⟩ : ∃ red, red = redL p m rows u k := ⟨_, rfl⟩
      have HRed := Lib.hid hred
      have hredb : basisL p (m + 1) (wideL rows u k) = red := hred.symm
      rw [hredb]
      rw [← hred] at HOb HBas
      clear hred hredb
      have hrl : red.length ≤ 4096 := by have := HBas.out.len; omega
      go_wp2_with (fail)
      clear hc0 hmk
      obtain ⟨wo, rfl⟩ : ∃ wo : World, wo = wr := ⟨_, rfl⟩
      go_loopw [12] (fun i ws => ∃ (j : Nat), j ≤ red.length ∧ i = .int .i64 j ∧ Hid (∀ t, t < j → cc t ≠ m) ∧ OwnC w.heap.size ws (some ⟨gm, 0, none⟩) m m (solS m red j) ∧ OwnRH wo.heap.size w5.heap.size ws (some ⟨gb, 0, none⟩) red.length cb red ∧ Ext w ws) (fun i _ => red.length - (intOf i).toNat)
      case atStart => exact ⟨0, Nat.zero_le _, rfl, Lib.hid (fun t ht => by omega), HM6.out, HOb.out, HE6.out⟩
      case round =>
        obtain ⟨j, hj, rfl, HT, hown, hownr, hext⟩ := hrel
        have HOu := Lib.hid hown
        have HOr := Lib.hid hownr
        have HEx := Lib.hid hext
        clear hown hownr hext
        by_cases hlt2 : j < red.length
        · obtain ⟨aj, cj, hcj, hoj⟩ := HOr.out.low.at hlt2
          have hjl := (HBas.out.good j hlt2).1
          have hlead := HBas.out.leadN hlt2
          have hcl := HBas.out.clt j hlt2
          rw [hjl] at hcj hoj
          have HOj := Lib.hid hoj
          obtain ⟨bj, oj, rfl, hcm⟩ := hoj.rd.2 m (by omega)
          have HLd := Lib.hid hlead
          have HCm := Lib.hid hcm
          clear hoj hjl hlead hcm
          go_wp2_with (fail)
          refine (s_first (some ⟨bj, oj, none⟩) (m + 1) cj (nthR red j) wr (by omega) HOj.out.rd).mono ?_
          rintro e w7 ⟨rfl, h7⟩
          rw [show firstL (nthR red j) = (cc j : Int) by unfold firstL; rw [HLd.out, (HBas.out.good j hlt2).1, if_neg (by omega)]]
          have H7 := Lib.hid h7
          have hcj7 := h7.cell hcj
          clear h7 hcj
          by_cases hcm : cc j = m
          · have hcb : ((cc j : Int) == (m : Int)) = true := by simp [hcm]
            have HF : Hid (okS m red = false) := Lib.hid (by
              cases h : okS m red
              · rfl
              · exact absurd hcm ((okS_iff HBas.out).1 h j hlt2))
            clear hcm
            go_wp2_with (fail)
            go_ret2
            have hr := HRed.out
            subst hr
            exact ⟨none, 0, by rw [solR, HF.out]; rfl, by rw [solR, HF.out]; exact own_nil _ _, HEx.out.trans H7.out⟩
          · have hcb : ((cc j : Int) == (m : Int)) = false := by simp; omega
            have hcm2 : cc j < m := by omega
            have hcr := H7.out.cell HCm.out
            have ho7 := HOu.out.ext H7.out
            have hcg := ho7.cell hcm2
            have hfz := ho7.frozen (cc j)
            have HO7 := Lib.hid ho7
            have HNe := Lib.hid hcm
            clear ho7 hcm
            go_wp2_with (fail)
            go_roundw
            case rel => exact ⟨j + 1, by omega, by go_num, Lib.hid (fun t ht => by
              by_cases htj : t = j
              · subst htj; exact HNe.out
              · exact HT.out t (by omega)), by (show OwnC _ _ _ _ _ ((solS m red j).set (leadN (nthR red j)) (nth (nthR red j) m))); rw [HLd.out]; exact HO7.out.store hcm2 _, ((HOr.out.ext H7.out).otherH (Or.inr hgm0) _), (HEx.out.trans H7.out).setCell hgw _⟩
            case measure => simp [intOf]; omega
        · obtain rfl : j = red.length := by omega
          have HF : Hid (okS m red = true) := Lib.hid ((okS_iff HBas.out).2 fun i hi => HT.out i hi)
          have HSA := Lib.hid (solS_all (n := m) HBas.out)
          go_wp2_with (fail)
          go_ret2
          have hr := HRed.out
          subst hr
          exact ⟨_, _, by rw [solR, HF.out, if_pos rfl, solL_len']; rfl, by rw [solR, HF.out, if_pos rfl, solL_len', ← HSA.out]; exact HOu.out, HEx.out⟩

end Go.Proofs.Ythimjfnmpicbiaa
