/-
  The codes of spaces and lists of vectors; the listed function WedgeOfVectors.
  No condition.
-/
import Derived.Test.YtbgnfjckbjmgbaaVecs
namespace Go.Proofs.Ytbgnfjckbjmgbaa
set_option maxRecDepth 100000
open Go.RowKit

theorem codeVR_space {p : Int} {qs : List Int} {rows : List (List Int)} (h : spaceB p qs = false) : codeVR p qs rows = 1 := by simp [codeVR, codeV, h]
theorem codeVR_of {p : Int} {qs : List Int} {rows : List (List Int)} (h : spaceB p qs = true) : codeVR p qs rows = if (rows.all (vecB p qs.length) && decide (rows.length ≤ 16)) = true then 0 else 2 := by
  unfold codeVR codeV
  cases ha : rows.all (vecB p qs.length)
  · simp [h]
  · by_cases hl : rows.length ≤ 16 <;> simp [h, hl]

set_option maxHeartbeats 400000 in
theorem c_checkList (p : Int) (a : Option Addr) (d cap : Nat) (qs : List Int) (al : Option Addr) (n cl : Nat) (rows : List (List Int)) (w : World) (hd : d ≤ 4194304) (hl : n ≤ 4194304) (hr : ∀ i, i < n → (nthR rows i).length ≤ 4194304)
    (hq : RdC w a d qs) (hx : RdR w al n rows) :
    Calls Try.prog 132 #[.agg #[.int .i64 p, .slice a d cap], .slice al n cl] w fun e w' => e = .returned (.int .i64 (codeVR p qs rows)) ∧ Ext w w' := by
  have Hr := Lib.hid hr
  clear hr
  by_cases hc : codeV p qs rows = 0
  · have HC := Lib.hid hc
    have hcb : ((0 : Int) != 0) = false := by simp
    by_cases h16 : n ≤ 16
    · have HF := Lib.hid (show codeVR p qs rows = 0 by simp [codeVR, hc, hx.1, h16])
      clear hc
      go_enter Try.func132, Try.ntmps132
      go_wp2_with (go_at_call 76; refine (c_checkVectors p a d cap qs al n cl rows _ hd hl Hr.out (hq.ext (ext_alloc _ _)) (hx.ext (ext_alloc _ _))).mono ?_; rintro e w1 ⟨rfl, g1⟩; rw [HC.out])
      go_ret
      exact ⟨ret_int HF.out.symm, (ext_alloc _ _).trans g1⟩
    · have HF := Lib.hid (show codeVR p qs rows = 2 by simp [codeVR, hc, hx.1, h16])
      clear hc
      go_enter Try.func132, Try.ntmps132
      go_wp2_with (go_at_call 76; refine (c_checkVectors p a d cap qs al n cl rows _ hd hl Hr.out (hq.ext (ext_alloc _ _)) (hx.ext (ext_alloc _ _))).mono ?_; rintro e w1 ⟨rfl, g1⟩; rw [HC.out])
      go_ret
      exact ⟨ret_int HF.out.symm, (ext_alloc _ _).trans g1⟩
  · have HF := Lib.hid (show codeVR p qs rows = codeV p qs rows by simp [codeVR, hc])
    have hcb : (codeV p qs rows != 0) = true := by simp [hc]
    clear hc
    go_enter Try.func132, Try.ntmps132
    go_wp2_with (go_at_call 76; refine (c_checkVectors p a d cap qs al n cl rows _ hd hl Hr.out (hq.ext (ext_alloc _ _)) (hx.ext (ext_alloc _ _))).mono ?_; rintro e w1 ⟨rfl, g1⟩)
    go_ret
    exact ⟨ret_int HF.out.symm, (ext_alloc _ _).trans g1⟩

set_option maxHeartbeats 400000 in
theorem s_isVector (p : Int) (a : Option Addr) (d cap : Nat) (ax : Option Addr) (n cx : Nat) (xs : List Int) (w : World) (hp1 : 1 ≤ p) (hp2 : p ≤ 1000) (hl : n ≤ 4194304) (hx : RdC w ax n xs) :
    Calls Try.prog 74 #[.agg #[.int .i64 p, .slice a d cap], .slice ax n cx] w fun e w' => e = .returned (.bool (vecB p d xs)) ∧ Ext w w' := by
  by_cases hc : n = d
  · have HF := Lib.hid (show vecB p d xs = isB p xs by simp [vecB, hx.1, hc])
    have hcb : ((n : Int) == (d : Int)) = true := by simp [hc]
    clear hc
    go_enter Try.func74, Try.ntmps74
    go_wp2_with (go_at_call 141; refine (s_numbers _ _ _ _ _ _ hp1 hp2 hl (hx.ext (ext_alloc _ _))).mono ?_; rintro e w3 ⟨rfl, h3⟩)
    go_ret
    exact ⟨ret_bool HF.out.symm, (ext_alloc _ _).trans h3⟩
  · have HF := Lib.hid (show vecB p d xs = false by simp [vecB, hx.1, hc])
    have hcb : ((n : Int) == (d : Int)) = false := by simp; omega
    go_enter Try.func74, Try.ntmps74
    go_wp2_with (fail)
    go_ret
    exact ⟨ret_bool HF.out.symm, ext_alloc _ _⟩

theorem allV_false {p : Int} {d n k : Nat} {rows : List (List Int)} (hn : rows.length = n) (hk : k < n) (h : vecB p d (nthR rows k) = false) : rows.all (vecB p d) = false := by
  rw [List.all_eq_false]
  subst hn
  exact ⟨rows[k], List.getElem_mem hk, by rw [nthR_eq hk] at h; simp [h]⟩
theorem allV_true {p : Int} {d n : Nat} {rows : List (List Int)} (hn : rows.length = n) (h : ∀ j, j < n → vecB p d (nthR rows j) = true) : rows.all (vecB p d) = true := by
  rw [List.all_eq_true]
  intro x hx
  obtain ⟨i, hi, rfl⟩ := List.getElem_of_mem hx
  have := h i (by omega)
  rwa [nthR_eq hi] at this

set_option maxHeartbeats 1000000 in
theorem s_isList (p : Int) (a : Option Addr) (d cap : Nat) (al : Option Addr) (n cl : Nat) (rows : List (List Int)) (w : World) (hp1 : 1 ≤ p) (hp2 : p ≤ 1000) (hl : n ≤ 4194304) (hr : ∀ i, i < n → (nthR rows i).length ≤ 4194304) (hx : RdR w al n rows) :
    Calls Try.prog 187 #[.agg #[.int .i64 p, .slice a d cap], .slice al n cl] w fun e w' => e = .returned (.bool (rows.all (vecB p d) && decide (rows.length ≤ 16))) ∧ Ext w w' := by
  have HL := Lib.hid hx.1
  have HR := Lib.hid hx.2
  have Hr := Lib.hid hr
  clear hx hr
  obtain ⟨W, hW⟩ : ∃ W, W = w.alloc (.cells #[.int .i64 p, .slice a d cap] 26) := ⟨_, rfl⟩
  have gW : Ext w W := by rw [hW]; exact ext_alloc _ _
  have hs0 : W.cell? ⟨w.heap.size, 0, none⟩ = some (.int .i64 p) := by rw [hW]; simp
  have hs1 : W.cell? ⟨w.heap.size, 1, none⟩ = some (.slice a d cap) := by rw [hW]; simp
  have HS0 := Lib.hid (hs0)
  have HS1 := Lib.hid (hs1)
  have GW := Lib.hid (gW)
  have HW := Lib.hid hW
  clear hs0 hs1 gW hW
  go_enter Try.func187, Try.ntmps187
  go_wp2_with (fail)
  rw [← HW.out]
  go_loopw [5] (fun i wr => ∃ k : Nat, k ≤ n ∧ i = .int .i64 k ∧ Hid (∀ j, j < k → vecB p d (nthR rows j) = true) ∧ Ext W wr) (fun i _ => n - (intOf i).toNat)
  case atStart => exact ⟨0, Nat.zero_le _, rfl, Lib.hid (fun j hj => by omega), Ext.refl _⟩
  case round =>
    obtain ⟨k, hk, rfl, HT, hext⟩ := hrel
    have HExt := Lib.hid hext
    clear hext
    by_cases hlt : k < n
    · obtain ⟨b, off, ai, ci, rfl, hc, hrow⟩ := HR.out k hlt
      have g2 := GW.out.trans HExt.out
      have HRow := Lib.hid (hrow.ext g2)
      have Hc0 := Lib.hid ((g2.trans (ext_drew _)).cell hc)
      have Hq0 := Lib.hid ((HExt.out.trans (ext_drew _)).cell HS0.out)
      have Hq1 := Lib.hid ((HExt.out.trans (ext_drew _)).cell HS1.out)
      have G2 := Lib.hid g2
      clear hc hrow g2
      have hl0 := Hr.out k hlt
      cases hb : vecB p d (nthR rows k)
      all_goals
        have HB := Lib.hid hb
        clear hb
        go_wp2_with (fail)
        refine wp_region_lex [(5, .val (.bool (vecB p d (nthR rows k))))] (by kernel_rfl) (by kernel_rfl) ?_
        repeat' first | (refine LexW.pure (v := ?_) rfl rfl (fun w1 he => ?_) ?_; rotate_left; ( have hc0 := he.cell Hc0.out; have hq0 := he.cell Hq0.out; have hq1 := he.cell Hq1.out; go_simp; rfl); simp only [Act.put, List.setIfInBounds_toArray, List.set_cons_zero, List.set_cons_succ]) | (refine LexW.call (f := ?_) (args := ?_) rfl rfl (fun w1 => ?_) (fun w1 he hdep => ?_) ?_; rotate_left 2; (go_simp; refine ⟨?_, ?_⟩ <;> rfl); ( have H := s_isVector p a d cap ai _ ci (nthR rows k) w1 hp1 hp2 hl0 (HRow.out.ext ((ext_drew _).trans he)); exact H); simp only [Act.put, List.setIfInBounds_toArray, List.set_cons_zero, List.set_cons_succ])
        refine LexW.nil (fun w2 he hk => ?_)
        have X2 := Lib.hid (HExt.out.trans ((ext_drew _).trans he))
        clear he hk
        rw [HB.out]
        go_wp2_with (fail)
      · go_ret
        refine ⟨ret_bool ?_, GW.out.trans X2.out⟩
        rw [allV_false HL.out hlt HB.out]; rfl
      · go_roundw
        case rel => exact ⟨k + 1, by omega, by go_num, Lib.hid (fun j hj => by
          by_cases hjk : j = k
          · subst hjk; exact HB.out
          · exact HT.out j (by omega)), X2.out⟩
        case measure => simp [intOf]; omega
    · by_cases h16 : n ≤ 16
      · go_wp2_with (fail)
        go_ret
        refine ⟨ret_bool ?_, GW.out.trans HExt.out⟩
        rw [allV_true HL.out (fun j hj => HT.out j (by omega)), HL.out, Bool.true_and, Bool.eq_iff_iff]; simp; omega
      · go_wp2_with (fail)
        go_ret
        refine ⟨ret_bool ?_, GW.out.trans HExt.out⟩
        rw [allV_true HL.out (fun j hj => HT.out j (by omega)), HL.out, Bool.true_and, Bool.eq_iff_iff]; simp; omega

set_option maxHeartbeats 400000 in
theorem s_list (p : Int) (a : Option Addr) (d cap : Nat) (qs : List Int) (al : Option Addr) (n cl : Nat) (rows : List (List Int)) (w : World) (hd : d ≤ 4194304) (hl : n ≤ 4194304) (hr : ∀ i, i < n → (nthR rows i).length ≤ 4194304)
    (hq : RdC w a d qs) (hx : RdR w al n rows) :
    Calls Try.prog 134 #[.agg #[.int .i64 p, .slice a d cap], .slice al n cl] w fun e w' => e = .returned (.int .i64 (codeVR p qs rows)) ∧ Ext w w' := by
  have Hr := Lib.hid hr
  clear hr
  cases hs : spaceB p qs
  · have HS := Lib.hid hs
    have HC := Lib.hid (codeVR_space (rows := rows) hs)
    clear hs
    go_enter Try.func134, Try.ntmps134
    go_wp2_with (go_at_call 73; refine (s_is _ _ _ _ _ _ hd (hq.ext (ext_alloc _ _))).mono ?_; rintro e w1 ⟨rfl, g1⟩; rw [HS.out]; have hcc := Ext.cells g1)
    go_ret
    exact ⟨ret_int HC.out.symm, (ext_alloc _ _).trans g1⟩
  · obtain ⟨hp, hd1, hd6, _⟩ := space_of hs
    have hpb := prime_bd hp
    have HS := Lib.hid hs
    have HC := Lib.hid (codeVR_of (rows := rows) hs)
    have hdq := hq.1
    rw [hdq] at HC
    clear hs hp hd1 hd6 hdq
    cases hb : (rows.all (vecB p d) && decide (rows.length ≤ 16))
    all_goals
      have HB := Lib.hid hb
      clear hb
      go_enter Try.func134, Try.ntmps134
      go_wp2_with (first | (go_at_call 73; refine (s_is _ _ _ _ _ _ hd (hq.ext (ext_alloc _ _))).mono ?_; rintro e w1 ⟨rfl, g1⟩; rw [HS.out]; have hcc := Ext.cells g1) | (go_at_call 187; refine (s_isList p a d cap al n cl rows _ (by omega) (by omega) hl Hr.out (hx.ext ((ext_alloc _ _).trans g1))).mono ?_; rintro e w2 ⟨rfl, g2⟩; rw [HB.out]))
      go_ret
      refine ⟨ret_int ?_, (ext_alloc _ _).trans (g1.trans g2)⟩
      rw [HC.out, HB.out]; rfl

def wedgeL (p : Int) (qs : List Int) (rows : List (List Int)) (n : Nat) : List Int := prodS p qs tkW rows n
set_option maxHeartbeats 400000 in
theorem c_WedgeOfVectors_bad (p : Int) (a : Option Addr) (d cap : Nat) (qs : List Int) (ax1 : Option Addr) (n1 cx1 : Nat) (xs1 : List (List Int)) (w : World) (hd : d ≤ 4194304) (hn1 : n1 ≤ 4194304) (hr1 : ∀ i, i < n1 → (nthR xs1 i).length ≤ 4194304) (hq : RdC w a d qs) (hx1 : RdR w ax1 n1 xs1) (hc : codeVR p qs xs1 ≠ 0) :
    Calls Try.prog 65 #[.agg #[.int .i64 p, .slice a d cap], .slice ax1 n1 cx1] w fun e w' => ∃ ra rc, e = .returned (.tuple #[.slice ra 0 rc, .int .i64 (codeVR p qs xs1)]) ∧ OwnC w.heap.size w' ra 0 rc [] ∧ Ext w w' := by
  have Hr := Lib.hid hr1
  have hcb : (codeVR p qs xs1 != 0) = true := by simp [hc]
  clear hc hr1
  go_enter Try.func65, Try.ntmps65
  go_wp2_with (go_at_call 132; refine (c_checkList p a d cap qs ax1 n1 cx1 xs1 _ hd hn1 Hr.out (hq.ext (ext_alloc _ _)) (hx1.ext (ext_alloc _ _))).mono ?_; rintro e w1 ⟨rfl, g1⟩)
  go_ret2
  exact ⟨none, 0, rfl, own_nil _ _, (ext_alloc _ _).trans g1⟩
set_option maxHeartbeats 1000000 in
theorem c_WedgeOfVectors_ok (p : Int) (a : Option Addr) (d cap : Nat) (qs : List Int) (ax1 : Option Addr) (n1 cx1 : Nat) (xs1 : List (List Int)) (w : World) (hd : d ≤ 4194304) (hn1 : n1 ≤ 4194304) (hr1 : ∀ i, i < n1 → (nthR xs1 i).length ≤ 4194304) (hq : RdC w a d qs) (hx1 : RdR w ax1 n1 xs1) (hc : codeVR p qs xs1 = 0) :
    Calls Try.prog 65 #[.agg #[.int .i64 p, .slice a d cap], .slice ax1 n1 cx1] w fun e w' => ∃ ra rc, e = .returned (.tuple #[.slice ra (2 ^ d) rc, .int .i64 0]) ∧ OwnC w.heap.size w' ra (2 ^ d) rc (wedgeL p qs xs1 n1) ∧ Ext w w' := by
  obtain ⟨N, hN⟩ : ∃ N, N = 2 ^ d := ⟨_, rfl⟩
  rw [← hN]
  obtain ⟨hs, ha, _⟩ := codeVR_zero hc
  obtain ⟨hpr, hd1, hd6, hqb⟩ := space_of hs
  have hpb := prime_bd hpr
  rw [hq.1] at hd6 ha
  have HG := Lib.hid (rows_good ha)
  have HQB := Lib.hid hqb
  have HN := Lib.hid hN
  have HC := Lib.hid hc
  have Hr := Lib.hid hr1
  have hcb : ((0 : Int) != 0) = false := by simp
  clear hc hr1 hs ha hpr hd1 hqb hN
  go_enter Try.func65, Try.ntmps65
  go_wp2_with (first | (go_at_call 132; refine (c_checkList p a d cap qs ax1 n1 cx1 xs1 _ hd hn1 Hr.out (hq.ext (ext_alloc _ _)) (hx1.ext (ext_alloc _ _))).mono ?_; rintro e w1 ⟨rfl, g1⟩; rw [HC.out]; have hcc := Ext.cells g1) | (go_at_call 133; refine (c_wedgeAll HN.out p a cap qs ax1 n1 cx1 xs1 _ (by omega) (by omega) (by omega) hn1 (hq.ext ((ext_alloc _ _).trans g1)) HQB.out (hx1.ext ((ext_alloc _ _).trans g1)) HG.out).mono ?_; rintro e w2 ⟨g, rfl, ho, g2⟩; have HO := Lib.hid ho; have G2 := Lib.hid (((ext_alloc _ _).trans g1).trans g2); have HB := Lib.hid (((ext_alloc _ _).trans g1).size); clear ho g2))
  go_ret2
  exact ⟨_, _, rfl, HO.out.mono HB.out, G2.out⟩
set_option maxHeartbeats 400000 in
theorem s_WedgeOfVectors_bad (p : Int) (a : Option Addr) (d cap : Nat) (qs : List Int) (ax1 : Option Addr) (n1 cx1 : Nat) (xs1 : List (List Int)) (w : World) (hd : d ≤ 4194304) (hn1 : n1 ≤ 4194304) (hr1 : ∀ i, i < n1 → (nthR xs1 i).length ≤ 4194304) (hq : RdC w a d qs) (hx1 : RdR w ax1 n1 xs1) (hc : codeVR p qs xs1 ≠ 0) :
    Calls Try.prog 66 #[.agg #[.int .i64 p, .slice a d cap], .slice ax1 n1 cx1] w fun e w' => ∃ ra rc, e = .returned (.tuple #[.slice ra 0 rc, .int .i64 (codeVR p qs xs1)]) ∧ OwnC w.heap.size w' ra 0 rc [] ∧ Ext w w' := by
  have Hr := Lib.hid hr1
  have hcb : (codeVR p qs xs1 != 0) = true := by simp [hc]
  clear hc hr1
  go_enter Try.func66, Try.ntmps66
  go_wp2_with (go_at_call 134; refine (s_list p a d cap qs ax1 n1 cx1 xs1 _ hd hn1 Hr.out (hq.ext (ext_alloc _ _)) (hx1.ext (ext_alloc _ _))).mono ?_; rintro e w1 ⟨rfl, g1⟩)
  go_ret2
  exact ⟨none, 0, rfl, own_nil _ _, (ext_alloc _ _).trans g1⟩
set_option maxHeartbeats 1000000 in
theorem s_WedgeOfVectors_ok (p : Int) (a : Option Addr) (d cap : Nat) (qs : List Int) (ax1 : Option Addr) (n1 cx1 : Nat) (xs1 : List (List Int)) (w : World) (hd : d ≤ 4194304) (hn1 : n1 ≤ 4194304) (hr1 : ∀ i, i < n1 → (nthR xs1 i).length ≤ 4194304) (hq : RdC w a d qs) (hx1 : RdR w ax1 n1 xs1) (hc : codeVR p qs xs1 = 0) :
    Calls Try.prog 66 #[.agg #[.int .i64 p, .slice a d cap], .slice ax1 n1 cx1] w fun e w' => ∃ ra rc, e = .returned (.tuple #[.slice ra (2 ^ d) rc, .int .i64 0]) ∧ OwnC w.heap.size w' ra (2 ^ d) rc (wedgeL p qs xs1 n1) ∧ Ext w w' := by
  obtain ⟨N, hN⟩ : ∃ N, N = 2 ^ d := ⟨_, rfl⟩
  rw [← hN]
  obtain ⟨hs, ha, _⟩ := codeVR_zero hc
  obtain ⟨hpr, hd1, hd6, hqb⟩ := space_of hs
  have hpb := prime_bd hpr
  rw [hq.1] at hd6 ha
  have HG := Lib.hid (rows_good ha)
  have HQB := Lib.hid hqb
  have HN := Lib.hid hN
  have HC := Lib.hid hc
  have Hr := Lib.hid hr1
  have hcb : ((0 : Int) != 0) = false := by simp
  clear hc hr1 hs ha hpr hd1 hqb hN
  go_enter Try.func66, Try.ntmps66
  go_wp2_with (first | (go_at_call 134; refine (s_list p a d cap qs ax1 n1 cx1 xs1 _ hd hn1 Hr.out (hq.ext (ext_alloc _ _)) (hx1.ext (ext_alloc _ _))).mono ?_; rintro e w1 ⟨rfl, g1⟩; rw [HC.out]; have hcc := Ext.cells g1) | (go_at_call 135; refine (s_wedgeAll HN.out p a cap qs ax1 n1 cx1 xs1 _ (by omega) (by omega) (by omega) hn1 (hq.ext ((ext_alloc _ _).trans g1)) HQB.out (hx1.ext ((ext_alloc _ _).trans g1)) HG.out).mono ?_; rintro e w2 ⟨g, rfl, ho, g2⟩; have HO := Lib.hid ho; have G2 := Lib.hid (((ext_alloc _ _).trans g1).trans g2); have HB := Lib.hid (((ext_alloc _ _).trans g1).size); clear ho g2))
  go_ret2
  exact ⟨_, _, rfl, HO.out.mono HB.out, G2.out⟩
end Go.Proofs.Ytbgnfjckbjmgbaa
