/-
  The codes of spaces that can be extended.
  No condition.
-/
import Derived.Test.YtlchmkaaogokiaaExtS
import Derived.Test.YtlchmkaaogokiaaCodesV
namespace Go.Proofs.Ytlchmkaaogokiaa
set_option maxRecDepth 100000
open Go.RowKit

def code18 (p : Int) (qs : List Int) (vs : List (List Int)) : Int := if spaceB p qs = true then (if qs.length ≤ 4 then (if vs.all (vecB p qs.length) = true then 0 else 2) else 3) else 1
theorem code18_zero {p : Int} {qs : List Int} {vs : List (List Int)} (h : code18 p qs vs = 0) : spaceB p qs = true ∧ qs.length ≤ 4 ∧ vs.all (vecB p qs.length) = true := by
  unfold code18 at h
  split at h
  · rename_i h1
    split at h
    · rename_i h2
      split at h
      · rename_i h3; exact ⟨h1, h2, h3⟩
      · cases h
    · cases h
  · cases h
theorem extL_space {p : Int} {qs : List Int} (hs : spaceB p qs = true) (h4 : qs.length ≤ 4) : spaceB p (extL p qs) = true := by
  obtain ⟨hpr, hd1, hd6, hqb⟩ := space_of hs
  unfold spaceB
  rw [hpr, extL_isB (prime_bd hpr).1 hqb, extL_len]
  simp [inB]; omega
def code18L (p : Int) (qs : List Int) (vs : List (List Int)) : Int := if code18 p qs vs = 0 then (if vs.length ≤ 16 then 0 else 2) else code18 p qs vs
theorem code18L_zero {p : Int} {qs : List Int} {vs : List (List Int)} (h : code18L p qs vs = 0) : code18 p qs vs = 0 ∧ vs.length ≤ 16 := by
  unfold code18L at h
  split at h
  · rename_i h1
    split at h
    · rename_i h2; exact ⟨h1, h2⟩
    · cases h
  · rename_i h1; exact absurd h h1

set_option maxHeartbeats 2000000 in
theorem c_checkPlaces (p : Int) (a : Option Addr) (d cap : Nat) (qs : List Int) (al : Option Addr) (n cl : Nat) (vs : List (List Int)) (w : World) (hd : d ≤ 4194304) (hl : n ≤ 4194304) (hr : ∀ i, i < n → (nthR vs i).length ≤ 4194304)
    (hq : RdC w a d qs) (hx : RdR w al n vs) :
    Calls Try.prog 84 #[.agg #[.int .i64 p, .slice a d cap], .slice al n cl, .slice none 0 0] w fun e w' => e = .returned (.int .i64 (code18 p qs vs)) ∧ Ext w w' := by
  have Hr := Lib.hid hr
  have HQ := Lib.hid hq
  have HX := Lib.hid hx
  have hdl := hq.1
  clear hr hq hx
  cases hs : spaceB p qs
  · have HS := Lib.hid hs
    have HC := Lib.hid (show code18 p qs vs = 1 by simp [code18, hs])
    clear hs
    go_enter Try.func84, Try.ntmps84
    go_wp2_with (go_at_call 134; refine (c_isSpace _ _ _ _ _ _ hd (HQ.out.ext (ext_alloc _ _))).mono ?_; rintro e w1 ⟨rfl, g1⟩; rw [HS.out]; have hcc := Ext.cells g1)
    go_ret
    exact ⟨ret_int HC.out.symm, (ext_alloc _ _).trans g1⟩
  · obtain ⟨hpr, hd1, hd6, hqb⟩ := space_of hs
    have hpb := prime_bd hpr
    rw [hdl] at hd1
    have HS := Lib.hid hs
    have hcb : ((0 : Int) != 0) = false := by simp
    have hcb2 : ((2 : Int) != 0) = true := by simp
    by_cases h4 : d ≤ 4
    · have h4q : qs.length ≤ 4 := by omega
      have HV2 := Lib.hid (show codeV p (extL p qs) [] = 0 by unfold codeV; rw [extL_space hs h4q]; simp)
      cases ha : vs.all (vecB p qs.length)
      · have HV := Lib.hid (show codeV p qs vs = 2 by unfold codeV; rw [hs, ha]; rfl)
        have HC := Lib.hid (show code18 p qs vs = 2 by unfold code18; rw [if_pos hs, if_pos h4q, ha]; rfl)
        clear hs ha hpr hqb hd6 hdl h4q
        go_enter Try.func84, Try.ntmps84
        go_wp2_with (first | (go_at_call 134; refine (c_isSpace _ _ _ _ _ _ hd (HQ.out.ext (ext_alloc _ _))).mono ?_; rintro e w1 ⟨rfl, g1⟩; rw [HS.out]; have hcc := Ext.cells g1; try simp only [World.size_alloc] at hcc) | (go_at_call 60; refine (c_dim _ _ _ _ _).mono ?_; rintro e w2 ⟨rfl, g2⟩; have hcc2 := Ext.cells (g1.trans g2); try simp only [World.size_alloc] at hcc2) | (go_at_call 126; refine (c_checkVectors p a d cap qs al n cl vs _ hd hl Hr.out (HQ.out.ext ((ext_alloc _ _).trans (g1.trans g2))) (HX.out.ext ((ext_alloc _ _).trans (g1.trans g2)))).mono ?_; rintro e w3 ⟨rfl, g3⟩; rw [HV.out]; have hcc3 := Ext.cells ((g1.trans g2).trans g3); try simp only [World.size_alloc] at hcc3))
        go_ret
        exact ⟨ret_int HC.out.symm, (ext_alloc _ _).trans ((g1.trans g2).trans g3)⟩
      · have HV := Lib.hid (show codeV p qs vs = 0 by unfold codeV; rw [hs, ha]; rfl)
        have HC := Lib.hid (show code18 p qs vs = 0 by unfold code18; rw [if_pos hs, if_pos h4q, if_pos ha])
        clear hs ha hpr hqb hd6 hdl h4q
        go_enter Try.func84, Try.ntmps84
        go_wp2_with (first | (go_at_call 134; refine (c_isSpace _ _ _ _ _ _ hd (HQ.out.ext (ext_alloc _ _))).mono ?_; rintro e w1 ⟨rfl, g1⟩; rw [HS.out]; have hcc := Ext.cells g1; try simp only [World.size_alloc] at hcc) | (go_at_call 60; refine (c_dim _ _ _ _ _).mono ?_; rintro e w2 ⟨rfl, g2⟩; have hcc2 := Ext.cells (g1.trans g2); try simp only [World.size_alloc] at hcc2) | (go_at_call 85; refine (c_extended p a d cap qs _ (by omega) (by omega) (by omega) (by omega) (HQ.out.ext ((ext_alloc _ _).trans ((g1.trans g2).trans g3)))).mono ?_; rintro e w4 ⟨ge, re, rfl, he4, g4⟩; have HE4 := Lib.hid he4; clear he4) | (go_at_call 126; refine (c_checkVectors p (some ⟨ge, 0, none⟩) (d + 2) re (extL p qs) none 0 0 [] _ (by omega) (by omega) (fun _ hi => absurd hi (Nat.not_lt_zero _)) HE4.out.rd ⟨rfl, fun _ hi => absurd hi (Nat.not_lt_zero _)⟩).mono ?_; rintro e w5 ⟨rfl, g5⟩; rw [HV2.out]) | (go_at_call 126; refine (c_checkVectors p a d cap qs al n cl vs _ hd hl Hr.out (HQ.out.ext ((ext_alloc _ _).trans (g1.trans g2))) (HX.out.ext ((ext_alloc _ _).trans (g1.trans g2)))).mono ?_; rintro e w3 ⟨rfl, g3⟩; rw [HV.out]; have hcc3 := Ext.cells ((g1.trans g2).trans g3); try simp only [World.size_alloc] at hcc3))
        go_ret
        exact ⟨ret_int HC.out.symm, ((ext_alloc _ _).trans ((g1.trans g2).trans g3)).trans (g4.trans g5)⟩
    · have HC := Lib.hid (show code18 p qs vs = 3 by unfold code18; rw [if_pos hs, if_neg (by omega)])
      clear hs hpr hqb hd6 hdl
      go_enter Try.func84, Try.ntmps84
      go_wp2_with (first | (go_at_call 134; refine (c_isSpace _ _ _ _ _ _ hd (HQ.out.ext (ext_alloc _ _))).mono ?_; rintro e w1 ⟨rfl, g1⟩; rw [HS.out]; have hcc := Ext.cells g1; try simp only [World.size_alloc] at hcc) | (go_at_call 60; refine (c_dim _ _ _ _ _).mono ?_; rintro e w2 ⟨rfl, g2⟩; have hcc2 := Ext.cells (g1.trans g2); try simp only [World.size_alloc] at hcc2))
      go_ret
      exact ⟨ret_int HC.out.symm, (ext_alloc _ _).trans (g1.trans g2)⟩
set_option maxHeartbeats 2000000 in
theorem s_code18 (p : Int) (a : Option Addr) (d cap : Nat) (qs : List Int) (al : Option Addr) (n cl : Nat) (vs : List (List Int)) (w : World) (hd : d ≤ 4194304) (hl : n ≤ 4194304) (hr : ∀ i, i < n → (nthR vs i).length ≤ 4194304)
    (hq : RdC w a d qs) (hx : RdR w al n vs) :
    Calls Try.prog 75 #[.agg #[.int .i64 p, .slice a d cap], .slice al n cl] w fun e w' => e = .returned (.int .i64 (code18 p qs vs)) ∧ Ext w w' := by
  have Hr := Lib.hid hr
  have HQ := Lib.hid hq
  have HL := Lib.hid hx.1
  have HR := Lib.hid hx.2
  have hdl := hq.1
  clear hr hq hx
  cases hs : spaceB p qs
  · have HS := Lib.hid hs
    have HC := Lib.hid (show code18 p qs vs = 1 by simp [code18, hs])
    clear hs
    go_enter Try.func75, Try.ntmps75
    go_wp2_with (go_at_call 129; refine (s_is _ _ _ _ _ _ hd (HQ.out.ext (ext_alloc _ _))).mono ?_; rintro e w1 ⟨rfl, g1⟩; rw [HS.out]; have hcc := Ext.cells g1)
    go_ret
    exact ⟨ret_int HC.out.symm, (ext_alloc _ _).trans g1⟩
  · obtain ⟨hpr, hd1, hd6, hqb⟩ := space_of hs
    have hpb := prime_bd hpr
    have HS := Lib.hid hs
    by_cases h4 : d ≤ 4
    · have HC := Lib.hid (show code18 p qs vs = if vs.all (vecB p d) = true then 0 else 2 by unfold code18; rw [if_pos hs, if_pos (by omega), hdl])
      clear hs hpr hqb hd1 hd6 hdl
      go_enter Try.func75, Try.ntmps75
      go_wp2_with (go_at_call 129; refine (s_is _ _ _ _ _ _ hd (HQ.out.ext (ext_alloc _ _))).mono ?_; rintro e w1 ⟨rfl, g1⟩; rw [HS.out]; have hq0 : w1.cell? ⟨w.heap.size, 0, none⟩ = some (.int .i64 p) := g1.cell (by simp); have hq1 : w1.cell? ⟨w.heap.size, 1, none⟩ = some (.slice a d cap) := g1.cell (by simp))
      have Q0 := Lib.hid hq0
      have Q1 := Lib.hid hq1
      have G1 := Lib.hid ((ext_alloc w (.cells #[.int .i64 p, .slice a d cap] 28)).trans g1)
      clear g1 hq0 hq1
      go_loopw [5] (fun i wr => ∃ k : Nat, k ≤ n ∧ i = .int .i64 k ∧ Hid (∀ j, j < k → vecB p d (nthR vs j) = true) ∧ Ext w1 wr) (fun i _ => n - (intOf i).toNat)
      case atStart => exact ⟨0, Nat.zero_le _, rfl, Lib.hid (fun j hj => by omega), Ext.refl _⟩
      case round =>
        obtain ⟨k, hk, rfl, HT, hext⟩ := hrel
        have HExt := Lib.hid hext
        clear hext
        by_cases hlt : k < n
        · obtain ⟨b, off, ai, ci, rfl, hc, hrow⟩ := HR.out k hlt
          have g2 := G1.out.trans HExt.out
          have HRow := Lib.hid (hrow.ext g2)
          have Hc0 := Lib.hid ((g2.trans (ext_drew _)).cell hc)
          have Hq0 := Lib.hid ((HExt.out.trans (ext_drew _)).cell Q0.out)
          have Hq1 := Lib.hid ((HExt.out.trans (ext_drew _)).cell Q1.out)
          clear hc hrow g2
          have hl0 := Hr.out k hlt
          cases hb : vecB p d (nthR vs k)
          all_goals
            have HB := Lib.hid hb
            clear hb
            go_wp2_with (fail)
            refine wp_region_lex [(5, .val (.bool (vecB p d (nthR vs k))))] (by kernel_rfl) (by kernel_rfl) ?_
            repeat' first | (refine LexW.pure (v := ?_) rfl rfl (fun w1 he => ?_) ?_; rotate_left; ( have hc0 := he.cell Hc0.out; have hq0 := he.cell Hq0.out; have hq1 := he.cell Hq1.out; go_simp; rfl); simp only [Act.put, List.setIfInBounds_toArray, List.set_cons_zero, List.set_cons_succ]) | (refine LexW.call (f := ?_) (args := ?_) rfl rfl (fun w1 => ?_) (fun w1 he hdep => ?_) ?_; rotate_left 2; (go_simp; refine ⟨?_, ?_⟩ <;> rfl); ( have H := s_isVector p a d cap ai _ ci (nthR vs k) w1 (by omega) (by omega) hl0 (HRow.out.ext ((ext_drew _).trans he)); exact H); simp only [Act.put, List.setIfInBounds_toArray, List.set_cons_zero, List.set_cons_succ])
            refine LexW.nil (fun w2 he hk => ?_)
            have X2 := Lib.hid (HExt.out.trans ((ext_drew _).trans he))
            clear he hk
            rw [HB.out]
            go_wp2_with (fail)
          · go_ret
            exact ⟨ret_int (by rw [HC.out, allV_false HL.out hlt HB.out]; rfl), G1.out.trans X2.out⟩
          · go_roundw
            case rel => exact ⟨k + 1, by omega, by go_num, Lib.hid (fun j hj => by
              by_cases hjk : j = k
              · subst hjk; exact HB.out
              · exact HT.out j (by omega)), X2.out⟩
            case measure => simp [intOf]; omega
        · go_wp2_with (fail)
          go_ret
          exact ⟨ret_int (by rw [HC.out, allV_true HL.out (fun j hj => HT.out j (by omega))]; rfl), G1.out.trans HExt.out⟩
    · have HC := Lib.hid (show code18 p qs vs = 3 by unfold code18; rw [if_pos hs, if_neg (by omega)])
      clear hs hpr hqb hd1 hd6 hdl
      go_enter Try.func75, Try.ntmps75
      go_wp2_with (go_at_call 129; refine (s_is _ _ _ _ _ _ hd (HQ.out.ext (ext_alloc _ _))).mono ?_; rintro e w1 ⟨rfl, g1⟩; rw [HS.out]; have hcc := Ext.cells g1)
      go_ret
      exact ⟨ret_int HC.out.symm, (ext_alloc _ _).trans g1⟩
end Go.Proofs.Ytlchmkaaogokiaa
