/-
  Contracts and plain laws, part 10: Top18E.
  No condition.
-/
import Derived.Test.YtcocbainookkcaaPart9
/-
  Conformal functions: InvertAt.
  No condition.
-/
namespace Go.Proofs.Ytcocbainookkcaa
set_option maxRecDepth 100000
open Go.RowKit

def invR (p : Int) (qs x v : List Int) : List Int := reflL p (extL p qs) x (pointL p qs v) (qs.length + 2)
def nrmZ (p : Int) (qs x : List Int) : Int := pairL p (extL p qs) x x (qs.length + 2)
def codeIv (p : Int) (qs x v : List Int) : Int := if code18M p qs x [v] = 0 then (if nrmZ p qs x = 0 then 5 else if wgtI p qs (invR p qs x v) = 0 then 5 else 0) else code18M p qs x [v]
def ivL (p : Int) (qs x v : List Int) : List Int := if codeIv p qs x v = 0 then plcL p qs (invR p qs x v) else []
theorem invR_good {p : Int} {qs x v : List Int} {d : Nat} (hp : 1 ≤ p) (hd : qs.length = d) : Good p (d + 2) (invR p qs x v) := by subst hd; exact plus_good hp
theorem wgtN_zero {p : Int} {qs x : List Int} (hp : 1 ≤ p) : (wgtN p qs x == 0) = (wgtI p qs x == 0) := by
  rw [Bool.eq_iff_iff, beq_iff_eq, beq_iff_eq]
  constructor
  · intro h
    exact Decidable.byContradiction fun hne => by have := wgtN_pos (p := p) (qs := qs) (x := x) hp hne; omega
  · intro h
    unfold wgtN; rw [h]; rfl
theorem plc_cut {p : Int} {qs x : List Int} {d : Nat} (hd : qs.length = d) : scaleL p (x.take d) (invN p (wgtN p qs x)) d = plcL p qs x := by
  subst hd
  unfold plcL finL
  refine ext_nth (by rw [scaleL_len, List.length_take, scaleL_len]; omega) fun i hi => ?_
  rw [scaleL_len] at hi
  rw [scaleL_nth hi, tk_nth hi, scaleL_nth (by omega)]
  unfold scaleN
  rw [tk_nth hi]
theorem inv_cut {p : Int} {qs x v : List Int} {n : Nat} (hn : (extL p qs).length = n) : plusL p (pointL p qs v) (scaleL p x (2 * pairL p (extL p qs) (pointL p qs v) x n * invN p (pairL p (extL p qs) x x n) % p) n) (-1) n = reflL p (extL p qs) x (pointL p qs v) n := by
  rw [plus_scaleS]
  unfold reflL reflK
  refine plus_modk ?_
  rw [show pairL p (extL p qs) (pointL p qs v) x n = pairL p (extL p qs) x (pointL p qs v) n by rw [pl_pz hn, pl_pz hn, pz_comm]]
  obtain ⟨s, hs⟩ := emod_ex p (2 * pairL p (extL p qs) x (pointL p qs v) n * invN p (pairL p (extL p qs) x x n))
  rw [hs]
  exact emod_add ⟨-s, by grind⟩

set_option maxHeartbeats 4000000 in
set_option maxRecDepth 100000 in
theorem s_more18 (p : Int) (a : Option Addr) (d cap : Nat) (qs : List Int) (ax : Option Addr) (m cx : Nat) (x v : List Int) (al : Option Addr) (cl : Nat) (w : World) (hd : d ≤ 4194304) (hm : m ≤ 4194304) (hq : RdC w a d qs) (hx : RdC w ax m x) (hl : RdR w al 1 [v]) (hvl : v.length ≤ 4194304) :
    Calls Try.prog 51 #[.agg #[.int .i64 p, .slice a d cap], .slice ax m cx, .slice al 1 cl] w fun e w' => e = .returned (.int .i64 (code18M p qs x [v])) ∧ Ext w w' := by
  have hq0 := hq.1
  obtain ⟨W, hW⟩ : ∃ W, W = w.alloc (.cells #[.int .i64 p, .slice a d cap] 26) := ⟨_, rfl⟩
  have E : Hid (Ext w W) := Lib.hid (by rw [hW]; exact ext_alloc _ _)
  have C0 : Hid (W.cell? ⟨w.heap.size, 0, none⟩ = some (.int .i64 p)) := Lib.hid (by rw [hW]; simp)
  have C1 : Hid (W.cell? ⟨w.heap.size, 1, none⟩ = some (.slice a d cap)) := Lib.hid (by rw [hW]; simp)
  have HZ : Hid (W.heap.size = w.heap.size + 1) := Lib.hid (by rw [hW]; simp)
  have HW := Lib.hid hW
  clear hW
  have HQ := Lib.hid (hq.ext E.out)
  have HX := Lib.hid (hx.ext E.out)
  have HL := Lib.hid (hl.ext E.out)
  clear hq hx hl
  by_cases h0 : code18 p qs [] = 0
  · have hcb : ((0 : Int) != 0) = false := by simp
    obtain ⟨hs, h4, _⟩ := code18_zero h0
    have H0 := Lib.hid h0
    obtain ⟨hpr, hd1, _, hqb⟩ := space_of hs
    have hpb := prime_bd hpr
    have HQL := Lib.hid hq0
    rw [hq0] at hd1
    have HCM : Hid (code18M p qs x [v] = if vecB p (d + 2) x = true then code18 p qs [v] else 2) := Lib.hid (by
      unfold code18M code18
      rw [if_pos hs, if_pos h4, if_pos hs, if_pos h4, HQL.out]
      cases vecB p (d + 2) x <;> simp)
    clear h0 hs hpr hqb
    go_enter Try.func51, Try.ntmps51
    have x00 := C0.out
    have x01 := C1.out
    go_wp2_with (fail)
    clear x00 x01
    rw [← HW.out]
    clear HW
    refine Calls.mono (s_code18 p a d cap qs none 0 0 [] W hd (by omega) (fun _ hi => absurd hi (Nat.not_lt_zero _)) HQ.out ⟨rfl, fun _ hi => absurd hi (Nat.not_lt_zero _)⟩) ?_
    rintro e v1 ⟨rfl, gg⟩
    rw [H0.out]
    replace E := Lib.hid (E.out.trans gg)
    replace HQ := Lib.hid (HQ.out.ext gg)
    replace HX := Lib.hid (HX.out.ext gg)
    replace HL := Lib.hid (HL.out.ext gg)
    replace C0 := Lib.hid (gg.cell (p := ⟨w.heap.size, 0, none⟩) C0.out)
    replace C1 := Lib.hid (gg.cell (p := ⟨w.heap.size, 1, none⟩) C1.out)
    clear gg
    have x00 := C0.out
    have x01 := C1.out
    go_wp2_with (fail)
    clear x00 x01
    refine Calls.mono (s_extended p a d cap qs v1 (by omega) (by omega) (by omega) (by omega) HQ.out) ?_
    rintro e v2 ⟨gE, rE, rfl, ho, gg⟩
    have RE := Lib.hid (ho.mono E.out.size)
    clear ho
    replace E := Lib.hid (E.out.trans gg)
    replace HQ := Lib.hid (HQ.out.ext gg)
    replace HX := Lib.hid (HX.out.ext gg)
    replace HL := Lib.hid (HL.out.ext gg)
    replace C0 := Lib.hid (gg.cell (p := ⟨w.heap.size, 0, none⟩) C0.out)
    replace C1 := Lib.hid (gg.cell (p := ⟨w.heap.size, 1, none⟩) C1.out)
    clear gg
    have x00 := C0.out
    have x01 := C1.out
    go_wp2_with (fail)
    clear x00 x01
    refine Calls.mono (s_isVector p _ (d + 2) rE ax m cx x v2 (by omega) (by omega) hm HX.out) ?_
    rintro e v3 ⟨rfl, gg⟩
    replace E := Lib.hid (E.out.trans gg)
    replace HQ := Lib.hid (HQ.out.ext gg)
    replace HX := Lib.hid (HX.out.ext gg)
    replace HL := Lib.hid (HL.out.ext gg)
    replace RE := Lib.hid (RE.out.ext gg)
    replace C0 := Lib.hid (gg.cell (p := ⟨w.heap.size, 0, none⟩) C0.out)
    replace C1 := Lib.hid (gg.cell (p := ⟨w.heap.size, 1, none⟩) C1.out)
    clear gg
    cases hvx : vecB p (d + 2) x
    · rw [hvx] at HCM
      have HF := Lib.hid (show code18M p qs x [v] = 2 from HCM.out)
      clear hvx
      go_wp2_with (fail)
      go_ret
      exact ⟨ret_int HF.out.symm, E.out⟩
    · rw [hvx] at HCM
      have HF := Lib.hid (show code18M p qs x [v] = code18 p qs [v] from HCM.out)
      clear hvx
      have x00 := C0.out
      have x01 := C1.out
      go_wp2_with (fail)
      clear x00 x01
      refine Calls.mono (s_code18 p a d cap qs al 1 cl [v] v3 hd (by omega) (len_one hvl) HQ.out HL.out) ?_
      rintro e v4 ⟨rfl, gg⟩
      replace E := Lib.hid (E.out.trans gg)
      replace HQ := Lib.hid (HQ.out.ext gg)
      replace HX := Lib.hid (HX.out.ext gg)
      replace HL := Lib.hid (HL.out.ext gg)
      replace RE := Lib.hid (RE.out.ext gg)
      replace C0 := Lib.hid (gg.cell (p := ⟨w.heap.size, 0, none⟩) C0.out)
      replace C1 := Lib.hid (gg.cell (p := ⟨w.heap.size, 1, none⟩) C1.out)
      clear gg
      go_wp2_with (fail)
      go_ret
      exact ⟨ret_int HF.out.symm, E.out⟩
  · have hcb : (code18 p qs [] != 0) = true := by simp [h0]
    have HF : Hid (code18M p qs x [v] = code18 p qs []) := Lib.hid (by
      unfold code18M code18 at *
      split
      · rename_i h1
        rw [if_pos h1] at h0
        split
        · rename_i h2
          rw [if_pos h2] at h0
          exact absurd rfl h0
        · rfl
      · rfl)
    clear h0
    go_enter Try.func51, Try.ntmps51
    have x00 := C0.out
    have x01 := C1.out
    go_wp2_with (fail)
    clear x00 x01
    rw [← HW.out]
    clear HW
    refine Calls.mono (s_code18 p a d cap qs none 0 0 [] W hd (by omega) (fun _ hi => absurd hi (Nat.not_lt_zero _)) HQ.out ⟨rfl, fun _ hi => absurd hi (Nat.not_lt_zero _)⟩) ?_
    rintro e v5 ⟨rfl, gg⟩
    replace E := Lib.hid (E.out.trans gg)
    replace HQ := Lib.hid (HQ.out.ext gg)
    replace HX := Lib.hid (HX.out.ext gg)
    replace HL := Lib.hid (HL.out.ext gg)
    replace C0 := Lib.hid (gg.cell (p := ⟨w.heap.size, 0, none⟩) C0.out)
    replace C1 := Lib.hid (gg.cell (p := ⟨w.heap.size, 1, none⟩) C1.out)
    clear gg
    go_wp2_with (fail)
    go_ret
    exact ⟨ret_int HF.out.symm, E.out⟩

set_option maxHeartbeats 4000000 in
set_option maxRecDepth 100000 in
theorem s_weight (p : Int) (a : Option Addr) (d cap : Nat) (qs : List Int) (ax : Option Addr) (cx : Nat) (x : List Int) (w : World) (hs : spaceB p qs = true) (h4 : qs.length ≤ 4) (hq : RdC w a d qs) (hx : RdC w ax (d + 2) x) (hgx : Good p (d + 2) x) :
    Calls Try.prog 59 #[.agg #[.int .i64 p, .slice a d cap], .slice ax (d + 2) cx] w fun e w' => e = .returned (.int .i64 (wgtN p qs x)) ∧ Ext w w' := by
  obtain ⟨hpr, hd1, _, hqb⟩ := space_of hs
  have hpb := prime_bd hpr
  have HPR := Lib.hid hpr
  have HQB := Lib.hid hqb
  have hql := hq.1
  rw [hql] at hd1 h4
  have HQL := Lib.hid hql
  have HEB := Lib.hid (extL_isB (p := p) (by omega) hqb)
  have HGI := Lib.hid (good_inf (p := p) (d := d) (by omega))
  have HGP := fun (u : List Int) => Lib.hid (pointL_good (p := p) (qs := qs) (v := u) (d := d) (by omega) hql)
  clear hpr hqb hql
  have HW1 : Hid (wgtI p qs x = pairL p (extL p qs) x (infL d) (d + 2)) := Lib.hid (by unfold wgtI; rw [HQL.out])
  have hwb := wgtI_bd (p := p) (qs := qs) (x := x) (by omega)
  have HWN := Lib.hid (show -(wgtI p qs x) % p = wgtN p qs x from rfl)
  have hneg : IntKind.i64.wrap (-(wgtI p qs x)) = -(wgtI p qs x) := IntWalk.i64_in _ (by omega)
  obtain ⟨z, hz⟩ : ∃ z, z = wgtI p qs x := ⟨_, rfl⟩
  rw [← hz] at hwb hneg HW1 HWN
  obtain ⟨u, hu⟩ : ∃ u, u = wgtN p qs x := ⟨_, rfl⟩
  rw [← hu] at HWN ⊢
  clear hz hu
  obtain ⟨W, hW⟩ : ∃ W, W = w.alloc (.cells #[.int .i64 p, .slice a d cap] 26) := ⟨_, rfl⟩
  have E : Hid (Ext w W) := Lib.hid (by rw [hW]; exact ext_alloc _ _)
  have C0 : Hid (W.cell? ⟨w.heap.size, 0, none⟩ = some (.int .i64 p)) := Lib.hid (by rw [hW]; simp)
  have C1 : Hid (W.cell? ⟨w.heap.size, 1, none⟩ = some (.slice a d cap)) := Lib.hid (by rw [hW]; simp)
  have HZ : Hid (W.heap.size = w.heap.size + 1) := Lib.hid (by rw [hW]; simp)
  have HW := Lib.hid hW
  clear hW
  have HQ := Lib.hid (hq.ext E.out)
  have HX := Lib.hid (hx.ext E.out)
  clear hq hx
  go_enter Try.func59, Try.ntmps59
  have x00 := C0.out
  have x01 := C1.out
  go_wp2_with (fail)
  clear x00 x01
  rw [← HW.out]
  clear HW
  replace E := Lib.hid (E.out.trans (ext_drew W))
  replace HQ := Lib.hid (HQ.out.ext (ext_drew W))
  replace HX := Lib.hid (HX.out.ext (ext_drew W))
  replace C0 := Lib.hid ((ext_drew W).cell (p := ⟨w.heap.size, 0, none⟩) C0.out)
  replace C1 := Lib.hid ((ext_drew W).cell (p := ⟨w.heap.size, 1, none⟩) C1.out)
  refine wp_region_lex [(3, .spx w.heap.size p (d + 2) (extL p qs)), (6, .ownS w.heap.size (d + 2) (infL d)), (7, .val (.int .i64 z)), (9, .val (.int .i64 u))] (by kernel_rfl) (by kernel_rfl) ?_
  (refine LexW.pure (v := ?_) rfl rfl (fun w1 he => ?_) ?_; rotate_left; ( have x00 := (he.cell (p := ⟨w.heap.size, 0, none⟩) C0.out); have x01 := (he.cell (p := ⟨w.heap.size, 1, none⟩) C1.out); go_simp; rfl); simp only [Act.put, List.setIfInBounds_toArray, List.set_cons_zero, List.set_cons_succ])
  (refine LexW.pure (v := ?_) rfl rfl (fun w1 he => ?_) ?_; rotate_left; ( have x00 := (he.cell (p := ⟨w.heap.size, 0, none⟩) C0.out); have x01 := (he.cell (p := ⟨w.heap.size, 1, none⟩) C1.out); go_simp; rfl); simp only [Act.put, List.setIfInBounds_toArray, List.set_cons_zero, List.set_cons_succ])
  (refine LexW.pure (v := ?_) rfl rfl (fun w1 he => ?_) ?_; rotate_left; ( have x00 := (he.cell (p := ⟨w.heap.size, 0, none⟩) C0.out); have x01 := (he.cell (p := ⟨w.heap.size, 1, none⟩) C1.out); go_simp; rfl); simp only [Act.put, List.setIfInBounds_toArray, List.set_cons_zero, List.set_cons_succ])
  (refine LexW.callR (f := ?_) (args := ?_) rfl rfl (fun w1 => ?_) (fun w1 he hdep => ?_) (fun v hv => ?_); rotate_left 2; (go_simp; refine ⟨?_, ?_⟩ <;> rfl); ( refine (s_extended p a d cap qs w1 (by omega) (by omega) (by omega) (by omega) (HQ.out.ext he)).mono ?_; rintro e w2 ⟨g, rc, rfl, ho, g2⟩; exact ⟨_, rfl, g2, g, rc, rfl, ho.mono (Nat.le_trans E.out.size he.size)⟩); simp only [Act.put, List.setIfInBounds_toArray, List.set_cons_zero, List.set_cons_succ])
  obtain ⟨_, g8, c8, rfl, _⟩ := hv
  (refine LexW.pure (v := ?_) rfl rfl (fun w1 he => ?_) ?_; rotate_left; ( have x00 := (he.cell (p := ⟨w.heap.size, 0, none⟩) C0.out); have x01 := (he.cell (p := ⟨w.heap.size, 1, none⟩) C1.out); go_simp; rfl); simp only [Act.put, List.setIfInBounds_toArray, List.set_cons_zero, List.set_cons_succ])
  (refine LexW.pure (v := ?_) rfl rfl (fun w1 he => ?_) ?_; rotate_left; ( have x00 := (he.cell (p := ⟨w.heap.size, 0, none⟩) C0.out); have x01 := (he.cell (p := ⟨w.heap.size, 1, none⟩) C1.out); go_simp; rfl); simp only [Act.put, List.setIfInBounds_toArray, List.set_cons_zero, List.set_cons_succ])
  (refine LexW.callR (f := ?_) (args := ?_) rfl rfl (fun w1 => ?_) (fun w1 he hdep => ?_) (fun v hv => ?_); rotate_left 2; (go_simp; refine ⟨?_, ?_⟩ <;> rfl); ( refine (s_infinity p a d cap w1 (by omega)).mono ?_; rintro e w2 ⟨g, rc, rfl, ho, g2⟩; exact ⟨_, rfl, g2, g, rc, rfl, ho.mono (Nat.le_trans E.out.size he.size)⟩); simp only [Act.put, List.setIfInBounds_toArray, List.set_cons_zero, List.set_cons_succ])
  obtain ⟨_, g11, c11, rfl, _⟩ := hv
  (refine LexW.call (f := ?_) (args := ?_) rfl rfl (fun w1 => ?_) (fun w1 he hdep => ?_) ?_; rotate_left 2; (go_simp; refine ⟨?_, ?_⟩ <;> rfl); ( obtain ⟨_, _, q8, r8⟩ : (SPred.spx w.heap.size p (d + 2) (extL p qs)).holds (.agg #[.int .i64 p, .slice (some ⟨g8, 0, none⟩) (d + 2) c8]) w1 := hdep (3, 8) (by decide +kernel); cases q8; obtain ⟨_, _, q11, r11⟩ : (SPred.ownS w.heap.size (d + 2) (infL d)).holds (.slice (some ⟨g11, 0, none⟩) (d + 2) c11) w1 := hdep (6, 11) (by decide +kernel); cases q11; have H := s_pair p (some ⟨g8, 0, none⟩) (d + 2) c8 (extL p qs) ax cx x (some ⟨g11, 0, none⟩) c11 (infL d) w1 (by omega) (by omega) (by omega) r8.rd HEB.out (HX.out.ext he) hgx r11.rd HGI.out; rw [← HW1.out] at H; exact H); simp only [Act.put, List.setIfInBounds_toArray, List.set_cons_zero, List.set_cons_succ])
  (refine LexW.pure (v := ?_) rfl rfl (fun w1 he => ?_) ?_; rotate_left; ( have x00 := (he.cell (p := ⟨w.heap.size, 0, none⟩) C0.out); have x01 := (he.cell (p := ⟨w.heap.size, 1, none⟩) C1.out); go_simp; rfl); simp only [Act.put, List.setIfInBounds_toArray, List.set_cons_zero, List.set_cons_succ])
  (refine LexW.call (f := ?_) (args := ?_) rfl rfl (fun w1 => ?_) (fun w1 he hdep => ?_) ?_; rotate_left 2; (go_simp; refine ⟨?_, ?_⟩ <;> rfl); ( have H := s_mod p (-z) w1 (by omega) (by omega); rw [HWN.out] at H; exact H); simp only [Act.put, List.setIfInBounds_toArray, List.set_cons_zero, List.set_cons_succ])
  (refine LexW.pure (v := ?_) rfl rfl (fun w1 he => ?_) ?_; rotate_left; ( have x00 := (he.cell (p := ⟨w.heap.size, 0, none⟩) C0.out); have x01 := (he.cell (p := ⟨w.heap.size, 1, none⟩) C1.out); go_simp; rfl); simp only [Act.put, List.setIfInBounds_toArray, List.set_cons_zero, List.set_cons_succ])
  refine LexW.nil (fun w3 he hkn => ?_)
  have HE := Lib.hid he
  clear he hkn 
  rename World => v1
  replace E := Lib.hid (E.out.trans HE.out)
  replace HQ := Lib.hid (HQ.out.ext HE.out)
  replace HX := Lib.hid (HX.out.ext HE.out)
  replace C0 := Lib.hid (HE.out.cell (p := ⟨w.heap.size, 0, none⟩) C0.out)
  replace C1 := Lib.hid (HE.out.cell (p := ⟨w.heap.size, 1, none⟩) C1.out)
  clear HE
  go_wp2_with (fail)
  go_ret
  exact ⟨rfl, E.out⟩

set_option maxHeartbeats 4000000 in
set_option maxRecDepth 100000 in
theorem s_place (p : Int) (a : Option Addr) (d cap : Nat) (qs : List Int) (ax : Option Addr) (cx : Nat) (x : List Int) (w : World) (hs : spaceB p qs = true) (h4 : qs.length ≤ 4) (hq : RdC w a d qs) (hx : RdC w ax (d + 2) x) (hgx : Good p (d + 2) x) (hw : wgtI p qs x ≠ 0) (hcx : d ≤ cx) :
    Calls Try.prog 60 #[.agg #[.int .i64 p, .slice a d cap], .slice ax (d + 2) cx] w fun e w' => ∃ g rc, e = .returned (.slice (some ⟨g, 0, none⟩) d rc) ∧ OwnC w.heap.size w' (some ⟨g, 0, none⟩) d rc (plcL p qs x) ∧ Ext w w' := by
  have HSP := Lib.hid hs
  obtain ⟨hpr, hd1, _, hqb⟩ := space_of hs
  have hpb := prime_bd hpr
  have HPR := Lib.hid hpr
  have HQB := Lib.hid hqb
  have hql := hq.1
  rw [hql] at hd1 h4
  have HQL := Lib.hid hql
  have HEB := Lib.hid (extL_isB (p := p) (by omega) hqb)
  have HGI := Lib.hid (good_inf (p := p) (d := d) (by omega))
  have HGP := fun (u : List Int) => Lib.hid (pointL_good (p := p) (qs := qs) (v := u) (d := d) (by omega) hql)
  clear hpr hqb hql
  have hub := wgtN_bd (p := p) (qs := qs) (x := x) (by omega)
  have hup := wgtN_pos (p := p) (qs := qs) (x := x) (by omega) hw
  have hib := invN_bd (p := p) (a := wgtN p qs x) (by omega)
  have HPC : Hid (scaleL p (x.take d) (invN p (wgtN p qs x)) d = plcL p qs x) := Lib.hid (plc_cut HQL.out)
  obtain ⟨u, hu⟩ : ∃ u, u = wgtN p qs x := ⟨_, rfl⟩
  have HU := Lib.hid hu.symm
  rw [← hu] at hub hup hib HPC
  clear hu hw
  obtain ⟨bx, ox, rfl, _⟩ := hx.2 0 (by omega)
  have hdd : ¬ d = 0 := by omega
  have hgt : Good p d (x.take d) := ⟨by rw [List.length_take, hgx.1]; omega, fun i hi => by rw [tk_nth hi]; exact hgx.2 i (by omega)⟩
  obtain ⟨W, hW⟩ : ∃ W, W = w.alloc (.cells #[.int .i64 p, .slice a d cap] 26) := ⟨_, rfl⟩
  have E : Hid (Ext w W) := Lib.hid (by rw [hW]; exact ext_alloc _ _)
  have C0 : Hid (W.cell? ⟨w.heap.size, 0, none⟩ = some (.int .i64 p)) := Lib.hid (by rw [hW]; simp)
  have C1 : Hid (W.cell? ⟨w.heap.size, 1, none⟩ = some (.slice a d cap)) := Lib.hid (by rw [hW]; simp)
  have HZ : Hid (W.heap.size = w.heap.size + 1) := Lib.hid (by rw [hW]; simp)
  have HW := Lib.hid hW
  clear hW
  have HQ := Lib.hid (hq.ext E.out)
  have HX := Lib.hid (hx.ext E.out)
  clear hq hx
  go_enter Try.func60, Try.ntmps60
  have x00 := C0.out
  have x01 := C1.out
  go_wp2_with (fail)
  clear x00 x01
  rw [← HW.out]
  clear HW
  replace E := Lib.hid (E.out.trans (ext_drew W))
  replace HQ := Lib.hid (HQ.out.ext (ext_drew W))
  replace HX := Lib.hid (HX.out.ext (ext_drew W))
  replace C0 := Lib.hid ((ext_drew W).cell (p := ⟨w.heap.size, 0, none⟩) C0.out)
  replace C1 := Lib.hid ((ext_drew W).cell (p := ⟨w.heap.size, 1, none⟩) C1.out)
  refine wp_region_lex [(6, .val (.int .i64 u)), (7, .val (.int .i64 (invN p u))), (13, .ownS w.heap.size d (scaleL p (x.take d) (invN p u) d))] (by kernel_rfl) (by kernel_rfl) ?_
  (refine LexW.pure (v := ?_) rfl rfl (fun w1 he => ?_) ?_; rotate_left; ( have x00 := (he.cell (p := ⟨w.heap.size, 0, none⟩) C0.out); have x01 := (he.cell (p := ⟨w.heap.size, 1, none⟩) C1.out); go_simp; rfl); simp only [Act.put, List.setIfInBounds_toArray, List.set_cons_zero, List.set_cons_succ])
  (refine LexW.pure (v := ?_) rfl rfl (fun w1 he => ?_) ?_; rotate_left; ( have x00 := (he.cell (p := ⟨w.heap.size, 0, none⟩) C0.out); have x01 := (he.cell (p := ⟨w.heap.size, 1, none⟩) C1.out); go_simp; rfl); simp only [Act.put, List.setIfInBounds_toArray, List.set_cons_zero, List.set_cons_succ])
  (refine LexW.pure (v := ?_) rfl rfl (fun w1 he => ?_) ?_; rotate_left; ( have x00 := (he.cell (p := ⟨w.heap.size, 0, none⟩) C0.out); have x01 := (he.cell (p := ⟨w.heap.size, 1, none⟩) C1.out); go_simp; rfl); simp only [Act.put, List.setIfInBounds_toArray, List.set_cons_zero, List.set_cons_succ])
  (refine LexW.pure (v := ?_) rfl rfl (fun w1 he => ?_) ?_; rotate_left; ( have x00 := (he.cell (p := ⟨w.heap.size, 0, none⟩) C0.out); have x01 := (he.cell (p := ⟨w.heap.size, 1, none⟩) C1.out); go_simp; rfl); simp only [Act.put, List.setIfInBounds_toArray, List.set_cons_zero, List.set_cons_succ])
  (refine LexW.pure (v := ?_) rfl rfl (fun w1 he => ?_) ?_; rotate_left; ( have x00 := (he.cell (p := ⟨w.heap.size, 0, none⟩) C0.out); have x01 := (he.cell (p := ⟨w.heap.size, 1, none⟩) C1.out); go_simp; rfl); simp only [Act.put, List.setIfInBounds_toArray, List.set_cons_zero, List.set_cons_succ])
  (refine LexW.pure (v := ?_) rfl rfl (fun w1 he => ?_) ?_; rotate_left; ( have x00 := (he.cell (p := ⟨w.heap.size, 0, none⟩) C0.out); have x01 := (he.cell (p := ⟨w.heap.size, 1, none⟩) C1.out); go_simp; rfl); simp only [Act.put, List.setIfInBounds_toArray, List.set_cons_zero, List.set_cons_succ])
  (refine LexW.call (f := ?_) (args := ?_) rfl rfl (fun w1 => ?_) (fun w1 he hdep => ?_) ?_; rotate_left 2; (go_simp; refine ⟨?_, ?_⟩ <;> rfl); ( have H := s_weight p a d cap qs (some ⟨bx, ox, none⟩) cx x w1 HSP.out (by rw [HQL.out]; exact h4) (HQ.out.ext he) (HX.out.ext he) hgx; rw [HU.out] at H; exact H); simp only [Act.put, List.setIfInBounds_toArray, List.set_cons_zero, List.set_cons_succ])
  (refine LexW.call (f := ?_) (args := ?_) rfl rfl (fun w1 => ?_) (fun w1 he hdep => ?_) ?_; rotate_left 2; (go_simp; refine ⟨?_, ?_⟩ <;> rfl); ( exact s_inv p u w1 HPR.out hup hub.2); simp only [Act.put, List.setIfInBounds_toArray, List.set_cons_zero, List.set_cons_succ])
  (refine LexW.pure (v := ?_) rfl rfl (fun w1 he => ?_) ?_; rotate_left; ( have x00 := (he.cell (p := ⟨w.heap.size, 0, none⟩) C0.out); have x01 := (he.cell (p := ⟨w.heap.size, 1, none⟩) C1.out); go_simp; rfl); simp only [Act.put, List.setIfInBounds_toArray, List.set_cons_zero, List.set_cons_succ])
  (refine LexW.pure (v := ?_) rfl rfl (fun w1 he => ?_) ?_; rotate_left; ( have x00 := (he.cell (p := ⟨w.heap.size, 0, none⟩) C0.out); have x01 := (he.cell (p := ⟨w.heap.size, 1, none⟩) C1.out); go_simp; rfl); simp only [Act.put, List.setIfInBounds_toArray, List.set_cons_zero, List.set_cons_succ])
  (refine LexW.pure (v := ?_) rfl rfl (fun w1 he => ?_) ?_; rotate_left; ( have x00 := (he.cell (p := ⟨w.heap.size, 0, none⟩) C0.out); have x01 := (he.cell (p := ⟨w.heap.size, 1, none⟩) C1.out); go_simp; rfl); simp only [Act.put, List.setIfInBounds_toArray, List.set_cons_zero, List.set_cons_succ])
  (refine LexW.pure (v := ?_) rfl rfl (fun w1 he => ?_) ?_; rotate_left; ( have x00 := (he.cell (p := ⟨w.heap.size, 0, none⟩) C0.out); have x01 := (he.cell (p := ⟨w.heap.size, 1, none⟩) C1.out); go_simp; rfl); simp only [Act.put, List.setIfInBounds_toArray, List.set_cons_zero, List.set_cons_succ])
  (refine LexW.pure (v := ?_) rfl rfl (fun w1 he => ?_) ?_; rotate_left; ( have x00 := (he.cell (p := ⟨w.heap.size, 0, none⟩) C0.out); have x01 := (he.cell (p := ⟨w.heap.size, 1, none⟩) C1.out); go_simp; rfl); simp only [Act.put, List.setIfInBounds_toArray, List.set_cons_zero, List.set_cons_succ])
  (refine LexW.callR (f := ?_) (args := ?_) rfl rfl (fun w1 => ?_) (fun w1 he hdep => ?_) (fun v hv => ?_); rotate_left 2; (go_simp; refine ⟨?_, ?_⟩ <;> rfl); ( refine (s_scale11 p _ d _ (x.take d) (invN p u) w1 (by omega) (by omega) (by omega) (by omega) (rdC_take (HX.out.ext he) (by omega)) hgt).mono ?_; rintro e w2 ⟨g, rc, rfl, ho, g2⟩; exact ⟨_, rfl, g2, g, rc, rfl, ho.mono (Nat.le_trans E.out.size he.size)⟩); simp only [Act.put, List.setIfInBounds_toArray, List.set_cons_zero, List.set_cons_succ])
  obtain ⟨_, g18, c18, rfl, _⟩ := hv
  (refine LexW.pure (v := ?_) rfl rfl (fun w1 he => ?_) ?_; rotate_left; ( have x00 := (he.cell (p := ⟨w.heap.size, 0, none⟩) C0.out); have x01 := (he.cell (p := ⟨w.heap.size, 1, none⟩) C1.out); go_simp; rfl); simp only [Act.put, List.setIfInBounds_toArray, List.set_cons_zero, List.set_cons_succ])
  refine LexW.nil (fun w3 he hkn => ?_)
  obtain ⟨_, _, q18, r18⟩ : (SPred.ownS w.heap.size d (scaleL p (x.take d) (invN p u) d)).holds (.slice (some ⟨g18, 0, none⟩) d c18) w3 := hkn (13, _) (by simp)
  cases q18
  have R18 := Lib.hid r18
  have HE := Lib.hid he
  clear he hkn r18
  rename World => v1
  replace E := Lib.hid (E.out.trans HE.out)
  replace HQ := Lib.hid (HQ.out.ext HE.out)
  replace HX := Lib.hid (HX.out.ext HE.out)
  replace C0 := Lib.hid (HE.out.cell (p := ⟨w.heap.size, 0, none⟩) C0.out)
  replace C1 := Lib.hid (HE.out.cell (p := ⟨w.heap.size, 1, none⟩) C1.out)
  clear HE
  go_wp2_with (fail)
  go_ret
  exact ⟨_, _, rfl, by rw [← HPC.out]; exact R18.out, E.out⟩

set_option maxHeartbeats 4000000 in
set_option maxRecDepth 100000 in
theorem c_InvertAt_bad (p : Int) (a : Option Addr) (d cap : Nat) (qs : List Int) (ax : Option Addr) (m cx : Nat) (x : List Int) (av : Option Addr) (n cv : Nat) (v : List Int) (w : World) (hd : d ≤ 4194304) (hm : m ≤ 4194304) (hn : n ≤ 4194304) (hq : RdC w a d qs) (hx : RdC w ax m x) (hv : RdC w av n v) (hc : code18M p qs x [v] ≠ 0) :
    Calls Try.prog 9 #[.agg #[.int .i64 p, .slice a d cap], .slice ax m cx, .slice av n cv] w fun e w' => e = .returned (.tuple #[.slice none 0 0, .int .i64 (code18M p qs x [v])]) ∧ Ext w w' := by
  have hcb : (code18M p qs x [v] != 0) = true := by simp [hc]
  clear hc
  obtain ⟨W, hW⟩ : ∃ W, W = w.alloc (.cells #[.int .i64 p, .slice a d cap] 26) := ⟨_, rfl⟩
  have E : Hid (Ext w W) := Lib.hid (by rw [hW]; exact ext_alloc _ _)
  have C0 : Hid (W.cell? ⟨w.heap.size, 0, none⟩ = some (.int .i64 p)) := Lib.hid (by rw [hW]; simp)
  have C1 : Hid (W.cell? ⟨w.heap.size, 1, none⟩ = some (.slice a d cap)) := Lib.hid (by rw [hW]; simp)
  have HZ : Hid (W.heap.size = w.heap.size + 1) := Lib.hid (by rw [hW]; simp)
  have HW := Lib.hid hW
  clear hW
  have HQ := Lib.hid (hq.ext E.out)
  have HX := Lib.hid (hx.ext E.out)
  have HV := Lib.hid (hv.ext E.out)
  clear hq hx hv
  go_enter Try.func9, Try.ntmps9
  have x00 := C0.out
  have x01 := C1.out
  go_wp2_with (fail)
  clear x00 x01
  rw [← HW.out]
  clear HW
  refine Calls.mono (c_checkPlacesX p a d cap qs _ 1 _ [v] _ 1 x _ (by rw [HX.out.1]; exact hm) hd (by omega) (len_one (by rw [HV.out.1]; exact hn)) (HQ.out.ext ((ext_alloc _ _).alloc _)) (rdR_one (a := av) (n := n) (cap := cv) (by rw [← HZ.out]; simp) (HV.out.ext ((ext_alloc _ _).alloc _))) (rdR_one (a := ax) (n := m) (cap := cx) (by rw [← HZ.out]; simp) (HX.out.ext ((ext_alloc _ _).alloc _)))) ?_
  rintro e v1 ⟨rfl, gg⟩
  replace gg := ((ext_alloc _ _).alloc _).trans gg
  replace E := Lib.hid (E.out.trans gg)
  replace HQ := Lib.hid (HQ.out.ext gg)
  replace HX := Lib.hid (HX.out.ext gg)
  replace HV := Lib.hid (HV.out.ext gg)
  replace C0 := Lib.hid (gg.cell (p := ⟨w.heap.size, 0, none⟩) C0.out)
  replace C1 := Lib.hid (gg.cell (p := ⟨w.heap.size, 1, none⟩) C1.out)
  clear gg
  go_wp2_with (fail)
  go_ret2
  exact ⟨rfl, E.out⟩

set_option maxHeartbeats 4000000 in
set_option maxRecDepth 100000 in
theorem c_InvertAt_nrm (p : Int) (a : Option Addr) (d cap : Nat) (qs : List Int) (ax : Option Addr) (cx : Nat) (x : List Int) (av : Option Addr) (cv : Nat) (v : List Int) (w : World) (hs : spaceB p qs = true) (h4 : qs.length ≤ 4) (hq : RdC w a d qs) (hx : RdC w ax (d + 2) x) (hgx : Good p (d + 2) x) (hv : RdC w av d v) (hgv : Good p d v) (hz : nrmZ p qs x = 0) :
    Calls Try.prog 9 #[.agg #[.int .i64 p, .slice a d cap], .slice ax (d + 2) cx, .slice av d cv] w fun e w' => e = .returned (.tuple #[.slice none 0 0, .int .i64 5]) ∧ Ext w w' := by
  have HC := Lib.hid (code18M_0 (vs := [v]) hs h4 (all_one (by rw [hq.1]; exact hgv)) (x := x) (by rw [hq.1]; exact hgx))
  have HSP := Lib.hid hs
  obtain ⟨hpr, hd1, _, hqb⟩ := space_of hs
  have hpb := prime_bd hpr
  have HPR := Lib.hid hpr
  have HQB := Lib.hid hqb
  have hql := hq.1
  rw [hql] at hd1 h4
  have HQL := Lib.hid hql
  have HEB := Lib.hid (extL_isB (p := p) (by omega) hqb)
  have HGI := Lib.hid (good_inf (p := p) (d := d) (by omega))
  have HGP := fun (u : List Int) => Lib.hid (pointL_good (p := p) (qs := qs) (v := u) (d := d) (by omega) hql)
  clear hpr hqb hql
  have hcb : ((0 : Int) != 0) = false := by simp
  have HRG := Lib.hid (invR_good (p := p) (qs := qs) (x := x) (v := v) (by omega) HQL.out)
  have HIR : Hid (invR p qs x v = reflL p (extL p qs) x (pointL p qs v) (d + 2)) := Lib.hid (by unfold invR; rw [HQL.out])
  have HNR : Hid (nrmZ p qs x = pairL p (extL p qs) x x (d + 2)) := Lib.hid (by unfold nrmZ; rw [HQL.out])
  have hnb : 0 ≤ nrmZ p qs x ∧ nrmZ p qs x < p := pairL_bd (by omega)
  have hdd : ¬ d = 0 := by omega
  obtain ⟨z, hzz⟩ : ∃ z, z = nrmZ p qs x := ⟨_, rfl⟩
  rw [← hzz] at hnb hz HNR
  clear hzz
  subst hz
  have hzb : ((0 : Int) == 0) = true := by simp
  obtain ⟨W, hW⟩ : ∃ W, W = w.alloc (.cells #[.int .i64 p, .slice a d cap] 26) := ⟨_, rfl⟩
  have E : Hid (Ext w W) := Lib.hid (by rw [hW]; exact ext_alloc _ _)
  have C0 : Hid (W.cell? ⟨w.heap.size, 0, none⟩ = some (.int .i64 p)) := Lib.hid (by rw [hW]; simp)
  have C1 : Hid (W.cell? ⟨w.heap.size, 1, none⟩ = some (.slice a d cap)) := Lib.hid (by rw [hW]; simp)
  have HZ : Hid (W.heap.size = w.heap.size + 1) := Lib.hid (by rw [hW]; simp)
  have HW := Lib.hid hW
  clear hW
  have HQ := Lib.hid (hq.ext E.out)
  have HX := Lib.hid (hx.ext E.out)
  have HV := Lib.hid (hv.ext E.out)
  clear hq hx hv
  go_enter Try.func9, Try.ntmps9
  have x00 := C0.out
  have x01 := C1.out
  go_wp2_with (fail)
  clear x00 x01
  rw [← HW.out]
  clear HW
  refine Calls.mono (c_checkPlacesX p a d cap qs _ 1 _ [v] _ 1 x _ (by rw [HX.out.1]; omega) (by omega) (by omega) (len_one (by rw [HV.out.1]; omega)) (HQ.out.ext ((ext_alloc _ _).alloc _)) (rdR_one (a := av) (n := d) (cap := cv) (by rw [← HZ.out]; simp) (HV.out.ext ((ext_alloc _ _).alloc _))) (rdR_one (a := ax) (n := (d + 2)) (cap := cx) (by rw [← HZ.out]; simp) (HX.out.ext ((ext_alloc _ _).alloc _)))) ?_
  rintro e v1 ⟨rfl, gg⟩
  replace gg := ((ext_alloc _ _).alloc _).trans gg
  rw [HC.out]
  replace E := Lib.hid (E.out.trans gg)
  replace HQ := Lib.hid (HQ.out.ext gg)
  replace HX := Lib.hid (HX.out.ext gg)
  replace HV := Lib.hid (HV.out.ext gg)
  replace C0 := Lib.hid (gg.cell (p := ⟨w.heap.size, 0, none⟩) C0.out)
  replace C1 := Lib.hid (gg.cell (p := ⟨w.heap.size, 1, none⟩) C1.out)
  clear gg
  have x00 := C0.out
  have x01 := C1.out
  go_wp2_with (fail)
  clear x00 x01
  refine Calls.mono (c_extended p a d cap qs v1 (by omega) (by omega) (by omega) (by omega) HQ.out) ?_
  rintro e v2 ⟨gE, rE, rfl, ho, gg⟩
  have RE := Lib.hid (ho.mono E.out.size)
  clear ho
  replace E := Lib.hid (E.out.trans gg)
  replace HQ := Lib.hid (HQ.out.ext gg)
  replace HX := Lib.hid (HX.out.ext gg)
  replace HV := Lib.hid (HV.out.ext gg)
  replace C0 := Lib.hid (gg.cell (p := ⟨w.heap.size, 0, none⟩) C0.out)
  replace C1 := Lib.hid (gg.cell (p := ⟨w.heap.size, 1, none⟩) C1.out)
  clear gg
  have y00 := (ext_alloc v2 (.cells #[.int .i64 p, .slice (some ⟨gE, 0, none⟩) (d + 2) rE] 26)).cell (p := ⟨w.heap.size, 0, none⟩) C0.out
  have y01 := (ext_alloc v2 (.cells #[.int .i64 p, .slice (some ⟨gE, 0, none⟩) (d + 2) rE] 26)).cell (p := ⟨w.heap.size, 1, none⟩) C1.out
  go_wp2_with (fail)
  clear y00 y01
  obtain ⟨O9, hO9⟩ : ∃ O2, O2 = v2.heap.size := ⟨_, rfl⟩
  obtain ⟨W9, hW9⟩ : ∃ W2, W2 = v2.alloc (.cells #[.int .i64 p, .slice (some ⟨gE, 0, none⟩) (d + 2) rE] 26) := ⟨_, rfl⟩
  have F0 := Lib.hid (show W9.cell? ⟨O9, 0, none⟩ = some (.int .i64 p) by rw [hW9, hO9]; simp)
  have F1 := Lib.hid (show W9.cell? ⟨O9, 1, none⟩ = some (.slice (some ⟨gE, 0, none⟩) (d + 2) rE) by rw [hW9, hO9]; simp)
  have gg : Ext v2 W9 := by rw [hW9]; exact ext_alloc _ _
  rw [← hO9, ← hW9]
  clear hO9 hW9
  replace E := Lib.hid (E.out.trans gg)
  replace HQ := Lib.hid (HQ.out.ext gg)
  replace HX := Lib.hid (HX.out.ext gg)
  replace HV := Lib.hid (HV.out.ext gg)
  replace RE := Lib.hid (RE.out.ext gg)
  replace C0 := Lib.hid (gg.cell (p := ⟨w.heap.size, 0, none⟩) C0.out)
  replace C1 := Lib.hid (gg.cell (p := ⟨w.heap.size, 1, none⟩) C1.out)
  clear gg
  refine Calls.mono (c_norm p _ (d + 2) rE (extL p qs) ax cx x W9 (by omega) (by omega) (by omega) RE.out.rd HEB.out HX.out hgx) ?_
  rintro e v3 ⟨rfl, gg⟩
  rw [← HNR.out]
  replace E := Lib.hid (E.out.trans gg)
  replace HQ := Lib.hid (HQ.out.ext gg)
  replace HX := Lib.hid (HX.out.ext gg)
  replace HV := Lib.hid (HV.out.ext gg)
  replace RE := Lib.hid (RE.out.ext gg)
  replace C0 := Lib.hid (gg.cell (p := ⟨w.heap.size, 0, none⟩) C0.out)
  replace C1 := Lib.hid (gg.cell (p := ⟨w.heap.size, 1, none⟩) C1.out)
  replace F0 := Lib.hid (gg.cell (p := ⟨O9, 0, none⟩) F0.out)
  replace F1 := Lib.hid (gg.cell (p := ⟨O9, 1, none⟩) F1.out)
  clear gg
  go_wp2_with (fail)
  go_ret2
  exact ⟨rfl, E.out⟩

set_option maxHeartbeats 4000000 in
set_option maxRecDepth 100000 in
theorem c_InvertAt_wgt (p : Int) (a : Option Addr) (d cap : Nat) (qs : List Int) (ax : Option Addr) (cx : Nat) (x : List Int) (av : Option Addr) (cv : Nat) (v : List Int) (w : World) (hs : spaceB p qs = true) (h4 : qs.length ≤ 4) (hq : RdC w a d qs) (hx : RdC w ax (d + 2) x) (hgx : Good p (d + 2) x) (hv : RdC w av d v) (hgv : Good p d v) (hz : nrmZ p qs x ≠ 0) (hw : wgtI p qs (invR p qs x v) = 0) :
    Calls Try.prog 9 #[.agg #[.int .i64 p, .slice a d cap], .slice ax (d + 2) cx, .slice av d cv] w fun e w' => e = .returned (.tuple #[.slice none 0 0, .int .i64 5]) ∧ Ext w w' := by
  have HC := Lib.hid (code18M_0 (vs := [v]) hs h4 (all_one (by rw [hq.1]; exact hgv)) (x := x) (by rw [hq.1]; exact hgx))
  have HSP := Lib.hid hs
  obtain ⟨hpr, hd1, _, hqb⟩ := space_of hs
  have hpb := prime_bd hpr
  have HPR := Lib.hid hpr
  have HQB := Lib.hid hqb
  have hql := hq.1
  rw [hql] at hd1 h4
  have HQL := Lib.hid hql
  have HEB := Lib.hid (extL_isB (p := p) (by omega) hqb)
  have HGI := Lib.hid (good_inf (p := p) (d := d) (by omega))
  have HGP := fun (u : List Int) => Lib.hid (pointL_good (p := p) (qs := qs) (v := u) (d := d) (by omega) hql)
  clear hpr hqb hql
  have hcb : ((0 : Int) != 0) = false := by simp
  have HRG := Lib.hid (invR_good (p := p) (qs := qs) (x := x) (v := v) (by omega) HQL.out)
  have HIR : Hid (invR p qs x v = reflL p (extL p qs) x (pointL p qs v) (d + 2)) := Lib.hid (by unfold invR; rw [HQL.out])
  have HNR : Hid (nrmZ p qs x = pairL p (extL p qs) x x (d + 2)) := Lib.hid (by unfold nrmZ; rw [HQL.out])
  have hnb : 0 ≤ nrmZ p qs x ∧ nrmZ p qs x < p := pairL_bd (by omega)
  have hdd : ¬ d = 0 := by omega
  obtain ⟨z, hzz⟩ : ∃ z, z = nrmZ p qs x := ⟨_, rfl⟩
  rw [← hzz] at hnb hz HNR
  clear hzz
  have hzb : (z == 0) = false := by simp [hz]
  have hzp : 0 < z := by omega
  clear hz
  obtain ⟨W, hW⟩ : ∃ W, W = w.alloc (.cells #[.int .i64 p, .slice a d cap] 26) := ⟨_, rfl⟩
  have E : Hid (Ext w W) := Lib.hid (by rw [hW]; exact ext_alloc _ _)
  have C0 : Hid (W.cell? ⟨w.heap.size, 0, none⟩ = some (.int .i64 p)) := Lib.hid (by rw [hW]; simp)
  have C1 : Hid (W.cell? ⟨w.heap.size, 1, none⟩ = some (.slice a d cap)) := Lib.hid (by rw [hW]; simp)
  have HZ : Hid (W.heap.size = w.heap.size + 1) := Lib.hid (by rw [hW]; simp)
  have HW := Lib.hid hW
  clear hW
  have HQ := Lib.hid (hq.ext E.out)
  have HX := Lib.hid (hx.ext E.out)
  have HV := Lib.hid (hv.ext E.out)
  clear hq hx hv
  go_enter Try.func9, Try.ntmps9
  have x00 := C0.out
  have x01 := C1.out
  go_wp2_with (fail)
  clear x00 x01
  rw [← HW.out]
  clear HW
  refine Calls.mono (c_checkPlacesX p a d cap qs _ 1 _ [v] _ 1 x _ (by rw [HX.out.1]; omega) (by omega) (by omega) (len_one (by rw [HV.out.1]; omega)) (HQ.out.ext ((ext_alloc _ _).alloc _)) (rdR_one (a := av) (n := d) (cap := cv) (by rw [← HZ.out]; simp) (HV.out.ext ((ext_alloc _ _).alloc _))) (rdR_one (a := ax) (n := (d + 2)) (cap := cx) (by rw [← HZ.out]; simp) (HX.out.ext ((ext_alloc _ _).alloc _)))) ?_
  rintro e v1 ⟨rfl, gg⟩
  replace gg := ((ext_alloc _ _).alloc _).trans gg
  rw [HC.out]
  replace E := Lib.hid (E.out.trans gg)
  replace HQ := Lib.hid (HQ.out.ext gg)
  replace HX := Lib.hid (HX.out.ext gg)
  replace HV := Lib.hid (HV.out.ext gg)
  replace C0 := Lib.hid (gg.cell (p := ⟨w.heap.size, 0, none⟩) C0.out)
  replace C1 := Lib.hid (gg.cell (p := ⟨w.heap.size, 1, none⟩) C1.out)
  clear gg
  have x00 := C0.out
  have x01 := C1.out
  go_wp2_with (fail)
  clear x00 x01
  refine Calls.mono (c_extended p a d cap qs v1 (by omega) (by omega) (by omega) (by omega) HQ.out) ?_
  rintro e v2 ⟨gE, rE, rfl, ho, gg⟩
  have RE := Lib.hid (ho.mono E.out.size)
  clear ho
  replace E := Lib.hid (E.out.trans gg)
  replace HQ := Lib.hid (HQ.out.ext gg)
  replace HX := Lib.hid (HX.out.ext gg)
  replace HV := Lib.hid (HV.out.ext gg)
  replace C0 := Lib.hid (gg.cell (p := ⟨w.heap.size, 0, none⟩) C0.out)
  replace C1 := Lib.hid (gg.cell (p := ⟨w.heap.size, 1, none⟩) C1.out)
  clear gg
  have y00 := (ext_alloc v2 (.cells #[.int .i64 p, .slice (some ⟨gE, 0, none⟩) (d + 2) rE] 26)).cell (p := ⟨w.heap.size, 0, none⟩) C0.out
  have y01 := (ext_alloc v2 (.cells #[.int .i64 p, .slice (some ⟨gE, 0, none⟩) (d + 2) rE] 26)).cell (p := ⟨w.heap.size, 1, none⟩) C1.out
  go_wp2_with (fail)
  clear y00 y01
  obtain ⟨O9, hO9⟩ : ∃ O2, O2 = v2.heap.size := ⟨_, rfl⟩
  obtain ⟨W9, hW9⟩ : ∃ W2, W2 = v2.alloc (.cells #[.int .i64 p, .slice (some ⟨gE, 0, none⟩) (d + 2) rE] 26) := ⟨_, rfl⟩
  have F0 := Lib.hid (show W9.cell? ⟨O9, 0, none⟩ = some (.int .i64 p) by rw [hW9, hO9]; simp)
  have F1 := Lib.hid (show W9.cell? ⟨O9, 1, none⟩ = some (.slice (some ⟨gE, 0, none⟩) (d + 2) rE) by rw [hW9, hO9]; simp)
  have gg : Ext v2 W9 := by rw [hW9]; exact ext_alloc _ _
  rw [← hO9, ← hW9]
  clear hO9 hW9
  replace E := Lib.hid (E.out.trans gg)
  replace HQ := Lib.hid (HQ.out.ext gg)
  replace HX := Lib.hid (HX.out.ext gg)
  replace HV := Lib.hid (HV.out.ext gg)
  replace RE := Lib.hid (RE.out.ext gg)
  replace C0 := Lib.hid (gg.cell (p := ⟨w.heap.size, 0, none⟩) C0.out)
  replace C1 := Lib.hid (gg.cell (p := ⟨w.heap.size, 1, none⟩) C1.out)
  clear gg
  refine Calls.mono (c_norm p _ (d + 2) rE (extL p qs) ax cx x W9 (by omega) (by omega) (by omega) RE.out.rd HEB.out HX.out hgx) ?_
  rintro e v3 ⟨rfl, gg⟩
  rw [← HNR.out]
  replace E := Lib.hid (E.out.trans gg)
  replace HQ := Lib.hid (HQ.out.ext gg)
  replace HX := Lib.hid (HX.out.ext gg)
  replace HV := Lib.hid (HV.out.ext gg)
  replace RE := Lib.hid (RE.out.ext gg)
  replace C0 := Lib.hid (gg.cell (p := ⟨w.heap.size, 0, none⟩) C0.out)
  replace C1 := Lib.hid (gg.cell (p := ⟨w.heap.size, 1, none⟩) C1.out)
  replace F0 := Lib.hid (gg.cell (p := ⟨O9, 0, none⟩) F0.out)
  replace F1 := Lib.hid (gg.cell (p := ⟨O9, 1, none⟩) F1.out)
  clear gg
  have x00 := C0.out
  have x01 := C1.out
  have x10 := F0.out
  have x11 := F1.out
  go_wp2_with (fail)
  clear x00 x01 x10 x11
  replace E := Lib.hid (E.out.trans (ext_drew v3))
  replace HQ := Lib.hid (HQ.out.ext (ext_drew v3))
  replace HX := Lib.hid (HX.out.ext (ext_drew v3))
  replace HV := Lib.hid (HV.out.ext (ext_drew v3))
  replace RE := Lib.hid (RE.out.ext (ext_drew v3))
  replace C0 := Lib.hid ((ext_drew v3).cell (p := ⟨w.heap.size, 0, none⟩) C0.out)
  replace C1 := Lib.hid ((ext_drew v3).cell (p := ⟨w.heap.size, 1, none⟩) C1.out)
  replace F0 := Lib.hid ((ext_drew v3).cell (p := ⟨O9, 0, none⟩) F0.out)
  replace F1 := Lib.hid ((ext_drew v3).cell (p := ⟨O9, 1, none⟩) F1.out)
  refine wp_region_lex [(5, .ownS w.heap.size (d + 2) (pointL p qs v)), (6, .ownS w.heap.size (d + 2) (reflL p (extL p qs) x (pointL p qs v) (d + 2))), (7, .val (.tuple #[.slice none 0 0, .bool false]))] (by kernel_rfl) (by kernel_rfl) ?_
  (refine LexW.pure (v := ?_) rfl rfl (fun w1 he => ?_) ?_; rotate_left; ( have x00 := (he.cell (p := ⟨w.heap.size, 0, none⟩) C0.out); have x01 := (he.cell (p := ⟨w.heap.size, 1, none⟩) C1.out); have x10 := (he.cell (p := ⟨O9, 0, none⟩) F0.out); have x11 := (he.cell (p := ⟨O9, 1, none⟩) F1.out); go_simp; rfl); simp only [Act.put, List.setIfInBounds_toArray, List.set_cons_zero, List.set_cons_succ])
  (refine LexW.pure (v := ?_) rfl rfl (fun w1 he => ?_) ?_; rotate_left; ( have x00 := (he.cell (p := ⟨w.heap.size, 0, none⟩) C0.out); have x01 := (he.cell (p := ⟨w.heap.size, 1, none⟩) C1.out); have x10 := (he.cell (p := ⟨O9, 0, none⟩) F0.out); have x11 := (he.cell (p := ⟨O9, 1, none⟩) F1.out); go_simp; rfl); simp only [Act.put, List.setIfInBounds_toArray, List.set_cons_zero, List.set_cons_succ])
  (refine LexW.pure (v := ?_) rfl rfl (fun w1 he => ?_) ?_; rotate_left; ( have x00 := (he.cell (p := ⟨w.heap.size, 0, none⟩) C0.out); have x01 := (he.cell (p := ⟨w.heap.size, 1, none⟩) C1.out); have x10 := (he.cell (p := ⟨O9, 0, none⟩) F0.out); have x11 := (he.cell (p := ⟨O9, 1, none⟩) F1.out); go_simp; rfl); simp only [Act.put, List.setIfInBounds_toArray, List.set_cons_zero, List.set_cons_succ])
  (refine LexW.pure (v := ?_) rfl rfl (fun w1 he => ?_) ?_; rotate_left; ( have x00 := (he.cell (p := ⟨w.heap.size, 0, none⟩) C0.out); have x01 := (he.cell (p := ⟨w.heap.size, 1, none⟩) C1.out); have x10 := (he.cell (p := ⟨O9, 0, none⟩) F0.out); have x11 := (he.cell (p := ⟨O9, 1, none⟩) F1.out); go_simp; rfl); simp only [Act.put, List.setIfInBounds_toArray, List.set_cons_zero, List.set_cons_succ])
  (refine LexW.pure (v := ?_) rfl rfl (fun w1 he => ?_) ?_; rotate_left; ( have x00 := (he.cell (p := ⟨w.heap.size, 0, none⟩) C0.out); have x01 := (he.cell (p := ⟨w.heap.size, 1, none⟩) C1.out); have x10 := (he.cell (p := ⟨O9, 0, none⟩) F0.out); have x11 := (he.cell (p := ⟨O9, 1, none⟩) F1.out); go_simp; rfl); simp only [Act.put, List.setIfInBounds_toArray, List.set_cons_zero, List.set_cons_succ])
  (refine LexW.callR (f := ?_) (args := ?_) rfl rfl (fun w1 => ?_) (fun w1 he hdep => ?_) (fun v hv => ?_); rotate_left 2; (go_simp; refine ⟨?_, ?_⟩ <;> rfl); ( refine (c_point p a d cap qs av cv v w1 (by omega) h4 HPR.out (HQ.out.ext he) HQB.out (HV.out.ext he) hgv).mono ?_; rintro e w2 ⟨g, rc, rfl, ho, g2⟩; exact ⟨_, rfl, g2, g, rc, rfl, ho.mono (Nat.le_trans E.out.size he.size)⟩); simp only [Act.put, List.setIfInBounds_toArray, List.set_cons_zero, List.set_cons_succ])
  obtain ⟨_, g33, c33, rfl, _⟩ := hv
  (refine LexW.callR (f := ?_) (args := ?_) rfl rfl (fun w1 => ?_) (fun w1 he hdep => ?_) (fun v hv => ?_); rotate_left 2; (go_simp; refine ⟨?_, ?_⟩ <;> rfl); ( obtain ⟨_, _, q33, r33⟩ : (SPred.ownS w.heap.size (d + 2) (pointL p qs v)).holds (.slice (some ⟨g33, 0, none⟩) (d + 2) c33) w1 := hdep (5, 33) (by decide +kernel); cases q33; refine (c_reflected p _ (d + 2) rE (extL p qs) ax cx x _ _ (pointL p qs v) w1 (by omega) (by omega) (by omega) (RE.out.rd.ext he) HEB.out (HX.out.ext he) hgx r33.rd (HGP v).out).mono ?_; rintro e w2 ⟨g, rc, rfl, ho, g2⟩; exact ⟨_, rfl, g2, g, rc, rfl, ho.mono (Nat.le_trans E.out.size he.size)⟩); simp only [Act.put, List.setIfInBounds_toArray, List.set_cons_zero, List.set_cons_succ])
  obtain ⟨_, g34, c34, rfl, _⟩ := hv
  (refine LexW.call (f := ?_) (args := ?_) rfl rfl (fun w1 => ?_) (fun w1 he hdep => ?_) ?_; rotate_left 2; (go_simp; refine ⟨?_, ?_⟩ <;> rfl); ( obtain ⟨_, _, q34, r34⟩ : (SPred.ownS w.heap.size (d + 2) (reflL p (extL p qs) x (pointL p qs v) (d + 2))).holds (.slice (some ⟨g34, 0, none⟩) (d + 2) c34) w1 := hdep (6, 34) (by decide +kernel); cases q34; have rr := r34; rw [← HIR.out] at rr; exact c_finite_no p a d cap qs _ _ (invR p qs x v) w1 HSP.out (by rw [HQL.out]; exact h4) (HQ.out.ext he) rr.rd HRG.out hw); simp only [Act.put, List.setIfInBounds_toArray, List.set_cons_zero, List.set_cons_succ])
  (refine LexW.pure (v := ?_) rfl rfl (fun w1 he => ?_) ?_; rotate_left; ( have x00 := (he.cell (p := ⟨w.heap.size, 0, none⟩) C0.out); have x01 := (he.cell (p := ⟨w.heap.size, 1, none⟩) C1.out); have x10 := (he.cell (p := ⟨O9, 0, none⟩) F0.out); have x11 := (he.cell (p := ⟨O9, 1, none⟩) F1.out); go_simp; rfl); simp only [Act.put, List.setIfInBounds_toArray, List.set_cons_zero, List.set_cons_succ])
  (refine LexW.pure (v := ?_) rfl rfl (fun w1 he => ?_) ?_; rotate_left; ( have x00 := (he.cell (p := ⟨w.heap.size, 0, none⟩) C0.out); have x01 := (he.cell (p := ⟨w.heap.size, 1, none⟩) C1.out); have x10 := (he.cell (p := ⟨O9, 0, none⟩) F0.out); have x11 := (he.cell (p := ⟨O9, 1, none⟩) F1.out); go_simp; rfl); simp only [Act.put, List.setIfInBounds_toArray, List.set_cons_zero, List.set_cons_succ])
  (refine LexW.pure (v := ?_) rfl rfl (fun w1 he => ?_) ?_; rotate_left; ( have x00 := (he.cell (p := ⟨w.heap.size, 0, none⟩) C0.out); have x01 := (he.cell (p := ⟨w.heap.size, 1, none⟩) C1.out); have x10 := (he.cell (p := ⟨O9, 0, none⟩) F0.out); have x11 := (he.cell (p := ⟨O9, 1, none⟩) F1.out); go_simp; rfl); simp only [Act.put, List.setIfInBounds_toArray, List.set_cons_zero, List.set_cons_succ])
  (refine LexW.pure (v := ?_) rfl rfl (fun w1 he => ?_) ?_; rotate_left; ( have x00 := (he.cell (p := ⟨w.heap.size, 0, none⟩) C0.out); have x01 := (he.cell (p := ⟨w.heap.size, 1, none⟩) C1.out); have x10 := (he.cell (p := ⟨O9, 0, none⟩) F0.out); have x11 := (he.cell (p := ⟨O9, 1, none⟩) F1.out); go_simp; rfl); simp only [Act.put, List.setIfInBounds_toArray, List.set_cons_zero, List.set_cons_succ])
  (refine LexW.pure (v := ?_) rfl rfl (fun w1 he => ?_) ?_; rotate_left; ( have x00 := (he.cell (p := ⟨w.heap.size, 0, none⟩) C0.out); have x01 := (he.cell (p := ⟨w.heap.size, 1, none⟩) C1.out); have x10 := (he.cell (p := ⟨O9, 0, none⟩) F0.out); have x11 := (he.cell (p := ⟨O9, 1, none⟩) F1.out); go_simp; rfl); simp only [Act.put, List.setIfInBounds_toArray, List.set_cons_zero, List.set_cons_succ])
  refine LexW.nil (fun w3 he hkn => ?_)
  have HE := Lib.hid he
  clear he hkn 
  rename World => v4
  replace E := Lib.hid (E.out.trans HE.out)
  replace HQ := Lib.hid (HQ.out.ext HE.out)
  replace HX := Lib.hid (HX.out.ext HE.out)
  replace HV := Lib.hid (HV.out.ext HE.out)
  replace RE := Lib.hid (RE.out.ext HE.out)
  replace C0 := Lib.hid (HE.out.cell (p := ⟨w.heap.size, 0, none⟩) C0.out)
  replace C1 := Lib.hid (HE.out.cell (p := ⟨w.heap.size, 1, none⟩) C1.out)
  replace F0 := Lib.hid (HE.out.cell (p := ⟨O9, 0, none⟩) F0.out)
  replace F1 := Lib.hid (HE.out.cell (p := ⟨O9, 1, none⟩) F1.out)
  clear HE
  go_wp2_with (fail)
  go_ret2
  exact ⟨rfl, E.out⟩

set_option maxHeartbeats 4000000 in
set_option maxRecDepth 100000 in
theorem c_InvertAt_ok (p : Int) (a : Option Addr) (d cap : Nat) (qs : List Int) (ax : Option Addr) (cx : Nat) (x : List Int) (av : Option Addr) (cv : Nat) (v : List Int) (w : World) (hs : spaceB p qs = true) (h4 : qs.length ≤ 4) (hq : RdC w a d qs) (hx : RdC w ax (d + 2) x) (hgx : Good p (d + 2) x) (hv : RdC w av d v) (hgv : Good p d v) (hz : nrmZ p qs x ≠ 0) (hw : wgtI p qs (invR p qs x v) ≠ 0) :
    Calls Try.prog 9 #[.agg #[.int .i64 p, .slice a d cap], .slice ax (d + 2) cx, .slice av d cv] w fun e w' => ∃ g rc, e = .returned (.tuple #[.slice (some ⟨g, 0, none⟩) d rc, .int .i64 0]) ∧ RdC w' (some ⟨g, 0, none⟩) d (plcL p qs (invR p qs x v)) ∧ Ext w w' := by
  have HC := Lib.hid (code18M_0 (vs := [v]) hs h4 (all_one (by rw [hq.1]; exact hgv)) (x := x) (by rw [hq.1]; exact hgx))
  have HSP := Lib.hid hs
  obtain ⟨hpr, hd1, _, hqb⟩ := space_of hs
  have hpb := prime_bd hpr
  have HPR := Lib.hid hpr
  have HQB := Lib.hid hqb
  have hql := hq.1
  rw [hql] at hd1 h4
  have HQL := Lib.hid hql
  have HEB := Lib.hid (extL_isB (p := p) (by omega) hqb)
  have HGI := Lib.hid (good_inf (p := p) (d := d) (by omega))
  have HGP := fun (u : List Int) => Lib.hid (pointL_good (p := p) (qs := qs) (v := u) (d := d) (by omega) hql)
  clear hpr hqb hql
  have hcb : ((0 : Int) != 0) = false := by simp
  have HRG := Lib.hid (invR_good (p := p) (qs := qs) (x := x) (v := v) (by omega) HQL.out)
  have HIR : Hid (invR p qs x v = reflL p (extL p qs) x (pointL p qs v) (d + 2)) := Lib.hid (by unfold invR; rw [HQL.out])
  have HNR : Hid (nrmZ p qs x = pairL p (extL p qs) x x (d + 2)) := Lib.hid (by unfold nrmZ; rw [HQL.out])
  have hnb : 0 ≤ nrmZ p qs x ∧ nrmZ p qs x < p := pairL_bd (by omega)
  have hdd : ¬ d = 0 := by omega
  obtain ⟨z, hzz⟩ : ∃ z, z = nrmZ p qs x := ⟨_, rfl⟩
  rw [← hzz] at hnb hz HNR
  clear hzz
  have hzb : (z == 0) = false := by simp [hz]
  have hzp : 0 < z := by omega
  clear hz
  obtain ⟨W, hW⟩ : ∃ W, W = w.alloc (.cells #[.int .i64 p, .slice a d cap] 26) := ⟨_, rfl⟩
  have E : Hid (Ext w W) := Lib.hid (by rw [hW]; exact ext_alloc _ _)
  have C0 : Hid (W.cell? ⟨w.heap.size, 0, none⟩ = some (.int .i64 p)) := Lib.hid (by rw [hW]; simp)
  have C1 : Hid (W.cell? ⟨w.heap.size, 1, none⟩ = some (.slice a d cap)) := Lib.hid (by rw [hW]; simp)
  have HZ : Hid (W.heap.size = w.heap.size + 1) := Lib.hid (by rw [hW]; simp)
  have HW := Lib.hid hW
  clear hW
  have HQ := Lib.hid (hq.ext E.out)
  have HX := Lib.hid (hx.ext E.out)
  have HV := Lib.hid (hv.ext E.out)
  clear hq hx hv
  go_enter Try.func9, Try.ntmps9
  have x00 := C0.out
  have x01 := C1.out
  go_wp2_with (fail)
  clear x00 x01
  rw [← HW.out]
  clear HW
  refine Calls.mono (c_checkPlacesX p a d cap qs _ 1 _ [v] _ 1 x _ (by rw [HX.out.1]; omega) (by omega) (by omega) (len_one (by rw [HV.out.1]; omega)) (HQ.out.ext ((ext_alloc _ _).alloc _)) (rdR_one (a := av) (n := d) (cap := cv) (by rw [← HZ.out]; simp) (HV.out.ext ((ext_alloc _ _).alloc _))) (rdR_one (a := ax) (n := (d + 2)) (cap := cx) (by rw [← HZ.out]; simp) (HX.out.ext ((ext_alloc _ _).alloc _)))) ?_
  rintro e v1 ⟨rfl, gg⟩
  replace gg := ((ext_alloc _ _).alloc _).trans gg
  rw [HC.out]
  replace E := Lib.hid (E.out.trans gg)
  replace HQ := Lib.hid (HQ.out.ext gg)
  replace HX := Lib.hid (HX.out.ext gg)
  replace HV := Lib.hid (HV.out.ext gg)
  replace C0 := Lib.hid (gg.cell (p := ⟨w.heap.size, 0, none⟩) C0.out)
  replace C1 := Lib.hid (gg.cell (p := ⟨w.heap.size, 1, none⟩) C1.out)
  clear gg
  have x00 := C0.out
  have x01 := C1.out
  go_wp2_with (fail)
  clear x00 x01
  refine Calls.mono (c_extended p a d cap qs v1 (by omega) (by omega) (by omega) (by omega) HQ.out) ?_
  rintro e v2 ⟨gE, rE, rfl, ho, gg⟩
  have RE := Lib.hid (ho.mono E.out.size)
  clear ho
  replace E := Lib.hid (E.out.trans gg)
  replace HQ := Lib.hid (HQ.out.ext gg)
  replace HX := Lib.hid (HX.out.ext gg)
  replace HV := Lib.hid (HV.out.ext gg)
  replace C0 := Lib.hid (gg.cell (p := ⟨w.heap.size, 0, none⟩) C0.out)
  replace C1 := Lib.hid (gg.cell (p := ⟨w.heap.size, 1, none⟩) C1.out)
  clear gg
  have y00 := (ext_alloc v2 (.cells #[.int .i64 p, .slice (some ⟨gE, 0, none⟩) (d + 2) rE] 26)).cell (p := ⟨w.heap.size, 0, none⟩) C0.out
  have y01 := (ext_alloc v2 (.cells #[.int .i64 p, .slice (some ⟨gE, 0, none⟩) (d + 2) rE] 26)).cell (p := ⟨w.heap.size, 1, none⟩) C1.out
  go_wp2_with (fail)
  clear y00 y01
  obtain ⟨O9, hO9⟩ : ∃ O2, O2 = v2.heap.size := ⟨_, rfl⟩
  obtain ⟨W9, hW9⟩ : ∃ W2, W2 = v2.alloc (.cells #[.int .i64 p, .slice (some ⟨gE, 0, none⟩) (d + 2) rE] 26) := ⟨_, rfl⟩
  have F0 := Lib.hid (show W9.cell? ⟨O9, 0, none⟩ = some (.int .i64 p) by rw [hW9, hO9]; simp)
  have F1 := Lib.hid (show W9.cell? ⟨O9, 1, none⟩ = some (.slice (some ⟨gE, 0, none⟩) (d + 2) rE) by rw [hW9, hO9]; simp)
  have gg : Ext v2 W9 := by rw [hW9]; exact ext_alloc _ _
  rw [← hO9, ← hW9]
  clear hO9 hW9
  replace E := Lib.hid (E.out.trans gg)
  replace HQ := Lib.hid (HQ.out.ext gg)
  replace HX := Lib.hid (HX.out.ext gg)
  replace HV := Lib.hid (HV.out.ext gg)
  replace RE := Lib.hid (RE.out.ext gg)
  replace C0 := Lib.hid (gg.cell (p := ⟨w.heap.size, 0, none⟩) C0.out)
  replace C1 := Lib.hid (gg.cell (p := ⟨w.heap.size, 1, none⟩) C1.out)
  clear gg
  refine Calls.mono (c_norm p _ (d + 2) rE (extL p qs) ax cx x W9 (by omega) (by omega) (by omega) RE.out.rd HEB.out HX.out hgx) ?_
  rintro e v3 ⟨rfl, gg⟩
  rw [← HNR.out]
  replace E := Lib.hid (E.out.trans gg)
  replace HQ := Lib.hid (HQ.out.ext gg)
  replace HX := Lib.hid (HX.out.ext gg)
  replace HV := Lib.hid (HV.out.ext gg)
  replace RE := Lib.hid (RE.out.ext gg)
  replace C0 := Lib.hid (gg.cell (p := ⟨w.heap.size, 0, none⟩) C0.out)
  replace C1 := Lib.hid (gg.cell (p := ⟨w.heap.size, 1, none⟩) C1.out)
  replace F0 := Lib.hid (gg.cell (p := ⟨O9, 0, none⟩) F0.out)
  replace F1 := Lib.hid (gg.cell (p := ⟨O9, 1, none⟩) F1.out)
  clear gg
  have x00 := C0.out
  have x01 := C1.out
  have x10 := F0.out
  have x11 := F1.out
  go_wp2_with (fail)
  clear x00 x01 x10 x11
  replace E := Lib.hid (E.out.trans (ext_drew v3))
  replace HQ := Lib.hid (HQ.out.ext (ext_drew v3))
  replace HX := Lib.hid (HX.out.ext (ext_drew v3))
  replace HV := Lib.hid (HV.out.ext (ext_drew v3))
  replace RE := Lib.hid (RE.out.ext (ext_drew v3))
  replace C0 := Lib.hid ((ext_drew v3).cell (p := ⟨w.heap.size, 0, none⟩) C0.out)
  replace C1 := Lib.hid ((ext_drew v3).cell (p := ⟨w.heap.size, 1, none⟩) C1.out)
  replace F0 := Lib.hid ((ext_drew v3).cell (p := ⟨O9, 0, none⟩) F0.out)
  replace F1 := Lib.hid ((ext_drew v3).cell (p := ⟨O9, 1, none⟩) F1.out)
  refine wp_region_lex [(5, .ownS w.heap.size (d + 2) (pointL p qs v)), (6, .ownS w.heap.size (d + 2) (reflL p (extL p qs) x (pointL p qs v) (d + 2))), (7, .tupB w.heap.size (d + 2) (finL p qs (invR p qs x v)))] (by kernel_rfl) (by kernel_rfl) ?_
  (refine LexW.pure (v := ?_) rfl rfl (fun w1 he => ?_) ?_; rotate_left; ( have x00 := (he.cell (p := ⟨w.heap.size, 0, none⟩) C0.out); have x01 := (he.cell (p := ⟨w.heap.size, 1, none⟩) C1.out); have x10 := (he.cell (p := ⟨O9, 0, none⟩) F0.out); have x11 := (he.cell (p := ⟨O9, 1, none⟩) F1.out); go_simp; rfl); simp only [Act.put, List.setIfInBounds_toArray, List.set_cons_zero, List.set_cons_succ])
  (refine LexW.pure (v := ?_) rfl rfl (fun w1 he => ?_) ?_; rotate_left; ( have x00 := (he.cell (p := ⟨w.heap.size, 0, none⟩) C0.out); have x01 := (he.cell (p := ⟨w.heap.size, 1, none⟩) C1.out); have x10 := (he.cell (p := ⟨O9, 0, none⟩) F0.out); have x11 := (he.cell (p := ⟨O9, 1, none⟩) F1.out); go_simp; rfl); simp only [Act.put, List.setIfInBounds_toArray, List.set_cons_zero, List.set_cons_succ])
  (refine LexW.pure (v := ?_) rfl rfl (fun w1 he => ?_) ?_; rotate_left; ( have x00 := (he.cell (p := ⟨w.heap.size, 0, none⟩) C0.out); have x01 := (he.cell (p := ⟨w.heap.size, 1, none⟩) C1.out); have x10 := (he.cell (p := ⟨O9, 0, none⟩) F0.out); have x11 := (he.cell (p := ⟨O9, 1, none⟩) F1.out); go_simp; rfl); simp only [Act.put, List.setIfInBounds_toArray, List.set_cons_zero, List.set_cons_succ])
  (refine LexW.pure (v := ?_) rfl rfl (fun w1 he => ?_) ?_; rotate_left; ( have x00 := (he.cell (p := ⟨w.heap.size, 0, none⟩) C0.out); have x01 := (he.cell (p := ⟨w.heap.size, 1, none⟩) C1.out); have x10 := (he.cell (p := ⟨O9, 0, none⟩) F0.out); have x11 := (he.cell (p := ⟨O9, 1, none⟩) F1.out); go_simp; rfl); simp only [Act.put, List.setIfInBounds_toArray, List.set_cons_zero, List.set_cons_succ])
  (refine LexW.pure (v := ?_) rfl rfl (fun w1 he => ?_) ?_; rotate_left; ( have x00 := (he.cell (p := ⟨w.heap.size, 0, none⟩) C0.out); have x01 := (he.cell (p := ⟨w.heap.size, 1, none⟩) C1.out); have x10 := (he.cell (p := ⟨O9, 0, none⟩) F0.out); have x11 := (he.cell (p := ⟨O9, 1, none⟩) F1.out); go_simp; rfl); simp only [Act.put, List.setIfInBounds_toArray, List.set_cons_zero, List.set_cons_succ])
  (refine LexW.callR (f := ?_) (args := ?_) rfl rfl (fun w1 => ?_) (fun w1 he hdep => ?_) (fun v hv => ?_); rotate_left 2; (go_simp; refine ⟨?_, ?_⟩ <;> rfl); ( refine (c_point p a d cap qs av cv v w1 (by omega) h4 HPR.out (HQ.out.ext he) HQB.out (HV.out.ext he) hgv).mono ?_; rintro e w2 ⟨g, rc, rfl, ho, g2⟩; exact ⟨_, rfl, g2, g, rc, rfl, ho.mono (Nat.le_trans E.out.size he.size)⟩); simp only [Act.put, List.setIfInBounds_toArray, List.set_cons_zero, List.set_cons_succ])
  obtain ⟨_, g33, c33, rfl, _⟩ := hv
  (refine LexW.callR (f := ?_) (args := ?_) rfl rfl (fun w1 => ?_) (fun w1 he hdep => ?_) (fun v hv => ?_); rotate_left 2; (go_simp; refine ⟨?_, ?_⟩ <;> rfl); ( obtain ⟨_, _, q33, r33⟩ : (SPred.ownS w.heap.size (d + 2) (pointL p qs v)).holds (.slice (some ⟨g33, 0, none⟩) (d + 2) c33) w1 := hdep (5, 33) (by decide +kernel); cases q33; refine (c_reflected p _ (d + 2) rE (extL p qs) ax cx x _ _ (pointL p qs v) w1 (by omega) (by omega) (by omega) (RE.out.rd.ext he) HEB.out (HX.out.ext he) hgx r33.rd (HGP v).out).mono ?_; rintro e w2 ⟨g, rc, rfl, ho, g2⟩; exact ⟨_, rfl, g2, g, rc, rfl, ho.mono (Nat.le_trans E.out.size he.size)⟩); simp only [Act.put, List.setIfInBounds_toArray, List.set_cons_zero, List.set_cons_succ])
  obtain ⟨_, g34, c34, rfl, _⟩ := hv
  (refine LexW.callR (f := ?_) (args := ?_) rfl rfl (fun w1 => ?_) (fun w1 he hdep => ?_) (fun v hv => ?_); rotate_left 2; (go_simp; refine ⟨?_, ?_⟩ <;> rfl); ( obtain ⟨_, _, q34, r34⟩ : (SPred.ownS w.heap.size (d + 2) (reflL p (extL p qs) x (pointL p qs v) (d + 2))).holds (.slice (some ⟨g34, 0, none⟩) (d + 2) c34) w1 := hdep (6, 34) (by decide +kernel); cases q34; refine (c_finite_yes p a d cap qs _ _ (invR p qs x v) w1 HSP.out (by rw [HQL.out]; exact h4) (HQ.out.ext he) (by have rr := r34; rw [← HIR.out] at rr; exact rr.rd) HRG.out hw).mono ?_; rintro e w2 ⟨g, rc, rfl, ho, g2⟩; exact ⟨_, rfl, g2, g, rc, rfl, ho.mono (Nat.le_trans E.out.size he.size)⟩); simp only [Act.put, List.setIfInBounds_toArray, List.set_cons_zero, List.set_cons_succ])
  obtain ⟨_, g35, c35, rfl, _⟩ := hv
  (refine LexW.pure (v := ?_) rfl rfl (fun w1 he => ?_) ?_; rotate_left; ( have x00 := (he.cell (p := ⟨w.heap.size, 0, none⟩) C0.out); have x01 := (he.cell (p := ⟨w.heap.size, 1, none⟩) C1.out); have x10 := (he.cell (p := ⟨O9, 0, none⟩) F0.out); have x11 := (he.cell (p := ⟨O9, 1, none⟩) F1.out); go_simp; rfl); simp only [Act.put, List.setIfInBounds_toArray, List.set_cons_zero, List.set_cons_succ])
  (refine LexW.pure (v := ?_) rfl rfl (fun w1 he => ?_) ?_; rotate_left; ( have x00 := (he.cell (p := ⟨w.heap.size, 0, none⟩) C0.out); have x01 := (he.cell (p := ⟨w.heap.size, 1, none⟩) C1.out); have x10 := (he.cell (p := ⟨O9, 0, none⟩) F0.out); have x11 := (he.cell (p := ⟨O9, 1, none⟩) F1.out); go_simp; rfl); simp only [Act.put, List.setIfInBounds_toArray, List.set_cons_zero, List.set_cons_succ])
  (refine LexW.pure (v := ?_) rfl rfl (fun w1 he => ?_) ?_; rotate_left; ( have x00 := (he.cell (p := ⟨w.heap.size, 0, none⟩) C0.out); have x01 := (he.cell (p := ⟨w.heap.size, 1, none⟩) C1.out); have x10 := (he.cell (p := ⟨O9, 0, none⟩) F0.out); have x11 := (he.cell (p := ⟨O9, 1, none⟩) F1.out); go_simp; rfl); simp only [Act.put, List.setIfInBounds_toArray, List.set_cons_zero, List.set_cons_succ])
  (refine LexW.pure (v := ?_) rfl rfl (fun w1 he => ?_) ?_; rotate_left; ( have x00 := (he.cell (p := ⟨w.heap.size, 0, none⟩) C0.out); have x01 := (he.cell (p := ⟨w.heap.size, 1, none⟩) C1.out); have x10 := (he.cell (p := ⟨O9, 0, none⟩) F0.out); have x11 := (he.cell (p := ⟨O9, 1, none⟩) F1.out); go_simp; rfl); simp only [Act.put, List.setIfInBounds_toArray, List.set_cons_zero, List.set_cons_succ])
  (refine LexW.pure (v := ?_) rfl rfl (fun w1 he => ?_) ?_; rotate_left; ( have x00 := (he.cell (p := ⟨w.heap.size, 0, none⟩) C0.out); have x01 := (he.cell (p := ⟨w.heap.size, 1, none⟩) C1.out); have x10 := (he.cell (p := ⟨O9, 0, none⟩) F0.out); have x11 := (he.cell (p := ⟨O9, 1, none⟩) F1.out); go_simp; rfl); simp only [Act.put, List.setIfInBounds_toArray, List.set_cons_zero, List.set_cons_succ])
  refine LexW.nil (fun w3 he hkn => ?_)
  obtain ⟨_, _, q35, r35⟩ : (SPred.tupB w.heap.size (d + 2) (finL p qs (invR p qs x v))).holds (.tuple #[.slice (some ⟨g35, 0, none⟩) (d + 2) c35, .bool true]) w3 := hkn (7, _) (by simp)
  cases q35
  have R35 := Lib.hid r35
  have HE := Lib.hid he
  clear he hkn r35
  rename World => v4
  replace E := Lib.hid (E.out.trans HE.out)
  replace HQ := Lib.hid (HQ.out.ext HE.out)
  replace HX := Lib.hid (HX.out.ext HE.out)
  replace HV := Lib.hid (HV.out.ext HE.out)
  replace RE := Lib.hid (RE.out.ext HE.out)
  replace C0 := Lib.hid (HE.out.cell (p := ⟨w.heap.size, 0, none⟩) C0.out)
  replace C1 := Lib.hid (HE.out.cell (p := ⟨w.heap.size, 1, none⟩) C1.out)
  replace F0 := Lib.hid (HE.out.cell (p := ⟨O9, 0, none⟩) F0.out)
  replace F1 := Lib.hid (HE.out.cell (p := ⟨O9, 1, none⟩) F1.out)
  clear HE
  have hkF : d + 2 ≤ c35 := R35.out.capLe (by omega)
  have hkF1 : d ≤ c35 := by omega
  have x00 := C0.out
  have x01 := C1.out
  have x10 := F0.out
  have x11 := F1.out
  go_wp2_with (fail)
  clear x00 x01 x10 x11
  replace E := Lib.hid (E.out.trans (ext_drew v4))
  replace HQ := Lib.hid (HQ.out.ext (ext_drew v4))
  replace HX := Lib.hid (HX.out.ext (ext_drew v4))
  replace HV := Lib.hid (HV.out.ext (ext_drew v4))
  replace RE := Lib.hid (RE.out.ext (ext_drew v4))
  replace R35 := Lib.hid (R35.out.ext (ext_drew v4))
  replace C0 := Lib.hid ((ext_drew v4).cell (p := ⟨w.heap.size, 0, none⟩) C0.out)
  replace C1 := Lib.hid ((ext_drew v4).cell (p := ⟨w.heap.size, 1, none⟩) C1.out)
  replace F0 := Lib.hid ((ext_drew v4).cell (p := ⟨O9, 0, none⟩) F0.out)
  replace F1 := Lib.hid ((ext_drew v4).cell (p := ⟨O9, 1, none⟩) F1.out)
  refine wp_region_lex [(2, .val (.int .i64 (d : Int))), (4, .val (.int .i64 (d : Int)))] (by kernel_rfl) (by kernel_rfl) ?_
  (refine LexW.pure (v := ?_) rfl rfl (fun w1 he => ?_) ?_; rotate_left; ( have x00 := (he.cell (p := ⟨w.heap.size, 0, none⟩) C0.out); have x01 := (he.cell (p := ⟨w.heap.size, 1, none⟩) C1.out); have x10 := (he.cell (p := ⟨O9, 0, none⟩) F0.out); have x11 := (he.cell (p := ⟨O9, 1, none⟩) F1.out); go_simp; rfl); simp only [Act.put, List.setIfInBounds_toArray, List.set_cons_zero, List.set_cons_succ])
  (refine LexW.pure (v := ?_) rfl rfl (fun w1 he => ?_) ?_; rotate_left; ( have x00 := (he.cell (p := ⟨w.heap.size, 0, none⟩) C0.out); have x01 := (he.cell (p := ⟨w.heap.size, 1, none⟩) C1.out); have x10 := (he.cell (p := ⟨O9, 0, none⟩) F0.out); have x11 := (he.cell (p := ⟨O9, 1, none⟩) F1.out); go_simp; rfl); simp only [Act.put, List.setIfInBounds_toArray, List.set_cons_zero, List.set_cons_succ])
  (refine LexW.call (f := ?_) (args := ?_) rfl rfl (fun w1 => ?_) (fun w1 he hdep => ?_) ?_; rotate_left 2; (go_simp; refine ⟨?_, ?_⟩ <;> rfl); ( exact c_dim _ _ _ _ _); simp only [Act.put, List.setIfInBounds_toArray, List.set_cons_zero, List.set_cons_succ])
  (refine LexW.pure (v := ?_) rfl rfl (fun w1 he => ?_) ?_; rotate_left; ( have x00 := (he.cell (p := ⟨w.heap.size, 0, none⟩) C0.out); have x01 := (he.cell (p := ⟨w.heap.size, 1, none⟩) C1.out); have x10 := (he.cell (p := ⟨O9, 0, none⟩) F0.out); have x11 := (he.cell (p := ⟨O9, 1, none⟩) F1.out); go_simp; rfl); simp only [Act.put, List.setIfInBounds_toArray, List.set_cons_zero, List.set_cons_succ])
  (refine LexW.call (f := ?_) (args := ?_) rfl rfl (fun w1 => ?_) (fun w1 he hdep => ?_) ?_; rotate_left 2; (go_simp; refine ⟨?_, ?_⟩ <;> rfl); ( exact c_dim _ _ _ _ _); simp only [Act.put, List.setIfInBounds_toArray, List.set_cons_zero, List.set_cons_succ])
  (refine LexW.pure (v := ?_) rfl rfl (fun w1 he => ?_) ?_; rotate_left; ( have x00 := (he.cell (p := ⟨w.heap.size, 0, none⟩) C0.out); have x01 := (he.cell (p := ⟨w.heap.size, 1, none⟩) C1.out); have x10 := (he.cell (p := ⟨O9, 0, none⟩) F0.out); have x11 := (he.cell (p := ⟨O9, 1, none⟩) F1.out); go_simp; rfl); simp only [Act.put, List.setIfInBounds_toArray, List.set_cons_zero, List.set_cons_succ])
  (refine LexW.pure (v := ?_) rfl rfl (fun w1 he => ?_) ?_; rotate_left; ( have x00 := (he.cell (p := ⟨w.heap.size, 0, none⟩) C0.out); have x01 := (he.cell (p := ⟨w.heap.size, 1, none⟩) C1.out); have x10 := (he.cell (p := ⟨O9, 0, none⟩) F0.out); have x11 := (he.cell (p := ⟨O9, 1, none⟩) F1.out); go_simp; rfl); simp only [Act.put, List.setIfInBounds_toArray, List.set_cons_zero, List.set_cons_succ])
  (refine LexW.pure (v := ?_) rfl rfl (fun w1 he => ?_) ?_; rotate_left; ( have x00 := (he.cell (p := ⟨w.heap.size, 0, none⟩) C0.out); have x01 := (he.cell (p := ⟨w.heap.size, 1, none⟩) C1.out); have x10 := (he.cell (p := ⟨O9, 0, none⟩) F0.out); have x11 := (he.cell (p := ⟨O9, 1, none⟩) F1.out); go_simp; rfl); simp only [Act.put, List.setIfInBounds_toArray, List.set_cons_zero, List.set_cons_succ])
  refine LexW.nil (fun w3 he hkn => ?_)
  have HE := Lib.hid he
  clear he hkn 
  rename World => v5
  replace E := Lib.hid (E.out.trans HE.out)
  replace HQ := Lib.hid (HQ.out.ext HE.out)
  replace HX := Lib.hid (HX.out.ext HE.out)
  replace HV := Lib.hid (HV.out.ext HE.out)
  replace RE := Lib.hid (RE.out.ext HE.out)
  replace R35 := Lib.hid (R35.out.ext HE.out)
  replace C0 := Lib.hid (HE.out.cell (p := ⟨w.heap.size, 0, none⟩) C0.out)
  replace C1 := Lib.hid (HE.out.cell (p := ⟨w.heap.size, 1, none⟩) C1.out)
  replace F0 := Lib.hid (HE.out.cell (p := ⟨O9, 0, none⟩) F0.out)
  replace F1 := Lib.hid (HE.out.cell (p := ⟨O9, 1, none⟩) F1.out)
  clear HE
  have HPL : Hid (plcL p qs (invR p qs x v) = (finL p qs (invR p qs x v)).take d) := Lib.hid (by unfold plcL; rw [HQL.out])
  go_wp2_with (fail)
  go_ret2
  exact ⟨g35, _, rfl, by rw [HPL.out]; exact rdC_takeO R35.out (by omega), E.out⟩

set_option maxHeartbeats 4000000 in
set_option maxRecDepth 100000 in
theorem s_InvertAt_bad (p : Int) (a : Option Addr) (d cap : Nat) (qs : List Int) (ax : Option Addr) (m cx : Nat) (x : List Int) (av : Option Addr) (n cv : Nat) (v : List Int) (w : World) (hd : d ≤ 4194304) (hm : m ≤ 4194304) (hn : n ≤ 4194304) (hq : RdC w a d qs) (hx : RdC w ax m x) (hv : RdC w av n v) (hc : code18M p qs x [v] ≠ 0) :
    Calls Try.prog 10 #[.agg #[.int .i64 p, .slice a d cap], .slice ax m cx, .slice av n cv] w fun e w' => e = .returned (.tuple #[.slice none 0 0, .int .i64 (code18M p qs x [v])]) ∧ Ext w w' := by
  have hcb : (code18M p qs x [v] != 0) = true := by simp [hc]
  clear hc
  obtain ⟨W, hW⟩ : ∃ W, W = w.alloc (.cells #[.int .i64 p, .slice a d cap] 26) := ⟨_, rfl⟩
  have E : Hid (Ext w W) := Lib.hid (by rw [hW]; exact ext_alloc _ _)
  have C0 : Hid (W.cell? ⟨w.heap.size, 0, none⟩ = some (.int .i64 p)) := Lib.hid (by rw [hW]; simp)
  have C1 : Hid (W.cell? ⟨w.heap.size, 1, none⟩ = some (.slice a d cap)) := Lib.hid (by rw [hW]; simp)
  have HZ : Hid (W.heap.size = w.heap.size + 1) := Lib.hid (by rw [hW]; simp)
  have HW := Lib.hid hW
  clear hW
  have HQ := Lib.hid (hq.ext E.out)
  have HX := Lib.hid (hx.ext E.out)
  have HV := Lib.hid (hv.ext E.out)
  clear hq hx hv
  go_enter Try.func10, Try.ntmps10
  have x00 := C0.out
  have x01 := C1.out
  go_wp2_with (fail)
  clear x00 x01
  rw [← HW.out]
  clear HW
  refine Calls.mono (s_more18 p a d cap qs ax m cx x v _ _ _ hd hm (HQ.out.ext (ext_alloc _ _)) (HX.out.ext (ext_alloc _ _)) (rdR_one (a := av) (n := n) (cap := cv) (by rw [← HZ.out]; simp) (HV.out.ext (ext_alloc _ _))) (by rw [HV.out.1]; omega)) ?_
  rintro e v1 ⟨rfl, gg⟩
  replace gg := (ext_alloc _ _).trans gg
  replace E := Lib.hid (E.out.trans gg)
  replace HQ := Lib.hid (HQ.out.ext gg)
  replace HX := Lib.hid (HX.out.ext gg)
  replace HV := Lib.hid (HV.out.ext gg)
  replace C0 := Lib.hid (gg.cell (p := ⟨w.heap.size, 0, none⟩) C0.out)
  replace C1 := Lib.hid (gg.cell (p := ⟨w.heap.size, 1, none⟩) C1.out)
  clear gg
  go_wp2_with (fail)
  go_ret2
  exact ⟨rfl, E.out⟩

set_option maxHeartbeats 4000000 in
set_option maxRecDepth 100000 in
theorem s_InvertAt_nrm (p : Int) (a : Option Addr) (d cap : Nat) (qs : List Int) (ax : Option Addr) (cx : Nat) (x : List Int) (av : Option Addr) (cv : Nat) (v : List Int) (w : World) (hs : spaceB p qs = true) (h4 : qs.length ≤ 4) (hq : RdC w a d qs) (hx : RdC w ax (d + 2) x) (hgx : Good p (d + 2) x) (hv : RdC w av d v) (hgv : Good p d v) (hz : nrmZ p qs x = 0) :
    Calls Try.prog 10 #[.agg #[.int .i64 p, .slice a d cap], .slice ax (d + 2) cx, .slice av d cv] w fun e w' => e = .returned (.tuple #[.slice none 0 0, .int .i64 5]) ∧ Ext w w' := by
  have HC := Lib.hid (code18M_0 (vs := [v]) hs h4 (all_one (by rw [hq.1]; exact hgv)) (x := x) (by rw [hq.1]; exact hgx))
  have HSP := Lib.hid hs
  obtain ⟨hpr, hd1, _, hqb⟩ := space_of hs
  have hpb := prime_bd hpr
  have HPR := Lib.hid hpr
  have HQB := Lib.hid hqb
  have hql := hq.1
  rw [hql] at hd1 h4
  have HQL := Lib.hid hql
  have HEB := Lib.hid (extL_isB (p := p) (by omega) hqb)
  have HGI := Lib.hid (good_inf (p := p) (d := d) (by omega))
  have HGP := fun (u : List Int) => Lib.hid (pointL_good (p := p) (qs := qs) (v := u) (d := d) (by omega) hql)
  clear hpr hqb hql
  have hcb : ((0 : Int) != 0) = false := by simp
  have HRG := Lib.hid (invR_good (p := p) (qs := qs) (x := x) (v := v) (by omega) HQL.out)
  have HIR : Hid (invR p qs x v = reflL p (extL p qs) x (pointL p qs v) (d + 2)) := Lib.hid (by unfold invR; rw [HQL.out])
  have HNR : Hid (nrmZ p qs x = pairL p (extL p qs) x x (d + 2)) := Lib.hid (by unfold nrmZ; rw [HQL.out])
  have hnb : 0 ≤ nrmZ p qs x ∧ nrmZ p qs x < p := pairL_bd (by omega)
  have hdd : ¬ d = 0 := by omega
  obtain ⟨z, hzz⟩ : ∃ z, z = nrmZ p qs x := ⟨_, rfl⟩
  rw [← hzz] at hnb hz HNR
  clear hzz
  subst hz
  have hzb : ((0 : Int) == 0) = true := by simp
  obtain ⟨W, hW⟩ : ∃ W, W = w.alloc (.cells #[.int .i64 p, .slice a d cap] 26) := ⟨_, rfl⟩
  have E : Hid (Ext w W) := Lib.hid (by rw [hW]; exact ext_alloc _ _)
  have C0 : Hid (W.cell? ⟨w.heap.size, 0, none⟩ = some (.int .i64 p)) := Lib.hid (by rw [hW]; simp)
  have C1 : Hid (W.cell? ⟨w.heap.size, 1, none⟩ = some (.slice a d cap)) := Lib.hid (by rw [hW]; simp)
  have HZ : Hid (W.heap.size = w.heap.size + 1) := Lib.hid (by rw [hW]; simp)
  have HW := Lib.hid hW
  clear hW
  have HQ := Lib.hid (hq.ext E.out)
  have HX := Lib.hid (hx.ext E.out)
  have HV := Lib.hid (hv.ext E.out)
  clear hq hx hv
  go_enter Try.func10, Try.ntmps10
  have x00 := C0.out
  have x01 := C1.out
  go_wp2_with (fail)
  clear x00 x01
  rw [← HW.out]
  clear HW
  refine Calls.mono (s_more18 p a d cap qs ax (d + 2) cx x v _ _ _ (by omega) (by omega) (HQ.out.ext (ext_alloc _ _)) (HX.out.ext (ext_alloc _ _)) (rdR_one (a := av) (n := d) (cap := cv) (by rw [← HZ.out]; simp) (HV.out.ext (ext_alloc _ _))) (by rw [HV.out.1]; omega)) ?_
  rintro e v1 ⟨rfl, gg⟩
  replace gg := (ext_alloc _ _).trans gg
  rw [HC.out]
  replace E := Lib.hid (E.out.trans gg)
  replace HQ := Lib.hid (HQ.out.ext gg)
  replace HX := Lib.hid (HX.out.ext gg)
  replace HV := Lib.hid (HV.out.ext gg)
  replace C0 := Lib.hid (gg.cell (p := ⟨w.heap.size, 0, none⟩) C0.out)
  replace C1 := Lib.hid (gg.cell (p := ⟨w.heap.size, 1, none⟩) C1.out)
  clear gg
  have x00 := C0.out
  have x01 := C1.out
  go_wp2_with (fail)
  clear x00 x01
  refine Calls.mono (s_extended p a d cap qs v1 (by omega) (by omega) (by omega) (by omega) HQ.out) ?_
  rintro e v2 ⟨gE, rE, rfl, ho, gg⟩
  have RE := Lib.hid (ho.mono E.out.size)
  clear ho
  replace E := Lib.hid (E.out.trans gg)
  replace HQ := Lib.hid (HQ.out.ext gg)
  replace HX := Lib.hid (HX.out.ext gg)
  replace HV := Lib.hid (HV.out.ext gg)
  replace C0 := Lib.hid (gg.cell (p := ⟨w.heap.size, 0, none⟩) C0.out)
  replace C1 := Lib.hid (gg.cell (p := ⟨w.heap.size, 1, none⟩) C1.out)
  clear gg
  have y00 := (ext_alloc v2 (.cells #[.int .i64 p, .slice (some ⟨gE, 0, none⟩) (d + 2) rE] 26)).cell (p := ⟨w.heap.size, 0, none⟩) C0.out
  have y01 := (ext_alloc v2 (.cells #[.int .i64 p, .slice (some ⟨gE, 0, none⟩) (d + 2) rE] 26)).cell (p := ⟨w.heap.size, 1, none⟩) C1.out
  go_wp2_with (fail)
  clear y00 y01
  obtain ⟨O9, hO9⟩ : ∃ O2, O2 = v2.heap.size := ⟨_, rfl⟩
  obtain ⟨W9, hW9⟩ : ∃ W2, W2 = v2.alloc (.cells #[.int .i64 p, .slice (some ⟨gE, 0, none⟩) (d + 2) rE] 26) := ⟨_, rfl⟩
  have F0 := Lib.hid (show W9.cell? ⟨O9, 0, none⟩ = some (.int .i64 p) by rw [hW9, hO9]; simp)
  have F1 := Lib.hid (show W9.cell? ⟨O9, 1, none⟩ = some (.slice (some ⟨gE, 0, none⟩) (d + 2) rE) by rw [hW9, hO9]; simp)
  have gg : Ext v2 W9 := by rw [hW9]; exact ext_alloc _ _
  rw [← hO9, ← hW9]
  clear hO9 hW9
  replace E := Lib.hid (E.out.trans gg)
  replace HQ := Lib.hid (HQ.out.ext gg)
  replace HX := Lib.hid (HX.out.ext gg)
  replace HV := Lib.hid (HV.out.ext gg)
  replace RE := Lib.hid (RE.out.ext gg)
  replace C0 := Lib.hid (gg.cell (p := ⟨w.heap.size, 0, none⟩) C0.out)
  replace C1 := Lib.hid (gg.cell (p := ⟨w.heap.size, 1, none⟩) C1.out)
  clear gg
  have hwd : True := trivial
  clear hwd
  replace E := Lib.hid (E.out.trans (ext_drew W9))
  replace HQ := Lib.hid (HQ.out.ext (ext_drew W9))
  replace HX := Lib.hid (HX.out.ext (ext_drew W9))
  replace HV := Lib.hid (HV.out.ext (ext_drew W9))
  replace RE := Lib.hid (RE.out.ext (ext_drew W9))
  replace C0 := Lib.hid ((ext_drew W9).cell (p := ⟨w.heap.size, 0, none⟩) C0.out)
  replace C1 := Lib.hid ((ext_drew W9).cell (p := ⟨w.heap.size, 1, none⟩) C1.out)
  replace F0 := Lib.hid ((ext_drew W9).cell (p := ⟨O9, 0, none⟩) F0.out)
  replace F1 := Lib.hid ((ext_drew W9).cell (p := ⟨O9, 1, none⟩) F1.out)
  refine wp_region_lex [(3, .val (.int .i64 0)), (6, .ownS w.heap.size (d + 2) (pointL p qs v))] (by kernel_rfl) (by kernel_rfl) ?_
  (refine LexW.pure (v := ?_) rfl rfl (fun w1 he => ?_) ?_; rotate_left; ( have x00 := (he.cell (p := ⟨w.heap.size, 0, none⟩) C0.out); have x01 := (he.cell (p := ⟨w.heap.size, 1, none⟩) C1.out); have x10 := (he.cell (p := ⟨O9, 0, none⟩) F0.out); have x11 := (he.cell (p := ⟨O9, 1, none⟩) F1.out); go_simp; rfl); simp only [Act.put, List.setIfInBounds_toArray, List.set_cons_zero, List.set_cons_succ])
  (refine LexW.pure (v := ?_) rfl rfl (fun w1 he => ?_) ?_; rotate_left; ( have x00 := (he.cell (p := ⟨w.heap.size, 0, none⟩) C0.out); have x01 := (he.cell (p := ⟨w.heap.size, 1, none⟩) C1.out); have x10 := (he.cell (p := ⟨O9, 0, none⟩) F0.out); have x11 := (he.cell (p := ⟨O9, 1, none⟩) F1.out); go_simp; rfl); simp only [Act.put, List.setIfInBounds_toArray, List.set_cons_zero, List.set_cons_succ])
  (refine LexW.pure (v := ?_) rfl rfl (fun w1 he => ?_) ?_; rotate_left; ( have x00 := (he.cell (p := ⟨w.heap.size, 0, none⟩) C0.out); have x01 := (he.cell (p := ⟨w.heap.size, 1, none⟩) C1.out); have x10 := (he.cell (p := ⟨O9, 0, none⟩) F0.out); have x11 := (he.cell (p := ⟨O9, 1, none⟩) F1.out); go_simp; rfl); simp only [Act.put, List.setIfInBounds_toArray, List.set_cons_zero, List.set_cons_succ])
  (refine LexW.call (f := ?_) (args := ?_) rfl rfl (fun w1 => ?_) (fun w1 he hdep => ?_) ?_; rotate_left 2; (go_simp; refine ⟨?_, ?_⟩ <;> rfl); ( have H := s_pair p _ (d + 2) rE (extL p qs) ax cx x ax cx x w1 (by omega) (by omega) (by omega) (RE.out.rd.ext he) HEB.out (HX.out.ext he) hgx (HX.out.ext he) hgx; rw [← HNR.out] at H; exact H); simp only [Act.put, List.setIfInBounds_toArray, List.set_cons_zero, List.set_cons_succ])
  (refine LexW.pure (v := ?_) rfl rfl (fun w1 he => ?_) ?_; rotate_left; ( have x00 := (he.cell (p := ⟨w.heap.size, 0, none⟩) C0.out); have x01 := (he.cell (p := ⟨w.heap.size, 1, none⟩) C1.out); have x10 := (he.cell (p := ⟨O9, 0, none⟩) F0.out); have x11 := (he.cell (p := ⟨O9, 1, none⟩) F1.out); go_simp; rfl); simp only [Act.put, List.setIfInBounds_toArray, List.set_cons_zero, List.set_cons_succ])
  (refine LexW.pure (v := ?_) rfl rfl (fun w1 he => ?_) ?_; rotate_left; ( have x00 := (he.cell (p := ⟨w.heap.size, 0, none⟩) C0.out); have x01 := (he.cell (p := ⟨w.heap.size, 1, none⟩) C1.out); have x10 := (he.cell (p := ⟨O9, 0, none⟩) F0.out); have x11 := (he.cell (p := ⟨O9, 1, none⟩) F1.out); go_simp; rfl); simp only [Act.put, List.setIfInBounds_toArray, List.set_cons_zero, List.set_cons_succ])
  (refine LexW.callR (f := ?_) (args := ?_) rfl rfl (fun w1 => ?_) (fun w1 he hdep => ?_) (fun v hv => ?_); rotate_left 2; (go_simp; refine ⟨?_, ?_⟩ <;> rfl); ( refine (s_point p a d cap qs av cv v w1 (by omega) h4 HPR.out (HQ.out.ext he) HQB.out (HV.out.ext he) hgv).mono ?_; rintro e w2 ⟨g, rc, rfl, ho, g2⟩; exact ⟨_, rfl, g2, g, rc, rfl, ho.mono (Nat.le_trans E.out.size he.size)⟩); simp only [Act.put, List.setIfInBounds_toArray, List.set_cons_zero, List.set_cons_succ])
  obtain ⟨_, g30, c30, rfl, _⟩ := hv
  (refine LexW.pure (v := ?_) rfl rfl (fun w1 he => ?_) ?_; rotate_left; ( have x00 := (he.cell (p := ⟨w.heap.size, 0, none⟩) C0.out); have x01 := (he.cell (p := ⟨w.heap.size, 1, none⟩) C1.out); have x10 := (he.cell (p := ⟨O9, 0, none⟩) F0.out); have x11 := (he.cell (p := ⟨O9, 1, none⟩) F1.out); go_simp; rfl); simp only [Act.put, List.setIfInBounds_toArray, List.set_cons_zero, List.set_cons_succ])
  (refine LexW.pure (v := ?_) rfl rfl (fun w1 he => ?_) ?_; rotate_left; ( have x00 := (he.cell (p := ⟨w.heap.size, 0, none⟩) C0.out); have x01 := (he.cell (p := ⟨w.heap.size, 1, none⟩) C1.out); have x10 := (he.cell (p := ⟨O9, 0, none⟩) F0.out); have x11 := (he.cell (p := ⟨O9, 1, none⟩) F1.out); go_simp; rfl); simp only [Act.put, List.setIfInBounds_toArray, List.set_cons_zero, List.set_cons_succ])
  refine LexW.nil (fun w3 he hkn => ?_)
  obtain ⟨_, _, q30, r30⟩ : (SPred.ownS w.heap.size (d + 2) (pointL p qs v)).holds (.slice (some ⟨g30, 0, none⟩) (d + 2) c30) w3 := hkn (6, _) (by simp)
  cases q30
  have R30 := Lib.hid r30
  have HE := Lib.hid he
  clear he hkn r30
  rename World => v3
  replace E := Lib.hid (E.out.trans HE.out)
  replace HQ := Lib.hid (HQ.out.ext HE.out)
  replace HX := Lib.hid (HX.out.ext HE.out)
  replace HV := Lib.hid (HV.out.ext HE.out)
  replace RE := Lib.hid (RE.out.ext HE.out)
  replace C0 := Lib.hid (HE.out.cell (p := ⟨w.heap.size, 0, none⟩) C0.out)
  replace C1 := Lib.hid (HE.out.cell (p := ⟨w.heap.size, 1, none⟩) C1.out)
  replace F0 := Lib.hid (HE.out.cell (p := ⟨O9, 0, none⟩) F0.out)
  replace F1 := Lib.hid (HE.out.cell (p := ⟨O9, 1, none⟩) F1.out)
  clear HE
  go_wp2_with (fail)
  go_ret2
  exact ⟨rfl, E.out⟩

set_option maxHeartbeats 4000000 in
set_option maxRecDepth 100000 in
theorem s_InvertAt_wgt (p : Int) (a : Option Addr) (d cap : Nat) (qs : List Int) (ax : Option Addr) (cx : Nat) (x : List Int) (av : Option Addr) (cv : Nat) (v : List Int) (w : World) (hs : spaceB p qs = true) (h4 : qs.length ≤ 4) (hq : RdC w a d qs) (hx : RdC w ax (d + 2) x) (hgx : Good p (d + 2) x) (hv : RdC w av d v) (hgv : Good p d v) (hz : nrmZ p qs x ≠ 0) (hw : wgtI p qs (invR p qs x v) = 0) :
    Calls Try.prog 10 #[.agg #[.int .i64 p, .slice a d cap], .slice ax (d + 2) cx, .slice av d cv] w fun e w' => e = .returned (.tuple #[.slice none 0 0, .int .i64 5]) ∧ Ext w w' := by
  have HC := Lib.hid (code18M_0 (vs := [v]) hs h4 (all_one (by rw [hq.1]; exact hgv)) (x := x) (by rw [hq.1]; exact hgx))
  have HSP := Lib.hid hs
  obtain ⟨hpr, hd1, _, hqb⟩ := space_of hs
  have hpb := prime_bd hpr
  have HPR := Lib.hid hpr
  have HQB := Lib.hid hqb
  have hql := hq.1
  rw [hql] at hd1 h4
  have HQL := Lib.hid hql
  have HEB := Lib.hid (extL_isB (p := p) (by omega) hqb)
  have HGI := Lib.hid (good_inf (p := p) (d := d) (by omega))
  have HGP := fun (u : List Int) => Lib.hid (pointL_good (p := p) (qs := qs) (v := u) (d := d) (by omega) hql)
  clear hpr hqb hql
  have hcb : ((0 : Int) != 0) = false := by simp
  have HRG := Lib.hid (invR_good (p := p) (qs := qs) (x := x) (v := v) (by omega) HQL.out)
  have HIR : Hid (invR p qs x v = reflL p (extL p qs) x (pointL p qs v) (d + 2)) := Lib.hid (by unfold invR; rw [HQL.out])
  have HNR : Hid (nrmZ p qs x = pairL p (extL p qs) x x (d + 2)) := Lib.hid (by unfold nrmZ; rw [HQL.out])
  have hnb : 0 ≤ nrmZ p qs x ∧ nrmZ p qs x < p := pairL_bd (by omega)
  have hdd : ¬ d = 0 := by omega
  obtain ⟨z, hzz⟩ : ∃ z, z = nrmZ p qs x := ⟨_, rfl⟩
  rw [← hzz] at hnb hz HNR
  clear hzz
  have hzb : (z == 0) = false := by simp [hz]
  have hzp : 0 < z := by omega
  clear hz
  obtain ⟨W, hW⟩ : ∃ W, W = w.alloc (.cells #[.int .i64 p, .slice a d cap] 26) := ⟨_, rfl⟩
  have E : Hid (Ext w W) := Lib.hid (by rw [hW]; exact ext_alloc _ _)
  have C0 : Hid (W.cell? ⟨w.heap.size, 0, none⟩ = some (.int .i64 p)) := Lib.hid (by rw [hW]; simp)
  have C1 : Hid (W.cell? ⟨w.heap.size, 1, none⟩ = some (.slice a d cap)) := Lib.hid (by rw [hW]; simp)
  have HZ : Hid (W.heap.size = w.heap.size + 1) := Lib.hid (by rw [hW]; simp)
  have HW := Lib.hid hW
  clear hW
  have HQ := Lib.hid (hq.ext E.out)
  have HX := Lib.hid (hx.ext E.out)
  have HV := Lib.hid (hv.ext E.out)
  clear hq hx hv
  go_enter Try.func10, Try.ntmps10
  have x00 := C0.out
  have x01 := C1.out
  go_wp2_with (fail)
  clear x00 x01
  rw [← HW.out]
  clear HW
  refine Calls.mono (s_more18 p a d cap qs ax (d + 2) cx x v _ _ _ (by omega) (by omega) (HQ.out.ext (ext_alloc _ _)) (HX.out.ext (ext_alloc _ _)) (rdR_one (a := av) (n := d) (cap := cv) (by rw [← HZ.out]; simp) (HV.out.ext (ext_alloc _ _))) (by rw [HV.out.1]; omega)) ?_
  rintro e v1 ⟨rfl, gg⟩
  replace gg := (ext_alloc _ _).trans gg
  rw [HC.out]
  replace E := Lib.hid (E.out.trans gg)
  replace HQ := Lib.hid (HQ.out.ext gg)
  replace HX := Lib.hid (HX.out.ext gg)
  replace HV := Lib.hid (HV.out.ext gg)
  replace C0 := Lib.hid (gg.cell (p := ⟨w.heap.size, 0, none⟩) C0.out)
  replace C1 := Lib.hid (gg.cell (p := ⟨w.heap.size, 1, none⟩) C1.out)
  clear gg
  have x00 := C0.out
  have x01 := C1.out
  go_wp2_with (fail)
  clear x00 x01
  refine Calls.mono (s_extended p a d cap qs v1 (by omega) (by omega) (by omega) (by omega) HQ.out) ?_
  rintro e v2 ⟨gE, rE, rfl, ho, gg⟩
  have RE := Lib.hid (ho.mono E.out.size)
  clear ho
  replace E := Lib.hid (E.out.trans gg)
  replace HQ := Lib.hid (HQ.out.ext gg)
  replace HX := Lib.hid (HX.out.ext gg)
  replace HV := Lib.hid (HV.out.ext gg)
  replace C0 := Lib.hid (gg.cell (p := ⟨w.heap.size, 0, none⟩) C0.out)
  replace C1 := Lib.hid (gg.cell (p := ⟨w.heap.size, 1, none⟩) C1.out)
  clear gg
  have y00 := (ext_alloc v2 (.cells #[.int .i64 p, .slice (some ⟨gE, 0, none⟩) (d + 2) rE] 26)).cell (p := ⟨w.heap.size, 0, none⟩) C0.out
  have y01 := (ext_alloc v2 (.cells #[.int .i64 p, .slice (some ⟨gE, 0, none⟩) (d + 2) rE] 26)).cell (p := ⟨w.heap.size, 1, none⟩) C1.out
  go_wp2_with (fail)
  clear y00 y01
  obtain ⟨O9, hO9⟩ : ∃ O2, O2 = v2.heap.size := ⟨_, rfl⟩
  obtain ⟨W9, hW9⟩ : ∃ W2, W2 = v2.alloc (.cells #[.int .i64 p, .slice (some ⟨gE, 0, none⟩) (d + 2) rE] 26) := ⟨_, rfl⟩
  have F0 := Lib.hid (show W9.cell? ⟨O9, 0, none⟩ = some (.int .i64 p) by rw [hW9, hO9]; simp)
  have F1 := Lib.hid (show W9.cell? ⟨O9, 1, none⟩ = some (.slice (some ⟨gE, 0, none⟩) (d + 2) rE) by rw [hW9, hO9]; simp)
  have gg : Ext v2 W9 := by rw [hW9]; exact ext_alloc _ _
  rw [← hO9, ← hW9]
  clear hO9 hW9
  replace E := Lib.hid (E.out.trans gg)
  replace HQ := Lib.hid (HQ.out.ext gg)
  replace HX := Lib.hid (HX.out.ext gg)
  replace HV := Lib.hid (HV.out.ext gg)
  replace RE := Lib.hid (RE.out.ext gg)
  replace C0 := Lib.hid (gg.cell (p := ⟨w.heap.size, 0, none⟩) C0.out)
  replace C1 := Lib.hid (gg.cell (p := ⟨w.heap.size, 1, none⟩) C1.out)
  clear gg
  have hwd : True := trivial
  clear hwd
  replace E := Lib.hid (E.out.trans (ext_drew W9))
  replace HQ := Lib.hid (HQ.out.ext (ext_drew W9))
  replace HX := Lib.hid (HX.out.ext (ext_drew W9))
  replace HV := Lib.hid (HV.out.ext (ext_drew W9))
  replace RE := Lib.hid (RE.out.ext (ext_drew W9))
  replace C0 := Lib.hid ((ext_drew W9).cell (p := ⟨w.heap.size, 0, none⟩) C0.out)
  replace C1 := Lib.hid ((ext_drew W9).cell (p := ⟨w.heap.size, 1, none⟩) C1.out)
  replace F0 := Lib.hid ((ext_drew W9).cell (p := ⟨O9, 0, none⟩) F0.out)
  replace F1 := Lib.hid ((ext_drew W9).cell (p := ⟨O9, 1, none⟩) F1.out)
  refine wp_region_lex [(3, .val (.int .i64 z)), (6, .ownS w.heap.size (d + 2) (pointL p qs v))] (by kernel_rfl) (by kernel_rfl) ?_
  (refine LexW.pure (v := ?_) rfl rfl (fun w1 he => ?_) ?_; rotate_left; ( have x00 := (he.cell (p := ⟨w.heap.size, 0, none⟩) C0.out); have x01 := (he.cell (p := ⟨w.heap.size, 1, none⟩) C1.out); have x10 := (he.cell (p := ⟨O9, 0, none⟩) F0.out); have x11 := (he.cell (p := ⟨O9, 1, none⟩) F1.out); go_simp; rfl); simp only [Act.put, List.setIfInBounds_toArray, List.set_cons_zero, List.set_cons_succ])
  (refine LexW.pure (v := ?_) rfl rfl (fun w1 he => ?_) ?_; rotate_left; ( have x00 := (he.cell (p := ⟨w.heap.size, 0, none⟩) C0.out); have x01 := (he.cell (p := ⟨w.heap.size, 1, none⟩) C1.out); have x10 := (he.cell (p := ⟨O9, 0, none⟩) F0.out); have x11 := (he.cell (p := ⟨O9, 1, none⟩) F1.out); go_simp; rfl); simp only [Act.put, List.setIfInBounds_toArray, List.set_cons_zero, List.set_cons_succ])
  (refine LexW.pure (v := ?_) rfl rfl (fun w1 he => ?_) ?_; rotate_left; ( have x00 := (he.cell (p := ⟨w.heap.size, 0, none⟩) C0.out); have x01 := (he.cell (p := ⟨w.heap.size, 1, none⟩) C1.out); have x10 := (he.cell (p := ⟨O9, 0, none⟩) F0.out); have x11 := (he.cell (p := ⟨O9, 1, none⟩) F1.out); go_simp; rfl); simp only [Act.put, List.setIfInBounds_toArray, List.set_cons_zero, List.set_cons_succ])
  (refine LexW.call (f := ?_) (args := ?_) rfl rfl (fun w1 => ?_) (fun w1 he hdep => ?_) ?_; rotate_left 2; (go_simp; refine ⟨?_, ?_⟩ <;> rfl); ( have H := s_pair p _ (d + 2) rE (extL p qs) ax cx x ax cx x w1 (by omega) (by omega) (by omega) (RE.out.rd.ext he) HEB.out (HX.out.ext he) hgx (HX.out.ext he) hgx; rw [← HNR.out] at H; exact H); simp only [Act.put, List.setIfInBounds_toArray, List.set_cons_zero, List.set_cons_succ])
  (refine LexW.pure (v := ?_) rfl rfl (fun w1 he => ?_) ?_; rotate_left; ( have x00 := (he.cell (p := ⟨w.heap.size, 0, none⟩) C0.out); have x01 := (he.cell (p := ⟨w.heap.size, 1, none⟩) C1.out); have x10 := (he.cell (p := ⟨O9, 0, none⟩) F0.out); have x11 := (he.cell (p := ⟨O9, 1, none⟩) F1.out); go_simp; rfl); simp only [Act.put, List.setIfInBounds_toArray, List.set_cons_zero, List.set_cons_succ])
  (refine LexW.pure (v := ?_) rfl rfl (fun w1 he => ?_) ?_; rotate_left; ( have x00 := (he.cell (p := ⟨w.heap.size, 0, none⟩) C0.out); have x01 := (he.cell (p := ⟨w.heap.size, 1, none⟩) C1.out); have x10 := (he.cell (p := ⟨O9, 0, none⟩) F0.out); have x11 := (he.cell (p := ⟨O9, 1, none⟩) F1.out); go_simp; rfl); simp only [Act.put, List.setIfInBounds_toArray, List.set_cons_zero, List.set_cons_succ])
  (refine LexW.callR (f := ?_) (args := ?_) rfl rfl (fun w1 => ?_) (fun w1 he hdep => ?_) (fun v hv => ?_); rotate_left 2; (go_simp; refine ⟨?_, ?_⟩ <;> rfl); ( refine (s_point p a d cap qs av cv v w1 (by omega) h4 HPR.out (HQ.out.ext he) HQB.out (HV.out.ext he) hgv).mono ?_; rintro e w2 ⟨g, rc, rfl, ho, g2⟩; exact ⟨_, rfl, g2, g, rc, rfl, ho.mono (Nat.le_trans E.out.size he.size)⟩); simp only [Act.put, List.setIfInBounds_toArray, List.set_cons_zero, List.set_cons_succ])
  obtain ⟨_, g30, c30, rfl, _⟩ := hv
  (refine LexW.pure (v := ?_) rfl rfl (fun w1 he => ?_) ?_; rotate_left; ( have x00 := (he.cell (p := ⟨w.heap.size, 0, none⟩) C0.out); have x01 := (he.cell (p := ⟨w.heap.size, 1, none⟩) C1.out); have x10 := (he.cell (p := ⟨O9, 0, none⟩) F0.out); have x11 := (he.cell (p := ⟨O9, 1, none⟩) F1.out); go_simp; rfl); simp only [Act.put, List.setIfInBounds_toArray, List.set_cons_zero, List.set_cons_succ])
  (refine LexW.pure (v := ?_) rfl rfl (fun w1 he => ?_) ?_; rotate_left; ( have x00 := (he.cell (p := ⟨w.heap.size, 0, none⟩) C0.out); have x01 := (he.cell (p := ⟨w.heap.size, 1, none⟩) C1.out); have x10 := (he.cell (p := ⟨O9, 0, none⟩) F0.out); have x11 := (he.cell (p := ⟨O9, 1, none⟩) F1.out); go_simp; rfl); simp only [Act.put, List.setIfInBounds_toArray, List.set_cons_zero, List.set_cons_succ])
  refine LexW.nil (fun w3 he hkn => ?_)
  obtain ⟨_, _, q30, r30⟩ : (SPred.ownS w.heap.size (d + 2) (pointL p qs v)).holds (.slice (some ⟨g30, 0, none⟩) (d + 2) c30) w3 := hkn (6, _) (by simp)
  cases q30
  have R30 := Lib.hid r30
  have HE := Lib.hid he
  clear he hkn r30
  rename World => v3
  replace E := Lib.hid (E.out.trans HE.out)
  replace HQ := Lib.hid (HQ.out.ext HE.out)
  replace HX := Lib.hid (HX.out.ext HE.out)
  replace HV := Lib.hid (HV.out.ext HE.out)
  replace RE := Lib.hid (RE.out.ext HE.out)
  replace C0 := Lib.hid (HE.out.cell (p := ⟨w.heap.size, 0, none⟩) C0.out)
  replace C1 := Lib.hid (HE.out.cell (p := ⟨w.heap.size, 1, none⟩) C1.out)
  replace F0 := Lib.hid (HE.out.cell (p := ⟨O9, 0, none⟩) F0.out)
  replace F1 := Lib.hid (HE.out.cell (p := ⟨O9, 1, none⟩) F1.out)
  clear HE
  obtain ⟨y, hy⟩ : ∃ y, y = pairL p (extL p qs) (pointL p qs v) x (d + 2) := ⟨_, rfl⟩
  have hyb : 0 ≤ y ∧ y < p := by rw [hy]; exact pairL_bd (by omega)
  have hib := invN_bd (p := p) (a := z) (by omega)
  have HIC : Hid (plusL p (pointL p qs v) (scaleL p x (2 * y * invN p z % p) (d + 2)) (-1) (d + 2) = invR p qs x v) := Lib.hid (by rw [HIR.out, hy, HNR.out]; exact inv_cut (by rw [extL_len, HQL.out]))
  have HY := Lib.hid hy
  clear hy
  obtain ⟨iv, hiv⟩ : ∃ i, i = invN p z := ⟨_, rfl⟩
  rw [← hiv] at hib HIC
  have HIV := Lib.hid hiv.symm
  clear hiv
  have hyi : 0 ≤ y * iv ∧ y * iv ≤ 169 := ⟨Int.mul_nonneg hyb.1 hib.1, by have := Int.mul_le_mul (show y ≤ 13 by omega) (show iv ≤ 13 by omega) hib.1 (show (0 : Int) ≤ 13 by omega); omega⟩
  have hya : 2 * y * iv = 2 * (y * iv) := by rw [Int.mul_assoc]
  have hw1 : IntKind.i64.wrap (2 * y) = 2 * y := IntWalk.i64_in _ (by omega)
  obtain ⟨m2, hm2⟩ : ∃ m, m = 2 * y * iv := ⟨_, rfl⟩
  have hw2 : IntKind.i64.wrap (2 * y * iv) = m2 := by rw [hm2]; exact IntWalk.i64_in _ (by omega)
  rw [← hm2] at HIC
  obtain ⟨K, hK⟩ : ∃ K, K = m2 % p := ⟨_, rfl⟩
  rw [← hK] at HIC
  have hKb : 0 ≤ K ∧ K < p := by rw [hK]; exact ⟨Int.emod_nonneg _ (by omega), Int.emod_lt_of_pos _ (by omega)⟩
  have HK := Lib.hid hK.symm
  clear hm2 hya hyi hK
  have x00 := C0.out
  have x01 := C1.out
  have x10 := F0.out
  have x11 := F1.out
  go_wp2_with (fail)
  clear x00 x01 x10 x11
  replace E := Lib.hid (E.out.trans (ext_drew v3))
  replace HQ := Lib.hid (HQ.out.ext (ext_drew v3))
  replace HX := Lib.hid (HX.out.ext (ext_drew v3))
  replace HV := Lib.hid (HV.out.ext (ext_drew v3))
  replace RE := Lib.hid (RE.out.ext (ext_drew v3))
  replace R30 := Lib.hid (R30.out.ext (ext_drew v3))
  replace C0 := Lib.hid ((ext_drew v3).cell (p := ⟨w.heap.size, 0, none⟩) C0.out)
  replace C1 := Lib.hid ((ext_drew v3).cell (p := ⟨w.heap.size, 1, none⟩) C1.out)
  replace F0 := Lib.hid ((ext_drew v3).cell (p := ⟨O9, 0, none⟩) F0.out)
  replace F1 := Lib.hid ((ext_drew v3).cell (p := ⟨O9, 1, none⟩) F1.out)
  refine wp_region_lex [(5, .val (.int .i64 y)), (10, .val (.int .i64 iv)), (12, .val (.int .i64 K))] (by kernel_rfl) (by kernel_rfl) ?_
  (refine LexW.pure (v := ?_) rfl rfl (fun w1 he => ?_) ?_; rotate_left; ( have x00 := (he.cell (p := ⟨w.heap.size, 0, none⟩) C0.out); have x01 := (he.cell (p := ⟨w.heap.size, 1, none⟩) C1.out); have x10 := (he.cell (p := ⟨O9, 0, none⟩) F0.out); have x11 := (he.cell (p := ⟨O9, 1, none⟩) F1.out); go_simp; rfl); simp only [Act.put, List.setIfInBounds_toArray, List.set_cons_zero, List.set_cons_succ])
  (refine LexW.pure (v := ?_) rfl rfl (fun w1 he => ?_) ?_; rotate_left; ( have x00 := (he.cell (p := ⟨w.heap.size, 0, none⟩) C0.out); have x01 := (he.cell (p := ⟨w.heap.size, 1, none⟩) C1.out); have x10 := (he.cell (p := ⟨O9, 0, none⟩) F0.out); have x11 := (he.cell (p := ⟨O9, 1, none⟩) F1.out); go_simp; rfl); simp only [Act.put, List.setIfInBounds_toArray, List.set_cons_zero, List.set_cons_succ])
  (refine LexW.pure (v := ?_) rfl rfl (fun w1 he => ?_) ?_; rotate_left; ( have x00 := (he.cell (p := ⟨w.heap.size, 0, none⟩) C0.out); have x01 := (he.cell (p := ⟨w.heap.size, 1, none⟩) C1.out); have x10 := (he.cell (p := ⟨O9, 0, none⟩) F0.out); have x11 := (he.cell (p := ⟨O9, 1, none⟩) F1.out); go_simp; rfl); simp only [Act.put, List.setIfInBounds_toArray, List.set_cons_zero, List.set_cons_succ])
  (refine LexW.pure (v := ?_) rfl rfl (fun w1 he => ?_) ?_; rotate_left; ( have x00 := (he.cell (p := ⟨w.heap.size, 0, none⟩) C0.out); have x01 := (he.cell (p := ⟨w.heap.size, 1, none⟩) C1.out); have x10 := (he.cell (p := ⟨O9, 0, none⟩) F0.out); have x11 := (he.cell (p := ⟨O9, 1, none⟩) F1.out); go_simp; rfl); simp only [Act.put, List.setIfInBounds_toArray, List.set_cons_zero, List.set_cons_succ])
  (refine LexW.pure (v := ?_) rfl rfl (fun w1 he => ?_) ?_; rotate_left; ( have x00 := (he.cell (p := ⟨w.heap.size, 0, none⟩) C0.out); have x01 := (he.cell (p := ⟨w.heap.size, 1, none⟩) C1.out); have x10 := (he.cell (p := ⟨O9, 0, none⟩) F0.out); have x11 := (he.cell (p := ⟨O9, 1, none⟩) F1.out); go_simp; rfl); simp only [Act.put, List.setIfInBounds_toArray, List.set_cons_zero, List.set_cons_succ])
  (refine LexW.call (f := ?_) (args := ?_) rfl rfl (fun w1 => ?_) (fun w1 he hdep => ?_) ?_; rotate_left 2; (go_simp; refine ⟨?_, ?_⟩ <;> rfl); ( rw [HY.out]; exact s_pair p _ (d + 2) rE (extL p qs) _ _ (pointL p qs v) ax cx x w1 (by omega) (by omega) (by omega) (RE.out.rd.ext he) HEB.out (R30.out.rd.ext he) (HGP v).out (HX.out.ext he) hgx); simp only [Act.put, List.setIfInBounds_toArray, List.set_cons_zero, List.set_cons_succ])
  (refine LexW.pure (v := ?_) rfl rfl (fun w1 he => ?_) ?_; rotate_left; ( have x00 := (he.cell (p := ⟨w.heap.size, 0, none⟩) C0.out); have x01 := (he.cell (p := ⟨w.heap.size, 1, none⟩) C1.out); have x10 := (he.cell (p := ⟨O9, 0, none⟩) F0.out); have x11 := (he.cell (p := ⟨O9, 1, none⟩) F1.out); go_simp; rfl); simp only [Act.put, List.setIfInBounds_toArray, List.set_cons_zero, List.set_cons_succ])
  (refine LexW.pure (v := ?_) rfl rfl (fun w1 he => ?_) ?_; rotate_left; ( have x00 := (he.cell (p := ⟨w.heap.size, 0, none⟩) C0.out); have x01 := (he.cell (p := ⟨w.heap.size, 1, none⟩) C1.out); have x10 := (he.cell (p := ⟨O9, 0, none⟩) F0.out); have x11 := (he.cell (p := ⟨O9, 1, none⟩) F1.out); go_simp; rfl); simp only [Act.put, List.setIfInBounds_toArray, List.set_cons_zero, List.set_cons_succ])
  (refine LexW.pure (v := ?_) rfl rfl (fun w1 he => ?_) ?_; rotate_left; ( have x00 := (he.cell (p := ⟨w.heap.size, 0, none⟩) C0.out); have x01 := (he.cell (p := ⟨w.heap.size, 1, none⟩) C1.out); have x10 := (he.cell (p := ⟨O9, 0, none⟩) F0.out); have x11 := (he.cell (p := ⟨O9, 1, none⟩) F1.out); go_simp; rfl); simp only [Act.put, List.setIfInBounds_toArray, List.set_cons_zero, List.set_cons_succ])
  (refine LexW.pure (v := ?_) rfl rfl (fun w1 he => ?_) ?_; rotate_left; ( have x00 := (he.cell (p := ⟨w.heap.size, 0, none⟩) C0.out); have x01 := (he.cell (p := ⟨w.heap.size, 1, none⟩) C1.out); have x10 := (he.cell (p := ⟨O9, 0, none⟩) F0.out); have x11 := (he.cell (p := ⟨O9, 1, none⟩) F1.out); go_simp; rfl); simp only [Act.put, List.setIfInBounds_toArray, List.set_cons_zero, List.set_cons_succ])
  (refine LexW.call (f := ?_) (args := ?_) rfl rfl (fun w1 => ?_) (fun w1 he hdep => ?_) ?_; rotate_left 2; (go_simp; refine ⟨?_, ?_⟩ <;> rfl); ( have H := s_inv p z w1 HPR.out hzp hnb.2; rw [HIV.out] at H; exact H); simp only [Act.put, List.setIfInBounds_toArray, List.set_cons_zero, List.set_cons_succ])
  (refine LexW.pure (v := ?_) rfl rfl (fun w1 he => ?_) ?_; rotate_left; ( have x00 := (he.cell (p := ⟨w.heap.size, 0, none⟩) C0.out); have x01 := (he.cell (p := ⟨w.heap.size, 1, none⟩) C1.out); have x10 := (he.cell (p := ⟨O9, 0, none⟩) F0.out); have x11 := (he.cell (p := ⟨O9, 1, none⟩) F1.out); go_simp; rfl); simp only [Act.put, List.setIfInBounds_toArray, List.set_cons_zero, List.set_cons_succ])
  (refine LexW.call (f := ?_) (args := ?_) rfl rfl (fun w1 => ?_) (fun w1 he hdep => ?_) ?_; rotate_left 2; (go_simp; refine ⟨?_, ?_⟩ <;> rfl); ( have H := s_mod p m2 w1 (by omega) (by omega); rw [HK.out] at H; exact H); simp only [Act.put, List.setIfInBounds_toArray, List.set_cons_zero, List.set_cons_succ])
  (refine LexW.pure (v := ?_) rfl rfl (fun w1 he => ?_) ?_; rotate_left; ( have x00 := (he.cell (p := ⟨w.heap.size, 0, none⟩) C0.out); have x01 := (he.cell (p := ⟨w.heap.size, 1, none⟩) C1.out); have x10 := (he.cell (p := ⟨O9, 0, none⟩) F0.out); have x11 := (he.cell (p := ⟨O9, 1, none⟩) F1.out); go_simp; rfl); simp only [Act.put, List.setIfInBounds_toArray, List.set_cons_zero, List.set_cons_succ])
  refine LexW.nil (fun w3 he hkn => ?_)
  have HE := Lib.hid he
  clear he hkn 
  rename World => v4
  replace E := Lib.hid (E.out.trans HE.out)
  replace HQ := Lib.hid (HQ.out.ext HE.out)
  replace HX := Lib.hid (HX.out.ext HE.out)
  replace HV := Lib.hid (HV.out.ext HE.out)
  replace RE := Lib.hid (RE.out.ext HE.out)
  replace R30 := Lib.hid (R30.out.ext HE.out)
  replace C0 := Lib.hid (HE.out.cell (p := ⟨w.heap.size, 0, none⟩) C0.out)
  replace C1 := Lib.hid (HE.out.cell (p := ⟨w.heap.size, 1, none⟩) C1.out)
  replace F0 := Lib.hid (HE.out.cell (p := ⟨O9, 0, none⟩) F0.out)
  replace F1 := Lib.hid (HE.out.cell (p := ⟨O9, 1, none⟩) F1.out)
  clear HE
  have x00 := C0.out
  have x01 := C1.out
  have x10 := F0.out
  have x11 := F1.out
  go_wp2_with (fail)
  clear x00 x01 x10 x11
  replace E := Lib.hid (E.out.trans (ext_drew v4))
  replace HQ := Lib.hid (HQ.out.ext (ext_drew v4))
  replace HX := Lib.hid (HX.out.ext (ext_drew v4))
  replace HV := Lib.hid (HV.out.ext (ext_drew v4))
  replace RE := Lib.hid (RE.out.ext (ext_drew v4))
  replace R30 := Lib.hid (R30.out.ext (ext_drew v4))
  replace C0 := Lib.hid ((ext_drew v4).cell (p := ⟨w.heap.size, 0, none⟩) C0.out)
  replace C1 := Lib.hid ((ext_drew v4).cell (p := ⟨w.heap.size, 1, none⟩) C1.out)
  replace F0 := Lib.hid ((ext_drew v4).cell (p := ⟨O9, 0, none⟩) F0.out)
  replace F1 := Lib.hid ((ext_drew v4).cell (p := ⟨O9, 1, none⟩) F1.out)
  refine wp_region_lex [(7, .ownS w.heap.size (d + 2) (scaleL p x K (d + 2))), (8, .ownS w.heap.size (d + 2) (plusL p (pointL p qs v) (scaleL p x K (d + 2)) (-1) (d + 2)))] (by kernel_rfl) (by kernel_rfl) ?_
  (refine LexW.pure (v := ?_) rfl rfl (fun w1 he => ?_) ?_; rotate_left; ( have x00 := (he.cell (p := ⟨w.heap.size, 0, none⟩) C0.out); have x01 := (he.cell (p := ⟨w.heap.size, 1, none⟩) C1.out); have x10 := (he.cell (p := ⟨O9, 0, none⟩) F0.out); have x11 := (he.cell (p := ⟨O9, 1, none⟩) F1.out); go_simp; rfl); simp only [Act.put, List.setIfInBounds_toArray, List.set_cons_zero, List.set_cons_succ])
  (refine LexW.pure (v := ?_) rfl rfl (fun w1 he => ?_) ?_; rotate_left; ( have x00 := (he.cell (p := ⟨w.heap.size, 0, none⟩) C0.out); have x01 := (he.cell (p := ⟨w.heap.size, 1, none⟩) C1.out); have x10 := (he.cell (p := ⟨O9, 0, none⟩) F0.out); have x11 := (he.cell (p := ⟨O9, 1, none⟩) F1.out); go_simp; rfl); simp only [Act.put, List.setIfInBounds_toArray, List.set_cons_zero, List.set_cons_succ])
  (refine LexW.pure (v := ?_) rfl rfl (fun w1 he => ?_) ?_; rotate_left; ( have x00 := (he.cell (p := ⟨w.heap.size, 0, none⟩) C0.out); have x01 := (he.cell (p := ⟨w.heap.size, 1, none⟩) C1.out); have x10 := (he.cell (p := ⟨O9, 0, none⟩) F0.out); have x11 := (he.cell (p := ⟨O9, 1, none⟩) F1.out); go_simp; rfl); simp only [Act.put, List.setIfInBounds_toArray, List.set_cons_zero, List.set_cons_succ])
  (refine LexW.pure (v := ?_) rfl rfl (fun w1 he => ?_) ?_; rotate_left; ( have x00 := (he.cell (p := ⟨w.heap.size, 0, none⟩) C0.out); have x01 := (he.cell (p := ⟨w.heap.size, 1, none⟩) C1.out); have x10 := (he.cell (p := ⟨O9, 0, none⟩) F0.out); have x11 := (he.cell (p := ⟨O9, 1, none⟩) F1.out); go_simp; rfl); simp only [Act.put, List.setIfInBounds_toArray, List.set_cons_zero, List.set_cons_succ])
  (refine LexW.pure (v := ?_) rfl rfl (fun w1 he => ?_) ?_; rotate_left; ( have x00 := (he.cell (p := ⟨w.heap.size, 0, none⟩) C0.out); have x01 := (he.cell (p := ⟨w.heap.size, 1, none⟩) C1.out); have x10 := (he.cell (p := ⟨O9, 0, none⟩) F0.out); have x11 := (he.cell (p := ⟨O9, 1, none⟩) F1.out); go_simp; rfl); simp only [Act.put, List.setIfInBounds_toArray, List.set_cons_zero, List.set_cons_succ])
  (refine LexW.pure (v := ?_) rfl rfl (fun w1 he => ?_) ?_; rotate_left; ( have x00 := (he.cell (p := ⟨w.heap.size, 0, none⟩) C0.out); have x01 := (he.cell (p := ⟨w.heap.size, 1, none⟩) C1.out); have x10 := (he.cell (p := ⟨O9, 0, none⟩) F0.out); have x11 := (he.cell (p := ⟨O9, 1, none⟩) F1.out); go_simp; rfl); simp only [Act.put, List.setIfInBounds_toArray, List.set_cons_zero, List.set_cons_succ])
  (refine LexW.pure (v := ?_) rfl rfl (fun w1 he => ?_) ?_; rotate_left; ( have x00 := (he.cell (p := ⟨w.heap.size, 0, none⟩) C0.out); have x01 := (he.cell (p := ⟨w.heap.size, 1, none⟩) C1.out); have x10 := (he.cell (p := ⟨O9, 0, none⟩) F0.out); have x11 := (he.cell (p := ⟨O9, 1, none⟩) F1.out); go_simp; rfl); simp only [Act.put, List.setIfInBounds_toArray, List.set_cons_zero, List.set_cons_succ])
  (refine LexW.callR (f := ?_) (args := ?_) rfl rfl (fun w1 => ?_) (fun w1 he hdep => ?_) (fun v hv => ?_); rotate_left 2; (go_simp; refine ⟨?_, ?_⟩ <;> rfl); ( refine (s_scale11 p ax (d + 2) cx x K w1 (by omega) (by omega) (by omega) (by omega) (HX.out.ext he) hgx).mono ?_; rintro e w2 ⟨g, rc, rfl, ho, g2⟩; exact ⟨_, rfl, g2, g, rc, rfl, ho.mono (Nat.le_trans E.out.size he.size)⟩); simp only [Act.put, List.setIfInBounds_toArray, List.set_cons_zero, List.set_cons_succ])
  obtain ⟨_, g53, c53, rfl, _⟩ := hv
  (refine LexW.callR (f := ?_) (args := ?_) rfl rfl (fun w1 => ?_) (fun w1 he hdep => ?_) (fun v hv => ?_); rotate_left 2; (go_simp; refine ⟨?_, ?_⟩ <;> rfl); ( obtain ⟨_, _, q53, r53⟩ : (SPred.ownS w.heap.size (d + 2) (scaleL p x K (d + 2))).holds (.slice (some ⟨g53, 0, none⟩) (d + 2) c53) w1 := hdep (7, 53) (by decide +kernel); cases q53; refine (s_minus11 p _ _ (d + 2) _ _ (pointL p qs v) (scaleL p x K (d + 2)) w1 (by omega) (by omega) (by omega) (R30.out.rd.ext he) r53.rd (fun i hi => by have := (HGP v).out.2 i hi; omega) (scale_good (by omega))).mono ?_; rintro e w2 ⟨g, rc, rfl, ho, g2⟩; exact ⟨_, rfl, g2, g, rc, rfl, ho.mono (Nat.le_trans E.out.size he.size)⟩); simp only [Act.put, List.setIfInBounds_toArray, List.set_cons_zero, List.set_cons_succ])
  obtain ⟨_, g54, c54, rfl, _⟩ := hv
  (refine LexW.pure (v := ?_) rfl rfl (fun w1 he => ?_) ?_; rotate_left; ( have x00 := (he.cell (p := ⟨w.heap.size, 0, none⟩) C0.out); have x01 := (he.cell (p := ⟨w.heap.size, 1, none⟩) C1.out); have x10 := (he.cell (p := ⟨O9, 0, none⟩) F0.out); have x11 := (he.cell (p := ⟨O9, 1, none⟩) F1.out); go_simp; rfl); simp only [Act.put, List.setIfInBounds_toArray, List.set_cons_zero, List.set_cons_succ])
  refine LexW.nil (fun w3 he hkn => ?_)
  obtain ⟨_, _, q54, r54⟩ : (SPred.ownS w.heap.size (d + 2) (plusL p (pointL p qs v) (scaleL p x K (d + 2)) (-1) (d + 2))).holds (.slice (some ⟨g54, 0, none⟩) (d + 2) c54) w3 := hkn (8, _) (by simp)
  cases q54
  have R54 := Lib.hid r54
  have HE := Lib.hid he
  clear he hkn r54
  rename World => v5
  replace E := Lib.hid (E.out.trans HE.out)
  replace HQ := Lib.hid (HQ.out.ext HE.out)
  replace HX := Lib.hid (HX.out.ext HE.out)
  replace HV := Lib.hid (HV.out.ext HE.out)
  replace RE := Lib.hid (RE.out.ext HE.out)
  replace R30 := Lib.hid (R30.out.ext HE.out)
  replace C0 := Lib.hid (HE.out.cell (p := ⟨w.heap.size, 0, none⟩) C0.out)
  replace C1 := Lib.hid (HE.out.cell (p := ⟨w.heap.size, 1, none⟩) C1.out)
  replace F0 := Lib.hid (HE.out.cell (p := ⟨O9, 0, none⟩) F0.out)
  replace F1 := Lib.hid (HE.out.cell (p := ⟨O9, 1, none⟩) F1.out)
  clear HE
  rw [HIC.out] at R54
  have hwn : (wgtN p qs (invR p qs x v) == 0) = true := by rw [wgtN_zero (by omega)]; simp [hw]
  have x00 := C0.out
  have x01 := C1.out
  have x10 := F0.out
  have x11 := F1.out
  go_wp2_with (fail)
  clear x00 x01 x10 x11
  refine Calls.mono (s_weight p a d cap qs _ _ (invR p qs x v) v5 HSP.out (by rw [HQL.out]; exact h4) HQ.out R54.out.rd HRG.out) ?_
  rintro e v6 ⟨rfl, gg⟩
  replace E := Lib.hid (E.out.trans gg)
  replace HQ := Lib.hid (HQ.out.ext gg)
  replace HX := Lib.hid (HX.out.ext gg)
  replace HV := Lib.hid (HV.out.ext gg)
  replace RE := Lib.hid (RE.out.ext gg)
  replace R30 := Lib.hid (R30.out.ext gg)
  replace R54 := Lib.hid (R54.out.ext gg)
  replace C0 := Lib.hid (gg.cell (p := ⟨w.heap.size, 0, none⟩) C0.out)
  replace C1 := Lib.hid (gg.cell (p := ⟨w.heap.size, 1, none⟩) C1.out)
  replace F0 := Lib.hid (gg.cell (p := ⟨O9, 0, none⟩) F0.out)
  replace F1 := Lib.hid (gg.cell (p := ⟨O9, 1, none⟩) F1.out)
  clear gg
  go_wp2_with (fail)
  go_ret2
  exact ⟨rfl, E.out⟩

set_option maxHeartbeats 4000000 in
set_option maxRecDepth 100000 in
theorem s_InvertAt_ok (p : Int) (a : Option Addr) (d cap : Nat) (qs : List Int) (ax : Option Addr) (cx : Nat) (x : List Int) (av : Option Addr) (cv : Nat) (v : List Int) (w : World) (hs : spaceB p qs = true) (h4 : qs.length ≤ 4) (hq : RdC w a d qs) (hx : RdC w ax (d + 2) x) (hgx : Good p (d + 2) x) (hv : RdC w av d v) (hgv : Good p d v) (hz : nrmZ p qs x ≠ 0) (hw : wgtI p qs (invR p qs x v) ≠ 0) :
    Calls Try.prog 10 #[.agg #[.int .i64 p, .slice a d cap], .slice ax (d + 2) cx, .slice av d cv] w fun e w' => ∃ g rc, e = .returned (.tuple #[.slice (some ⟨g, 0, none⟩) d rc, .int .i64 0]) ∧ RdC w' (some ⟨g, 0, none⟩) d (plcL p qs (invR p qs x v)) ∧ Ext w w' := by
  have HC := Lib.hid (code18M_0 (vs := [v]) hs h4 (all_one (by rw [hq.1]; exact hgv)) (x := x) (by rw [hq.1]; exact hgx))
  have HSP := Lib.hid hs
  obtain ⟨hpr, hd1, _, hqb⟩ := space_of hs
  have hpb := prime_bd hpr
  have HPR := Lib.hid hpr
  have HQB := Lib.hid hqb
  have hql := hq.1
  rw [hql] at hd1 h4
  have HQL := Lib.hid hql
  have HEB := Lib.hid (extL_isB (p := p) (by omega) hqb)
  have HGI := Lib.hid (good_inf (p := p) (d := d) (by omega))
  have HGP := fun (u : List Int) => Lib.hid (pointL_good (p := p) (qs := qs) (v := u) (d := d) (by omega) hql)
  clear hpr hqb hql
  have hcb : ((0 : Int) != 0) = false := by simp
  have HRG := Lib.hid (invR_good (p := p) (qs := qs) (x := x) (v := v) (by omega) HQL.out)
  have HIR : Hid (invR p qs x v = reflL p (extL p qs) x (pointL p qs v) (d + 2)) := Lib.hid (by unfold invR; rw [HQL.out])
  have HNR : Hid (nrmZ p qs x = pairL p (extL p qs) x x (d + 2)) := Lib.hid (by unfold nrmZ; rw [HQL.out])
  have hnb : 0 ≤ nrmZ p qs x ∧ nrmZ p qs x < p := pairL_bd (by omega)
  have hdd : ¬ d = 0 := by omega
  obtain ⟨z, hzz⟩ : ∃ z, z = nrmZ p qs x := ⟨_, rfl⟩
  rw [← hzz] at hnb hz HNR
  clear hzz
  have hzb : (z == 0) = false := by simp [hz]
  have hzp : 0 < z := by omega
  clear hz
  obtain ⟨W, hW⟩ : ∃ W, W = w.alloc (.cells #[.int .i64 p, .slice a d cap] 26) := ⟨_, rfl⟩
  have E : Hid (Ext w W) := Lib.hid (by rw [hW]; exact ext_alloc _ _)
  have C0 : Hid (W.cell? ⟨w.heap.size, 0, none⟩ = some (.int .i64 p)) := Lib.hid (by rw [hW]; simp)
  have C1 : Hid (W.cell? ⟨w.heap.size, 1, none⟩ = some (.slice a d cap)) := Lib.hid (by rw [hW]; simp)
  have HZ : Hid (W.heap.size = w.heap.size + 1) := Lib.hid (by rw [hW]; simp)
  have HW := Lib.hid hW
  clear hW
  have HQ := Lib.hid (hq.ext E.out)
  have HX := Lib.hid (hx.ext E.out)
  have HV := Lib.hid (hv.ext E.out)
  clear hq hx hv
  go_enter Try.func10, Try.ntmps10
  have x00 := C0.out
  have x01 := C1.out
  go_wp2_with (fail)
  clear x00 x01
  rw [← HW.out]
  clear HW
  refine Calls.mono (s_more18 p a d cap qs ax (d + 2) cx x v _ _ _ (by omega) (by omega) (HQ.out.ext (ext_alloc _ _)) (HX.out.ext (ext_alloc _ _)) (rdR_one (a := av) (n := d) (cap := cv) (by rw [← HZ.out]; simp) (HV.out.ext (ext_alloc _ _))) (by rw [HV.out.1]; omega)) ?_
  rintro e v1 ⟨rfl, gg⟩
  replace gg := (ext_alloc _ _).trans gg
  rw [HC.out]
  replace E := Lib.hid (E.out.trans gg)
  replace HQ := Lib.hid (HQ.out.ext gg)
  replace HX := Lib.hid (HX.out.ext gg)
  replace HV := Lib.hid (HV.out.ext gg)
  replace C0 := Lib.hid (gg.cell (p := ⟨w.heap.size, 0, none⟩) C0.out)
  replace C1 := Lib.hid (gg.cell (p := ⟨w.heap.size, 1, none⟩) C1.out)
  clear gg
  have x00 := C0.out
  have x01 := C1.out
  go_wp2_with (fail)
  clear x00 x01
  refine Calls.mono (s_extended p a d cap qs v1 (by omega) (by omega) (by omega) (by omega) HQ.out) ?_
  rintro e v2 ⟨gE, rE, rfl, ho, gg⟩
  have RE := Lib.hid (ho.mono E.out.size)
  clear ho
  replace E := Lib.hid (E.out.trans gg)
  replace HQ := Lib.hid (HQ.out.ext gg)
  replace HX := Lib.hid (HX.out.ext gg)
  replace HV := Lib.hid (HV.out.ext gg)
  replace C0 := Lib.hid (gg.cell (p := ⟨w.heap.size, 0, none⟩) C0.out)
  replace C1 := Lib.hid (gg.cell (p := ⟨w.heap.size, 1, none⟩) C1.out)
  clear gg
  have y00 := (ext_alloc v2 (.cells #[.int .i64 p, .slice (some ⟨gE, 0, none⟩) (d + 2) rE] 26)).cell (p := ⟨w.heap.size, 0, none⟩) C0.out
  have y01 := (ext_alloc v2 (.cells #[.int .i64 p, .slice (some ⟨gE, 0, none⟩) (d + 2) rE] 26)).cell (p := ⟨w.heap.size, 1, none⟩) C1.out
  go_wp2_with (fail)
  clear y00 y01
  obtain ⟨O9, hO9⟩ : ∃ O2, O2 = v2.heap.size := ⟨_, rfl⟩
  obtain ⟨W9, hW9⟩ : ∃ W2, W2 = v2.alloc (.cells #[.int .i64 p, .slice (some ⟨gE, 0, none⟩) (d + 2) rE] 26) := ⟨_, rfl⟩
  have F0 := Lib.hid (show W9.cell? ⟨O9, 0, none⟩ = some (.int .i64 p) by rw [hW9, hO9]; simp)
  have F1 := Lib.hid (show W9.cell? ⟨O9, 1, none⟩ = some (.slice (some ⟨gE, 0, none⟩) (d + 2) rE) by rw [hW9, hO9]; simp)
  have gg : Ext v2 W9 := by rw [hW9]; exact ext_alloc _ _
  rw [← hO9, ← hW9]
  clear hO9 hW9
  replace E := Lib.hid (E.out.trans gg)
  replace HQ := Lib.hid (HQ.out.ext gg)
  replace HX := Lib.hid (HX.out.ext gg)
  replace HV := Lib.hid (HV.out.ext gg)
  replace RE := Lib.hid (RE.out.ext gg)
  replace C0 := Lib.hid (gg.cell (p := ⟨w.heap.size, 0, none⟩) C0.out)
  replace C1 := Lib.hid (gg.cell (p := ⟨w.heap.size, 1, none⟩) C1.out)
  clear gg
  have hwd : True := trivial
  clear hwd
  replace E := Lib.hid (E.out.trans (ext_drew W9))
  replace HQ := Lib.hid (HQ.out.ext (ext_drew W9))
  replace HX := Lib.hid (HX.out.ext (ext_drew W9))
  replace HV := Lib.hid (HV.out.ext (ext_drew W9))
  replace RE := Lib.hid (RE.out.ext (ext_drew W9))
  replace C0 := Lib.hid ((ext_drew W9).cell (p := ⟨w.heap.size, 0, none⟩) C0.out)
  replace C1 := Lib.hid ((ext_drew W9).cell (p := ⟨w.heap.size, 1, none⟩) C1.out)
  replace F0 := Lib.hid ((ext_drew W9).cell (p := ⟨O9, 0, none⟩) F0.out)
  replace F1 := Lib.hid ((ext_drew W9).cell (p := ⟨O9, 1, none⟩) F1.out)
  refine wp_region_lex [(3, .val (.int .i64 z)), (6, .ownS w.heap.size (d + 2) (pointL p qs v))] (by kernel_rfl) (by kernel_rfl) ?_
  (refine LexW.pure (v := ?_) rfl rfl (fun w1 he => ?_) ?_; rotate_left; ( have x00 := (he.cell (p := ⟨w.heap.size, 0, none⟩) C0.out); have x01 := (he.cell (p := ⟨w.heap.size, 1, none⟩) C1.out); have x10 := (he.cell (p := ⟨O9, 0, none⟩) F0.out); have x11 := (he.cell (p := ⟨O9, 1, none⟩) F1.out); go_simp; rfl); simp only [Act.put, List.setIfInBounds_toArray, List.set_cons_zero, List.set_cons_succ])
  (refine LexW.pure (v := ?_) rfl rfl (fun w1 he => ?_) ?_; rotate_left; ( have x00 := (he.cell (p := ⟨w.heap.size, 0, none⟩) C0.out); have x01 := (he.cell (p := ⟨w.heap.size, 1, none⟩) C1.out); have x10 := (he.cell (p := ⟨O9, 0, none⟩) F0.out); have x11 := (he.cell (p := ⟨O9, 1, none⟩) F1.out); go_simp; rfl); simp only [Act.put, List.setIfInBounds_toArray, List.set_cons_zero, List.set_cons_succ])
  (refine LexW.pure (v := ?_) rfl rfl (fun w1 he => ?_) ?_; rotate_left; ( have x00 := (he.cell (p := ⟨w.heap.size, 0, none⟩) C0.out); have x01 := (he.cell (p := ⟨w.heap.size, 1, none⟩) C1.out); have x10 := (he.cell (p := ⟨O9, 0, none⟩) F0.out); have x11 := (he.cell (p := ⟨O9, 1, none⟩) F1.out); go_simp; rfl); simp only [Act.put, List.setIfInBounds_toArray, List.set_cons_zero, List.set_cons_succ])
  (refine LexW.call (f := ?_) (args := ?_) rfl rfl (fun w1 => ?_) (fun w1 he hdep => ?_) ?_; rotate_left 2; (go_simp; refine ⟨?_, ?_⟩ <;> rfl); ( have H := s_pair p _ (d + 2) rE (extL p qs) ax cx x ax cx x w1 (by omega) (by omega) (by omega) (RE.out.rd.ext he) HEB.out (HX.out.ext he) hgx (HX.out.ext he) hgx; rw [← HNR.out] at H; exact H); simp only [Act.put, List.setIfInBounds_toArray, List.set_cons_zero, List.set_cons_succ])
  (refine LexW.pure (v := ?_) rfl rfl (fun w1 he => ?_) ?_; rotate_left; ( have x00 := (he.cell (p := ⟨w.heap.size, 0, none⟩) C0.out); have x01 := (he.cell (p := ⟨w.heap.size, 1, none⟩) C1.out); have x10 := (he.cell (p := ⟨O9, 0, none⟩) F0.out); have x11 := (he.cell (p := ⟨O9, 1, none⟩) F1.out); go_simp; rfl); simp only [Act.put, List.setIfInBounds_toArray, List.set_cons_zero, List.set_cons_succ])
  (refine LexW.pure (v := ?_) rfl rfl (fun w1 he => ?_) ?_; rotate_left; ( have x00 := (he.cell (p := ⟨w.heap.size, 0, none⟩) C0.out); have x01 := (he.cell (p := ⟨w.heap.size, 1, none⟩) C1.out); have x10 := (he.cell (p := ⟨O9, 0, none⟩) F0.out); have x11 := (he.cell (p := ⟨O9, 1, none⟩) F1.out); go_simp; rfl); simp only [Act.put, List.setIfInBounds_toArray, List.set_cons_zero, List.set_cons_succ])
  (refine LexW.callR (f := ?_) (args := ?_) rfl rfl (fun w1 => ?_) (fun w1 he hdep => ?_) (fun v hv => ?_); rotate_left 2; (go_simp; refine ⟨?_, ?_⟩ <;> rfl); ( refine (s_point p a d cap qs av cv v w1 (by omega) h4 HPR.out (HQ.out.ext he) HQB.out (HV.out.ext he) hgv).mono ?_; rintro e w2 ⟨g, rc, rfl, ho, g2⟩; exact ⟨_, rfl, g2, g, rc, rfl, ho.mono (Nat.le_trans E.out.size he.size)⟩); simp only [Act.put, List.setIfInBounds_toArray, List.set_cons_zero, List.set_cons_succ])
  obtain ⟨_, g30, c30, rfl, _⟩ := hv
  (refine LexW.pure (v := ?_) rfl rfl (fun w1 he => ?_) ?_; rotate_left; ( have x00 := (he.cell (p := ⟨w.heap.size, 0, none⟩) C0.out); have x01 := (he.cell (p := ⟨w.heap.size, 1, none⟩) C1.out); have x10 := (he.cell (p := ⟨O9, 0, none⟩) F0.out); have x11 := (he.cell (p := ⟨O9, 1, none⟩) F1.out); go_simp; rfl); simp only [Act.put, List.setIfInBounds_toArray, List.set_cons_zero, List.set_cons_succ])
  (refine LexW.pure (v := ?_) rfl rfl (fun w1 he => ?_) ?_; rotate_left; ( have x00 := (he.cell (p := ⟨w.heap.size, 0, none⟩) C0.out); have x01 := (he.cell (p := ⟨w.heap.size, 1, none⟩) C1.out); have x10 := (he.cell (p := ⟨O9, 0, none⟩) F0.out); have x11 := (he.cell (p := ⟨O9, 1, none⟩) F1.out); go_simp; rfl); simp only [Act.put, List.setIfInBounds_toArray, List.set_cons_zero, List.set_cons_succ])
  refine LexW.nil (fun w3 he hkn => ?_)
  obtain ⟨_, _, q30, r30⟩ : (SPred.ownS w.heap.size (d + 2) (pointL p qs v)).holds (.slice (some ⟨g30, 0, none⟩) (d + 2) c30) w3 := hkn (6, _) (by simp)
  cases q30
  have R30 := Lib.hid r30
  have HE := Lib.hid he
  clear he hkn r30
  rename World => v3
  replace E := Lib.hid (E.out.trans HE.out)
  replace HQ := Lib.hid (HQ.out.ext HE.out)
  replace HX := Lib.hid (HX.out.ext HE.out)
  replace HV := Lib.hid (HV.out.ext HE.out)
  replace RE := Lib.hid (RE.out.ext HE.out)
  replace C0 := Lib.hid (HE.out.cell (p := ⟨w.heap.size, 0, none⟩) C0.out)
  replace C1 := Lib.hid (HE.out.cell (p := ⟨w.heap.size, 1, none⟩) C1.out)
  replace F0 := Lib.hid (HE.out.cell (p := ⟨O9, 0, none⟩) F0.out)
  replace F1 := Lib.hid (HE.out.cell (p := ⟨O9, 1, none⟩) F1.out)
  clear HE
  obtain ⟨y, hy⟩ : ∃ y, y = pairL p (extL p qs) (pointL p qs v) x (d + 2) := ⟨_, rfl⟩
  have hyb : 0 ≤ y ∧ y < p := by rw [hy]; exact pairL_bd (by omega)
  have hib := invN_bd (p := p) (a := z) (by omega)
  have HIC : Hid (plusL p (pointL p qs v) (scaleL p x (2 * y * invN p z % p) (d + 2)) (-1) (d + 2) = invR p qs x v) := Lib.hid (by rw [HIR.out, hy, HNR.out]; exact inv_cut (by rw [extL_len, HQL.out]))
  have HY := Lib.hid hy
  clear hy
  obtain ⟨iv, hiv⟩ : ∃ i, i = invN p z := ⟨_, rfl⟩
  rw [← hiv] at hib HIC
  have HIV := Lib.hid hiv.symm
  clear hiv
  have hyi : 0 ≤ y * iv ∧ y * iv ≤ 169 := ⟨Int.mul_nonneg hyb.1 hib.1, by have := Int.mul_le_mul (show y ≤ 13 by omega) (show iv ≤ 13 by omega) hib.1 (show (0 : Int) ≤ 13 by omega); omega⟩
  have hya : 2 * y * iv = 2 * (y * iv) := by rw [Int.mul_assoc]
  have hw1 : IntKind.i64.wrap (2 * y) = 2 * y := IntWalk.i64_in _ (by omega)
  obtain ⟨m2, hm2⟩ : ∃ m, m = 2 * y * iv := ⟨_, rfl⟩
  have hw2 : IntKind.i64.wrap (2 * y * iv) = m2 := by rw [hm2]; exact IntWalk.i64_in _ (by omega)
  rw [← hm2] at HIC
  obtain ⟨K, hK⟩ : ∃ K, K = m2 % p := ⟨_, rfl⟩
  rw [← hK] at HIC
  have hKb : 0 ≤ K ∧ K < p := by rw [hK]; exact ⟨Int.emod_nonneg _ (by omega), Int.emod_lt_of_pos _ (by omega)⟩
  have HK := Lib.hid hK.symm
  clear hm2 hya hyi hK
  have x00 := C0.out
  have x01 := C1.out
  have x10 := F0.out
  have x11 := F1.out
  go_wp2_with (fail)
  clear x00 x01 x10 x11
  replace E := Lib.hid (E.out.trans (ext_drew v3))
  replace HQ := Lib.hid (HQ.out.ext (ext_drew v3))
  replace HX := Lib.hid (HX.out.ext (ext_drew v3))
  replace HV := Lib.hid (HV.out.ext (ext_drew v3))
  replace RE := Lib.hid (RE.out.ext (ext_drew v3))
  replace R30 := Lib.hid (R30.out.ext (ext_drew v3))
  replace C0 := Lib.hid ((ext_drew v3).cell (p := ⟨w.heap.size, 0, none⟩) C0.out)
  replace C1 := Lib.hid ((ext_drew v3).cell (p := ⟨w.heap.size, 1, none⟩) C1.out)
  replace F0 := Lib.hid ((ext_drew v3).cell (p := ⟨O9, 0, none⟩) F0.out)
  replace F1 := Lib.hid ((ext_drew v3).cell (p := ⟨O9, 1, none⟩) F1.out)
  refine wp_region_lex [(5, .val (.int .i64 y)), (10, .val (.int .i64 iv)), (12, .val (.int .i64 K))] (by kernel_rfl) (by kernel_rfl) ?_
  (refine LexW.pure (v := ?_) rfl rfl (fun w1 he => ?_) ?_; rotate_left; ( have x00 := (he.cell (p := ⟨w.heap.size, 0, none⟩) C0.out); have x01 := (he.cell (p := ⟨w.heap.size, 1, none⟩) C1.out); have x10 := (he.cell (p := ⟨O9, 0, none⟩) F0.out); have x11 := (he.cell (p := ⟨O9, 1, none⟩) F1.out); go_simp; rfl); simp only [Act.put, List.setIfInBounds_toArray, List.set_cons_zero, List.set_cons_succ])
  (refine LexW.pure (v := ?_) rfl rfl (fun w1 he => ?_) ?_; rotate_left; ( have x00 := (he.cell (p := ⟨w.heap.size, 0, none⟩) C0.out); have x01 := (he.cell (p := ⟨w.heap.size, 1, none⟩) C1.out); have x10 := (he.cell (p := ⟨O9, 0, none⟩) F0.out); have x11 := (he.cell (p := ⟨O9, 1, none⟩) F1.out); go_simp; rfl); simp only [Act.put, List.setIfInBounds_toArray, List.set_cons_zero, List.set_cons_succ])
  (refine LexW.pure (v := ?_) rfl rfl (fun w1 he => ?_) ?_; rotate_left; ( have x00 := (he.cell (p := ⟨w.heap.size, 0, none⟩) C0.out); have x01 := (he.cell (p := ⟨w.heap.size, 1, none⟩) C1.out); have x10 := (he.cell (p := ⟨O9, 0, none⟩) F0.out); have x11 := (he.cell (p := ⟨O9, 1, none⟩) F1.out); go_simp; rfl); simp only [Act.put, List.setIfInBounds_toArray, List.set_cons_zero, List.set_cons_succ])
  (refine LexW.pure (v := ?_) rfl rfl (fun w1 he => ?_) ?_; rotate_left; ( have x00 := (he.cell (p := ⟨w.heap.size, 0, none⟩) C0.out); have x01 := (he.cell (p := ⟨w.heap.size, 1, none⟩) C1.out); have x10 := (he.cell (p := ⟨O9, 0, none⟩) F0.out); have x11 := (he.cell (p := ⟨O9, 1, none⟩) F1.out); go_simp; rfl); simp only [Act.put, List.setIfInBounds_toArray, List.set_cons_zero, List.set_cons_succ])
  (refine LexW.pure (v := ?_) rfl rfl (fun w1 he => ?_) ?_; rotate_left; ( have x00 := (he.cell (p := ⟨w.heap.size, 0, none⟩) C0.out); have x01 := (he.cell (p := ⟨w.heap.size, 1, none⟩) C1.out); have x10 := (he.cell (p := ⟨O9, 0, none⟩) F0.out); have x11 := (he.cell (p := ⟨O9, 1, none⟩) F1.out); go_simp; rfl); simp only [Act.put, List.setIfInBounds_toArray, List.set_cons_zero, List.set_cons_succ])
  (refine LexW.call (f := ?_) (args := ?_) rfl rfl (fun w1 => ?_) (fun w1 he hdep => ?_) ?_; rotate_left 2; (go_simp; refine ⟨?_, ?_⟩ <;> rfl); ( rw [HY.out]; exact s_pair p _ (d + 2) rE (extL p qs) _ _ (pointL p qs v) ax cx x w1 (by omega) (by omega) (by omega) (RE.out.rd.ext he) HEB.out (R30.out.rd.ext he) (HGP v).out (HX.out.ext he) hgx); simp only [Act.put, List.setIfInBounds_toArray, List.set_cons_zero, List.set_cons_succ])
  (refine LexW.pure (v := ?_) rfl rfl (fun w1 he => ?_) ?_; rotate_left; ( have x00 := (he.cell (p := ⟨w.heap.size, 0, none⟩) C0.out); have x01 := (he.cell (p := ⟨w.heap.size, 1, none⟩) C1.out); have x10 := (he.cell (p := ⟨O9, 0, none⟩) F0.out); have x11 := (he.cell (p := ⟨O9, 1, none⟩) F1.out); go_simp; rfl); simp only [Act.put, List.setIfInBounds_toArray, List.set_cons_zero, List.set_cons_succ])
  (refine LexW.pure (v := ?_) rfl rfl (fun w1 he => ?_) ?_; rotate_left; ( have x00 := (he.cell (p := ⟨w.heap.size, 0, none⟩) C0.out); have x01 := (he.cell (p := ⟨w.heap.size, 1, none⟩) C1.out); have x10 := (he.cell (p := ⟨O9, 0, none⟩) F0.out); have x11 := (he.cell (p := ⟨O9, 1, none⟩) F1.out); go_simp; rfl); simp only [Act.put, List.setIfInBounds_toArray, List.set_cons_zero, List.set_cons_succ])
  (refine LexW.pure (v := ?_) rfl rfl (fun w1 he => ?_) ?_; rotate_left; ( have x00 := (he.cell (p := ⟨w.heap.size, 0, none⟩) C0.out); have x01 := (he.cell (p := ⟨w.heap.size, 1, none⟩) C1.out); have x10 := (he.cell (p := ⟨O9, 0, none⟩) F0.out); have x11 := (he.cell (p := ⟨O9, 1, none⟩) F1.out); go_simp; rfl); simp only [Act.put, List.setIfInBounds_toArray, List.set_cons_zero, List.set_cons_succ])
  (refine LexW.pure (v := ?_) rfl rfl (fun w1 he => ?_) ?_; rotate_left; ( have x00 := (he.cell (p := ⟨w.heap.size, 0, none⟩) C0.out); have x01 := (he.cell (p := ⟨w.heap.size, 1, none⟩) C1.out); have x10 := (he.cell (p := ⟨O9, 0, none⟩) F0.out); have x11 := (he.cell (p := ⟨O9, 1, none⟩) F1.out); go_simp; rfl); simp only [Act.put, List.setIfInBounds_toArray, List.set_cons_zero, List.set_cons_succ])
  (refine LexW.call (f := ?_) (args := ?_) rfl rfl (fun w1 => ?_) (fun w1 he hdep => ?_) ?_; rotate_left 2; (go_simp; refine ⟨?_, ?_⟩ <;> rfl); ( have H := s_inv p z w1 HPR.out hzp hnb.2; rw [HIV.out] at H; exact H); simp only [Act.put, List.setIfInBounds_toArray, List.set_cons_zero, List.set_cons_succ])
  (refine LexW.pure (v := ?_) rfl rfl (fun w1 he => ?_) ?_; rotate_left; ( have x00 := (he.cell (p := ⟨w.heap.size, 0, none⟩) C0.out); have x01 := (he.cell (p := ⟨w.heap.size, 1, none⟩) C1.out); have x10 := (he.cell (p := ⟨O9, 0, none⟩) F0.out); have x11 := (he.cell (p := ⟨O9, 1, none⟩) F1.out); go_simp; rfl); simp only [Act.put, List.setIfInBounds_toArray, List.set_cons_zero, List.set_cons_succ])
  (refine LexW.call (f := ?_) (args := ?_) rfl rfl (fun w1 => ?_) (fun w1 he hdep => ?_) ?_; rotate_left 2; (go_simp; refine ⟨?_, ?_⟩ <;> rfl); ( have H := s_mod p m2 w1 (by omega) (by omega); rw [HK.out] at H; exact H); simp only [Act.put, List.setIfInBounds_toArray, List.set_cons_zero, List.set_cons_succ])
  (refine LexW.pure (v := ?_) rfl rfl (fun w1 he => ?_) ?_; rotate_left; ( have x00 := (he.cell (p := ⟨w.heap.size, 0, none⟩) C0.out); have x01 := (he.cell (p := ⟨w.heap.size, 1, none⟩) C1.out); have x10 := (he.cell (p := ⟨O9, 0, none⟩) F0.out); have x11 := (he.cell (p := ⟨O9, 1, none⟩) F1.out); go_simp; rfl); simp only [Act.put, List.setIfInBounds_toArray, List.set_cons_zero, List.set_cons_succ])
  refine LexW.nil (fun w3 he hkn => ?_)
  have HE := Lib.hid he
  clear he hkn 
  rename World => v4
  replace E := Lib.hid (E.out.trans HE.out)
  replace HQ := Lib.hid (HQ.out.ext HE.out)
  replace HX := Lib.hid (HX.out.ext HE.out)
  replace HV := Lib.hid (HV.out.ext HE.out)
  replace RE := Lib.hid (RE.out.ext HE.out)
  replace R30 := Lib.hid (R30.out.ext HE.out)
  replace C0 := Lib.hid (HE.out.cell (p := ⟨w.heap.size, 0, none⟩) C0.out)
  replace C1 := Lib.hid (HE.out.cell (p := ⟨w.heap.size, 1, none⟩) C1.out)
  replace F0 := Lib.hid (HE.out.cell (p := ⟨O9, 0, none⟩) F0.out)
  replace F1 := Lib.hid (HE.out.cell (p := ⟨O9, 1, none⟩) F1.out)
  clear HE
  have x00 := C0.out
  have x01 := C1.out
  have x10 := F0.out
  have x11 := F1.out
  go_wp2_with (fail)
  clear x00 x01 x10 x11
  replace E := Lib.hid (E.out.trans (ext_drew v4))
  replace HQ := Lib.hid (HQ.out.ext (ext_drew v4))
  replace HX := Lib.hid (HX.out.ext (ext_drew v4))
  replace HV := Lib.hid (HV.out.ext (ext_drew v4))
  replace RE := Lib.hid (RE.out.ext (ext_drew v4))
  replace R30 := Lib.hid (R30.out.ext (ext_drew v4))
  replace C0 := Lib.hid ((ext_drew v4).cell (p := ⟨w.heap.size, 0, none⟩) C0.out)
  replace C1 := Lib.hid ((ext_drew v4).cell (p := ⟨w.heap.size, 1, none⟩) C1.out)
  replace F0 := Lib.hid ((ext_drew v4).cell (p := ⟨O9, 0, none⟩) F0.out)
  replace F1 := Lib.hid ((ext_drew v4).cell (p := ⟨O9, 1, none⟩) F1.out)
  refine wp_region_lex [(7, .ownS w.heap.size (d + 2) (scaleL p x K (d + 2))), (8, .ownS w.heap.size (d + 2) (plusL p (pointL p qs v) (scaleL p x K (d + 2)) (-1) (d + 2)))] (by kernel_rfl) (by kernel_rfl) ?_
  (refine LexW.pure (v := ?_) rfl rfl (fun w1 he => ?_) ?_; rotate_left; ( have x00 := (he.cell (p := ⟨w.heap.size, 0, none⟩) C0.out); have x01 := (he.cell (p := ⟨w.heap.size, 1, none⟩) C1.out); have x10 := (he.cell (p := ⟨O9, 0, none⟩) F0.out); have x11 := (he.cell (p := ⟨O9, 1, none⟩) F1.out); go_simp; rfl); simp only [Act.put, List.setIfInBounds_toArray, List.set_cons_zero, List.set_cons_succ])
  (refine LexW.pure (v := ?_) rfl rfl (fun w1 he => ?_) ?_; rotate_left; ( have x00 := (he.cell (p := ⟨w.heap.size, 0, none⟩) C0.out); have x01 := (he.cell (p := ⟨w.heap.size, 1, none⟩) C1.out); have x10 := (he.cell (p := ⟨O9, 0, none⟩) F0.out); have x11 := (he.cell (p := ⟨O9, 1, none⟩) F1.out); go_simp; rfl); simp only [Act.put, List.setIfInBounds_toArray, List.set_cons_zero, List.set_cons_succ])
  (refine LexW.pure (v := ?_) rfl rfl (fun w1 he => ?_) ?_; rotate_left; ( have x00 := (he.cell (p := ⟨w.heap.size, 0, none⟩) C0.out); have x01 := (he.cell (p := ⟨w.heap.size, 1, none⟩) C1.out); have x10 := (he.cell (p := ⟨O9, 0, none⟩) F0.out); have x11 := (he.cell (p := ⟨O9, 1, none⟩) F1.out); go_simp; rfl); simp only [Act.put, List.setIfInBounds_toArray, List.set_cons_zero, List.set_cons_succ])
  (refine LexW.pure (v := ?_) rfl rfl (fun w1 he => ?_) ?_; rotate_left; ( have x00 := (he.cell (p := ⟨w.heap.size, 0, none⟩) C0.out); have x01 := (he.cell (p := ⟨w.heap.size, 1, none⟩) C1.out); have x10 := (he.cell (p := ⟨O9, 0, none⟩) F0.out); have x11 := (he.cell (p := ⟨O9, 1, none⟩) F1.out); go_simp; rfl); simp only [Act.put, List.setIfInBounds_toArray, List.set_cons_zero, List.set_cons_succ])
  (refine LexW.pure (v := ?_) rfl rfl (fun w1 he => ?_) ?_; rotate_left; ( have x00 := (he.cell (p := ⟨w.heap.size, 0, none⟩) C0.out); have x01 := (he.cell (p := ⟨w.heap.size, 1, none⟩) C1.out); have x10 := (he.cell (p := ⟨O9, 0, none⟩) F0.out); have x11 := (he.cell (p := ⟨O9, 1, none⟩) F1.out); go_simp; rfl); simp only [Act.put, List.setIfInBounds_toArray, List.set_cons_zero, List.set_cons_succ])
  (refine LexW.pure (v := ?_) rfl rfl (fun w1 he => ?_) ?_; rotate_left; ( have x00 := (he.cell (p := ⟨w.heap.size, 0, none⟩) C0.out); have x01 := (he.cell (p := ⟨w.heap.size, 1, none⟩) C1.out); have x10 := (he.cell (p := ⟨O9, 0, none⟩) F0.out); have x11 := (he.cell (p := ⟨O9, 1, none⟩) F1.out); go_simp; rfl); simp only [Act.put, List.setIfInBounds_toArray, List.set_cons_zero, List.set_cons_succ])
  (refine LexW.pure (v := ?_) rfl rfl (fun w1 he => ?_) ?_; rotate_left; ( have x00 := (he.cell (p := ⟨w.heap.size, 0, none⟩) C0.out); have x01 := (he.cell (p := ⟨w.heap.size, 1, none⟩) C1.out); have x10 := (he.cell (p := ⟨O9, 0, none⟩) F0.out); have x11 := (he.cell (p := ⟨O9, 1, none⟩) F1.out); go_simp; rfl); simp only [Act.put, List.setIfInBounds_toArray, List.set_cons_zero, List.set_cons_succ])
  (refine LexW.callR (f := ?_) (args := ?_) rfl rfl (fun w1 => ?_) (fun w1 he hdep => ?_) (fun v hv => ?_); rotate_left 2; (go_simp; refine ⟨?_, ?_⟩ <;> rfl); ( refine (s_scale11 p ax (d + 2) cx x K w1 (by omega) (by omega) (by omega) (by omega) (HX.out.ext he) hgx).mono ?_; rintro e w2 ⟨g, rc, rfl, ho, g2⟩; exact ⟨_, rfl, g2, g, rc, rfl, ho.mono (Nat.le_trans E.out.size he.size)⟩); simp only [Act.put, List.setIfInBounds_toArray, List.set_cons_zero, List.set_cons_succ])
  obtain ⟨_, g53, c53, rfl, _⟩ := hv
  (refine LexW.callR (f := ?_) (args := ?_) rfl rfl (fun w1 => ?_) (fun w1 he hdep => ?_) (fun v hv => ?_); rotate_left 2; (go_simp; refine ⟨?_, ?_⟩ <;> rfl); ( obtain ⟨_, _, q53, r53⟩ : (SPred.ownS w.heap.size (d + 2) (scaleL p x K (d + 2))).holds (.slice (some ⟨g53, 0, none⟩) (d + 2) c53) w1 := hdep (7, 53) (by decide +kernel); cases q53; refine (s_minus11 p _ _ (d + 2) _ _ (pointL p qs v) (scaleL p x K (d + 2)) w1 (by omega) (by omega) (by omega) (R30.out.rd.ext he) r53.rd (fun i hi => by have := (HGP v).out.2 i hi; omega) (scale_good (by omega))).mono ?_; rintro e w2 ⟨g, rc, rfl, ho, g2⟩; exact ⟨_, rfl, g2, g, rc, rfl, ho.mono (Nat.le_trans E.out.size he.size)⟩); simp only [Act.put, List.setIfInBounds_toArray, List.set_cons_zero, List.set_cons_succ])
  obtain ⟨_, g54, c54, rfl, _⟩ := hv
  (refine LexW.pure (v := ?_) rfl rfl (fun w1 he => ?_) ?_; rotate_left; ( have x00 := (he.cell (p := ⟨w.heap.size, 0, none⟩) C0.out); have x01 := (he.cell (p := ⟨w.heap.size, 1, none⟩) C1.out); have x10 := (he.cell (p := ⟨O9, 0, none⟩) F0.out); have x11 := (he.cell (p := ⟨O9, 1, none⟩) F1.out); go_simp; rfl); simp only [Act.put, List.setIfInBounds_toArray, List.set_cons_zero, List.set_cons_succ])
  refine LexW.nil (fun w3 he hkn => ?_)
  obtain ⟨_, _, q54, r54⟩ : (SPred.ownS w.heap.size (d + 2) (plusL p (pointL p qs v) (scaleL p x K (d + 2)) (-1) (d + 2))).holds (.slice (some ⟨g54, 0, none⟩) (d + 2) c54) w3 := hkn (8, _) (by simp)
  cases q54
  have R54 := Lib.hid r54
  have HE := Lib.hid he
  clear he hkn r54
  rename World => v5
  replace E := Lib.hid (E.out.trans HE.out)
  replace HQ := Lib.hid (HQ.out.ext HE.out)
  replace HX := Lib.hid (HX.out.ext HE.out)
  replace HV := Lib.hid (HV.out.ext HE.out)
  replace RE := Lib.hid (RE.out.ext HE.out)
  replace R30 := Lib.hid (R30.out.ext HE.out)
  replace C0 := Lib.hid (HE.out.cell (p := ⟨w.heap.size, 0, none⟩) C0.out)
  replace C1 := Lib.hid (HE.out.cell (p := ⟨w.heap.size, 1, none⟩) C1.out)
  replace F0 := Lib.hid (HE.out.cell (p := ⟨O9, 0, none⟩) F0.out)
  replace F1 := Lib.hid (HE.out.cell (p := ⟨O9, 1, none⟩) F1.out)
  clear HE
  rw [HIC.out] at R54
  have hwn : (wgtN p qs (invR p qs x v) == 0) = false := by rw [wgtN_zero (by omega)]; simp [hw]
  have x00 := C0.out
  have x01 := C1.out
  have x10 := F0.out
  have x11 := F1.out
  go_wp2_with (fail)
  clear x00 x01 x10 x11
  refine Calls.mono (s_weight p a d cap qs _ _ (invR p qs x v) v5 HSP.out (by rw [HQL.out]; exact h4) HQ.out R54.out.rd HRG.out) ?_
  rintro e v6 ⟨rfl, gg⟩
  replace E := Lib.hid (E.out.trans gg)
  replace HQ := Lib.hid (HQ.out.ext gg)
  replace HX := Lib.hid (HX.out.ext gg)
  replace HV := Lib.hid (HV.out.ext gg)
  replace RE := Lib.hid (RE.out.ext gg)
  replace R30 := Lib.hid (R30.out.ext gg)
  replace R54 := Lib.hid (R54.out.ext gg)
  replace C0 := Lib.hid (gg.cell (p := ⟨w.heap.size, 0, none⟩) C0.out)
  replace C1 := Lib.hid (gg.cell (p := ⟨w.heap.size, 1, none⟩) C1.out)
  replace F0 := Lib.hid (gg.cell (p := ⟨O9, 0, none⟩) F0.out)
  replace F1 := Lib.hid (gg.cell (p := ⟨O9, 1, none⟩) F1.out)
  clear gg
  have hkc : d + 2 ≤ c54 := R54.out.capLe (by omega)
  have x00 := C0.out
  have x01 := C1.out
  have x10 := F0.out
  have x11 := F1.out
  go_wp2_with (fail)
  clear x00 x01 x10 x11
  refine Calls.mono (s_place p a d cap qs _ _ (invR p qs x v) v6 HSP.out (by rw [HQL.out]; exact h4) HQ.out R54.out.rd HRG.out hw (by omega)) ?_
  rintro e v7 ⟨gP, kP, rfl, ho, gg⟩
  have RP := Lib.hid (ho.mono E.out.size)
  clear ho
  replace E := Lib.hid (E.out.trans gg)
  replace HQ := Lib.hid (HQ.out.ext gg)
  replace HX := Lib.hid (HX.out.ext gg)
  replace HV := Lib.hid (HV.out.ext gg)
  replace RE := Lib.hid (RE.out.ext gg)
  replace R30 := Lib.hid (R30.out.ext gg)
  replace R54 := Lib.hid (R54.out.ext gg)
  replace C0 := Lib.hid (gg.cell (p := ⟨w.heap.size, 0, none⟩) C0.out)
  replace C1 := Lib.hid (gg.cell (p := ⟨w.heap.size, 1, none⟩) C1.out)
  replace F0 := Lib.hid (gg.cell (p := ⟨O9, 0, none⟩) F0.out)
  replace F1 := Lib.hid (gg.cell (p := ⟨O9, 1, none⟩) F1.out)
  clear gg
  go_wp2_with (fail)
  go_ret2
  exact ⟨gP, kP, rfl, RP.out.rd, E.out⟩

end Go.Proofs.Ytcocbainookkcaa
