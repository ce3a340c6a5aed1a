/-
  Contracts and plain laws, part 3: Reverse, Undual, Vecs, CodesV, Norm, Top5, StabE, Src.
  No condition.
-/
import Derived.Test.YtnbhlabcecdbgaaPart2
import Derived.Test.YtnbhlabcecdbgaaPart0
import Derived.Laws.Bits64b
/-
  Reverses of multivectors, in the program and in the reference.
  No condition.
-/
namespace Go.Proofs.Ytnbhlabcecdbgaa
set_option maxRecDepth 100000
open Go.RowKit


def revB (g : Nat) : Bool := g * (g - 1) / 2 % 2 == 1
theorem rev_i (g : Nat) (hg : g ≤ 6) : ((wrap64 ((wrap64 ((g : Int) * ((g : Int) - 1))).tdiv 2)).tmod 2 == 1) = revB g := by
  have : ∀ g : Nat, g < 7 → ((wrap64 ((wrap64 ((g : Int) * ((g : Int) - 1))).tdiv 2)).tmod 2 == 1) = revB g := by decide +kernel
  exact this g (by omega)

def signN (p : Int) (odd : Nat → Bool) (x : List Int) (i : Nat) : Int := if odd (popc i) = true then (-nth x i) % p else nth x i
def signL (p : Int) (odd : Nat → Bool) (x : List Int) (n : Nat) : List Int := (List.range n).map (signN p odd x)
theorem signL_len (p : Int) (odd : Nat → Bool) (x : List Int) (n : Nat) : (signL p odd x n).length = n := by simp [signL]
theorem signL_nth {p : Int} {odd : Nat → Bool} {x : List Int} {n i : Nat} (h : i < n) : nth (signL p odd x n) i = signN p odd x i := by
  unfold signL; rw [nth_map (by simpa using h)]; simp
theorem signL_succ (p : Int) (odd : Nat → Bool) (x : List Int) (n : Nat) : signL p odd x (n + 1) = signL p odd x n ++ [signN p odd x n] := by simp [signL, List.range_succ]
theorem signN_bd {p : Int} {odd : Nat → Bool} {x : List Int} {n i : Nat} (hp : 1 ≤ p) (hx : Good p n x) (h : i < n) : 0 ≤ signN p odd x i ∧ signN p odd x i < p := by
  unfold signN; split
  · exact ⟨Int.emod_nonneg _ (by omega), Int.emod_lt_of_pos _ (by omega)⟩
  · exact hx.2 i h
theorem sign_good {p : Int} {odd : Nat → Bool} {x : List Int} {n : Nat} (hp : 1 ≤ p) (hx : Good p n x) : Good p n (signL p odd x n) := ⟨signL_len _ _ _ _, fun i hi => by rw [signL_nth hi]; exact signN_bd hp hx hi⟩



theorem neg_ref {p x : Int} : (p - x) % p = (-x) % p := by
  rw [show p - x = -x + p * 1 by omega, Int.add_mul_emod_self_left]


end Go.Proofs.Ytnbhlabcecdbgaa

/-
  Unduals, scalar products, brackets: walks.
  No condition.
-/
namespace Go.Proofs.Ytnbhlabcecdbgaa
set_option maxRecDepth 100000
open Go.RowKit



def scalL (p : Int) (qs x y : List Int) : Int := nth (prodL p qs tkA (signL p revB x (2 ^ qs.length)) y) 0


theorem prod_two {p : Int} {qs x y : List Int} {N : Nat} (hN : N = 2 ^ qs.length) (hp : 3 ≤ p) (hx : Good p N x) : timesL p qs [x, y] = prodL p qs tkA x y := timesL_two hp (by rw [← hN]; exact hx)



end Go.Proofs.Ytnbhlabcecdbgaa

/-
  Products of lists of vectors.
  No condition.
-/
namespace Go.Proofs.Ytnbhlabcecdbgaa
set_option maxRecDepth 100000
open Go.RowKit

/-- The product of the first k of some vectors. -/
def prodS (p : Int) (qs : List Int) (tk : Nat → Nat → Bool) (rows : List (List Int)) : Nat → List Int
  | 0 => bladeL (2 ^ qs.length) 0
  | k + 1 => prodL p qs tk (prodS p qs tk rows k) (vecL (2 ^ qs.length) (nthR rows k))
theorem prodS_good {p : Int} {qs : List Int} {tk : Nat → Nat → Bool} {rows : List (List Int)} (hp : 3 ≤ p) : ∀ k, Good p (2 ^ qs.length) (prodS p qs tk rows k)
  | 0 => blade_good hp
  | k + 1 => prod_good (by omega)
/-- The code of a space and a list of at most 16 vectors. -/
def codeVR (p : Int) (qs : List Int) (rows : List (List Int)) : Int := if codeV p qs rows = 0 then (if rows.length ≤ 16 then 0 else 2) else codeV p qs rows
theorem codeVR_zero {p : Int} {qs : List Int} {rows : List (List Int)} (h : codeVR p qs rows = 0) : spaceB p qs = true ∧ rows.all (vecB p qs.length) = true ∧ rows.length ≤ 16 := by
  unfold codeVR codeV at h
  cases hs : spaceB p qs
  · simp [hs] at h
  · cases ha : rows.all (vecB p qs.length)
    · simp [hs, ha] at h
    · simp [hs, ha] at h
      exact ⟨rfl, rfl, h⟩
theorem rows_good {p : Int} {d : Nat} {rows : List (List Int)} (h : rows.all (vecB p d) = true) : RowsG p d rows := fun i hi => by
  have := List.all_eq_true.1 h (nthR rows i) (by rw [nthR_eq hi]; exact List.getElem_mem hi)
  obtain ⟨h1, h2⟩ := vec_of this
  exact good_isB h1 h2

set_option maxHeartbeats 2000000 in
theorem c_wedgeAll {N d : Nat} (hN : N = 2 ^ d) (p : Int) (a : Option Addr) (cap : Nat) (qs : List Int) (al : Option Addr) (n cl : Nat) (rows : List (List Int)) (w : World) (hd : d ≤ 6) (hp1 : 3 ≤ p) (hp2 : p ≤ 1000) (hl : n ≤ 4194304) (hq : RdC w a d qs) (hqb : isB p qs = true) (hx : RdR w al n rows) (hg : RowsG p d rows) :
    Calls Try.prog 28 #[.agg #[.int .i64 p, .slice a d cap], .slice al n cl] w fun e w' => ∃ g, e = .returned (.slice (some ⟨g, 0, none⟩) N N) ∧ OwnC w.heap.size w' (some ⟨g, 0, none⟩) N N (prodS p qs tkW rows n) ∧ Ext w w' := by
  have HN := Lib.hid hN
  have HX := Lib.hid hx
  have HQ := Lib.hid hq
  have HQB := Lib.hid hqb
  have HG := Lib.hid hg
  have HD := Lib.hid (show N = 2 ^ qs.length by rw [hq.1]; exact hN)
  have HPA : Hid (∀ k, Good p N (prodS p qs tkW rows k)) := Lib.hid (fun k => by rw [HD.out]; exact prodS_good hp1 k)
  clear hN hx hq hqb hg
  obtain ⟨W, hW⟩ : ∃ W, W = w.alloc (.cells #[.int .i64 p, .slice a d cap] 26) := ⟨_, rfl⟩
  have gW : Ext w W := by rw [hW]; exact ext_alloc _ _
  have hs0 : W.cell? ⟨w.heap.size, 0, none⟩ = some (.int .i64 p) := by rw [hW]; simp
  have hs1 : W.cell? ⟨w.heap.size, 1, none⟩ = some (.slice a d cap) := by rw [hW]; simp
  have HS0 := Lib.hid (hs0)
  have HS1 := Lib.hid (hs1)
  have GW := Lib.hid (gW)
  have HW := Lib.hid hW
  clear hs0 hs1 gW hW
  go_enter Try.func28, Try.ntmps28
  go_wp2_with (fail)
  rw [← HW.out]
  refine (c_oneN HN.out p a cap W hd).mono ?_
  rintro e w1 ⟨g, rfl, ho, g1⟩
  have HO := Lib.hid (ho.mono GW.out.size)
  have G1 := Lib.hid g1
  clear ho g1
  go_wp2_with (fail)
  go_loopw [5, 12] (fun v i wr => ∃ (k g : Nat), k ≤ n ∧ i = .int .i64 k ∧ v = .slice (some ⟨g, 0, none⟩) N N ∧ OwnC w.heap.size wr (some ⟨g, 0, none⟩) N N (prodS p qs tkW rows k) ∧ Ext W wr) (fun _ i _ => n - (intOf i).toNat)
  case atStart => exact ⟨0, g, Nat.zero_le _, rfl, rfl, by show OwnC _ _ _ _ _ (bladeL (2 ^ qs.length) 0); rw [← HD.out]; exact HO.out, G1.out⟩
  case round =>
    obtain ⟨k, g', hk, rfl, rfl, hown, hext⟩ := hrel
    have HOwn := Lib.hid hown
    have HExt := Lib.hid hext
    clear hown hext
    by_cases hlt : k < n
    · obtain ⟨b, off, ai, ci, rfl, hc, hri⟩ := HX.out.2 k hlt
      rw [(HG.out k (by rw [HX.out.1]; exact hlt)).1] at hc hri
      have hc' := (GW.out.trans HExt.out).cell hc
      have HRi := Lib.hid hri
      have HV := Lib.hid (show Good p N (vecL N (nthR rows k)) from vec_good (by omega) (HG.out k (by rw [HX.out.1]; exact hlt)))
      have HPS := Lib.hid (HPA.out k)
      have HCd := Lib.hid ((ext_drew _).cell hc')
      clear hri hc
      go_wp2_with (fail)
      clear hc'
      have GX := Lib.hid (GW.out.trans (HExt.out.trans (ext_drew wr)))
      have HT0 := Lib.hid ((HExt.out.trans (ext_drew wr)).cell HS0.out)
      have HT1 := Lib.hid ((HExt.out.trans (ext_drew wr)).cell HS1.out)
      refine wp_region_lex [(4, .ownG w.heap.size N (vecL N (nthR rows k))), (5, .ownG w.heap.size N (prodL p qs tkW (prodS p qs tkW rows k) (vecL N (nthR rows k))))] (by kernel_rfl) (by kernel_rfl) ?_
      (refine LexW.pure (v := ?_) rfl rfl (fun w1 he => ?_) ?_; rotate_left; ( have e1 := he.cell HT0.out; have e2 := he.cell HT1.out; have e3 := he.cell HCd.out; go_simp; rfl); simp only [Act.put, List.setIfInBounds_toArray, List.set_cons_zero, List.set_cons_succ])
      (refine LexW.pure (v := ?_) rfl rfl (fun w1 he => ?_) ?_; rotate_left; ( have e1 := he.cell HT0.out; have e2 := he.cell HT1.out; have e3 := he.cell HCd.out; go_simp; rfl); simp only [Act.put, List.setIfInBounds_toArray, List.set_cons_zero, List.set_cons_succ])
      (refine LexW.pure (v := ?_) rfl rfl (fun w1 he => ?_) ?_; rotate_left; ( have e1 := he.cell HT0.out; have e2 := he.cell HT1.out; have e3 := he.cell HCd.out; go_simp; rfl); simp only [Act.put, List.setIfInBounds_toArray, List.set_cons_zero, List.set_cons_succ])
      (refine LexW.pure (v := ?_) rfl rfl (fun w1 he => ?_) ?_; rotate_left; ( have e1 := he.cell HT0.out; have e2 := he.cell HT1.out; have e3 := he.cell HCd.out; go_simp; rfl); simp only [Act.put, List.setIfInBounds_toArray, List.set_cons_zero, List.set_cons_succ])
      (refine LexW.callR (f := ?_) (args := ?_) rfl rfl (fun w1 => ?_) (fun w1 he hdep => ?_) (fun v hv => ?_); rotate_left 2; (go_simp; refine ⟨?_, ?_⟩ <;> rfl); ( refine (c_vector HN.out p a cap ai ci (nthR rows k) w1 hd (HRi.out.ext (GX.out.trans he))).mono ?_; rintro e w2 ⟨g, rfl, ho, g2⟩; exact ⟨_, rfl, g2, g, rfl, ho.mono (Nat.le_trans GX.out.size he.size)⟩); simp only [Act.put, List.setIfInBounds_toArray, List.set_cons_zero, List.set_cons_succ])
      obtain ⟨_, g20, rfl, _⟩ := hv
      (refine LexW.callR (f := ?_) (args := ?_) rfl rfl (fun w1 => ?_) (fun w1 he hdep => ?_) (fun v hv => ?_); rotate_left 2; (go_simp; refine ⟨?_, ?_⟩ <;> rfl); ( obtain ⟨_, q20, r20⟩ : (SPred.ownG w.heap.size N (vecL N (nthR rows k))).holds (.slice (some ⟨g20, 0, none⟩) N N) w1 := hdep (4, 20) (by decide +kernel); cases q20; refine (c_wedgeN HN.out p a cap qs _ _ N N (prodS p qs tkW rows k) (vecL N (nthR rows k)) w1 hd hp1 hp2 (HQ.out.ext (GX.out.trans he)) HQB.out (HOwn.out.rd.ext ((ext_drew _).trans he)) r20.rd HPS.out.isB HV.out.isB).mono ?_; rintro e w2 ⟨g, rfl, ho, g2⟩; exact ⟨_, rfl, g2, g, rfl, ho.mono (Nat.le_trans GX.out.size he.size)⟩); simp only [Act.put, List.setIfInBounds_toArray, List.set_cons_zero, List.set_cons_succ])
      obtain ⟨_, g21, rfl, _⟩ := hv
      (refine LexW.pure (v := ?_) rfl rfl (fun w1 he => ?_) ?_; rotate_left; ( have e1 := he.cell HT0.out; have e2 := he.cell HT1.out; have e3 := he.cell HCd.out; go_simp; rfl); simp only [Act.put, List.setIfInBounds_toArray, List.set_cons_zero, List.set_cons_succ])
      refine LexW.nil (fun w3 he hkn => ?_)
      obtain ⟨_, q21, r21⟩ : (SPred.ownG w.heap.size N (prodL p qs tkW (prodS p qs tkW rows k) (vecL N (nthR rows k)))).holds (.slice (some ⟨g21, 0, none⟩) N N) w3 := hkn (5, _) (by simp)
      cases q21
      have R21 := Lib.hid r21
      have HE := Lib.hid (GX.out.trans he)
      have X4 := Lib.hid (HExt.out.trans ((ext_drew _).trans he))
      clear he hkn r21
      go_wp2_with (fail)
      go_roundw
      case rel => exact ⟨k + 1, g21, by omega, by go_num, rfl, (by show OwnC _ _ _ _ _ (prodL p qs tkW _ _); rw [← HD.out]; exact R21.out), X4.out⟩
      case measure => simp [intOf]; omega
    · go_wp2_with (fail)
      go_ret
      obtain rfl : k = n := by omega
      exact ⟨_, rfl, HOwn.out, GW.out.trans HExt.out⟩

set_option maxHeartbeats 2000000 in
theorem s_wedgeAll {N d : Nat} (hN : N = 2 ^ d) (p : Int) (a : Option Addr) (cap : Nat) (qs : List Int) (al : Option Addr) (n cl : Nat) (rows : List (List Int)) (w : World) (hd : d ≤ 6) (hp1 : 3 ≤ p) (hp2 : p ≤ 1000) (hl : n ≤ 4194304) (hq : RdC w a d qs) (hqb : isB p qs = true) (hx : RdR w al n rows) (hg : RowsG p d rows) :
    Calls Try.prog 30 #[.agg #[.int .i64 p, .slice a d cap], .slice al n cl] w fun e w' => ∃ g, e = .returned (.slice (some ⟨g, 0, none⟩) N N) ∧ OwnC w.heap.size w' (some ⟨g, 0, none⟩) N N (prodS p qs tkW rows n) ∧ Ext w w' := by
  have HN := Lib.hid hN
  have HX := Lib.hid hx
  have HQ := Lib.hid hq
  have HQB := Lib.hid hqb
  have HG := Lib.hid hg
  have HD := Lib.hid (show N = 2 ^ qs.length by rw [hq.1]; exact hN)
  have HPA : Hid (∀ k, Good p N (prodS p qs tkW rows k)) := Lib.hid (fun k => by rw [HD.out]; exact prodS_good hp1 k)
  clear hN hx hq hqb hg
  obtain ⟨W, hW⟩ : ∃ W, W = w.alloc (.cells #[.int .i64 p, .slice a d cap] 26) := ⟨_, rfl⟩
  have gW : Ext w W := by rw [hW]; exact ext_alloc _ _
  have hs0 : W.cell? ⟨w.heap.size, 0, none⟩ = some (.int .i64 p) := by rw [hW]; simp
  have hs1 : W.cell? ⟨w.heap.size, 1, none⟩ = some (.slice a d cap) := by rw [hW]; simp
  have HS0 := Lib.hid (hs0)
  have HS1 := Lib.hid (hs1)
  have GW := Lib.hid (gW)
  have HW := Lib.hid hW
  clear hs0 hs1 gW hW
  go_enter Try.func30, Try.ntmps30
  go_wp2_with (fail)
  rw [← HW.out]
  refine (s_oneN HN.out p a cap W hd).mono ?_
  rintro e w1 ⟨g, rfl, ho, g1⟩
  have HO := Lib.hid (ho.mono GW.out.size)
  have G1 := Lib.hid g1
  clear ho g1
  go_wp2_with (fail)
  go_loopw [5, 6] (fun v i wr => ∃ (k g : Nat), k ≤ n ∧ i = .int .i64 k ∧ v = .slice (some ⟨g, 0, none⟩) N N ∧ OwnC w.heap.size wr (some ⟨g, 0, none⟩) N N (prodS p qs tkW rows k) ∧ Ext W wr) (fun _ i _ => n - (intOf i).toNat)
  case atStart => exact ⟨0, g, Nat.zero_le _, rfl, rfl, by show OwnC _ _ _ _ _ (bladeL (2 ^ qs.length) 0); rw [← HD.out]; exact HO.out, G1.out⟩
  case round =>
    obtain ⟨k, g', hk, rfl, rfl, hown, hext⟩ := hrel
    have HOwn := Lib.hid hown
    have HExt := Lib.hid hext
    clear hown hext
    by_cases hlt : k < n
    · obtain ⟨b, off, ai, ci, rfl, hc, hri⟩ := HX.out.2 k hlt
      rw [(HG.out k (by rw [HX.out.1]; exact hlt)).1] at hc hri
      have hc' := (GW.out.trans HExt.out).cell hc
      have HRi := Lib.hid hri
      have HV := Lib.hid (show Good p N (vecL N (nthR rows k)) from vec_good (by omega) (HG.out k (by rw [HX.out.1]; exact hlt)))
      have HPS := Lib.hid (HPA.out k)
      have HCd := Lib.hid ((ext_drew _).cell hc')
      clear hri hc
      go_wp2_with (fail)
      clear hc'
      have GX := Lib.hid (GW.out.trans (HExt.out.trans (ext_drew wr)))
      have HT0 := Lib.hid ((HExt.out.trans (ext_drew wr)).cell HS0.out)
      have HT1 := Lib.hid ((HExt.out.trans (ext_drew wr)).cell HS1.out)
      refine wp_region_lex [(7, .ownG w.heap.size N (vecL N (nthR rows k))), (8, .ownG w.heap.size N (prodL p qs tkW (prodS p qs tkW rows k) (vecL N (nthR rows k))))] (by kernel_rfl) (by kernel_rfl) ?_
      (refine LexW.pure (v := ?_) rfl rfl (fun w1 he => ?_) ?_; rotate_left; ( have e1 := he.cell HT0.out; have e2 := he.cell HT1.out; have e3 := he.cell HCd.out; go_simp; rfl); simp only [Act.put, List.setIfInBounds_toArray, List.set_cons_zero, List.set_cons_succ])
      (refine LexW.pure (v := ?_) rfl rfl (fun w1 he => ?_) ?_; rotate_left; ( have e1 := he.cell HT0.out; have e2 := he.cell HT1.out; have e3 := he.cell HCd.out; go_simp; rfl); simp only [Act.put, List.setIfInBounds_toArray, List.set_cons_zero, List.set_cons_succ])
      (refine LexW.pure (v := ?_) rfl rfl (fun w1 he => ?_) ?_; rotate_left; ( have e1 := he.cell HT0.out; have e2 := he.cell HT1.out; have e3 := he.cell HCd.out; go_simp; rfl); simp only [Act.put, List.setIfInBounds_toArray, List.set_cons_zero, List.set_cons_succ])
      (refine LexW.pure (v := ?_) rfl rfl (fun w1 he => ?_) ?_; rotate_left; ( have e1 := he.cell HT0.out; have e2 := he.cell HT1.out; have e3 := he.cell HCd.out; go_simp; rfl); simp only [Act.put, List.setIfInBounds_toArray, List.set_cons_zero, List.set_cons_succ])
      (refine LexW.pure (v := ?_) rfl rfl (fun w1 he => ?_) ?_; rotate_left; ( have e1 := he.cell HT0.out; have e2 := he.cell HT1.out; have e3 := he.cell HCd.out; go_simp; rfl); simp only [Act.put, List.setIfInBounds_toArray, List.set_cons_zero, List.set_cons_succ])
      (refine LexW.pure (v := ?_) rfl rfl (fun w1 he => ?_) ?_; rotate_left; ( have e1 := he.cell HT0.out; have e2 := he.cell HT1.out; have e3 := he.cell HCd.out; go_simp; rfl); simp only [Act.put, List.setIfInBounds_toArray, List.set_cons_zero, List.set_cons_succ])
      (refine LexW.pure (v := ?_) rfl rfl (fun w1 he => ?_) ?_; rotate_left; ( have e1 := he.cell HT0.out; have e2 := he.cell HT1.out; have e3 := he.cell HCd.out; go_simp; rfl); simp only [Act.put, List.setIfInBounds_toArray, List.set_cons_zero, List.set_cons_succ])
      (refine LexW.callR (f := ?_) (args := ?_) rfl rfl (fun w1 => ?_) (fun w1 he hdep => ?_) (fun v hv => ?_); rotate_left 2; (go_simp; refine ⟨?_, ?_⟩ <;> rfl); ( refine (s_vector HN.out p a cap ai ci (nthR rows k) w1 hd (HRi.out.ext (GX.out.trans he))).mono ?_; rintro e w2 ⟨g, rfl, ho, g2⟩; exact ⟨_, rfl, g2, g, rfl, ho.mono (Nat.le_trans GX.out.size he.size)⟩); simp only [Act.put, List.setIfInBounds_toArray, List.set_cons_zero, List.set_cons_succ])
      obtain ⟨_, g22, rfl, _⟩ := hv
      (refine LexW.callR (f := ?_) (args := ?_) rfl rfl (fun w1 => ?_) (fun w1 he hdep => ?_) (fun v hv => ?_); rotate_left 2; (go_simp; refine ⟨?_, ?_⟩ <;> rfl); ( obtain ⟨_, q22, r22⟩ : (SPred.ownG w.heap.size N (vecL N (nthR rows k))).holds (.slice (some ⟨g22, 0, none⟩) N N) w1 := hdep (7, 22) (by decide +kernel); cases q22; refine (s_wedgeN HN.out p a cap qs _ _ N N (prodS p qs tkW rows k) (vecL N (nthR rows k)) w1 hd hp1 hp2 (HQ.out.ext (GX.out.trans he)) HQB.out (HOwn.out.rd.ext ((ext_drew _).trans he)) r22.rd HPS.out.isB HV.out.isB).mono ?_; rintro e w2 ⟨g, rfl, ho, g2⟩; exact ⟨_, rfl, g2, g, rfl, ho.mono (Nat.le_trans GX.out.size he.size)⟩); simp only [Act.put, List.setIfInBounds_toArray, List.set_cons_zero, List.set_cons_succ])
      obtain ⟨_, g23, rfl, _⟩ := hv
      (refine LexW.pure (v := ?_) rfl rfl (fun w1 he => ?_) ?_; rotate_left; ( have e1 := he.cell HT0.out; have e2 := he.cell HT1.out; have e3 := he.cell HCd.out; go_simp; rfl); simp only [Act.put, List.setIfInBounds_toArray, List.set_cons_zero, List.set_cons_succ])
      refine LexW.nil (fun w3 he hkn => ?_)
      obtain ⟨_, q23, r23⟩ : (SPred.ownG w.heap.size N (prodL p qs tkW (prodS p qs tkW rows k) (vecL N (nthR rows k)))).holds (.slice (some ⟨g23, 0, none⟩) N N) w3 := hkn (8, _) (by simp)
      cases q23
      have R23 := Lib.hid r23
      have HE := Lib.hid (GX.out.trans he)
      have X4 := Lib.hid (HExt.out.trans ((ext_drew _).trans he))
      clear he hkn r23
      go_wp2_with (fail)
      go_roundw
      case rel => exact ⟨k + 1, g23, by omega, by go_num, rfl, (by show OwnC _ _ _ _ _ (prodL p qs tkW _ _); rw [← HD.out]; exact R23.out), X4.out⟩
      case measure => simp [intOf]; omega
    · go_wp2_with (fail)
      go_ret
      obtain rfl : k = n := by omega
      exact ⟨_, rfl, HOwn.out, GW.out.trans HExt.out⟩



end Go.Proofs.Ytnbhlabcecdbgaa

/-
  The codes of spaces and lists of vectors; the listed function WedgeOfVectors.
  No condition.
-/
namespace Go.Proofs.Ytnbhlabcecdbgaa
set_option maxRecDepth 100000
open Go.RowKit

theorem codeVR_space {p : Int} {qs : List Int} {rows : List (List Int)} (h : spaceB p qs = false) : codeVR p qs rows = 1 := by simp [codeVR, codeV, h]
theorem codeVR_of {p : Int} {qs : List Int} {rows : List (List Int)} (h : spaceB p qs = true) : codeVR p qs rows = if (rows.all (vecB p qs.length) && decide (rows.length ≤ 16)) = true then 0 else 2 := by
  unfold codeVR codeV
  cases ha : rows.all (vecB p qs.length)
  · simp [h]
  · by_cases hl : rows.length ≤ 16 <;> simp [h, hl]

set_option maxHeartbeats 400000 in
theorem c_checkList (p : Int) (a : Option Addr) (d cap : Nat) (qs : List Int) (al : Option Addr) (n cl : Nat) (rows : List (List Int)) (w : World) (hd : d ≤ 4194304) (hl : n ≤ 4194304) (hr : ∀ i, i < n → (nthR rows i).length ≤ 4194304)
    (hq : RdC w a d qs) (hx : RdR w al n rows) :
    Calls Try.prog 27 #[.agg #[.int .i64 p, .slice a d cap], .slice al n cl] w fun e w' => e = .returned (.int .i64 (codeVR p qs rows)) ∧ Ext w w' := by
  have Hr := Lib.hid hr
  clear hr
  by_cases hc : codeV p qs rows = 0
  · have HC := Lib.hid hc
    have hcb : ((0 : Int) != 0) = false := by simp
    by_cases h16 : n ≤ 16
    · have HF := Lib.hid (show codeVR p qs rows = 0 by simp [codeVR, hc, hx.1, h16])
      clear hc
      go_enter Try.func27, Try.ntmps27
      go_wp2_with (go_at_call 53; refine (c_checkVectors p a d cap qs al n cl rows _ hd hl Hr.out (hq.ext (ext_alloc _ _)) (hx.ext (ext_alloc _ _))).mono ?_; rintro e w1 ⟨rfl, g1⟩; rw [HC.out])
      go_ret
      exact ⟨ret_int HF.out.symm, (ext_alloc _ _).trans g1⟩
    · have HF := Lib.hid (show codeVR p qs rows = 2 by simp [codeVR, hc, hx.1, h16])
      clear hc
      go_enter Try.func27, Try.ntmps27
      go_wp2_with (go_at_call 53; refine (c_checkVectors p a d cap qs al n cl rows _ hd hl Hr.out (hq.ext (ext_alloc _ _)) (hx.ext (ext_alloc _ _))).mono ?_; rintro e w1 ⟨rfl, g1⟩; rw [HC.out])
      go_ret
      exact ⟨ret_int HF.out.symm, (ext_alloc _ _).trans g1⟩
  · have HF := Lib.hid (show codeVR p qs rows = codeV p qs rows by simp [codeVR, hc])
    have hcb : (codeV p qs rows != 0) = true := by simp [hc]
    clear hc
    go_enter Try.func27, Try.ntmps27
    go_wp2_with (go_at_call 53; refine (c_checkVectors p a d cap qs al n cl rows _ hd hl Hr.out (hq.ext (ext_alloc _ _)) (hx.ext (ext_alloc _ _))).mono ?_; rintro e w1 ⟨rfl, g1⟩)
    go_ret
    exact ⟨ret_int HF.out.symm, (ext_alloc _ _).trans g1⟩

set_option maxHeartbeats 400000 in
theorem s_isVector (p : Int) (a : Option Addr) (d cap : Nat) (ax : Option Addr) (n cx : Nat) (xs : List Int) (w : World) (hp1 : 1 ≤ p) (hp2 : p ≤ 1000) (hl : n ≤ 4194304) (hx : RdC w ax n xs) :
    Calls Try.prog 80 #[.agg #[.int .i64 p, .slice a d cap], .slice ax n cx] w fun e w' => e = .returned (.bool (vecB p d xs)) ∧ Ext w w' := by
  by_cases hc : n = d
  · have HF := Lib.hid (show vecB p d xs = isB p xs by simp [vecB, hx.1, hc])
    have hcb : ((n : Int) == (d : Int)) = true := by simp [hc]
    clear hc
    go_enter Try.func80, Try.ntmps80
    go_wp2_with (go_at_call 77; refine (s_numbers _ _ _ _ _ _ hp1 hp2 hl (hx.ext (ext_alloc _ _))).mono ?_; rintro e w3 ⟨rfl, h3⟩)
    go_ret
    exact ⟨ret_bool HF.out.symm, (ext_alloc _ _).trans h3⟩
  · have HF := Lib.hid (show vecB p d xs = false by simp [vecB, hx.1, hc])
    have hcb : ((n : Int) == (d : Int)) = false := by simp; omega
    go_enter Try.func80, Try.ntmps80
    go_wp2_with (fail)
    go_ret
    exact ⟨ret_bool HF.out.symm, ext_alloc _ _⟩

theorem allV_false {p : Int} {d n k : Nat} {rows : List (List Int)} (hn : rows.length = n) (hk : k < n) (h : vecB p d (nthR rows k) = false) : rows.all (vecB p d) = false := by
  rw [List.all_eq_false]
  subst hn
  exact ⟨rows[k], List.getElem_mem hk, by rw [nthR_eq hk] at h; simp [h]⟩
theorem allV_true {p : Int} {d n : Nat} {rows : List (List Int)} (hn : rows.length = n) (h : ∀ j, j < n → vecB p d (nthR rows j) = true) : rows.all (vecB p d) = true := by
  rw [List.all_eq_true]
  intro x hx
  obtain ⟨i, hi, rfl⟩ := List.getElem_of_mem hx
  have := h i (by omega)
  rwa [nthR_eq hi] at this

set_option maxHeartbeats 1000000 in
theorem s_isList (p : Int) (a : Option Addr) (d cap : Nat) (al : Option Addr) (n cl : Nat) (rows : List (List Int)) (w : World) (hp1 : 1 ≤ p) (hp2 : p ≤ 1000) (hl : n ≤ 4194304) (hr : ∀ i, i < n → (nthR rows i).length ≤ 4194304) (hx : RdR w al n rows) :
    Calls Try.prog 50 #[.agg #[.int .i64 p, .slice a d cap], .slice al n cl] w fun e w' => e = .returned (.bool (rows.all (vecB p d) && decide (rows.length ≤ 16))) ∧ Ext w w' := by
  have HL := Lib.hid hx.1
  have HR := Lib.hid hx.2
  have Hr := Lib.hid hr
  clear hx hr
  obtain ⟨W, hW⟩ : ∃ W, W = w.alloc (.cells #[.int .i64 p, .slice a d cap] 26) := ⟨_, rfl⟩
  have gW : Ext w W := by rw [hW]; exact ext_alloc _ _
  have hs0 : W.cell? ⟨w.heap.size, 0, none⟩ = some (.int .i64 p) := by rw [hW]; simp
  have hs1 : W.cell? ⟨w.heap.size, 1, none⟩ = some (.slice a d cap) := by rw [hW]; simp
  have HS0 := Lib.hid (hs0)
  have HS1 := Lib.hid (hs1)
  have GW := Lib.hid (gW)
  have HW := Lib.hid hW
  clear hs0 hs1 gW hW
  go_enter Try.func50, Try.ntmps50
  go_wp2_with (fail)
  rw [← HW.out]
  go_loopw [5] (fun i wr => ∃ k : Nat, k ≤ n ∧ i = .int .i64 k ∧ Hid (∀ j, j < k → vecB p d (nthR rows j) = true) ∧ Ext W wr) (fun i _ => n - (intOf i).toNat)
  case atStart => exact ⟨0, Nat.zero_le _, rfl, Lib.hid (fun j hj => by omega), Ext.refl _⟩
  case round =>
    obtain ⟨k, hk, rfl, HT, hext⟩ := hrel
    have HExt := Lib.hid hext
    clear hext
    by_cases hlt : k < n
    · obtain ⟨b, off, ai, ci, rfl, hc, hrow⟩ := HR.out k hlt
      have g2 := GW.out.trans HExt.out
      have HRow := Lib.hid (hrow.ext g2)
      have Hc0 := Lib.hid ((g2.trans (ext_drew _)).cell hc)
      have Hq0 := Lib.hid ((HExt.out.trans (ext_drew _)).cell HS0.out)
      have Hq1 := Lib.hid ((HExt.out.trans (ext_drew _)).cell HS1.out)
      have G2 := Lib.hid g2
      clear hc hrow g2
      have hl0 := Hr.out k hlt
      cases hb : vecB p d (nthR rows k)
      all_goals
        have HB := Lib.hid hb
        clear hb
        go_wp2_with (fail)
        refine wp_region_lex [(5, .val (.bool (vecB p d (nthR rows k))))] (by kernel_rfl) (by kernel_rfl) ?_
        repeat' first | (refine LexW.pure (v := ?_) rfl rfl (fun w1 he => ?_) ?_; rotate_left; ( have hc0 := he.cell Hc0.out; have hq0 := he.cell Hq0.out; have hq1 := he.cell Hq1.out; go_simp; rfl); simp only [Act.put, List.setIfInBounds_toArray, List.set_cons_zero, List.set_cons_succ]) | (refine LexW.call (f := ?_) (args := ?_) rfl rfl (fun w1 => ?_) (fun w1 he hdep => ?_) ?_; rotate_left 2; (go_simp; refine ⟨?_, ?_⟩ <;> rfl); ( have H := s_isVector p a d cap ai _ ci (nthR rows k) w1 hp1 hp2 hl0 (HRow.out.ext ((ext_drew _).trans he)); exact H); simp only [Act.put, List.setIfInBounds_toArray, List.set_cons_zero, List.set_cons_succ])
        refine LexW.nil (fun w2 he hk => ?_)
        have X2 := Lib.hid (HExt.out.trans ((ext_drew _).trans he))
        clear he hk
        rw [HB.out]
        go_wp2_with (fail)
      · go_ret
        refine ⟨ret_bool ?_, GW.out.trans X2.out⟩
        rw [allV_false HL.out hlt HB.out]; rfl
      · go_roundw
        case rel => exact ⟨k + 1, by omega, by go_num, Lib.hid (fun j hj => by
          by_cases hjk : j = k
          · subst hjk; exact HB.out
          · exact HT.out j (by omega)), X2.out⟩
        case measure => simp [intOf]; omega
    · by_cases h16 : n ≤ 16
      · go_wp2_with (fail)
        go_ret
        refine ⟨ret_bool ?_, GW.out.trans HExt.out⟩
        rw [allV_true HL.out (fun j hj => HT.out j (by omega)), HL.out, Bool.true_and, Bool.eq_iff_iff]; simp; omega
      · go_wp2_with (fail)
        go_ret
        refine ⟨ret_bool ?_, GW.out.trans HExt.out⟩
        rw [allV_true HL.out (fun j hj => HT.out j (by omega)), HL.out, Bool.true_and, Bool.eq_iff_iff]; simp; omega

set_option maxHeartbeats 400000 in
theorem s_list (p : Int) (a : Option Addr) (d cap : Nat) (qs : List Int) (al : Option Addr) (n cl : Nat) (rows : List (List Int)) (w : World) (hd : d ≤ 4194304) (hl : n ≤ 4194304) (hr : ∀ i, i < n → (nthR rows i).length ≤ 4194304)
    (hq : RdC w a d qs) (hx : RdR w al n rows) :
    Calls Try.prog 29 #[.agg #[.int .i64 p, .slice a d cap], .slice al n cl] w fun e w' => e = .returned (.int .i64 (codeVR p qs rows)) ∧ Ext w w' := by
  have Hr := Lib.hid hr
  clear hr
  cases hs : spaceB p qs
  · have HS := Lib.hid hs
    have HC := Lib.hid (codeVR_space (rows := rows) hs)
    clear hs
    go_enter Try.func29, Try.ntmps29
    go_wp2_with (go_at_call 46; refine (s_is _ _ _ _ _ _ hd (hq.ext (ext_alloc _ _))).mono ?_; rintro e w1 ⟨rfl, g1⟩; rw [HS.out]; have hcc := Ext.cells g1)
    go_ret
    exact ⟨ret_int HC.out.symm, (ext_alloc _ _).trans g1⟩
  · obtain ⟨hp, hd1, hd6, _⟩ := space_of hs
    have hpb := prime_bd hp
    have HS := Lib.hid hs
    have HC := Lib.hid (codeVR_of (rows := rows) hs)
    have hdq := hq.1
    rw [hdq] at HC
    clear hs hp hd1 hd6 hdq
    cases hb : (rows.all (vecB p d) && decide (rows.length ≤ 16))
    all_goals
      have HB := Lib.hid hb
      clear hb
      go_enter Try.func29, Try.ntmps29
      go_wp2_with (first | (go_at_call 46; refine (s_is _ _ _ _ _ _ hd (hq.ext (ext_alloc _ _))).mono ?_; rintro e w1 ⟨rfl, g1⟩; rw [HS.out]; have hcc := Ext.cells g1) | (go_at_call 50; refine (s_isList p a d cap al n cl rows _ (by omega) (by omega) hl Hr.out (hx.ext ((ext_alloc _ _).trans g1))).mono ?_; rintro e w2 ⟨rfl, g2⟩; rw [HB.out]))
      go_ret
      refine ⟨ret_int ?_, (ext_alloc _ _).trans (g1.trans g2)⟩
      rw [HC.out, HB.out]; rfl

def wedgeL (p : Int) (qs : List Int) (rows : List (List Int)) (n : Nat) : List Int := prodS p qs tkW rows n
set_option maxHeartbeats 400000 in
theorem c_WedgeOfVectors_bad (p : Int) (a : Option Addr) (d cap : Nat) (qs : List Int) (ax1 : Option Addr) (n1 cx1 : Nat) (xs1 : List (List Int)) (w : World) (hd : d ≤ 4194304) (hn1 : n1 ≤ 4194304) (hr1 : ∀ i, i < n1 → (nthR xs1 i).length ≤ 4194304) (hq : RdC w a d qs) (hx1 : RdR w ax1 n1 xs1) (hc : codeVR p qs xs1 ≠ 0) :
    Calls Try.prog 13 #[.agg #[.int .i64 p, .slice a d cap], .slice ax1 n1 cx1] w fun e w' => ∃ ra rc, e = .returned (.tuple #[.slice ra 0 rc, .int .i64 (codeVR p qs xs1)]) ∧ OwnC w.heap.size w' ra 0 rc [] ∧ Ext w w' := by
  have Hr := Lib.hid hr1
  have hcb : (codeVR p qs xs1 != 0) = true := by simp [hc]
  clear hc hr1
  go_enter Try.func13, Try.ntmps13
  go_wp2_with (go_at_call 27; refine (c_checkList p a d cap qs ax1 n1 cx1 xs1 _ hd hn1 Hr.out (hq.ext (ext_alloc _ _)) (hx1.ext (ext_alloc _ _))).mono ?_; rintro e w1 ⟨rfl, g1⟩)
  go_ret2
  exact ⟨none, 0, rfl, own_nil _ _, (ext_alloc _ _).trans g1⟩
set_option maxHeartbeats 1000000 in
theorem c_WedgeOfVectors_ok (p : Int) (a : Option Addr) (d cap : Nat) (qs : List Int) (ax1 : Option Addr) (n1 cx1 : Nat) (xs1 : List (List Int)) (w : World) (hd : d ≤ 4194304) (hn1 : n1 ≤ 4194304) (hr1 : ∀ i, i < n1 → (nthR xs1 i).length ≤ 4194304) (hq : RdC w a d qs) (hx1 : RdR w ax1 n1 xs1) (hc : codeVR p qs xs1 = 0) :
    Calls Try.prog 13 #[.agg #[.int .i64 p, .slice a d cap], .slice ax1 n1 cx1] w fun e w' => ∃ ra rc, e = .returned (.tuple #[.slice ra (2 ^ d) rc, .int .i64 0]) ∧ OwnC w.heap.size w' ra (2 ^ d) rc (wedgeL p qs xs1 n1) ∧ Ext w w' := by
  obtain ⟨N, hN⟩ : ∃ N, N = 2 ^ d := ⟨_, rfl⟩
  rw [← hN]
  obtain ⟨hs, ha, _⟩ := codeVR_zero hc
  obtain ⟨hpr, hd1, hd6, hqb⟩ := space_of hs
  have hpb := prime_bd hpr
  rw [hq.1] at hd6 ha
  have HG := Lib.hid (rows_good ha)
  have HQB := Lib.hid hqb
  have HN := Lib.hid hN
  have HC := Lib.hid hc
  have Hr := Lib.hid hr1
  have hcb : ((0 : Int) != 0) = false := by simp
  clear hc hr1 hs ha hpr hd1 hqb hN
  go_enter Try.func13, Try.ntmps13
  go_wp2_with (first | (go_at_call 27; refine (c_checkList p a d cap qs ax1 n1 cx1 xs1 _ hd hn1 Hr.out (hq.ext (ext_alloc _ _)) (hx1.ext (ext_alloc _ _))).mono ?_; rintro e w1 ⟨rfl, g1⟩; rw [HC.out]; have hcc := Ext.cells g1) | (go_at_call 28; refine (c_wedgeAll HN.out p a cap qs ax1 n1 cx1 xs1 _ (by omega) (by omega) (by omega) hn1 (hq.ext ((ext_alloc _ _).trans g1)) HQB.out (hx1.ext ((ext_alloc _ _).trans g1)) HG.out).mono ?_; rintro e w2 ⟨g, rfl, ho, g2⟩; have HO := Lib.hid ho; have G2 := Lib.hid (((ext_alloc _ _).trans g1).trans g2); have HB := Lib.hid (((ext_alloc _ _).trans g1).size); clear ho g2))
  go_ret2
  exact ⟨_, _, rfl, HO.out.mono HB.out, G2.out⟩
set_option maxHeartbeats 400000 in
theorem s_WedgeOfVectors_bad (p : Int) (a : Option Addr) (d cap : Nat) (qs : List Int) (ax1 : Option Addr) (n1 cx1 : Nat) (xs1 : List (List Int)) (w : World) (hd : d ≤ 4194304) (hn1 : n1 ≤ 4194304) (hr1 : ∀ i, i < n1 → (nthR xs1 i).length ≤ 4194304) (hq : RdC w a d qs) (hx1 : RdR w ax1 n1 xs1) (hc : codeVR p qs xs1 ≠ 0) :
    Calls Try.prog 14 #[.agg #[.int .i64 p, .slice a d cap], .slice ax1 n1 cx1] w fun e w' => ∃ ra rc, e = .returned (.tuple #[.slice ra 0 rc, .int .i64 (codeVR p qs xs1)]) ∧ OwnC w.heap.size w' ra 0 rc [] ∧ Ext w w' := by
  have Hr := Lib.hid hr1
  have hcb : (codeVR p qs xs1 != 0) = true := by simp [hc]
  clear hc hr1
  go_enter Try.func14, Try.ntmps14
  go_wp2_with (go_at_call 29; refine (s_list p a d cap qs ax1 n1 cx1 xs1 _ hd hn1 Hr.out (hq.ext (ext_alloc _ _)) (hx1.ext (ext_alloc _ _))).mono ?_; rintro e w1 ⟨rfl, g1⟩)
  go_ret2
  exact ⟨none, 0, rfl, own_nil _ _, (ext_alloc _ _).trans g1⟩
set_option maxHeartbeats 1000000 in
theorem s_WedgeOfVectors_ok (p : Int) (a : Option Addr) (d cap : Nat) (qs : List Int) (ax1 : Option Addr) (n1 cx1 : Nat) (xs1 : List (List Int)) (w : World) (hd : d ≤ 4194304) (hn1 : n1 ≤ 4194304) (hr1 : ∀ i, i < n1 → (nthR xs1 i).length ≤ 4194304) (hq : RdC w a d qs) (hx1 : RdR w ax1 n1 xs1) (hc : codeVR p qs xs1 = 0) :
    Calls Try.prog 14 #[.agg #[.int .i64 p, .slice a d cap], .slice ax1 n1 cx1] w fun e w' => ∃ ra rc, e = .returned (.tuple #[.slice ra (2 ^ d) rc, .int .i64 0]) ∧ OwnC w.heap.size w' ra (2 ^ d) rc (wedgeL p qs xs1 n1) ∧ Ext w w' := by
  obtain ⟨N, hN⟩ : ∃ N, N = 2 ^ d := ⟨_, rfl⟩
  rw [← hN]
  obtain ⟨hs, ha, _⟩ := codeVR_zero hc
  obtain ⟨hpr, hd1, hd6, hqb⟩ := space_of hs
  have hpb := prime_bd hpr
  rw [hq.1] at hd6 ha
  have HG := Lib.hid (rows_good ha)
  have HQB := Lib.hid hqb
  have HN := Lib.hid hN
  have HC := Lib.hid hc
  have Hr := Lib.hid hr1
  have hcb : ((0 : Int) != 0) = false := by simp
  clear hc hr1 hs ha hpr hd1 hqb hN
  go_enter Try.func14, Try.ntmps14
  go_wp2_with (first | (go_at_call 29; refine (s_list p a d cap qs ax1 n1 cx1 xs1 _ hd hn1 Hr.out (hq.ext (ext_alloc _ _)) (hx1.ext (ext_alloc _ _))).mono ?_; rintro e w1 ⟨rfl, g1⟩; rw [HC.out]; have hcc := Ext.cells g1) | (go_at_call 30; refine (s_wedgeAll HN.out p a cap qs ax1 n1 cx1 xs1 _ (by omega) (by omega) (by omega) hn1 (hq.ext ((ext_alloc _ _).trans g1)) HQB.out (hx1.ext ((ext_alloc _ _).trans g1)) HG.out).mono ?_; rintro e w2 ⟨g, rfl, ho, g2⟩; have HO := Lib.hid ho; have G2 := Lib.hid (((ext_alloc _ _).trans g1).trans g2); have HB := Lib.hid (((ext_alloc _ _).trans g1).size); clear ho g2))
  go_ret2
  exact ⟨_, _, rfl, HO.out.mono HB.out, G2.out⟩
end Go.Proofs.Ytnbhlabcecdbgaa

/-
  Products and norms of vectors.
  No condition.
-/
namespace Go.Proofs.Ytnbhlabcecdbgaa
set_option maxRecDepth 100000
open Go.RowKit

/-- The sum of the first k products. -/
def dotS (x y : List Int) : Nat → Int
  | 0 => 0
  | k + 1 => dotS x y k + nth x k * nth y k
theorem dotS_bd {p : Int} {n : Nat} {x y : List Int} (hp : p ≤ 1000) (hx : Good p n x) (hy : Good p n y) : ∀ k, k ≤ n → 0 ≤ dotS x y k ∧ dotS x y k ≤ 1000000 * k
  | 0, _ => by simp [dotS]
  | k + 1, hk => by
    have ih := dotS_bd hp hx hy k (by omega)
    have h1 := hx.2 k (by omega)
    have h2 := hy.2 k (by omega)
    have h3 := mul_bd hp h1.1 h1.2 h2.1 h2.2
    simp only [dotS, Int.natCast_add]
    omega
def dotL (p : Int) (x y : List Int) (n : Nat) : Int := dotS x y n % p
def wtN (p : Int) (qs v : List Int) (i : Nat) : Int := (nth v i * nth qs i) % p
def wtL (p : Int) (qs v : List Int) (n : Nat) : List Int := (List.range n).map (wtN p qs v)
theorem wtL_succ (p : Int) (qs v : List Int) (n : Nat) : wtL p qs v (n + 1) = wtL p qs v n ++ [wtN p qs v n] := by simp [wtL, List.range_succ]
theorem wtL_nth {p : Int} {qs v : List Int} {n i : Nat} (h : i < n) : nth (wtL p qs v n) i = wtN p qs v i := by
  unfold wtL; rw [nth_map (by simpa using h)]; simp
theorem wt_good {p : Int} {qs v : List Int} {n : Nat} (hp : 1 ≤ p) : Good p n (wtL p qs v n) := ⟨by simp [wtL], fun i hi => by
  rw [wtL_nth hi]; exact ⟨Int.emod_nonneg _ (by omega), Int.emod_lt_of_pos _ (by omega)⟩⟩
/-- The product of two vectors. -/
def pairL (p : Int) (qs v w : List Int) (n : Nat) : Int := dotL p (wtL p qs v n) w n
theorem pairL_bd {p : Int} {qs v w : List Int} {n : Nat} (hp : 1 ≤ p) : 0 ≤ pairL p qs v w n ∧ pairL p qs v w n < p := ⟨Int.emod_nonneg _ (by omega), Int.emod_lt_of_pos _ (by omega)⟩
/-- As the reference sums it. -/
def pairS (p : Int) (qs v w : List Int) : Nat → Int
  | 0 => 0
  | k + 1 => (pairS p qs v w k + nth v k * nth w k % p * nth qs k) % p
theorem dotS_congr {p : Int} {x x' y : List Int} : ∀ k, (∀ i, i < k → nth x i % p = nth x' i % p) → dotS x y k % p = dotS x' y k % p
  | 0, _ => rfl
  | k + 1, h => by
    simp only [dotS]
    rw [Int.add_emod, dotS_congr k (fun i hi => h i (by omega)), Int.mul_emod, h k (by omega), ← Int.mul_emod, ← Int.add_emod]
theorem pairS_eq {p : Int} {qs v w : List Int} {n : Nat} : ∀ k, k ≤ n → pairS p qs v w k = dotS (wtL p qs v n) w k % p
  | 0, _ => by simp [pairS, dotS]
  | k + 1, hk => by
    simp only [pairS, dotS]
    rw [pairS_eq k (by omega) (n := n), wtL_nth (by omega), wtN, Int.emod_add_emod, Int.add_emod, Int.add_emod (dotS _ _ _)]
    congr 1
    congr 1
    rw [Int.mul_emod, Int.emod_emod, ← Int.mul_emod, Int.mul_emod (_ % p), Int.emod_emod, ← Int.mul_emod]
    congr 1
    ac_rfl
theorem pairS_bd {p : Int} {qs v w : List Int} (hp : 1 ≤ p) : ∀ k, 0 ≤ pairS p qs v w k ∧ pairS p qs v w k < p
  | 0 => by simp only [pairS]; omega
  | k + 1 => ⟨Int.emod_nonneg _ (by omega), Int.emod_lt_of_pos _ (by omega)⟩





end Go.Proofs.Ytnbhlabcecdbgaa

/-
  The listed functions VectorOf, PairOf, NormOf; the product and the vector of the laws.
  No condition.
-/
namespace Go.Proofs.Ytnbhlabcecdbgaa
set_option maxRecDepth 100000
open Go.RowKit

theorem good_vecB {p : Int} {d : Nat} {v : List Int} (h : Good p d v) : vecB p d v = true := by
  unfold vecB
  simp only [h.1, decide_true, Bool.true_and]
  unfold isB
  rw [List.all_eq_true]
  intro x hx
  obtain ⟨i, hi, rfl⟩ := List.getElem_of_mem hx
  have := h.2 i (by rw [← h.1]; exact hi)
  rw [nth_eq hi] at this
  simp [inB]; omega
theorem vecB_good {p : Int} {d : Nat} {v : List Int} (h : vecB p d v = true) : Good p d v := good_isB (vec_of h).1 (vec_of h).2
theorem good_bits {p : Int} {n : Nat} {v : List Int} (h : Good p n v) : isB p v = true := (vec_of (good_vecB h)).2
theorem good_multiB {p : Int} {d : Nat} {x : List Int} (h : Good p (2 ^ d) x) : multiB p d x = true := by
  have := good_vecB h
  unfold vecB at this
  unfold multiB
  exact this
theorem codeV_one0 {p : Int} {qs v : List Int} (hs : spaceB p qs = true) (hv : Good p qs.length v) : codeV p qs [v] = 0 := by
  simp [codeV, hs, good_vecB hv]
theorem codeV_two0 {p : Int} {qs v u : List Int} (hs : spaceB p qs = true) (hv : Good p qs.length v) (hu : Good p qs.length u) : codeV p qs [v, u] = 0 := by
  simp [codeV, hs, good_vecB hv, good_vecB hu]
theorem codeM_two0 {p : Int} {qs x y : List Int} (hs : spaceB p qs = true) (hx : Good p (2 ^ qs.length) x) (hy : Good p (2 ^ qs.length) y) : codeM p qs [x, y] = 0 := by
  simp [codeM, hs, good_multiB hx, good_multiB hy]
theorem codeM_one0 {p : Int} {qs x : List Int} (hs : spaceB p qs = true) (hx : Good p (2 ^ qs.length) x) : codeM p qs [x] = 0 := by
  simp [codeM, hs, good_multiB hx]
theorem codeV_two_of {p : Int} {qs v u : List Int} (h : codeV p qs [v, u] = 0) : spaceB p qs = true ∧ Good p qs.length v ∧ Good p qs.length u := by
  unfold codeV at h
  split at h
  · rename_i hs
    split at h
    · rename_i ha
      simp only [List.all_cons, List.all_nil, Bool.and_true, Bool.and_eq_true] at ha
      exact ⟨hs, vecB_good ha.1, vecB_good ha.2⟩
    · cases h
  · cases h




/-- What PairOf returns. -/
def pairV (p : Int) (qs v u : List Int) : Int := if codeV p qs [v, u] = 0 then pairL p qs v u qs.length else 0
end Go.Proofs.Ytnbhlabcecdbgaa

/-
  Regions that draw their order of evaluation, walked once in the order of the text, where operations change the world by a relation that the proof chooses (so also a block of its own that calls write).
  No condition. General over every program.
-/
namespace Go.Proofs.Ytnbhlabcecdbgaa.Chg
open Go.RowKit

/-- A relation between worlds that holds from a world to itself and goes on. -/
structure Rel where
  r : World → World → Prop
  refl : ∀ w, r w w
  trans : ∀ {a b c}, r a b → r b c → r a c

variable {E : Rel}

/-- What is said of a value in a world, and stays true when the world is extended. -/
structure SPred (E : Rel) where
  holds : Value → World → Prop
  st : ∀ v w w', holds v w → E.r w w' → holds v w'

/-- This very value. -/
def SPred.val (v0 : Value) : SPred E := ⟨fun v _ => v = v0, fun _ _ _ h _ => h⟩

section
variable {P : Program} {ops : Array Oper} {md : Region.Mode}

/-- One operation hands on a value, in a world, of which R holds; it does not panic. -/
def wpS (P : Program) (o : Oper) (a : Act) (w : World) (R : Value → World → Prop) : Prop :=
  match (execOp a.eval o).run P w with
  | .ok (.value v) w' => R v w'
  | .ok .skip w' => R undef w'
  | .ok (.enter f args) w' => Calls P f args w' fun e w'' => ∃ v, e = .returned v ∧ R v w''
  | _ => False

theorem wpS_some {o : Oper} {a : Act} {w : World} {R : Value → World → Prop} (h : wpS P o a w R) : ∃ v w', R v w' := by
  unfold wpS at h
  split at h
  · exact ⟨_, _, h⟩
  · exact ⟨_, _, h⟩
  · obtain ⟨e, w', fr, ⟨v, _, hr⟩, _⟩ := h []
    exact ⟨_, _, hr⟩
  · exact h.elim

theorem wp_of_wpS {o : Oper} {a : Act} {w : World} {R : Value → World → Prop} {K : Act → World → Prop} {Q : Exit → Act → World → Prop} (h : wpS P o a w R) (hk : ∀ v w', R v w' → K (a.put o.dst v) w') : o.wp P a w K Q := by
  unfold wpS at h
  unfold Oper.wp
  split at h
  · rename_i hr; rw [hr]; exact hk _ _ h
  · rename_i hr; rw [hr]; exact hk _ _ h
  · rename_i hr; rw [hr]
    exact Calls.mono h fun e w'' ⟨v, he, hr⟩ => by subst he; exact hk _ _ hr
  · exact h.elim

/-- The temporaries that operation i reads and that an earlier operation of the region writes. -/
def depsOf (ops : Array Oper) (i : Nat) : List (Nat × Tmp) :=
  match ops[i]? with
  | none => []
  | some o => (List.range i).filterMap fun d => match (ops[d]?).bind (·.dst) with
      | some t => if (o.looksAt ops).contains t then some (d, t) else none
      | none => none

theorem depsOf_spec {i d : Nat} {t : Tmp} {o : Oper} (ho : ops[i]? = some o) (h : (d, t) ∈ depsOf ops i) : t ∈ o.looksAt ops ∧ ∃ od, ops[d]? = some od ∧ od.dst = some t := by
  simp only [depsOf, ho, List.mem_filterMap, List.mem_range] at h
  obtain ⟨d', _, hd⟩ := h
  split at hd
  · rename_i t' ht'
    split at hd
    · rename_i hc
      simp only [Option.some.injEq, Prod.mk.injEq] at hd
      obtain ⟨rfl, rfl⟩ := hd
      refine ⟨by simpa using hc, ?_⟩
      cases hod : ops[d']? with
      | none => simp [hod] at ht'
      | some od => exact ⟨od, rfl, by simpa [hod] using ht'⟩
    · cases hd
  · cases hd

/-- What is said of a value: nothing, where none was given. -/
def holdsO (s : Option (SPred E)) (v : Value) (w : World) : Prop := match s with | none => True | some p => p.holds v w
theorem holdsO.ext {s : Option (SPred E)} {v : Value} {w w' : World} (h : holdsO s v w) (he : E.r w w') : holdsO s v w' := by
  cases s with
  | none => trivial
  | some p => exact p.st _ _ _ h he

def Dep (sp : Nat → Option (SPred E)) (l : List (Nat × Tmp)) (a : Act) (w : World) : Prop := ∀ p ∈ l, holdsO (sp p.1) (a.tmps.getD p.2 undef) w
def DepIn (env : List (Nat × Value)) (l : List (Nat × Tmp)) (a : Act) : Prop := ∀ p ∈ l, (p.1, a.tmps.getD p.2 undef) ∈ env
/-- All that is known of the values so far. -/
def Known (sp : Nat → Option (SPred E)) (env : List (Nat × Value)) (w : World) : Prop := ∀ p ∈ env, holdsO (sp p.1) p.2 w

theorem Known.dep {sp : Nat → Option (SPred E)} {env : List (Nat × Value)} {w : World} (h : Known sp env w) {l : List (Nat × Tmp)} {a : Act} (hd : DepIn env l a) : Dep sp l a w := fun p hp => h _ (hd p hp)
theorem Known.ext {sp : Nat → Option (SPred E)} {env : List (Nat × Value)} {w w' : World} (h : Known sp env w) (he : E.r w w') : Known sp env w' := fun p hp => (h p hp).ext he
theorem Known.cons {sp : Nat → Option (SPred E)} {env : List (Nat × Value)} {w : World} (h : Known sp env w) {i : Nat} {v : Value} (hv : holdsO (sp i) v w) : Known sp ((i, v) :: env) w := fun p hp => by
  rcases List.mem_cons.1 hp with rfl | hp
  · exact hv
  · exact h p hp

theorem getD_put {a : Act} {dst : Option Tmp} {v : Value} {t : Tmp} (h : ∀ d, dst = some d → d ≠ t) : (a.put dst v).tmps.getD t undef = a.tmps.getD t undef := by
  cases dst with
  | none => rfl
  | some d => simp [Act.put, Array.getElem?_setIfInBounds_ne (h d rfl)]

variable (E P ops) in
/-- The operation yields this very value in every world that extends the first one (or is passed over). -/
def Sure (w0 : World) (o : Oper) (a : Act) (v : Value) : Prop :=
  (Region.wanted o (yielded ops a.tmps) = true ∧ ∀ w, E.r w0 w → (execOp a.eval o).run P w = .ok (.value v) w) ∨ (Region.wanted o (yielded ops a.tmps) = false ∧ v = undef)

theorem Sure.uniq {w0 : World} {o : Oper} {a : Act} {v v' : Value} (h : Sure E P ops w0 o a v) (h' : Sure E P ops w0 o a v') : v = v' := by
  rcases h with ⟨hw, hr⟩ | ⟨hw, rfl⟩ <;> rcases h' with ⟨hw', hr'⟩ | ⟨hw', rfl⟩
  · have h1 := hr w0 (E.refl _)
    have h2 := hr' w0 (E.refl _)
    rw [h1] at h2
    simpa using h2
  · rw [hw] at hw'; cases hw'
  · rw [hw] at hw'; cases hw'
  · rfl

variable (P ops) in
/-- Operation i can be carried out in a state. -/
def Can (w0 : World) (sp : Nat → Option (SPred E)) (i : Nat) (o : Oper) (a : Act) (env : List (Nat × Value)) : Prop :=
  match sp i with
  | none => ∃ v, Sure E P ops w0 o a v
  | some p => Region.wanted o (yielded ops a.tmps) = true ∧ DepIn env (depsOf ops i) a ∧ ∀ w, E.r w0 w → Dep sp (depsOf ops i) a w → wpS P o a w fun v w' => E.r w w' ∧ p.holds v w'

variable (P ops) in
/-- What it may yield. -/
def Res (w0 : World) (sp : Nat → Option (SPred E)) (i : Nat) (o : Oper) (a : Act) (env : List (Nat × Value)) (v : Value) : Prop :=
  match sp i with
  | none => Sure E P ops w0 o a v
  | some p => ∃ w, E.r w0 w ∧ Known sp env w ∧ p.holds v w

theorem wpS_put {w : World} {R : Value → World → Prop} {oj : Oper} (hs : ∀ cs b, oj.op ≠ .select cs b) (a : Act) (dst : Option Tmp) (v : Value) (h : ∀ d, dst = some d → d ∉ oj.looksAt ops) : wpS P oj (a.put dst v) w R = wpS P oj a w R := by
  unfold wpS; rw [execOp_put oj hs a dst v h]

theorem Sure_put {w0 : World} {oj : Oper} (hs : ∀ cs b, oj.op ≠ .select cs b) (a : Act) (dst : Option Tmp) (v u : Value) (h : ∀ d, dst = some d → d ∉ oj.looksAt ops) : Sure E P ops w0 oj (a.put dst v) u ↔ Sure E P ops w0 oj a u := by
  unfold Sure; rw [execOp_put oj hs a dst v h, wanted_put (ops := ops) oj a dst v h]

theorem Dep_put {sp : Nat → Option (SPred E)} {j : Nat} {oj : Oper} (hj : ops[j]? = some oj) (a : Act) (dst : Option Tmp) (v : Value) (w : World) (h : ∀ d, dst = some d → d ∉ oj.looksAt ops) :
    Dep sp (depsOf ops j) (a.put dst v) w ↔ Dep sp (depsOf ops j) a w := by
  constructor
  · intro hd p hp
    have := hd p hp
    rwa [getD_put (fun d he hdt => h d he (by rw [hdt]; exact (depsOf_spec hj hp).1))] at this
  · intro hd p hp
    rw [getD_put (fun d he hdt => h d he (by rw [hdt]; exact (depsOf_spec hj hp).1))]
    exact hd p hp

section
variable {w0 : World} {sp : Nat → Option (SPred E)} {i j : Nat} {oi oj : Oper} {a : Act} {v vj : Value} {env : List (Nat × Value)}

/-- What can be carried out behind i, apart from it, can be carried out ahead of it. -/
theorem Can.back (hi : ops[i]? = some oi) (hj : ops[j]? = some oj) (hap : oi.apart ops oj = true)
    (hsj : ∀ cs b, oj.op ≠ .select cs b) (h : Can P ops w0 sp j oj (a.put oi.dst v) ((i, v) :: env)) : Can P ops w0 sp j oj a env := by
  obtain ⟨h1, h2, h3⟩ := Oper.apart_spec hap
  unfold Can at *
  cases hsp : sp j with
  | none =>
    rw [hsp] at h
    obtain ⟨u, hu⟩ := h
    exact ⟨u, (Sure_put hsj a oi.dst v u h1).1 hu⟩
  | some p =>
    rw [hsp] at h
    obtain ⟨hw, hd, hr⟩ := h
    rw [wanted_put (ops := ops) oj a oi.dst v h1] at hw
    refine ⟨hw, fun q hq => ?_, fun w he hdp => ?_⟩
    · have hin := hd q hq
      obtain ⟨hl, od, hod, hdt⟩ := depsOf_spec hj hq
      rw [getD_put (fun d he hdd => h1 d he (by rw [hdd]; exact hl))] at hin
      rcases List.mem_cons.1 hin with heq | hin
      · have : q.1 = i := congrArg Prod.fst heq
        rw [this, hi] at hod
        obtain rfl := Option.some.inj hod
        exact absurd hl (h1 _ hdt)
      · exact hin
    · have := hr w he ((Dep_put hj a oi.dst v w h1).2 hdp)
      rwa [wpS_put hsj a oi.dst v h1] at this

theorem Can.fore (hi : ops[i]? = some oi) (hap : oi.apart ops oj = true)
    (hsi : ∀ cs b, oi.op ≠ .select cs b) (h : Can P ops w0 sp i oi a env) : Can P ops w0 sp i oi (a.put oj.dst v) ((j, v) :: env) := by
  obtain ⟨h1, h2, h3⟩ := Oper.apart_spec hap
  unfold Can at *
  cases hsp : sp i with
  | none =>
    rw [hsp] at h
    obtain ⟨u, hu⟩ := h
    exact ⟨u, (Sure_put hsi a oj.dst v u h3).2 hu⟩
  | some p =>
    rw [hsp] at h
    obtain ⟨hw, hd, hr⟩ := h
    rw [← wanted_put (ops := ops) oi a oj.dst v h3] at hw
    refine ⟨hw, fun q hq => ?_, fun w he hdp => ?_⟩
    · obtain ⟨hl, od, hod, hdt⟩ := depsOf_spec hi hq
      rw [getD_put (fun d he hdd => h3 d he (by rw [hdd]; exact hl))]
      exact List.mem_cons_of_mem _ (hd q hq)
    · have := hr w he ((Dep_put hi a oj.dst v w h3).1 hdp)
      rwa [wpS_put hsi a oj.dst v h3]

theorem Res.joint (hap : oi.apart ops oj = true) (hsi : ∀ cs b, oi.op ≠ .select cs b) (hsj : ∀ cs b, oj.op ≠ .select cs b)
    (h1 : Res P ops w0 sp j oj a env vj) (h2 : Res P ops w0 sp i oi (a.put oj.dst vj) ((j, vj) :: env) v) :
    Res P ops w0 sp i oi a env v ∧ Res P ops w0 sp j oj (a.put oi.dst v) ((i, v) :: env) vj := by
  obtain ⟨g1, g2, g3⟩ := Oper.apart_spec hap
  unfold Res at *
  cases hpi : sp i with
  | none =>
    rw [hpi] at h2
    refine ⟨(Sure_put hsi a oj.dst vj v g3).1 h2, ?_⟩
    cases hpj : sp j with
    | none => rw [hpj] at h1; exact (Sure_put hsj a oi.dst v vj g1).2 h1
    | some q =>
      rw [hpj] at h1
      obtain ⟨w, he, hk, hv⟩ := h1
      exact ⟨w, he, hk.cons (by rw [hpi]; trivial), hv⟩
  | some p =>
    rw [hpi] at h2
    obtain ⟨w, he, hk, hv⟩ := h2
    have hk' : Known sp env w := fun q hq => hk q (List.mem_cons_of_mem _ hq)
    refine ⟨⟨w, he, hk', hv⟩, ?_⟩
    cases hpj : sp j with
    | none => rw [hpj] at h1; exact (Sure_put hsj a oi.dst v vj g1).2 h1
    | some q =>
      have hq := hk (j, vj) List.mem_cons_self
      simp only [hpj] at hq
      exact ⟨w, he, hk'.cons (by rw [hpi]; exact hv), hq⟩

theorem Can.some_res (h : Can P ops w0 sp i oi a env) (hsat : ∃ w, E.r w0 w ∧ Known sp env w) : ∃ v, Res P ops w0 sp i oi a env v := by
  unfold Can at h
  unfold Res
  cases hp : sp i with
  | none => rw [hp] at h; exact h
  | some p =>
    rw [hp] at h
    obtain ⟨hw, hd, hr⟩ := h
    obtain ⟨w, he, hk⟩ := hsat
    obtain ⟨v, w', he', hv⟩ := wpS_some (hr w he (hk.dep hd))
    exact ⟨v, w', E.trans he he', hk.ext he', hv⟩

theorem Res.sat (h : Res P ops w0 sp i oi a env v) (hsat : ∃ w, E.r w0 w ∧ Known sp env w) : ∃ w, E.r w0 w ∧ Known sp ((i, v) :: env) w := by
  unfold Res at h
  cases hp : sp i with
  | none =>
    obtain ⟨w, he, hk⟩ := hsat
    exact ⟨w, he, hk.cons (by rw [hp]; trivial)⟩
  | some p =>
    rw [hp] at h
    obtain ⟨w, he, hk, hv⟩ := h
    exact ⟨w, he, hk.cons (by rw [hp]; exact hv)⟩

theorem Res.weak {env' : List (Nat × Value)} (hs : ∀ p ∈ env, p ∈ env') (h : Res P ops w0 sp i oi a env' v) : Res P ops w0 sp i oi a env v := by
  unfold Res at *
  cases hp : sp i with
  | none => rw [hp] at h; exact h
  | some p =>
    rw [hp] at h
    obtain ⟨w, he, hk, hv⟩ := h
    exact ⟨w, he, fun q hq => hk q (hs q hq), hv⟩
theorem Can.weak {env' : List (Nat × Value)} (hs : ∀ p ∈ env, p ∈ env') (h : Can P ops w0 sp i oi a env) : Can P ops w0 sp i oi a env' := by
  unfold Can at *
  cases hp : sp i with
  | none => rw [hp] at h; exact h
  | some p =>
    rw [hp] at h
    exact ⟨h.1, fun q hq => hs _ (h.2.1 q hq), h.2.2⟩
end

variable (P ops md) in
/-- Whatever order is picked, till the first n have been carried out. -/
def AnyR (w0 : World) (sp : Nat → Option (SPred E)) (n : Nat) (L : Array Bool → Act → World → Prop) : Nat → Array Bool → Act → List (Nat × Value) → Prop
  | 0, listed, a, env => ∀ w, E.r w0 w → Known sp env w → L listed a w
  | f + 1, listed, a, env => Region.ready md ops listed ≠ [] ∧ ∀ i ∈ Region.ready md ops listed, i < n ∧ ∀ o, ops[i]? = some o →
      Can P ops w0 sp i o a env ∧ ∀ v, Res P ops w0 sp i o a env v → AnyR w0 sp n L f (listed.setIfInBounds i true) (a.put o.dst v) ((i, v) :: env)

theorem AnyR.env {w0 : World} {sp : Nat → Option (SPred E)} {n : Nat} {L : Array Bool → Act → World → Prop} : ∀ (f : Nat) (listed : Array Bool) (a : Act) (env env' : List (Nat × Value)), (∀ p ∈ env, p ∈ env') →
    AnyR P ops md w0 sp n L f listed a env → AnyR P ops md w0 sp n L f listed a env'
  | 0, _, _, _, _, hs, h => fun w he hk => h w he fun p hp => hk p (hs p hp)
  | f + 1, listed, a, env, env', hs, h => ⟨h.1, fun i hi => ⟨(h.2 i hi).1, fun o ho => by
      obtain ⟨hc, hr⟩ := (h.2 i hi).2 o ho
      refine ⟨Can.weak hs hc, fun v hv => ?_⟩
      exact AnyR.env f _ _ _ _ (fun p hp => by
        rcases List.mem_cons.1 hp with rfl | hp
        · exact List.mem_cons_self
        · exact List.mem_cons_of_mem _ (hs p hp)) (hr v (Res.weak hs hv))⟩⟩

theorem AnyR.sound {w0 : World} {sp : Nat → Option (SPred E)} {n g : Nat} {L : Array Bool → Act → World → Prop} {Q : Exit → Act → World → Prop} (hL : ∀ listed a w, L listed a w → wpAny P md ops Q g listed a w) :
    ∀ (f : Nat) (listed : Array Bool) (a : Act) (env : List (Nat × Value)) (w : World), E.r w0 w → Known sp env w → AnyR P ops md w0 sp n L f listed a env → wpAny P md ops Q (f + g) listed a w
  | 0, _, _, _, w, he, hk, h => by rw [Nat.zero_add]; exact hL _ _ _ (h w he hk)
  | f + 1, listed, a, env, w, he, hk, h => by
    rw [show f + 1 + g = (f + g) + 1 by omega]
    refine ⟨fun h0 => absurd h0 h.1, fun i hi => ?_⟩
    unfold wpOp
    split
    · rename_i hn
      obtain ⟨_, o, ho, _⟩ := mem_ready.1 hi
      rw [hn] at ho; cases ho
    · rename_i o ho
      obtain ⟨hc, hr⟩ := (h.2 i hi).2 o ho
      unfold Can at hc
      cases hp : sp i with
      | none =>
        rw [hp] at hc
        obtain ⟨v, hv⟩ := hc
        have hk' : Known sp ((i, v) :: env) w := hk.cons (by rw [hp]; trivial)
        have hres : Res P ops w0 sp i o a env v := by unfold Res; rw [hp]; exact hv
        have hnext := AnyR.sound hL f _ _ _ w he hk' (hr v hres)
        rcases hv with ⟨hw, hrun⟩ | ⟨hw, rfl⟩
        · rw [if_pos hw]
          refine .inl ?_
          unfold Oper.wp
          rw [hrun w he]
          exact hnext
        · rw [if_neg (by rw [hw]; decide)]
          exact hnext
      | some p =>
        rw [hp] at hc
        obtain ⟨hw, hd, hrr⟩ := hc
        rw [if_pos hw]
        refine .inl (wp_of_wpS (hrr w he (hk.dep hd)) fun v w' ⟨he', hv⟩ => ?_)
        exact AnyR.sound hL f _ _ _ w' (E.trans he he') ((hk.ext he').cons (by rw [hp]; exact hv)) (hr v (by unfold Res; rw [hp]; exact ⟨w', E.trans he he', hk.ext he', hv⟩))

theorem AnyR.first {w0 : World} {sp : Nat → Option (SPred E)} {n i : Nat} {oi : Oper} {L : Array Bool → Act → World → Prop} (hi : ops[i]? = some oi) (hsel : ∀ (j : Nat) (o : Oper) cs b, ops[j]? = some o → o.op ≠ .select cs b)
    (hlt : ∀ listed, HeadInv md ops n listed → listed.getD i true = false → ∀ j ∈ Region.ready md ops listed, j < n)
    (hdone : ∀ listed a w, L listed a w → ∀ j ∈ Region.ready md ops listed, n ≤ j) :
    ∀ (f : Nat) (listed : Array Bool) (a : Act) (env : List (Nat × Value)), HeadInv md ops n listed →
      (∀ j oj, ops[j]? = some oj → j ≠ i → listed.getD j true = false → (∀ e ∈ oj.after, Region.binds md e = true → e.on ≠ i) → oi.apart ops oj = true) →
      i ∈ Region.ready md ops listed → (∃ w, E.r w0 w ∧ Known sp env w) → Can P ops w0 sp i oi a env →
      (∀ v, Res P ops w0 sp i oi a env v → AnyR P ops md w0 sp n L f (listed.setIfInBounds i true) (a.put oi.dst v) ((i, v) :: env)) →
      AnyR P ops md w0 sp n L (f + 1) listed a env := by
  intro f
  induction f with
  | zero =>
    intro listed a env inv _ hr hsat hc H
    have hun := (mem_ready.1 hr).1
    refine ⟨fun h => (by rw [h] at hr; cases hr), fun j hj => ⟨hlt listed inv hun j hj, fun oj hoj => ?_⟩⟩
    by_cases hji : j = i
    · subst hji
      obtain rfl := Option.some.inj (hi.symm.trans hoj)
      exact ⟨hc, H⟩
    · exfalso
      obtain ⟨v, hv⟩ := hc.some_res hsat
      obtain ⟨w, he, hk⟩ := hv.sat hsat
      have h0 := H v hv w he hk
      have h1 := hdone _ _ _ h0 j (ready_mono hj hji)
      have h2 := hlt listed inv hun j hj
      omega
  | succ f ih =>
    intro listed a env inv hfree hr hsat hc H
    have hun := (mem_ready.1 hr).1
    refine ⟨fun h => (by rw [h] at hr; cases hr), fun j hj => ⟨hlt listed inv hun j hj, fun oj hoj => ?_⟩⟩
    by_cases hji : j = i
    · subst hji
      obtain rfl := Option.some.inj (hi.symm.trans hoj)
      exact ⟨hc, H⟩
    · obtain ⟨hjun, oj', hoj', hall⟩ := mem_ready.1 hj
      obtain rfl := Option.some.inj (hoj.symm.trans hoj')
      have hjn := hlt listed inv hun j hj
      have hnot : ∀ e ∈ oj.after, Region.binds md e = true → e.on ≠ i := fun e he hb heq => by
        have h1 := hall e he hb
        rw [heq, getD_both hun] at h1
        cases h1
      have hap := hfree j oj hoj hji hjun hnot
      obtain ⟨h1, h2, h3⟩ := Oper.apart_spec hap
      have hsi : ∀ cs b, oi.op ≠ .select cs b := fun cs b => hsel i oi cs b hi
      have hsj : ∀ cs b, oj.op ≠ .select cs b := fun cs b => hsel j oj cs b hoj
      obtain ⟨v0, hv0⟩ := hc.some_res hsat
      have hcj := ((H v0 hv0).2 j (ready_mono hj hji)).2 oj hoj
      refine ⟨hcj.1.back hi hoj hap hsj, fun vj hvj => ?_⟩
      refine ih (listed.setIfInBounds j true) (a.put oj.dst vj) ((j, vj) :: env) (inv.set hj hjn) ?_ (ready_mono hr (Ne.symm hji)) (hvj.sat hsat) (hc.fore hi hap hsi) ?_
      · intro k ok hk hki hun' hno
        refine hfree k ok hk hki ?_ hno
        by_cases hjk : j = k
        · subst hjk; exact hjun
        · rw [getD_set_ne true hjk] at hun'; exact hun'
      · intro v hv
        obtain ⟨hv1, hvj1⟩ := Res.joint hap hsi hsj hvj hv
        have := (((H v hv1).2 j (ready_mono hj hji)).2 oj hoj).2 vj hvj1
        rw [Array.setIfInBounds_comm _ _ hji, ← Act.put_comm a v vj h2]
        refine AnyR.env _ _ _ _ _ ?_ this
        intro p hp
        rcases List.mem_cons.1 hp with rfl | hp
        · exact List.mem_cons_of_mem _ List.mem_cons_self
        · rcases List.mem_cons.1 hp with rfl | hp
          · exact List.mem_cons_self
          · exact List.mem_cons_of_mem _ (List.mem_cons_of_mem _ hp)

variable (P ops) in
/-- The walk in the order of the text. -/
def LexR (w0 : World) (sp : Nat → Option (SPred E)) (Q : Act → World → Prop) : List Oper → Nat → Act → List (Nat × Value) → Prop
  | [], _, a, env => ∀ w, E.r w0 w → Known sp env w → Q a w
  | o :: l, k, a, env => Can P ops w0 sp k o a env ∧ ∀ v, Res P ops w0 sp k o a env v → LexR w0 sp Q l (k + 1) (a.put o.dst v) ((k, v) :: env)

theorem LexR.any {w0 : World} {sp : Nat → Option (SPred E)} {n : Nat} {B : Array Bool → Bool} {Lq : Act → World → Prop} (hsel : Region.noSelect ops = true)
    (hlt : ∀ i, i < n → ∀ listed, HeadInv md ops n listed → listed.getD i true = false → ∀ j ∈ Region.ready md ops listed, j < n)
    (hdone : ∀ listed, B listed = true → ∀ j ∈ Region.ready md ops listed, n ≤ j)
    (hd : Nat → Nat → Array Bool → Bool) (h0 : ∀ listed, hd 0 n listed = true → B listed = true)
    (h1 : ∀ f k listed, hd (f + 1) k listed = true → ((Region.ready md ops listed).contains k = true ∧ Region.free md ops listed k = true) ∧ hd f (k + 1) (listed.setIfInBounds k true) = true) :
    ∀ (l : List Oper) (k : Nat) (listed : Array Bool) (a : Act) (env : List (Nat × Value)), (∀ j, j < l.length → l[j]? = ops[k + j]?) → k + l.length = n → HeadInv md ops n listed →
    (∃ w, E.r w0 w ∧ Known sp env w) → hd l.length k listed = true → LexR P ops w0 sp Lq l k a env →
    AnyR P ops md w0 sp n (fun listed' a' w' => B listed' = true ∧ Lq a' w') l.length listed a env
  | [], k, listed, a, env, _, hk0, _, _, hB, h => fun w he hk => ⟨h0 _ (by obtain rfl : k = n := (by simpa using hk0); exact hB), h w he hk⟩
  | o :: l, k, listed, a, env, hl, hk, inv, hsat, hB, h => by
    have ho : ops[k]? = some o := by simpa using (hl 0 (by simp)).symm
    obtain ⟨⟨hr, hf⟩, hB'⟩ := h1 _ _ _ (by simpa using hB)
    have hkn : k < n := by simp only [List.length_cons] at hk; omega
    have hr' : k ∈ Region.ready md ops listed := by simpa using hr
    exact AnyR.first ho (Region.noSelect_spec hsel) (hlt k hkn) (fun listed' a' w' hL => hdone _ hL.1) l.length listed a env inv (Region.free_spec ho hf) hr' hsat h.1
      fun v hv => LexR.any hsel hlt hdone hd h0 h1 l (k + 1) _ _ _ (fun j hj => by have := hl (j + 1) (by simp; omega); simpa [Nat.add_assoc, Nat.add_comm 1 j] using this) (by simp only [List.length_cons] at hk; omega) (inv.set hr' hkn)
        (hv.sat hsat) hB' (h.2 v hv)

theorem headInv0 (l : List Oper) (n : Nat) : HeadInv md l.toArray n (Array.replicate l.toArray.size false) :=
  ⟨by simp, fun j oj _ hl => (by rw [getD_replicate_false] at hl; cases hl), fun t _ ht => getD_in (by simpa using ht) (getD_replicate_false _ _)⟩

/-- A region that draws its order, all of whose operations only extend the world. -/
theorem wp_region_rel {id : Nat} {Q : Exit → Act → World → Prop} {a : Act} {w : World} {l : List Oper} (sp : Nat → Option (SPred E)) (hm : P.follows .mixedOrders = true) (hB : Region.lexB .any l.toArray = true)
    (h : LexR P l.toArray w.drew sp (fun a' w' => Q .normal a' w') l 0 a []) : (Code.region id l.toArray true).wp P Q a w := by
  simp only [Region.lexB, Bool.and_eq_true] at hB
  have H := LexR.any (md := .any) (n := l.toArray.size) (B := fun listed => (Region.ready .any l.toArray listed).isEmpty) hB.1
    (fun i _ listed _ _ j hj => by obtain ⟨_, o, ho, _⟩ := mem_ready.1 hj; exact (Array.getElem?_eq_some_iff.1 ho).1)
    (fun listed hb j hj => by simp only [List.isEmpty_iff] at hb; rw [hb] at hj; cases hj)
    (fun f k listed => Region.lexFrom .any l.toArray f k listed) (fun listed hh => by simpa [Region.lexFrom] using hh)
    (fun f k listed hh => by simpa [Region.lexFrom] using hh) l 0 _ a [] (by simp) (by simp) (headInv0 l _) ⟨w.drew, E.refl _, fun p hp => by cases hp⟩ (by simpa using hB.2) h
  refine wp_region_any hm ?_
  have := AnyR.sound (Q := Q) (g := 0) (fun listed a' w' hL => (⟨by simpa using hL.1, hL.2⟩ : wpAny P .any l.toArray Q 0 listed a' w')) _ _ _ _ w.drew (E.refl _) (fun p hp => by cases hp) H
  simpa using this

/-- .. whose operations from number n on go one after another behind all others. -/
theorem wp_region_rel_tail {id : Nat} {Q : Exit → Act → World → Prop} {a : Act} {w : World} {l : List Oper} (n : Nat) (sp : Nat → Option (SPred E)) (hm : P.follows .mixedOrders = true) (hB : Region.lexTailB .any l.toArray n = true)
    (h : LexR P l.toArray w.drew sp (fun a' w' => wpList P l.toArray Q (l.drop n) a' w') (l.take n) 0 a []) : (Code.region id l.toArray true).wp P Q a w := by
  simp only [Region.lexTailB, Bool.and_eq_true, decide_eq_true_eq] at hB
  obtain ⟨⟨⟨⟨hsel, hn⟩, hs⟩, hc⟩, hlex⟩ := hB
  have hn' : n < l.length := by simpa using hn
  have htl : (l.take n).length = n := by simp; omega
  have hdl : (l.drop n).length = l.toArray.size - n := by simp
  have H := LexR.any (md := .any) (n := n) (B := fun listed => Region.seqB .any l.toArray (l.toArray.size - n) n listed) hsel
    (fun i hin listed inv hun j hj => by
      rcases Nat.lt_or_ge j n with h | h
      · exact h
      · exact absurd hj (tail_waits hs hc hn inv _ i rfl hin hun j h))
    (fun listed hb => seqB_ready hb)
    (fun f k listed => Region.lexHead .any l.toArray (l.toArray.size - n) f k listed) (fun listed hh => by simpa [Region.lexHead] using hh)
    (fun f k listed hh => by simpa [Region.lexHead] using hh) (l.take n) 0 _ a [] (fun j hj => by
      have hj' : j < n := by rw [htl] at hj; exact hj
      simp [hj']) (by simpa using htl) (headInv0 l _) ⟨w.drew, E.refl _, fun p hp => by cases hp⟩ (by rw [htl]; exact hlex) h
  refine wp_region_any hm ?_
  have := AnyR.sound (Q := Q) (g := l.toArray.size - n) (fun listed a' w' hL => by
    have := wpAny_of_seq (md := .any) (Q' := Q) (l.drop n) n listed a' w' (fun j => by simp [List.getElem?_drop]) (by rw [hdl]; exact hL.1) hL.2
    rwa [hdl] at this) _ _ _ _ w.drew (E.refl _) (fun p hp => by cases hp) H
  rw [htl, show n + (l.toArray.size - n) = l.toArray.size by omega] at this
  exact this
end

/-! ### The walk without the bookkeeping -/

/-- No temporary that is read is written twice ahead of its reader. -/
def ssaB (ops : Array Oper) : Bool :=
  (List.range ops.size).all fun k => (depsOf ops k).all fun p => (List.range k).all fun d => decide (d ≤ p.1) || ((ops[d]?).bind (·.dst)) != some p.2
def dstB (ops : Array Oper) (n : Nat) : Bool := ops.all fun o => match o.dst with | some d => decide (d < n) | none => true

section
variable {P : Program} {ops : Array Oper}

variable (P ops) in
def LexW (w0 : World) (sp : Nat → Option (SPred E)) (Q : Act → World → Prop) : List Oper → Nat → Act → List (Nat × Value) → Prop
  | [], _, a, env => ∀ w, E.r w0 w → Known sp env w → Q a w
  | o :: l, k, a, env => match sp k with
    | none => ∃ v, Sure E P ops w0 o a v ∧ LexW w0 sp Q l (k + 1) (a.put o.dst v) ((k, v) :: env)
    | some p => Region.wanted o (yielded ops a.tmps) = true ∧ (∀ w, E.r w0 w → Dep sp (depsOf ops k) a w → wpS P o a w fun v w' => E.r w w' ∧ p.holds v w') ∧
        ∀ v, (∃ w, p.holds v w) → LexW w0 sp Q l (k + 1) (a.put o.dst v) ((k, v) :: env)

structure LexInv (ops : Array Oper) (n k : Nat) (a : Act) (env : List (Nat × Value)) : Prop where
  size : a.tmps.size = n
  known : ∀ d t, d < k → (ops[d]?).bind (·.dst) = some t → (∀ d', d < d' → d' < k → (ops[d']?).bind (·.dst) ≠ some t) → (d, a.tmps.getD t undef) ∈ env

theorem LexInv.step {n k : Nat} {a : Act} {env : List (Nat × Value)} (h : LexInv ops n k a env) {o : Oper} (ho : ops[k]? = some o) (hd : dstB ops n = true) (v : Value) : LexInv ops n (k + 1) (a.put o.dst v) ((k, v) :: env) := by
  constructor
  · cases o.dst <;> simp [Act.put, h.size]
  · intro d t hdk hdt hno
    by_cases hdk' : d = k
    · subst hdk'
      simp only [ho, Option.bind_some] at hdt
      have hlt : t < n := by
        have := Array.all_eq_true_iff_forall_mem.1 hd o (Array.mem_of_getElem? ho)
        simpa [hdt] using this
      have : (a.put o.dst v).tmps.getD t undef = v := by
        rw [hdt]; simp [Act.put, h.size, hlt]
      rw [this]; exact List.mem_cons_self
    · have hd1 : d < k := by omega
      have hne : o.dst ≠ some t := by
        have := hno k hd1 (by omega)
        simpa [ho] using this
      rw [getD_put (fun d' he hdd => hne (by rw [he, hdd]))]
      exact List.mem_cons_of_mem _ (h.known d t hd1 hdt fun d' h1 h2 => hno d' h1 (by omega))

theorem depsOf_lt {i d : Nat} {t : Tmp} (h : (d, t) ∈ depsOf ops i) : d < i ∧ (ops[d]?).bind (·.dst) = some t := by
  unfold depsOf at h
  split at h
  · cases h
  · simp only [List.mem_filterMap, List.mem_range] at h
    obtain ⟨d', hd', hd⟩ := h
    split at hd
    · rename_i t' ht'
      split at hd
      · simp only [Option.some.injEq, Prod.mk.injEq] at hd
        obtain ⟨rfl, rfl⟩ := hd
        exact ⟨hd', ht'⟩
      · cases hd
    · cases hd

theorem LexW.lexR {w0 : World} {sp : Nat → Option (SPred E)} {Q : Act → World → Prop} {n : Nat} (hs : ssaB ops = true) (hd : dstB ops n = true) :
    ∀ (l : List Oper) (k : Nat) (a : Act) (env : List (Nat × Value)), (∀ j, j < l.length → l[j]? = ops[k + j]?) → LexInv ops n k a env → LexW P ops w0 sp Q l k a env → LexR P ops w0 sp Q l k a env
  | [], _, _, _, _, _, h => h
  | o :: l, k, a, env, hl, inv, h => by
    have ho : ops[k]? = some o := by simpa using (hl 0 (by simp)).symm
    have hks : k < ops.size := (Array.getElem?_eq_some_iff.1 ho).1
    have next : ∀ v, LexW P ops w0 sp Q l (k + 1) (a.put o.dst v) ((k, v) :: env) → LexR P ops w0 sp Q l (k + 1) (a.put o.dst v) ((k, v) :: env) := fun v hv =>
      LexW.lexR hs hd l (k + 1) _ _ (fun j hj => by have := hl (j + 1) (by simp; omega); simpa [Nat.add_assoc, Nat.add_comm 1 j] using this) (inv.step ho hd v) hv
    unfold LexW at h
    cases hp : sp k with
    | none =>
      rw [hp] at h
      obtain ⟨v, hv, hn⟩ := h
      refine ⟨by unfold Can; rw [hp]; exact ⟨v, hv⟩, fun v' hv' => ?_⟩
      unfold Res at hv'
      rw [hp] at hv'
      obtain rfl := hv.uniq hv'
      exact next _ hn
    | some p =>
      rw [hp] at h
      obtain ⟨hw, hr, hn⟩ := h
      refine ⟨by
        unfold Can
        rw [hp]
        refine ⟨hw, fun q hq => ?_, hr⟩
        obtain ⟨hlt, hdst⟩ := depsOf_lt (ops := ops) (i := k) (d := q.1) (t := q.2) hq
        refine inv.known q.1 q.2 hlt hdst fun d' h1 h2 hc => ?_
        have := List.all_eq_true.1 (List.all_eq_true.1 (List.all_eq_true.1 hs k (List.mem_range.2 hks)) q hq) d' (List.mem_range.2 h2)
        simp only [Bool.or_eq_true, decide_eq_true_eq, bne_iff_ne, ne_eq] at this
        rcases this with h3 | h3
        · omega
        · exact h3 hc, fun v hv => ?_⟩
      unfold Res at hv
      rw [hp] at hv
      obtain ⟨w, _, _, hv⟩ := hv
      exact next _ (hn v ⟨w, hv⟩)

theorem lexInv0 (n : Nat) (a : Act) (h : a.tmps.size = n) : LexInv ops n 0 a [] := ⟨h, fun _ _ h => absurd h (Nat.not_lt_zero _)⟩

/-- What is said of the values of some operations, by their numbers. -/
def spOf (sps : List (Nat × SPred E)) (k : Nat) : Option (SPred E) := sps.lookup k

theorem wp_region_lex {id : Nat} {Q : Exit → Act → World → Prop} {a : Act} {w : World} {l : List Oper} (sps : List (Nat × SPred E)) (hm : P.follows .mixedOrders = true)
    (hB : (Region.lexB .any l.toArray && ssaB l.toArray && dstB l.toArray a.tmps.size) = true)
    (h : LexW P l.toArray w.drew (spOf sps) (fun a' w' => Q .normal a' w') l 0 a []) : (Code.region id l.toArray true).wp P Q a w := by
  simp only [Bool.and_eq_true] at hB
  exact wp_region_rel (spOf sps) hm hB.1.1 (LexW.lexR hB.1.2 hB.2 l 0 a [] (by simp) (lexInv0 _ _ rfl) h)

theorem wp_region_lex_tail {id : Nat} {Q : Exit → Act → World → Prop} {a : Act} {w : World} {l : List Oper} (n : Nat) (sps : List (Nat × SPred E)) (hm : P.follows .mixedOrders = true)
    (hB : (Region.lexTailB .any l.toArray n && ssaB l.toArray && dstB l.toArray a.tmps.size) = true)
    (h : LexW P l.toArray w.drew (spOf sps) (fun a' w' => wpList P l.toArray Q (l.drop n) a' w') (l.take n) 0 a []) : (Code.region id l.toArray true).wp P Q a w := by
  simp only [Bool.and_eq_true] at hB
  exact wp_region_rel_tail n (spOf sps) hm hB.1.1 (LexW.lexR hB.1.2 hB.2 _ 0 a [] (fun j hj => by
    have : j < n := by simp at hj; omega
    simp [this]) (lexInv0 _ _ rfl) h)

section
variable {w0 : World} {sp : Nat → Option (SPred E)} {Q : Act → World → Prop} {o : Oper} {l : List Oper} {k : Nat} {a : Act} {env : List (Nat × Value)}

/-- An operation whose value is known and that leaves the world alone. -/
theorem LexW.pure {v : Value} (hsp : sp k = none) (hw : Region.wanted o (yielded ops a.tmps) = true) (hr : ∀ w, E.r w0 w → (execOp a.eval o).run P w = .ok (.value v) w)
    (h : LexW P ops w0 sp Q l (k + 1) (a.put o.dst v) ((k, v) :: env)) : LexW P ops w0 sp Q (o :: l) k a env := by
  unfold LexW; rw [hsp]; exact ⟨v, .inl ⟨hw, hr⟩, h⟩

theorem LexW.skip (hsp : sp k = none) (hw : Region.wanted o (yielded ops a.tmps) = false)
    (h : LexW P ops w0 sp Q l (k + 1) (a.put o.dst undef) ((k, undef) :: env)) : LexW P ops w0 sp Q (o :: l) k a env := by
  unfold LexW; rw [hsp]; exact ⟨undef, .inr ⟨hw, rfl⟩, h⟩

/-- A call whose value is known and that only extends the world. -/
theorem LexW.call {v : Value} {f : FuncId} {args : Array Value} (hsp : sp k = some (SPred.val v)) (hw : Region.wanted o (yielded ops a.tmps) = true) (hr : ∀ w, (execOp a.eval o).run P w = .ok (.enter f args) w)
    (hc : ∀ w, E.r w0 w → Dep sp (depsOf ops k) a w → Calls P f args w fun e w' => e = .returned v ∧ E.r w w')
    (h : LexW P ops w0 sp Q l (k + 1) (a.put o.dst v) ((k, v) :: env)) : LexW P ops w0 sp Q (o :: l) k a env := by
  unfold LexW; rw [hsp]
  refine ⟨hw, fun w he hd => ?_, fun v' ⟨w, hv⟩ => ?_⟩
  · unfold wpS; rw [hr w]; exact (hc w he hd).mono fun e w' ⟨h1, h2⟩ => ⟨v, h1, h2, rfl⟩
  · have hv' : v' = v := hv
    subst hv'
    exact h

/-- A call of whose value a predicate is known. -/
theorem LexW.callR {p : SPred E} {f : FuncId} {args : Array Value} (hsp : sp k = some p) (hw : Region.wanted o (yielded ops a.tmps) = true) (hr : ∀ w, (execOp a.eval o).run P w = .ok (.enter f args) w)
    (hc : ∀ w, E.r w0 w → Dep sp (depsOf ops k) a w → Calls P f args w fun e w' => ∃ v, e = .returned v ∧ E.r w w' ∧ p.holds v w')
    (h : ∀ v, (∃ w, p.holds v w) → LexW P ops w0 sp Q l (k + 1) (a.put o.dst v) ((k, v) :: env)) : LexW P ops w0 sp Q (o :: l) k a env := by
  unfold LexW; rw [hsp]
  exact ⟨hw, fun w he hd => by unfold wpS; rw [hr w]; exact hc w he hd, h⟩

/-- Any other operation, of whose value a predicate is known. -/
theorem LexW.rel {p : SPred E} (hsp : sp k = some p) (hw : Region.wanted o (yielded ops a.tmps) = true)
    (hr : ∀ w, E.r w0 w → Dep sp (depsOf ops k) a w → ∃ v w', (execOp a.eval o).run P w = .ok (.value v) w' ∧ E.r w w' ∧ p.holds v w')
    (h : ∀ v, (∃ w, p.holds v w) → LexW P ops w0 sp Q l (k + 1) (a.put o.dst v) ((k, v) :: env)) : LexW P ops w0 sp Q (o :: l) k a env := by
  unfold LexW; rw [hsp]
  exact ⟨hw, fun w he hd => by obtain ⟨v, w', h1, h2⟩ := hr w he hd; unfold wpS; rw [h1]; exact h2, h⟩

theorem LexW.nil (h : ∀ w, E.r w0 w → Known sp env w → Q a w) : LexW P ops w0 sp Q [] k a env := h

end
end

end Go.Proofs.Ytnbhlabcecdbgaa.Chg

/-
  Sources of drawn numbers: what is known of them in memory, and what a draw leaves of the world.
  No condition.
-/
namespace Go.Proofs.Ytnbhlabcecdbgaa
set_option maxRecDepth 100000
open Go.RowKit

/-- A source: its block, and the slice of its code. -/
structure SrcP where
  g : Nat
  ca : Option Addr
  n : Nat
  cap : Nat

/-- n bytes that can be read, apart from a block. -/
def RdB (w : World) (g : Nat) (ca : Option Addr) (n : Nat) : Prop :=
  ∀ i, i < n → ∃ b off, ∃ z : Int, ca = some ⟨b, off, none⟩ ∧ b ≠ g ∧ w.cell? ⟨b, off + i, none⟩ = some (.int .u8 z) ∧ 0 ≤ z ∧ z ≤ 255

structure Src (S : SrcP) (w : World) : Prop where
  len : S.n ≤ 4096
  c0 : w.cell? ⟨S.g, 0, none⟩ = some (.slice S.ca S.n S.cap)
  c1 : ∃ t : Nat, t ≤ S.n ∧ w.cell? ⟨S.g, 1, none⟩ = some (.int .i64 t)
  c2 : ∃ h : Int, w.cell? ⟨S.g, 2, none⟩ = some (.int .u64 h)
  fz : ∀ j, w.frozen? ⟨S.g, j, none⟩ = false
  rd : RdB w S.g S.ca S.n

theorem Src.lt {S : SrcP} {w : World} (h : Src S w) : S.g < w.heap.size := lt_of_cell h.c0

/-- All blocks but the source's are as they were, and the source is one still. -/
structure Drw (S : SrcP) (w w' : World) : Prop where
  os : w'.os = w.os
  tape : w'.tape = w.tape
  output : w'.output = w.output
  size : w.heap.size ≤ w'.heap.size
  block : ∀ k, k < w.heap.size → k ≠ S.g → w'.heap[k]? = w.heap[k]?
  src : Src S w → Src S w'

theorem Drw.refl (S : SrcP) (w : World) : Drw S w w := ⟨rfl, rfl, rfl, Nat.le_refl _, fun _ _ _ => rfl, id⟩
theorem Drw.trans {S : SrcP} {a b c : World} (h : Drw S a b) (k : Drw S b c) : Drw S a c :=
  ⟨k.os.trans h.os, k.tape.trans h.tape, k.output.trans h.output, Nat.le_trans h.size k.size, fun i hi hg => (k.block i (Nat.lt_of_lt_of_le hi h.size) hg).trans (h.block i hi hg), fun hs => k.src (h.src hs)⟩

theorem RdB.block {w w' : World} {g n : Nat} {ca : Option Addr} (h : RdB w g ca n) (hb : ∀ k, k < w.heap.size → k ≠ g → w'.heap[k]? = w.heap[k]?) : RdB w' g ca n := fun i hi => by
  obtain ⟨b, off, z, h1, h2, h3, h4⟩ := h i hi
  exact ⟨b, off, z, h1, h2, by rw [World.cell?_of_block (w := w) (hb b (lt_of_cell h3) h2)]; exact h3, h4⟩

/-- What lies below the first world's size is left alone afterwards. -/
theorem Drw.below {S : SrcP} {W w w' : World} (h : Drw S W w) (k : Below W.heap.size w w') : Drw S W w' := by
  refine ⟨k.os.trans h.os, k.tape.trans h.tape, k.output.trans h.output, Nat.le_trans h.size k.size, fun i hi hg => (k.block i hi).trans (h.block i hi hg), fun hs => ?_⟩
  have hw := h.src hs
  have hg := k.block S.g hs.lt
  refine ⟨hw.len, ?_, ?_, ?_, fun j => ?_, fun i hi => ?_⟩
  · rw [World.cell?_of_block (w := w) hg]; exact hw.c0
  · obtain ⟨t, ht, hc⟩ := hw.c1
    exact ⟨t, ht, by rw [World.cell?_of_block (w := w) hg]; exact hc⟩
  · obtain ⟨t, hc⟩ := hw.c2
    exact ⟨t, by rw [World.cell?_of_block (w := w) hg]; exact hc⟩
  · rw [World.frozen?_of_block (w := w) hg]; exact hw.fz j
  · obtain ⟨b, off, z, h1, h2, h3, h4⟩ := hs.rd i hi
    have hb := lt_of_cell h3
    exact ⟨b, off, z, h1, h2, by rw [World.cell?_of_block (w := w) (k.block b hb), World.cell?_of_block (w := W) (h.block b hb h2)]; exact h3, h4⟩

theorem Drw.of_ext {S : SrcP} {w w' : World} (h : Ext w w') : Drw S w w' := (Drw.refl S w).below h
theorem Drw.ext {S : SrcP} {W w w' : World} (h : Drw S W w) (k : Ext w w') : Drw S W w' := h.below (Below.mono k h.size)
theorem Drw.alloc {S : SrcP} {W w : World} (h : Drw S W w) (o : Obj) : Drw S W (w.alloc o) := h.ext (ext_alloc _ _)
theorem Drw.drew {S : SrcP} {W w : World} (h : Drw S W w) : Drw S W w.drew := h.ext (ext_drew _)
theorem Drw.setCell {S : SrcP} {W w : World} (h : Drw S W w) {p : Addr} (hp : W.heap.size ≤ p.block) (u : Value) : Drw S W (w.setCell p u) := h.below ((Below.refl _ _).setCell hp u)
theorem Drw.grown {S : SrcP} {W w w' : World} {row : Option Nat} (h : Drw S W w) (hg : w.grownBy w' row) (hr : ∀ k, row = some k → W.heap.size ≤ k) : Drw S W w' := h.below ((Below.refl _ _).grown hg h.size hr)
theorem Drw.cell {S : SrcP} {w w' : World} (h : Drw S w w') {p : Addr} {v : Value} (hp : p.block ≠ S.g) (hc : w.cell? p = some v) : w'.cell? p = some v := by
  rw [World.cell?_of_block (w := w) (h.block p.block (lt_of_cell hc) hp)]; exact hc
theorem Drw.frz {S : SrcP} {w w' : World} (h : Drw S w w') {p : Addr} (hl : p.block < w.heap.size) (hp : p.block ≠ S.g) : w'.frozen? p = w.frozen? p :=
  World.frozen?_of_block (w := w) (h.block p.block hl hp)
theorem Drw.own {S : SrcP} {B : Nat} {w w' : World} {a : Option Addr} {n cap : Nat} {xs : List Int} (h : Drw S w w') (ho : OwnC B w a n cap xs) (hB : S.g < B) : OwnC B w' a n cap xs :=
  ho.keep fun g hg => by
    have := ho.base_of g hg
    exact h.block g this.2 (by omega)
/-- A draw behind the making of the source. -/
theorem Drw.toExt {S : SrcP} {W w w' : World} (h : Drw S w w') (he : Ext W w) (hg : W.heap.size ≤ S.g) : Ext W w' :=
  he.trans' ⟨h.os, h.tape, h.output, h.size, fun k hk => h.block k (Nat.lt_of_lt_of_le hk he.size) (by omega)⟩

/-- As a relation for walks. -/
def Drw.rel (S : SrcP) : Chg.Rel := ⟨Drw S, Drw.refl S, Drw.trans⟩

def NextR (n r : Int) : Prop := (n < 1 → r = 0) ∧ (1 ≤ n → 0 ≤ r ∧ r < n)

theorem src_set {S : SrcP} {w : World} (h : Src S w) {j : Nat} {v : Value} (h0 : j = 1 → ∃ t : Nat, t ≤ S.n ∧ v = .int .i64 t) (h1 : j = 2 → ∃ x, v = .int .u64 x) (hj : j = 1 ∨ j = 2) : Drw S w (w.setCell ⟨S.g, j, none⟩ v) := by
  have hb : ∀ k, k < w.heap.size → k ≠ S.g → (w.setCell ⟨S.g, j, none⟩ v).heap[k]? = w.heap[k]? := fun k _ hk => Below.heap_setCell _ _ _ _ hk
  refine ⟨rfl, rfl, rfl, by simp [World.setCell], hb, fun hs => ?_⟩
  obtain ⟨t, ht, c1⟩ := h.c1
  obtain ⟨x, c2⟩ := h.c2
  have c0 := h.c0
  rcases hj with rfl | rfl
  · obtain ⟨t', ht', rfl⟩ := h0 rfl
    exact ⟨h.len, by go_simp, ⟨t', ht', by go_simp⟩, ⟨x, by go_simp⟩, fun i => by have := h.fz i; go_simp, h.rd.block hb⟩
  · obtain ⟨x', rfl⟩ := h1 rfl
    exact ⟨h.len, by go_simp, ⟨t, ht, by go_simp⟩, ⟨x', by go_simp⟩, fun i => by have := h.fz i; go_simp, h.rd.block hb⟩

theorem src_h {S : SrcP} {w : World} (h : Src S w) (x : Int) : Drw S w (w.setCell ⟨S.g, 2, none⟩ (.int .u64 x)) := src_set h (fun h => by omega) (fun _ => ⟨x, rfl⟩) (.inr rfl)
theorem u64_bd (E : Int) : 0 ≤ IntKind.u64.wrap E ∧ IntKind.u64.wrap E ≤ 18446744073709551615 := by
  simp [IntKind.wrap, IntKind.bits, IntKind.signed]; omega
theorem draw_bd (E : Int) : ∃ x : Int, wrap64 (bits BinOp.and IntKind.u64 (IntKind.u64.wrap E / 8589934592) 16777215) = x ∧ 0 ≤ x ∧ x ≤ 16777215 := by
  refine ⟨_, rfl, ?_⟩
  have h := u64_bd E
  obtain ⟨A, hA⟩ : ∃ A : Nat, IntKind.u64.wrap E / 8589934592 = (A : Int) := ⟨(IntKind.u64.wrap E / 8589934592).toNat, by omega⟩
  rw [hA, show (16777215 : Int) = ((16777215 : Nat) : Int) from rfl, bits_and_u64_nat _ _ (by omega) (by omega)]
  have h2 : A &&& 16777215 ≤ 16777215 := Nat.and_le_right
  have h3 : wrap64 ((A &&& 16777215 : Nat) : Int) = ((A &&& 16777215 : Nat) : Int) := by unfold wrap64; omega
  rw [h3]
  omega
theorem next_of {n x : Int} (h : ¬ n < 1) (_h0 : 0 ≤ x) : NextR n (x % n) := ⟨fun h' => absurd h' h, fun _ => ⟨Int.emod_nonneg _ (by omega), Int.emod_lt_of_pos _ (by omega)⟩⟩

set_option maxHeartbeats 1000000 in
theorem s_next (S : SrcP) (n : Int) (w : World) (hS : Src S w) (hn : n ≤ 9223372036854775807) :
    Calls Try.prog 51 #[.pointer (some ⟨S.g, 0, none⟩), .int .i64 n] w fun e w' => ∃ r, e = .returned (.int .i64 r) ∧ NextR n r ∧ Drw S w w' := by
  by_cases h1 : n < 1
  · go_enter Try.func51, Try.ntmps51
    go_wp2_with (fail)
    go_ret
    exact ⟨0, rfl, ⟨fun _ => rfl, fun h => by omega⟩, Drw.refl _ _⟩
  · obtain ⟨t, ht, c1⟩ := hS.c1
    obtain ⟨h, c2⟩ := hS.c2
    have c0 := hS.c0
    have f2 := hS.fz 2
    obtain ⟨x, hx, hx0, hx1⟩ := draw_bd (IntKind.u64.wrap (h * 6364136223846793005) + 1442695040888963407)
    obtain ⟨V, hV⟩ : ∃ V, V = Value.int IntKind.u64 (IntKind.u64.wrap (IntKind.u64.wrap (h * 6364136223846793005) + 1442695040888963407)) := ⟨_, rfl⟩
    obtain ⟨W, hW⟩ : ∃ W, W = w.setCell ⟨S.g, 2, none⟩ V := ⟨_, rfl⟩
    have D1 : Drw S w W := by rw [hW]; exact src_set hS (fun h => by omega) (fun _ => ⟨_, hV⟩) (.inr rfl)
    have e0 : W.cell? ⟨S.g, 0, none⟩ = some (.slice S.ca S.n S.cap) := by rw [hW]; go_simp
    have e1 : W.cell? ⟨S.g, 1, none⟩ = some (.int .i64 t) := by rw [hW]; go_simp
    have hS1 := D1.src hS
    have HS := Lib.hid hS1
    have HD := Lib.hid D1
    have HX := Lib.hid hx
    have HW := Lib.hid (by rw [hW, hV] : W = w.setCell ⟨S.g, 2, none⟩ (Value.int IntKind.u64 (IntKind.u64.wrap (IntKind.u64.wrap (h * 6364136223846793005) + 1442695040888963407))))
    have f1 := hS1.fz 1
    have hl := hS1.len
    clear hS hx D1 hS1 hW hV
    by_cases h2 : t < S.n
    · obtain ⟨b, off, z, hca, hbg, hcb, hz0, hz1⟩ := HS.out.rd t h2
      have E0 := Lib.hid ((ext_drew W).cell e0)
      have E1 := Lib.hid ((ext_drew W).cell e1)
      have EB := Lib.hid ((ext_drew W).cell hcb)
      have hnn : (n == 0) = false := by simp; omega
      rw [hca] at E0
      have HR := Lib.hid (next_of (n := n) (x := x + z) h1 (by omega))
      go_enter Try.func51, Try.ntmps51
      go_wp2_with (fail)
      rw [HX.out, ← HW.out]
      clear c0 c1 c2 f2 e0 hcb
      refine wp_region_lex [] (by kernel_rfl) (by kernel_rfl) ?_
      repeat' first | (refine LexW.pure (v := ?_) rfl rfl (fun w1 he => ?_) ?_; rotate_left; ( have x0 := he.cell E0.out; have x1 := he.cell E1.out; go_simp; rfl); simp only [Act.put, List.setIfInBounds_toArray, List.set_cons_zero, List.set_cons_succ])
      refine LexW.nil (fun w2 he hk => ?_)
      have X2 := Lib.hid ((ext_drew W).trans he)
      have F1 := Lib.hid ((ext_drew w2).cell (he.cell E0.out))
      have F2 := Lib.hid ((ext_drew w2).cell (he.cell E1.out))
      have F3 := Lib.hid ((ext_drew w2).cell (he.cell EB.out))
      clear he hk
      go_wp2_with (fail)
      refine wp_region_lex [] (by kernel_rfl) (by kernel_rfl) ?_
      repeat' first | (refine LexW.pure (v := ?_) rfl rfl (fun w1 he => ?_) ?_; rotate_left; ( have x0 := he.cell F1.out; have x1 := he.cell F2.out; have x2 := he.cell F3.out; go_simp; rfl); simp only [Act.put, List.setIfInBounds_toArray, List.set_cons_zero, List.set_cons_succ])
      refine LexW.nil (fun w3 he hk => ?_)
      have X3 := Lib.hid (X2.out.trans ((ext_drew w2).trans he))
      have y1 := he.cell F2.out
      have fz1 : w3.frozen? ⟨S.g, 1, none⟩ = false := by rw [X3.out.frz _ _ HS.out.lt]; exact f1
      clear he hk
      go_wp2_with (fail)
      go_ret
      refine ⟨_, rfl, ?_, ?_⟩
      · skip
        exact HR.out
      · have hS3 := (Drw.of_ext X3.out).src HS.out
        exact (HD.out.ext X3.out).trans (src_set hS3 (fun _ => ⟨t + 1, by omega, by go_num⟩) (fun h => by omega) (.inl rfl))
    · have E0 := Lib.hid ((ext_drew W).cell e0)
      have E1 := Lib.hid ((ext_drew W).cell e1)
      have hnn : (n == 0) = false := by simp; omega
      have HR := Lib.hid (next_of (n := n) (x := x) h1 (by omega))
      go_enter Try.func51, Try.ntmps51
      go_wp2_with (fail)
      rw [HX.out, ← HW.out]
      clear c0 c1 c2 f2 e0
      refine wp_region_lex [] (by kernel_rfl) (by kernel_rfl) ?_
      repeat' first | (refine LexW.pure (v := ?_) rfl rfl (fun w1 he => ?_) ?_; rotate_left; ( have x0 := he.cell E0.out; have x1 := he.cell E1.out; go_simp; rfl); simp only [Act.put, List.setIfInBounds_toArray, List.set_cons_zero, List.set_cons_succ])
      refine LexW.nil (fun w2 he hk => ?_)
      have X2 := Lib.hid ((ext_drew W).trans he)
      clear he hk
      go_wp2_with (fail)
      go_ret
      exact ⟨_, rfl, HR.out, HD.out.ext X2.out⟩
set_option maxHeartbeats 1000000 in
theorem l_below (S : SrcP) (n : Int) (w : World) (hS : Src S w) (hn : n ≤ 9223372036854775807) :
    Calls Try.prog 25 #[.pointer (some ⟨S.g, 0, none⟩), .int .i64 n] w fun e w' => ∃ r, e = .returned (.int .i64 r) ∧ NextR n r ∧ Drw S w w' := by
  by_cases h1 : n < 1
  · go_enter Try.func25, Try.ntmps25
    go_wp2_with (fail)
    go_ret
    exact ⟨0, rfl, ⟨fun _ => rfl, fun h => by omega⟩, Drw.refl _ _⟩
  · obtain ⟨t, ht, c1⟩ := hS.c1
    obtain ⟨h, c2⟩ := hS.c2
    have c0 := hS.c0
    have f2 := hS.fz 2
    obtain ⟨x, hx, hx0, hx1⟩ := draw_bd (IntKind.u64.wrap (h * 6364136223846793005) + 1442695040888963407)
    obtain ⟨V, hV⟩ : ∃ V, V = Value.int IntKind.u64 (IntKind.u64.wrap (IntKind.u64.wrap (h * 6364136223846793005) + 1442695040888963407)) := ⟨_, rfl⟩
    obtain ⟨W, hW⟩ : ∃ W, W = w.setCell ⟨S.g, 2, none⟩ V := ⟨_, rfl⟩
    have D1 : Drw S w W := by rw [hW]; exact src_set hS (fun h => by omega) (fun _ => ⟨_, hV⟩) (.inr rfl)
    have e0 : W.cell? ⟨S.g, 0, none⟩ = some (.slice S.ca S.n S.cap) := by rw [hW]; go_simp
    have e1 : W.cell? ⟨S.g, 1, none⟩ = some (.int .i64 t) := by rw [hW]; go_simp
    have hS1 := D1.src hS
    have HS := Lib.hid hS1
    have HD := Lib.hid D1
    have HX := Lib.hid hx
    have HW := Lib.hid (by rw [hW, hV] : W = w.setCell ⟨S.g, 2, none⟩ (Value.int IntKind.u64 (IntKind.u64.wrap (IntKind.u64.wrap (h * 6364136223846793005) + 1442695040888963407))))
    have f1 := hS1.fz 1
    have hl := hS1.len
    clear hS hx D1 hS1 hW hV
    by_cases h2 : t < S.n
    · obtain ⟨b, off, z, hca, hbg, hcb, hz0, hz1⟩ := HS.out.rd t h2
      have E0 := Lib.hid ((ext_drew W).cell e0)
      have E1 := Lib.hid ((ext_drew W).cell e1)
      have EB := Lib.hid ((ext_drew W).cell hcb)
      have hnn : (n == 0) = false := by simp; omega
      rw [hca] at E0
      have HR := Lib.hid (next_of (n := n) (x := x + z) h1 (by omega))
      go_enter Try.func25, Try.ntmps25
      go_wp2_with (fail)
      rw [HX.out, ← HW.out]
      clear c0 c1 c2 f2 e0 hcb
      refine wp_region_lex [] (by kernel_rfl) (by kernel_rfl) ?_
      repeat' first | (refine LexW.pure (v := ?_) rfl rfl (fun w1 he => ?_) ?_; rotate_left; ( have x0 := he.cell E0.out; have x1 := he.cell E1.out; go_simp; rfl); simp only [Act.put, List.setIfInBounds_toArray, List.set_cons_zero, List.set_cons_succ])
      refine LexW.nil (fun w2 he hk => ?_)
      have X2 := Lib.hid ((ext_drew W).trans he)
      have F1 := Lib.hid ((ext_drew w2).cell (he.cell E0.out))
      have F2 := Lib.hid ((ext_drew w2).cell (he.cell E1.out))
      have F3 := Lib.hid ((ext_drew w2).cell (he.cell EB.out))
      clear he hk
      go_wp2_with (fail)
      refine wp_region_lex [] (by kernel_rfl) (by kernel_rfl) ?_
      repeat' first | (refine LexW.pure (v := ?_) rfl rfl (fun w1 he => ?_) ?_; rotate_left; ( have x0 := he.cell F1.out; have x1 := he.cell F2.out; have x2 := he.cell F3.out; go_simp; rfl); simp only [Act.put, List.setIfInBounds_toArray, List.set_cons_zero, List.set_cons_succ])
      refine LexW.nil (fun w3 he hk => ?_)
      have X3 := Lib.hid (X2.out.trans ((ext_drew w2).trans he))
      have y1 := he.cell F2.out
      have fz1 : w3.frozen? ⟨S.g, 1, none⟩ = false := by rw [X3.out.frz _ _ HS.out.lt]; exact f1
      clear he hk
      go_wp2_with (fail)
      go_ret
      refine ⟨_, rfl, ?_, ?_⟩
      · skip
        exact HR.out
      · have hS3 := (Drw.of_ext X3.out).src HS.out
        exact (HD.out.ext X3.out).trans (src_set hS3 (fun _ => ⟨t + 1, by omega, by go_num⟩) (fun h => by omega) (.inl rfl))
    · have E0 := Lib.hid ((ext_drew W).cell e0)
      have E1 := Lib.hid ((ext_drew W).cell e1)
      have hnn : (n == 0) = false := by simp; omega
      have HR := Lib.hid (next_of (n := n) (x := x) h1 (by omega))
      go_enter Try.func25, Try.ntmps25
      go_wp2_with (fail)
      rw [HX.out, ← HW.out]
      clear c0 c1 c2 f2 e0
      refine wp_region_lex [] (by kernel_rfl) (by kernel_rfl) ?_
      repeat' first | (refine LexW.pure (v := ?_) rfl rfl (fun w1 he => ?_) ?_; rotate_left; ( have x0 := he.cell E0.out; have x1 := he.cell E1.out; go_simp; rfl); simp only [Act.put, List.setIfInBounds_toArray, List.set_cons_zero, List.set_cons_succ])
      refine LexW.nil (fun w2 he hk => ?_)
      have X2 := Lib.hid ((ext_drew W).trans he)
      clear he hk
      go_wp2_with (fail)
      go_ret
      exact ⟨_, rfl, HR.out, HD.out.ext X2.out⟩


/-- n bytes that can be read. -/
def RdY (w : World) (ca : Option Addr) (n : Nat) : Prop :=
  ∀ i, i < n → ∃ b off, ∃ z : Int, ca = some ⟨b, off, none⟩ ∧ w.cell? ⟨b, off + i, none⟩ = some (.int .u8 z) ∧ 0 ≤ z ∧ z ≤ 255
theorem RdY.ext {w w' : World} {ca : Option Addr} {n : Nat} (h : RdY w ca n) (he : Ext w w') : RdY w' ca n := fun i hi => by
  obtain ⟨b, off, z, h1, h2, h3⟩ := h i hi
  exact ⟨b, off, z, h1, he.cell h2, h3⟩

set_option maxHeartbeats 1000000 in
theorem s_from (ca : Option Addr) (n cap : Nat) (w : World) (hn : n ≤ 4096) (hb : RdY w ca n) :
    Calls Try.prog 37 #[.slice ca n cap] w fun e w' => ∃ g, e = .returned (.pointer (some ⟨g, 0, none⟩)) ∧ w.heap.size ≤ g ∧ Src ⟨g, ca, n, cap⟩ w' ∧ Ext w w' := by
  obtain ⟨g, hg⟩ : ∃ g, g = w.heap.size := ⟨_, rfl⟩
  have HG := Lib.hid hg
  have HB := Lib.hid hb
  clear hb
  go_enter Try.func37, Try.ntmps37
  go_wp2_with (fail)
  rw [← hg]
  go_loopw [4] (fun i wr => ∃ (k : Nat), k ≤ n ∧ i = .int .i64 k ∧ Src ⟨g, ca, n, cap⟩ wr ∧ Ext w wr) (fun i _ => n - (intOf i).toNat)
  case atStart =>
    refine ⟨0, Nat.zero_le _, rfl, ?_, ext_alloc _ _⟩
    refine ⟨hn, by rw [HG.out]; simp, ⟨0, Nat.zero_le _, by rw [HG.out]; simp⟩, ⟨_, by rw [HG.out]; simp; rfl⟩, fun j => by rw [HG.out]; simp, fun i hi => ?_⟩
    obtain ⟨b, off, z, h1, h2, h3⟩ := HB.out i hi
    exact ⟨b, off, z, h1, by have := lt_of_cell h2; have := HG.out; dsimp only at *; omega, (ext_alloc _ _).cell h2, h3⟩
  case round =>
    obtain ⟨k, hk, rfl, hS, hext⟩ := hrel
    have HS := Lib.hid hS
    have HE := Lib.hid hext
    clear hext hg
    by_cases hlt : k < n
    · obtain ⟨h, c2⟩ := hS.c2
      obtain ⟨b, off, z, rfl, hbg, hc, hz0, hz1⟩ := hS.rd k hlt
      have C2 := Lib.hid ((ext_drew _).cell c2)
      have CB := Lib.hid ((ext_drew _).cell hc)
      have hk6 : k < 4096 := by omega
      clear hS c2 hc
      go_wp2_with (fail)
      refine wp_region_lex_tail 15 [] (by kernel_rfl) (by kernel_rfl) ?_
      simp only [List.take, List.drop]
      repeat' first | (refine LexW.pure (v := ?_) rfl rfl (fun w1 he => ?_) ?_; rotate_left; ( have x0 := he.cell C2.out; have x1 := he.cell CB.out; go_simp; rfl); simp only [Act.put, List.setIfInBounds_toArray, List.set_cons_zero, List.set_cons_succ])
      refine LexW.nil (fun w2 he hkn => ?_)
      have X2 := Lib.hid ((ext_drew _).trans he)
      have hS2 := (Drw.of_ext X2.out).src HS.out
      have fz := hS2.fz 2
      have c2 := he.cell C2.out
      have HS2 := Lib.hid hS2
      clear he hkn hS2
      go_wp2_with (fail)
      go_roundw
      case rel =>
        exact ⟨k + 1, by omega, by go_num, (src_h HS2.out _).src HS2.out, (src_h HS2.out _).toExt (HE.out.trans X2.out) (by have := HG.out; dsimp only; omega)⟩
      case measure => simp [intOf]; omega
    · go_wp2_with (fail)
      go_ret
      exact ⟨g, rfl, by have := HG.out; omega, HS.out, HE.out⟩
set_option maxHeartbeats 1000000 in
theorem l_roll (ca : Option Addr) (n cap : Nat) (sd : Int) (w : World) (hn : n ≤ 4096) (hb : RdY w ca n) :
    Calls Try.prog 10 #[.slice ca n cap, .int .u64 sd] w fun e w' => ∃ g, e = .returned (.pointer (some ⟨g, 0, none⟩)) ∧ w.heap.size ≤ g ∧ Src ⟨g, ca, n, cap⟩ w' ∧ Ext w w' := by
  obtain ⟨g, hg⟩ : ∃ g, g = w.heap.size := ⟨_, rfl⟩
  have HG := Lib.hid hg
  have HB := Lib.hid hb
  clear hb
  go_enter Try.func10, Try.ntmps10
  go_wp2_with (fail)
  rw [← hg]
  go_loopw [6] (fun i wr => ∃ (k : Nat), k ≤ n ∧ i = .int .i64 k ∧ Src ⟨g, ca, n, cap⟩ wr ∧ Ext w wr) (fun i _ => n - (intOf i).toNat)
  case atStart =>
    refine ⟨0, Nat.zero_le _, rfl, ?_, ext_alloc _ _⟩
    refine ⟨hn, by rw [HG.out]; simp, ⟨0, Nat.zero_le _, by rw [HG.out]; simp⟩, ⟨_, by rw [HG.out]; simp; rfl⟩, fun j => by rw [HG.out]; simp, fun i hi => ?_⟩
    obtain ⟨b, off, z, h1, h2, h3⟩ := HB.out i hi
    exact ⟨b, off, z, h1, by have := lt_of_cell h2; have := HG.out; dsimp only at *; omega, (ext_alloc _ _).cell h2, h3⟩
  case round =>
    obtain ⟨k, hk, rfl, hS, hext⟩ := hrel
    have HS := Lib.hid hS
    have HE := Lib.hid hext
    clear hext hg
    by_cases hlt : k < n
    · obtain ⟨h, c2⟩ := hS.c2
      obtain ⟨b, off, z, rfl, hbg, hc, hz0, hz1⟩ := hS.rd k hlt
      have C2 := Lib.hid ((ext_drew _).cell c2)
      have CB := Lib.hid ((ext_drew _).cell hc)
      have hk6 : k < 4096 := by omega
      clear hS c2 hc
      go_wp2_with (fail)
      refine wp_region_lex_tail 15 [] (by kernel_rfl) (by kernel_rfl) ?_
      simp only [List.take, List.drop]
      repeat' first | (refine LexW.pure (v := ?_) rfl rfl (fun w1 he => ?_) ?_; rotate_left; ( have x0 := he.cell C2.out; have x1 := he.cell CB.out; go_simp; rfl); simp only [Act.put, List.setIfInBounds_toArray, List.set_cons_zero, List.set_cons_succ])
      refine LexW.nil (fun w2 he hkn => ?_)
      have X2 := Lib.hid ((ext_drew _).trans he)
      have hS2 := (Drw.of_ext X2.out).src HS.out
      have fz := hS2.fz 2
      have c2 := he.cell C2.out
      have HS2 := Lib.hid hS2
      clear he hkn hS2
      go_wp2_with (fail)
      go_roundw
      case rel =>
        exact ⟨k + 1, by omega, by go_num, (src_h HS2.out _).src HS2.out, (src_h HS2.out _).toExt (HE.out.trans X2.out) (by have := HG.out; dsimp only; omega)⟩
      case measure => simp [intOf]; omega
    · go_wp2_with (fail)
      go_ret
      exact ⟨g, rfl, by have := HG.out; omega, HS.out, HE.out⟩
end Go.Proofs.Ytnbhlabcecdbgaa
