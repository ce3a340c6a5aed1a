/-
  Contracts and plain laws, part 3: Vecs, CodesV, Norm, Point, Code18, FloatN, Rows3.
  No condition.
-/
import Derived.Test.YtcocbainookkcaaPart2
import Derived.Test.YtcocbainookkcaaPart1
import Derived.Test.YtcocbainookkcaaPart0
/-
  Products of lists of vectors.
  No condition.
-/
namespace Go.Proofs.Ytcocbainookkcaa
set_option maxRecDepth 100000
open Go.RowKit

/-- The product of the first k of some vectors. -/
def prodS (p : Int) (qs : List Int) (tk : Nat → Nat → Bool) (rows : List (List Int)) : Nat → List Int
  | 0 => bladeL (2 ^ qs.length) 0
  | k + 1 => prodL p qs tk (prodS p qs tk rows k) (vecL (2 ^ qs.length) (nthR rows k))
theorem prodS_good {p : Int} {qs : List Int} {tk : Nat → Nat → Bool} {rows : List (List Int)} (hp : 3 ≤ p) : ∀ k, Good p (2 ^ qs.length) (prodS p qs tk rows k)
  | 0 => blade_good hp
  | k + 1 => prod_good (by omega)
/-- The code of a space and a list of at most 16 vectors. -/
def codeVR (p : Int) (qs : List Int) (rows : List (List Int)) : Int := if codeV p qs rows = 0 then (if rows.length ≤ 16 then 0 else 2) else codeV p qs rows
theorem codeVR_zero {p : Int} {qs : List Int} {rows : List (List Int)} (h : codeVR p qs rows = 0) : spaceB p qs = true ∧ rows.all (vecB p qs.length) = true ∧ rows.length ≤ 16 := by
  unfold codeVR codeV at h
  cases hs : spaceB p qs
  · simp [hs] at h
  · cases ha : rows.all (vecB p qs.length)
    · simp [hs, ha] at h
    · simp [hs, ha] at h
      exact ⟨rfl, rfl, h⟩
theorem rows_good {p : Int} {d : Nat} {rows : List (List Int)} (h : rows.all (vecB p d) = true) : RowsG p d rows := fun i hi => by
  have := List.all_eq_true.1 h (nthR rows i) (by rw [nthR_eq hi]; exact List.getElem_mem hi)
  obtain ⟨h1, h2⟩ := vec_of this
  exact good_isB h1 h2





end Go.Proofs.Ytcocbainookkcaa

/-
  The codes of spaces and lists of vectors; the listed function WedgeOfVectors.
  No condition.
-/
namespace Go.Proofs.Ytcocbainookkcaa
set_option maxRecDepth 100000
open Go.RowKit

theorem codeVR_space {p : Int} {qs : List Int} {rows : List (List Int)} (h : spaceB p qs = false) : codeVR p qs rows = 1 := by simp [codeVR, codeV, h]
theorem codeVR_of {p : Int} {qs : List Int} {rows : List (List Int)} (h : spaceB p qs = true) : codeVR p qs rows = if (rows.all (vecB p qs.length) && decide (rows.length ≤ 16)) = true then 0 else 2 := by
  unfold codeVR codeV
  cases ha : rows.all (vecB p qs.length)
  · simp [h]
  · by_cases hl : rows.length ≤ 16 <;> simp [h, hl]


set_option maxHeartbeats 400000 in
theorem s_isVector (p : Int) (a : Option Addr) (d cap : Nat) (ax : Option Addr) (n cx : Nat) (xs : List Int) (w : World) (hp1 : 1 ≤ p) (hp2 : p ≤ 1000) (hl : n ≤ 4194304) (hx : RdC w ax n xs) :
    Calls Try.prog 105 #[.agg #[.int .i64 p, .slice a d cap], .slice ax n cx] w fun e w' => e = .returned (.bool (vecB p d xs)) ∧ Ext w w' := by
  by_cases hc : n = d
  · have HF := Lib.hid (show vecB p d xs = isB p xs by simp [vecB, hx.1, hc])
    have hcb : ((n : Int) == (d : Int)) = true := by simp [hc]
    clear hc
    go_enter Try.func105, Try.ntmps105
    go_wp2_with (go_at_call 139; refine (s_numbers _ _ _ _ _ _ hp1 hp2 hl (hx.ext (ext_alloc _ _))).mono ?_; rintro e w3 ⟨rfl, h3⟩)
    go_ret
    exact ⟨ret_bool HF.out.symm, (ext_alloc _ _).trans h3⟩
  · have HF := Lib.hid (show vecB p d xs = false by simp [vecB, hx.1, hc])
    have hcb : ((n : Int) == (d : Int)) = false := by simp; omega
    go_enter Try.func105, Try.ntmps105
    go_wp2_with (fail)
    go_ret
    exact ⟨ret_bool HF.out.symm, ext_alloc _ _⟩

theorem allV_false {p : Int} {d n k : Nat} {rows : List (List Int)} (hn : rows.length = n) (hk : k < n) (h : vecB p d (nthR rows k) = false) : rows.all (vecB p d) = false := by
  rw [List.all_eq_false]
  subst hn
  exact ⟨rows[k], List.getElem_mem hk, by rw [nthR_eq hk] at h; simp [h]⟩
theorem allV_true {p : Int} {d n : Nat} {rows : List (List Int)} (hn : rows.length = n) (h : ∀ j, j < n → vecB p d (nthR rows j) = true) : rows.all (vecB p d) = true := by
  rw [List.all_eq_true]
  intro x hx
  obtain ⟨i, hi, rfl⟩ := List.getElem_of_mem hx
  have := h i (by omega)
  rwa [nthR_eq hi] at this



def wedgeL (p : Int) (qs : List Int) (rows : List (List Int)) (n : Nat) : List Int := prodS p qs tkW rows n
end Go.Proofs.Ytcocbainookkcaa

/-
  Products and norms of vectors.
  No condition.
-/
namespace Go.Proofs.Ytcocbainookkcaa
set_option maxRecDepth 100000
open Go.RowKit

/-- The sum of the first k products. -/
def dotS (x y : List Int) : Nat → Int
  | 0 => 0
  | k + 1 => dotS x y k + nth x k * nth y k
theorem dotS_bd {p : Int} {n : Nat} {x y : List Int} (hp : p ≤ 1000) (hx : Good p n x) (hy : Good p n y) : ∀ k, k ≤ n → 0 ≤ dotS x y k ∧ dotS x y k ≤ 1000000 * k
  | 0, _ => by simp [dotS]
  | k + 1, hk => by
    have ih := dotS_bd hp hx hy k (by omega)
    have h1 := hx.2 k (by omega)
    have h2 := hy.2 k (by omega)
    have h3 := mul_bd hp h1.1 h1.2 h2.1 h2.2
    simp only [dotS, Int.natCast_add]
    omega
def dotL (p : Int) (x y : List Int) (n : Nat) : Int := dotS x y n % p
def wtN (p : Int) (qs v : List Int) (i : Nat) : Int := (nth v i * nth qs i) % p
def wtL (p : Int) (qs v : List Int) (n : Nat) : List Int := (List.range n).map (wtN p qs v)
theorem wtL_succ (p : Int) (qs v : List Int) (n : Nat) : wtL p qs v (n + 1) = wtL p qs v n ++ [wtN p qs v n] := by simp [wtL, List.range_succ]
theorem wtL_nth {p : Int} {qs v : List Int} {n i : Nat} (h : i < n) : nth (wtL p qs v n) i = wtN p qs v i := by
  unfold wtL; rw [nth_map (by simpa using h)]; simp
theorem wt_good {p : Int} {qs v : List Int} {n : Nat} (hp : 1 ≤ p) : Good p n (wtL p qs v n) := ⟨by simp [wtL], fun i hi => by
  rw [wtL_nth hi]; exact ⟨Int.emod_nonneg _ (by omega), Int.emod_lt_of_pos _ (by omega)⟩⟩
/-- The product of two vectors. -/
def pairL (p : Int) (qs v w : List Int) (n : Nat) : Int := dotL p (wtL p qs v n) w n
theorem pairL_bd {p : Int} {qs v w : List Int} {n : Nat} (hp : 1 ≤ p) : 0 ≤ pairL p qs v w n ∧ pairL p qs v w n < p := ⟨Int.emod_nonneg _ (by omega), Int.emod_lt_of_pos _ (by omega)⟩
/-- As the reference sums it. -/
def pairS (p : Int) (qs v w : List Int) : Nat → Int
  | 0 => 0
  | k + 1 => (pairS p qs v w k + nth v k * nth w k % p * nth qs k) % p
theorem dotS_congr {p : Int} {x x' y : List Int} : ∀ k, (∀ i, i < k → nth x i % p = nth x' i % p) → dotS x y k % p = dotS x' y k % p
  | 0, _ => rfl
  | k + 1, h => by
    simp only [dotS]
    rw [Int.add_emod, dotS_congr k (fun i hi => h i (by omega)), Int.mul_emod, h k (by omega), ← Int.mul_emod, ← Int.add_emod]
theorem pairS_eq {p : Int} {qs v w : List Int} {n : Nat} : ∀ k, k ≤ n → pairS p qs v w k = dotS (wtL p qs v n) w k % p
  | 0, _ => by simp [pairS, dotS]
  | k + 1, hk => by
    simp only [pairS, dotS]
    rw [pairS_eq k (by omega) (n := n), wtL_nth (by omega), wtN, Int.emod_add_emod, Int.add_emod, Int.add_emod (dotS _ _ _)]
    congr 1
    congr 1
    rw [Int.mul_emod, Int.emod_emod, ← Int.mul_emod, Int.mul_emod (_ % p), Int.emod_emod, ← Int.mul_emod]
    congr 1
    ac_rfl
theorem pairS_bd {p : Int} {qs v w : List Int} (hp : 1 ≤ p) : ∀ k, 0 ≤ pairS p qs v w k ∧ pairS p qs v w k < p
  | 0 => by simp only [pairS]; omega
  | k + 1 => ⟨Int.emod_nonneg _ (by omega), Int.emod_lt_of_pos _ (by omega)⟩

set_option maxHeartbeats 1000000 in
theorem c_dot (p : Int) (ax ay : Option Addr) (n cx cy : Nat) (x y : List Int) (w : World) (hp1 : 1 ≤ p) (hp2 : p ≤ 1000) (hn : n ≤ 1048576) (hx : RdC w ax n x) (hy : RdC w ay n y) (hgx : Good p n x) (hgy : Good p n y) :
    Calls Try.prog 107 #[.int .i64 p, .slice ax n cx, .slice ay n cy] w fun e w' => e = .returned (.int .i64 (dotL p x y n)) ∧ Ext w w' := by
  have HX := Lib.hid hx
  have HY := Lib.hid hy
  have HB := Lib.hid (fun k (hk : k ≤ n) => dotS_bd hp2 hgx hgy k hk)
  have HGX := Lib.hid hgx
  have HGY := Lib.hid hgy
  clear hx hy hgx hgy
  go_enter Try.func107, Try.ntmps107
  go_wp2_with (fail)
  go_loop [7, 12] (fun s i => ∃ (j : Nat) (z : Int), j ≤ n ∧ i = .int .i64 j ∧ s = .int .i64 z ∧ Hid (z = dotS x y j)) (fun _ i => n - (intOf i).toNat)
  case atStart => exact ⟨0, 0, Nat.zero_le _, rfl, rfl, Lib.hid rfl⟩
  case round =>
    obtain ⟨j, z, hj, rfl, rfl, HZ⟩ := hrel
    by_cases hlt : j < n
    · obtain ⟨bx, ox, rfl, hcx⟩ := HX.out.2 j hlt
      obtain ⟨by', oy, rfl, hcy⟩ := HY.out.2 j hlt
      have hbx := HGX.out.2 j hlt
      have hby := HGY.out.2 j hlt
      have hm := mul_bd hp2 hbx.1 hbx.2 hby.1 hby.2
      have hz := HB.out j hj
      rw [← HZ.out] at hz
      have hw1 : IntKind.i64.wrap (nth x j * nth y j) = nth x j * nth y j := IntWalk.i64_in _ (by omega)
      have hw2 : IntKind.i64.wrap (z + nth x j * nth y j) = z + nth x j * nth y j := IntWalk.i64_in _ (by omega)
      have HS : Hid (z + nth x j * nth y j = dotS x y (j + 1)) := Lib.hid (by simp only [dotS]; rw [HZ.out])
      clear hm hz
      go_wp2_with (fail)
      go_round
      case rel => exact ⟨j + 1, _, by omega, by go_num, rfl, HS⟩
      case measure => simp [intOf]; omega
    · obtain rfl : j = n := by omega
      have HR := Lib.hid (show z % p = dotL p x y j by unfold dotL; rw [HZ.out])
      go_wp2_with (go_at_call 64; refine (c_num _ _ _ hp1 hp2).mono ?_; rintro e w2 ⟨rfl, g2⟩; rw [HR.out])
      go_ret
      exact ⟨rfl, g2⟩

set_option maxHeartbeats 1000000 in
theorem c_weighted (p : Int) (a : Option Addr) (d cap : Nat) (qs : List Int) (av : Option Addr) (cv : Nat) (v : List Int) (w : World) (hp1 : 3 ≤ p) (hp2 : p ≤ 1000) (hd : d ≤ 1048576) (hq : RdC w a d qs) (hqb : isB p qs = true) (hv : RdC w av d v) (hg : Good p d v) :
    Calls Try.prog 108 #[.agg #[.int .i64 p, .slice a d cap], .slice av d cv] w fun e w' => ∃ g rc, e = .returned (.slice (some ⟨g, 0, none⟩) d rc) ∧ OwnC w.heap.size w' (some ⟨g, 0, none⟩) d rc (wtL p qs v d) ∧ Ext w w' := by
  have HQ := Lib.hid hq
  have HV := Lib.hid hv
  have HG := Lib.hid hg
  have HGQ := Lib.hid (good_isB hq.1 hqb)
  clear hq hv hg hqb
  obtain ⟨W, hW⟩ : ∃ W, W = w.alloc (.cells #[.int .i64 p, .slice a d cap] 26) := ⟨_, rfl⟩
  have gW : Ext w W := by rw [hW]; exact ext_alloc _ _
  have hs0 : W.cell? ⟨w.heap.size, 0, none⟩ = some (.int .i64 p) := by rw [hW]; simp
  have hs1 : W.cell? ⟨w.heap.size, 1, none⟩ = some (.slice a d cap) := by rw [hW]; simp
  have HS0 := Lib.hid (hs0)
  have HS1 := Lib.hid (hs1)
  have GW := Lib.hid (gW)
  have HW := Lib.hid hW
  clear hs0 hs1 gW hW
  go_enter Try.func108, Try.ntmps108
  go_wp2_with (fail)
  rw [← HW.out]
  go_wp2_with (fail)
  go_loopw [5, 11] (fun s i wr => ∃ (j g rc : Nat), j ≤ d ∧ i = .int .i64 j ∧ s = .slice (some ⟨g, 0, none⟩) j rc ∧ OwnC W.heap.size wr (some ⟨g, 0, none⟩) j rc (wtL p qs v j) ∧ Ext W wr) (fun _ i _ => d - (intOf i).toNat)
  case atStart => exact ⟨0, _, _, Nat.zero_le _, rfl, rfl, by have h := own_empty W; have hz : w.heap.size + 1 = W.heap.size := by rw [HW.out]; simp
                                                              rw [hz]; exact h, ext_alloc _ _⟩
  case round =>
    obtain ⟨j, g, rc, hj, rfl, rfl, hown, hext⟩ := hrel
    have HOwn := Lib.hid hown
    have HExt := Lib.hid hext
    clear hown hext
    by_cases hlt : j < d
    · obtain ⟨bv, ov, rfl, hcv⟩ := HV.out.2 j hlt
      obtain ⟨bq, oq, rfl, hcq⟩ := HQ.out.2 j hlt
      have hcv' := (GW.out.trans HExt.out).cell hcv
      have HCq := Lib.hid ((GW.out.trans (HExt.out.trans (ext_drew _))).cell hcq)
      have HT0 := Lib.hid ((HExt.out.trans (ext_drew _)).cell HS0.out)
      have HT1 := Lib.hid ((HExt.out.trans (ext_drew _)).cell HS1.out)
      have hbv := HG.out.2 j hlt
      have hbq := HGQ.out.2 j hlt
      have hm := mul_bd hp2 hbv.1 hbv.2 hbq.1 hbq.2
      have HW1 : Hid (IntKind.i64.wrap (nth v j * nth qs j) = nth v j * nth qs j) := Lib.hid (IntWalk.i64_in _ (by omega))
      clear hcv hcq hm hbv hbq
      go_wp2_with (fail)
      clear hcv'
      refine wp_region_lex_tail 12 [(11, .one (wtN p qs v j)), (2, .val (.int .i64 p)), (10, .val (.int .i64 (wtN p qs v j)))] (by kernel_rfl) (by kernel_rfl) ?_
      simp only [List.take, List.drop]
      (refine LexW.pure (v := ?_) rfl rfl (fun w1 he => ?_) ?_; rotate_left; ( have e1 := he.cell HT0.out; have e2 := he.cell HT1.out; have e3 := he.cell HCq.out; have e4 := HW1.out; go_simp; rfl); simp only [Act.put, List.setIfInBounds_toArray, List.set_cons_zero, List.set_cons_succ])
      (refine LexW.pure (v := ?_) rfl rfl (fun w1 he => ?_) ?_; rotate_left; ( have e1 := he.cell HT0.out; have e2 := he.cell HT1.out; have e3 := he.cell HCq.out; have e4 := HW1.out; go_simp; rfl); simp only [Act.put, List.setIfInBounds_toArray, List.set_cons_zero, List.set_cons_succ])
      (refine LexW.call (f := ?_) (args := ?_) rfl rfl (fun w1 => ?_) (fun w1 he hdep => ?_) ?_; rotate_left 2; (go_simp; refine ⟨?_, ?_⟩ <;> rfl); ( exact c_field p _ w1); simp only [Act.put, List.setIfInBounds_toArray, List.set_cons_zero, List.set_cons_succ])
      (refine LexW.pure (v := ?_) rfl rfl (fun w1 he => ?_) ?_; rotate_left; ( have e1 := he.cell HT0.out; have e2 := he.cell HT1.out; have e3 := he.cell HCq.out; have e4 := HW1.out; go_simp; rfl); simp only [Act.put, List.setIfInBounds_toArray, List.set_cons_zero, List.set_cons_succ])
      (refine LexW.pure (v := ?_) rfl rfl (fun w1 he => ?_) ?_; rotate_left; ( have e1 := he.cell HT0.out; have e2 := he.cell HT1.out; have e3 := he.cell HCq.out; have e4 := HW1.out; go_simp; rfl); simp only [Act.put, List.setIfInBounds_toArray, List.set_cons_zero, List.set_cons_succ])
      (refine LexW.pure (v := ?_) rfl rfl (fun w1 he => ?_) ?_; rotate_left; ( have e1 := he.cell HT0.out; have e2 := he.cell HT1.out; have e3 := he.cell HCq.out; have e4 := HW1.out; go_simp; rfl); simp only [Act.put, List.setIfInBounds_toArray, List.set_cons_zero, List.set_cons_succ])
      (refine LexW.pure (v := ?_) rfl rfl (fun w1 he => ?_) ?_; rotate_left; ( have e1 := he.cell HT0.out; have e2 := he.cell HT1.out; have e3 := he.cell HCq.out; have e4 := HW1.out; go_simp; rfl); simp only [Act.put, List.setIfInBounds_toArray, List.set_cons_zero, List.set_cons_succ])
      (refine LexW.pure (v := ?_) rfl rfl (fun w1 he => ?_) ?_; rotate_left; ( have e1 := he.cell HT0.out; have e2 := he.cell HT1.out; have e3 := he.cell HCq.out; have e4 := HW1.out; go_simp; rfl); simp only [Act.put, List.setIfInBounds_toArray, List.set_cons_zero, List.set_cons_succ])
      (refine LexW.pure (v := ?_) rfl rfl (fun w1 he => ?_) ?_; rotate_left; ( have e1 := he.cell HT0.out; have e2 := he.cell HT1.out; have e3 := he.cell HCq.out; have e4 := HW1.out; go_simp; rfl); simp only [Act.put, List.setIfInBounds_toArray, List.set_cons_zero, List.set_cons_succ])
      (refine LexW.pure (v := ?_) rfl rfl (fun w1 he => ?_) ?_; rotate_left; ( have e1 := he.cell HT0.out; have e2 := he.cell HT1.out; have e3 := he.cell HCq.out; have e4 := HW1.out; go_simp; rfl); simp only [Act.put, List.setIfInBounds_toArray, List.set_cons_zero, List.set_cons_succ])
      (refine LexW.call (f := ?_) (args := ?_) rfl rfl (fun w1 => ?_) (fun w1 he hdep => ?_) ?_; rotate_left 2; (go_simp; refine ⟨?_, ?_⟩ <;> rfl); ( exact c_num p (nth v j * nth qs j) w1 (by omega) hp2); simp only [Act.put, List.setIfInBounds_toArray, List.set_cons_zero, List.set_cons_succ])
      (refine LexW.rel rfl rfl (fun w1 he hdep => ?_) (fun v hv => ?_); ( exact ⟨.slice (some ⟨w1.heap.size, 0, none⟩) 1 1, w1.alloc (.cells #[.int .i64 (wtN p qs v j)] 2), (by go_simp), ext_alloc _ _, _, rfl, (by simp)⟩); simp only [Act.put, List.setIfInBounds_toArray, List.set_cons_zero, List.set_cons_succ])
      obtain ⟨_, g27, rfl, _⟩ := hv
      refine LexW.nil (fun w3 he hkn => ?_)
      obtain ⟨_, q27, r27⟩ : (SPred.one (wtN p qs v j)).holds (.slice (some ⟨g27, 0, none⟩) 1 1) w3 := hkn (11, _) (by simp)
      cases q27
      have X3 := Lib.hid ((ext_drew wr).trans he)
      have R27 := Lib.hid r27
      clear he hkn r27
      go_wp2_with (at_builtin; refine wpList_push rfl (.tmp 16) (.tmp 27) rfl rfl rfl (v := wtN p qs v j) (HOwn.out.ext X3.out) R27.out (by omega) (HExt.out.trans X3.out).size ?hk)
      case hk =>
        intro g' cap' w4 ho4 hg4 he4
        have HO4 := Lib.hid ho4
        have HE4 := Lib.hid (he4 W (Nat.le_refl _) (HExt.out.trans X3.out))
        clear ho4 hg4 he4
        go_wp2_with (fail)
        go_roundw
        case rel => exact ⟨j + 1, g', cap', by omega, by go_num, rfl, by rw [wtL_succ]; exact HO4.out, HE4.out⟩
        case measure => simp [intOf]; omega
    · obtain rfl : j = d := by omega
      go_wp2_with (fail)
      go_ret
      exact ⟨g, rc, rfl, HOwn.out.mono GW.out.size, GW.out.trans HExt.out⟩

set_option maxHeartbeats 1000000 in
theorem c_pair (p : Int) (a : Option Addr) (d cap : Nat) (qs : List Int) (av : Option Addr) (cv : Nat) (v : List Int) (au : Option Addr) (cu : Nat) (u : List Int) (w : World) (hp1 : 3 ≤ p) (hp2 : p ≤ 1000) (hd : d ≤ 6) (hq : RdC w a d qs) (hqb : isB p qs = true) (hv : RdC w av d v) (hgv : Good p d v) (hu : RdC w au d u) (hgu : Good p d u) :
    Calls Try.prog 65 #[.agg #[.int .i64 p, .slice a d cap], .slice av d cv, .slice au d cu] w fun e w' => e = .returned (.int .i64 (pairL p qs v u d)) ∧ Ext w w' := by
  have HQ := Lib.hid hq
  have HQB := Lib.hid hqb
  have HV := Lib.hid hv
  have HGV := Lib.hid hgv
  have HU := Lib.hid hu
  have HGU := Lib.hid hgu
  clear hq hqb hv hgv hu hgu
  obtain ⟨W, hW⟩ : ∃ W, W = w.alloc (.cells #[.int .i64 p, .slice a d cap] 26) := ⟨_, rfl⟩
  have gW : Ext w W := by rw [hW]; exact ext_alloc _ _
  have hs0 : W.cell? ⟨w.heap.size, 0, none⟩ = some (.int .i64 p) := by rw [hW]; simp
  have hs1 : W.cell? ⟨w.heap.size, 1, none⟩ = some (.slice a d cap) := by rw [hW]; simp
  have HS0 := Lib.hid ((ext_drew _).cell hs0)
  have HS1 := Lib.hid ((ext_drew _).cell hs1)
  have GW := Lib.hid (gW.trans (ext_drew _))
  have HW := Lib.hid hW
  clear hs0 hs1 gW hW
  go_enter Try.func65, Try.ntmps65
  go_wp2_with (fail)
  rw [← HW.out]
  refine wp_region_lex [(1, .val (.int .i64 p)), (4, .ownS w.heap.size d (wtL p qs v d)), (6, .val (.int .i64 (pairL p qs v u d)))] (by kernel_rfl) (by kernel_rfl) ?_
  (refine LexW.pure (v := ?_) rfl rfl (fun w1 he => ?_) ?_; rotate_left; ( have e1 := he.cell HS0.out; have e2 := he.cell HS1.out; go_simp; rfl); simp only [Act.put, List.setIfInBounds_toArray, List.set_cons_zero, List.set_cons_succ])
  (refine LexW.call (f := ?_) (args := ?_) rfl rfl (fun w1 => ?_) (fun w1 he hdep => ?_) ?_; rotate_left 2; (go_simp; refine ⟨?_, ?_⟩ <;> rfl); ( exact c_field p _ w1); simp only [Act.put, List.setIfInBounds_toArray, List.set_cons_zero, List.set_cons_succ])
  (refine LexW.pure (v := ?_) rfl rfl (fun w1 he => ?_) ?_; rotate_left; ( have e1 := he.cell HS0.out; have e2 := he.cell HS1.out; go_simp; rfl); simp only [Act.put, List.setIfInBounds_toArray, List.set_cons_zero, List.set_cons_succ])
  (refine LexW.pure (v := ?_) rfl rfl (fun w1 he => ?_) ?_; rotate_left; ( have e1 := he.cell HS0.out; have e2 := he.cell HS1.out; go_simp; rfl); simp only [Act.put, List.setIfInBounds_toArray, List.set_cons_zero, List.set_cons_succ])
  (refine LexW.callR (f := ?_) (args := ?_) rfl rfl (fun w1 => ?_) (fun w1 he hdep => ?_) (fun v hv => ?_); rotate_left 2; (go_simp; refine ⟨?_, ?_⟩ <;> rfl); ( refine (c_weighted p a d cap qs av cv v w1 hp1 hp2 (by omega) (HQ.out.ext (GW.out.trans he)) HQB.out (HV.out.ext (GW.out.trans he)) HGV.out).mono ?_; rintro e w2 ⟨g, rc, rfl, ho, g2⟩; exact ⟨_, rfl, g2, g, rc, rfl, ho.mono (Nat.le_trans GW.out.size he.size)⟩); simp only [Act.put, List.setIfInBounds_toArray, List.set_cons_zero, List.set_cons_succ])
  obtain ⟨_, g11, c11, rfl, _⟩ := hv
  (refine LexW.pure (v := ?_) rfl rfl (fun w1 he => ?_) ?_; rotate_left; ( have e1 := he.cell HS0.out; have e2 := he.cell HS1.out; go_simp; rfl); simp only [Act.put, List.setIfInBounds_toArray, List.set_cons_zero, List.set_cons_succ])
  (refine LexW.call (f := ?_) (args := ?_) rfl rfl (fun w1 => ?_) (fun w1 he hdep => ?_) ?_; rotate_left 2; (go_simp; refine ⟨?_, ?_⟩ <;> rfl); ( obtain ⟨_, _, q11, r11⟩ : (SPred.ownS w.heap.size d (wtL p qs v d)).holds (.slice (some ⟨g11, 0, none⟩) d c11) w1 := hdep (4, 11) (by decide +kernel); cases q11; exact c_dot p _ au d _ cu (wtL p qs v d) u w1 (by omega) hp2 (by omega) r11.rd (HU.out.ext (GW.out.trans he)) (wt_good (by omega)) HGU.out); simp only [Act.put, List.setIfInBounds_toArray, List.set_cons_zero, List.set_cons_succ])
  (refine LexW.pure (v := ?_) rfl rfl (fun w1 he => ?_) ?_; rotate_left; ( have e1 := he.cell HS0.out; have e2 := he.cell HS1.out; go_simp; rfl); simp only [Act.put, List.setIfInBounds_toArray, List.set_cons_zero, List.set_cons_succ])
  refine LexW.nil (fun w3 he hkn => ?_)
  have HE := Lib.hid (GW.out.trans he)
  clear he hkn 
  go_wp2_with (fail)
  go_ret
  exact ⟨rfl, HE.out⟩
set_option maxHeartbeats 400000 in
theorem c_norm (p : Int) (a : Option Addr) (d cap : Nat) (qs : List Int) (av : Option Addr) (cv : Nat) (v : List Int) (w : World) (hp1 : 3 ≤ p) (hp2 : p ≤ 1000) (hd : d ≤ 6) (hq : RdC w a d qs) (hqb : isB p qs = true) (hv : RdC w av d v) (hgv : Good p d v) :
    Calls Try.prog 46 #[.agg #[.int .i64 p, .slice a d cap], .slice av d cv] w fun e w' => e = .returned (.int .i64 (pairL p qs v v d)) ∧ Ext w w' := by
  have HQ := Lib.hid hq
  have HQB := Lib.hid hqb
  have HV := Lib.hid hv
  have HGV := Lib.hid hgv
  clear hq hqb hv hgv
  go_enter Try.func46, Try.ntmps46
  go_wp2_with (go_at_call 65; refine (c_pair p a d cap qs av cv v av cv v _ hp1 hp2 hd (HQ.out.ext (ext_alloc _ _)) HQB.out (HV.out.ext (ext_alloc _ _)) HGV.out (HV.out.ext (ext_alloc _ _)) HGV.out).mono ?_; rintro e w1 ⟨rfl, g1⟩)
  go_ret
  exact ⟨rfl, (ext_alloc _ _).trans g1⟩

set_option maxHeartbeats 2000000 in
theorem s_pair (p : Int) (a : Option Addr) (d cap : Nat) (qs : List Int) (av : Option Addr) (cv : Nat) (v : List Int) (au : Option Addr) (cu : Nat) (u : List Int) (w : World) (hp1 : 3 ≤ p) (hp2 : p ≤ 1000) (hd : d ≤ 6) (hq : RdC w a d qs) (hqb : isB p qs = true) (hv : RdC w av d v) (hgv : Good p d v) (hu : RdC w au d u) (hgu : Good p d u) :
    Calls Try.prog 53 #[.agg #[.int .i64 p, .slice a d cap], .slice av d cv, .slice au d cu] w fun e w' => e = .returned (.int .i64 (pairL p qs v u d)) ∧ Ext w w' := by
  have hpz : ¬ p = 0 := by omega
  have HQ := Lib.hid hq
  have HGQ := Lib.hid (good_isB hq.1 hqb)
  have HV := Lib.hid hv
  have HGV := Lib.hid hgv
  have HU := Lib.hid hu
  have HGU := Lib.hid hgu
  have HEnd := Lib.hid (pairS_eq (p := p) (qs := qs) (v := v) (w := u) d (Nat.le_refl d))
  have HBd := Lib.hid (fun k => pairS_bd (p := p) (qs := qs) (v := v) (w := u) (show 1 ≤ p by omega) k)
  clear hq hqb hv hgv hu hgu
  obtain ⟨W, hW⟩ : ∃ W, W = w.alloc (.cells #[.int .i64 p, .slice a d cap] 26) := ⟨_, rfl⟩
  have gW : Ext w W := by rw [hW]; exact ext_alloc _ _
  have hs0 : W.cell? ⟨w.heap.size, 0, none⟩ = some (.int .i64 p) := by rw [hW]; simp
  have hs1 : W.cell? ⟨w.heap.size, 1, none⟩ = some (.slice a d cap) := by rw [hW]; simp
  have HS0 := Lib.hid (hs0)
  have HS1 := Lib.hid (hs1)
  have GW := Lib.hid (gW)
  have HW := Lib.hid hW
  clear hs0 hs1 gW hW
  go_enter Try.func53, Try.ntmps53
  go_wp2_with (fail)
  rw [← HW.out]
  go_loopw [7, 8] (fun s i wr => ∃ (j : Nat) (z : Int), j ≤ d ∧ i = .int .i64 j ∧ s = .int .i64 z ∧ Hid (z = pairS p qs v u j) ∧ Ext W wr) (fun _ i _ => d - (intOf i).toNat)
  case atStart => exact ⟨0, 0, Nat.zero_le _, rfl, rfl, Lib.hid rfl, Ext.refl _⟩
  case round =>
    obtain ⟨j, z, hj, rfl, rfl, HZ, hext⟩ := hrel
    have HExt := Lib.hid hext
    clear hext
    by_cases hlt : j < d
    · obtain ⟨bv, ov, rfl, hcv⟩ := HV.out.2 j hlt
      obtain ⟨bu, ou, rfl, hcu⟩ := HU.out.2 j hlt
      obtain ⟨bq, oq, rfl, hcq⟩ := HQ.out.2 j hlt
      have GX := Lib.hid (GW.out.trans (HExt.out.trans (ext_drew wr)))
      have HCv := Lib.hid (GX.out.cell hcv)
      have HCu := Lib.hid (GX.out.cell hcu)
      have HCq := Lib.hid (GX.out.cell hcq)
      have HT0 := Lib.hid ((HExt.out.trans (ext_drew _)).cell HS0.out)
      have HT1 := Lib.hid ((HExt.out.trans (ext_drew _)).cell HS1.out)
      have hbv := HGV.out.2 j hlt
      have hbu := HGU.out.2 j hlt
      have hbq := HGQ.out.2 j hlt
      have hz := HBd.out j
      rw [← HZ.out] at hz
      have hm := mul_bd hp2 hbv.1 hbv.2 hbu.1 hbu.2
      obtain ⟨m1, hm1⟩ : ∃ m1, m1 = nth v j * nth u j % p := ⟨_, rfl⟩
      have hm1b : 0 ≤ m1 ∧ m1 < p := by rw [hm1]; exact ⟨Int.emod_nonneg _ (by omega), Int.emod_lt_of_pos _ (by omega)⟩
      have hm2 := mul_bd hp2 hm1b.1 hm1b.2 hbq.1 hbq.2
      obtain ⟨m2, hm2e⟩ : ∃ m2, m2 = (z + m1 * nth qs j) % p := ⟨_, rfl⟩
      have HW1 : Hid (IntKind.i64.wrap (nth v j * nth u j) = nth v j * nth u j) := Lib.hid (IntWalk.i64_in _ (by omega))
      have HW2 : Hid ((nth v j * nth u j).tmod p = m1) := Lib.hid (by rw [hm1]; exact Int.tmod_eq_emod_of_nonneg hm.1)
      have HW3 : Hid (IntKind.i64.wrap (m1 * nth qs j) = m1 * nth qs j) := Lib.hid (IntWalk.i64_in _ (by omega))
      have HW4 : Hid (IntKind.i64.wrap (z + m1 * nth qs j) = z + m1 * nth qs j) := Lib.hid (IntWalk.i64_in _ (by omega))
      have HW5 : Hid ((z + m1 * nth qs j).tmod p = m2) := Lib.hid (by rw [hm2e]; exact Int.tmod_eq_emod_of_nonneg (by omega))
      have HR : Hid (m2 = pairS p qs v u (j + 1)) := Lib.hid (by rw [hm2e, hm1, HZ.out]; rfl)
      clear hm hm1 hm1b hm2 hm2e hz hcv hcu hcq hbv hbu hbq
      go_wp2_with (fail)
      refine wp_region_lex [] (by kernel_rfl) (by kernel_rfl) ?_
      (refine LexW.pure (v := ?_) rfl rfl (fun w1 he => ?_) ?_; rotate_left; ( have e1 := he.cell HT0.out; have e2 := he.cell HT1.out; have e3 := he.cell HCv.out; have e4 := he.cell HCu.out; have e5 := he.cell HCq.out; have e6 := HW1.out; have e7 := HW2.out; have e8 := HW3.out; have e9 := HW4.out; have e10 := HW5.out; go_simp; rfl); simp only [Act.put, List.setIfInBounds_toArray, List.set_cons_zero, List.set_cons_succ])
      (refine LexW.pure (v := ?_) rfl rfl (fun w1 he => ?_) ?_; rotate_left; ( have e1 := he.cell HT0.out; have e2 := he.cell HT1.out; have e3 := he.cell HCv.out; have e4 := he.cell HCu.out; have e5 := he.cell HCq.out; have e6 := HW1.out; have e7 := HW2.out; have e8 := HW3.out; have e9 := HW4.out; have e10 := HW5.out; go_simp; rfl); simp only [Act.put, List.setIfInBounds_toArray, List.set_cons_zero, List.set_cons_succ])
      (refine LexW.pure (v := ?_) rfl rfl (fun w1 he => ?_) ?_; rotate_left; ( have e1 := he.cell HT0.out; have e2 := he.cell HT1.out; have e3 := he.cell HCv.out; have e4 := he.cell HCu.out; have e5 := he.cell HCq.out; have e6 := HW1.out; have e7 := HW2.out; have e8 := HW3.out; have e9 := HW4.out; have e10 := HW5.out; go_simp; rfl); simp only [Act.put, List.setIfInBounds_toArray, List.set_cons_zero, List.set_cons_succ])
      (refine LexW.pure (v := ?_) rfl rfl (fun w1 he => ?_) ?_; rotate_left; ( have e1 := he.cell HT0.out; have e2 := he.cell HT1.out; have e3 := he.cell HCv.out; have e4 := he.cell HCu.out; have e5 := he.cell HCq.out; have e6 := HW1.out; have e7 := HW2.out; have e8 := HW3.out; have e9 := HW4.out; have e10 := HW5.out; go_simp; rfl); simp only [Act.put, List.setIfInBounds_toArray, List.set_cons_zero, List.set_cons_succ])
      (refine LexW.pure (v := ?_) rfl rfl (fun w1 he => ?_) ?_; rotate_left; ( have e1 := he.cell HT0.out; have e2 := he.cell HT1.out; have e3 := he.cell HCv.out; have e4 := he.cell HCu.out; have e5 := he.cell HCq.out; have e6 := HW1.out; have e7 := HW2.out; have e8 := HW3.out; have e9 := HW4.out; have e10 := HW5.out; go_simp; rfl); simp only [Act.put, List.setIfInBounds_toArray, List.set_cons_zero, List.set_cons_succ])
      (refine LexW.pure (v := ?_) rfl rfl (fun w1 he => ?_) ?_; rotate_left; ( have e1 := he.cell HT0.out; have e2 := he.cell HT1.out; have e3 := he.cell HCv.out; have e4 := he.cell HCu.out; have e5 := he.cell HCq.out; have e6 := HW1.out; have e7 := HW2.out; have e8 := HW3.out; have e9 := HW4.out; have e10 := HW5.out; go_simp; rfl); simp only [Act.put, List.setIfInBounds_toArray, List.set_cons_zero, List.set_cons_succ])
      (refine LexW.pure (v := ?_) rfl rfl (fun w1 he => ?_) ?_; rotate_left; ( have e1 := he.cell HT0.out; have e2 := he.cell HT1.out; have e3 := he.cell HCv.out; have e4 := he.cell HCu.out; have e5 := he.cell HCq.out; have e6 := HW1.out; have e7 := HW2.out; have e8 := HW3.out; have e9 := HW4.out; have e10 := HW5.out; go_simp; rfl); simp only [Act.put, List.setIfInBounds_toArray, List.set_cons_zero, List.set_cons_succ])
      (refine LexW.pure (v := ?_) rfl rfl (fun w1 he => ?_) ?_; rotate_left; ( have e1 := he.cell HT0.out; have e2 := he.cell HT1.out; have e3 := he.cell HCv.out; have e4 := he.cell HCu.out; have e5 := he.cell HCq.out; have e6 := HW1.out; have e7 := HW2.out; have e8 := HW3.out; have e9 := HW4.out; have e10 := HW5.out; go_simp; rfl); simp only [Act.put, List.setIfInBounds_toArray, List.set_cons_zero, List.set_cons_succ])
      (refine LexW.pure (v := ?_) rfl rfl (fun w1 he => ?_) ?_; rotate_left; ( have e1 := he.cell HT0.out; have e2 := he.cell HT1.out; have e3 := he.cell HCv.out; have e4 := he.cell HCu.out; have e5 := he.cell HCq.out; have e6 := HW1.out; have e7 := HW2.out; have e8 := HW3.out; have e9 := HW4.out; have e10 := HW5.out; go_simp; rfl); simp only [Act.put, List.setIfInBounds_toArray, List.set_cons_zero, List.set_cons_succ])
      (refine LexW.pure (v := ?_) rfl rfl (fun w1 he => ?_) ?_; rotate_left; ( have e1 := he.cell HT0.out; have e2 := he.cell HT1.out; have e3 := he.cell HCv.out; have e4 := he.cell HCu.out; have e5 := he.cell HCq.out; have e6 := HW1.out; have e7 := HW2.out; have e8 := HW3.out; have e9 := HW4.out; have e10 := HW5.out; go_simp; rfl); simp only [Act.put, List.setIfInBounds_toArray, List.set_cons_zero, List.set_cons_succ])
      (refine LexW.pure (v := ?_) rfl rfl (fun w1 he => ?_) ?_; rotate_left; ( have e1 := he.cell HT0.out; have e2 := he.cell HT1.out; have e3 := he.cell HCv.out; have e4 := he.cell HCu.out; have e5 := he.cell HCq.out; have e6 := HW1.out; have e7 := HW2.out; have e8 := HW3.out; have e9 := HW4.out; have e10 := HW5.out; go_simp; rfl); simp only [Act.put, List.setIfInBounds_toArray, List.set_cons_zero, List.set_cons_succ])
      (refine LexW.pure (v := ?_) rfl rfl (fun w1 he => ?_) ?_; rotate_left; ( have e1 := he.cell HT0.out; have e2 := he.cell HT1.out; have e3 := he.cell HCv.out; have e4 := he.cell HCu.out; have e5 := he.cell HCq.out; have e6 := HW1.out; have e7 := HW2.out; have e8 := HW3.out; have e9 := HW4.out; have e10 := HW5.out; go_simp; rfl); simp only [Act.put, List.setIfInBounds_toArray, List.set_cons_zero, List.set_cons_succ])
      (refine LexW.pure (v := ?_) rfl rfl (fun w1 he => ?_) ?_; rotate_left; ( have e1 := he.cell HT0.out; have e2 := he.cell HT1.out; have e3 := he.cell HCv.out; have e4 := he.cell HCu.out; have e5 := he.cell HCq.out; have e6 := HW1.out; have e7 := HW2.out; have e8 := HW3.out; have e9 := HW4.out; have e10 := HW5.out; go_simp; rfl); simp only [Act.put, List.setIfInBounds_toArray, List.set_cons_zero, List.set_cons_succ])
      (refine LexW.pure (v := ?_) rfl rfl (fun w1 he => ?_) ?_; rotate_left; ( have e1 := he.cell HT0.out; have e2 := he.cell HT1.out; have e3 := he.cell HCv.out; have e4 := he.cell HCu.out; have e5 := he.cell HCq.out; have e6 := HW1.out; have e7 := HW2.out; have e8 := HW3.out; have e9 := HW4.out; have e10 := HW5.out; go_simp; rfl); simp only [Act.put, List.setIfInBounds_toArray, List.set_cons_zero, List.set_cons_succ])
      (refine LexW.pure (v := ?_) rfl rfl (fun w1 he => ?_) ?_; rotate_left; ( have e1 := he.cell HT0.out; have e2 := he.cell HT1.out; have e3 := he.cell HCv.out; have e4 := he.cell HCu.out; have e5 := he.cell HCq.out; have e6 := HW1.out; have e7 := HW2.out; have e8 := HW3.out; have e9 := HW4.out; have e10 := HW5.out; go_simp; rfl); simp only [Act.put, List.setIfInBounds_toArray, List.set_cons_zero, List.set_cons_succ])
      (refine LexW.pure (v := ?_) rfl rfl (fun w1 he => ?_) ?_; rotate_left; ( have e1 := he.cell HT0.out; have e2 := he.cell HT1.out; have e3 := he.cell HCv.out; have e4 := he.cell HCu.out; have e5 := he.cell HCq.out; have e6 := HW1.out; have e7 := HW2.out; have e8 := HW3.out; have e9 := HW4.out; have e10 := HW5.out; go_simp; rfl); simp only [Act.put, List.setIfInBounds_toArray, List.set_cons_zero, List.set_cons_succ])
      (refine LexW.pure (v := ?_) rfl rfl (fun w1 he => ?_) ?_; rotate_left; ( have e1 := he.cell HT0.out; have e2 := he.cell HT1.out; have e3 := he.cell HCv.out; have e4 := he.cell HCu.out; have e5 := he.cell HCq.out; have e6 := HW1.out; have e7 := HW2.out; have e8 := HW3.out; have e9 := HW4.out; have e10 := HW5.out; go_simp; rfl); simp only [Act.put, List.setIfInBounds_toArray, List.set_cons_zero, List.set_cons_succ])
      (refine LexW.pure (v := ?_) rfl rfl (fun w1 he => ?_) ?_; rotate_left; ( have e1 := he.cell HT0.out; have e2 := he.cell HT1.out; have e3 := he.cell HCv.out; have e4 := he.cell HCu.out; have e5 := he.cell HCq.out; have e6 := HW1.out; have e7 := HW2.out; have e8 := HW3.out; have e9 := HW4.out; have e10 := HW5.out; go_simp; rfl); simp only [Act.put, List.setIfInBounds_toArray, List.set_cons_zero, List.set_cons_succ])
      (refine LexW.pure (v := ?_) rfl rfl (fun w1 he => ?_) ?_; rotate_left; ( have e1 := he.cell HT0.out; have e2 := he.cell HT1.out; have e3 := he.cell HCv.out; have e4 := he.cell HCu.out; have e5 := he.cell HCq.out; have e6 := HW1.out; have e7 := HW2.out; have e8 := HW3.out; have e9 := HW4.out; have e10 := HW5.out; go_simp; rfl); simp only [Act.put, List.setIfInBounds_toArray, List.set_cons_zero, List.set_cons_succ])
      (refine LexW.pure (v := ?_) rfl rfl (fun w1 he => ?_) ?_; rotate_left; ( have e1 := he.cell HT0.out; have e2 := he.cell HT1.out; have e3 := he.cell HCv.out; have e4 := he.cell HCu.out; have e5 := he.cell HCq.out; have e6 := HW1.out; have e7 := HW2.out; have e8 := HW3.out; have e9 := HW4.out; have e10 := HW5.out; go_simp; rfl); simp only [Act.put, List.setIfInBounds_toArray, List.set_cons_zero, List.set_cons_succ])
      (refine LexW.pure (v := ?_) rfl rfl (fun w1 he => ?_) ?_; rotate_left; ( have e1 := he.cell HT0.out; have e2 := he.cell HT1.out; have e3 := he.cell HCv.out; have e4 := he.cell HCu.out; have e5 := he.cell HCq.out; have e6 := HW1.out; have e7 := HW2.out; have e8 := HW3.out; have e9 := HW4.out; have e10 := HW5.out; go_simp; rfl); simp only [Act.put, List.setIfInBounds_toArray, List.set_cons_zero, List.set_cons_succ])
      (refine LexW.pure (v := ?_) rfl rfl (fun w1 he => ?_) ?_; rotate_left; ( have e1 := he.cell HT0.out; have e2 := he.cell HT1.out; have e3 := he.cell HCv.out; have e4 := he.cell HCu.out; have e5 := he.cell HCq.out; have e6 := HW1.out; have e7 := HW2.out; have e8 := HW3.out; have e9 := HW4.out; have e10 := HW5.out; go_simp; rfl); simp only [Act.put, List.setIfInBounds_toArray, List.set_cons_zero, List.set_cons_succ])
      (refine LexW.pure (v := ?_) rfl rfl (fun w1 he => ?_) ?_; rotate_left; ( have e1 := he.cell HT0.out; have e2 := he.cell HT1.out; have e3 := he.cell HCv.out; have e4 := he.cell HCu.out; have e5 := he.cell HCq.out; have e6 := HW1.out; have e7 := HW2.out; have e8 := HW3.out; have e9 := HW4.out; have e10 := HW5.out; go_simp; rfl); simp only [Act.put, List.setIfInBounds_toArray, List.set_cons_zero, List.set_cons_succ])
      (refine LexW.pure (v := ?_) rfl rfl (fun w1 he => ?_) ?_; rotate_left; ( have e1 := he.cell HT0.out; have e2 := he.cell HT1.out; have e3 := he.cell HCv.out; have e4 := he.cell HCu.out; have e5 := he.cell HCq.out; have e6 := HW1.out; have e7 := HW2.out; have e8 := HW3.out; have e9 := HW4.out; have e10 := HW5.out; go_simp; rfl); simp only [Act.put, List.setIfInBounds_toArray, List.set_cons_zero, List.set_cons_succ])
      refine LexW.nil (fun w3 he hkn => ?_)
      have X3 := Lib.hid (HExt.out.trans ((ext_drew wr).trans he))
      clear he hkn
      go_wp2_with (fail)
      go_roundw
      case rel => exact ⟨j + 1, m2, by omega, by go_num, rfl, HR, X3.out⟩
      case measure => simp [intOf]; omega
    · obtain rfl : j = d := by omega
      go_wp2_with (fail)
      go_ret
      exact ⟨ret_int (by rw [HZ.out, HEnd.out]; rfl), GW.out.trans HExt.out⟩

end Go.Proofs.Ytcocbainookkcaa

/-
  Point vectors: contracts of the program and the reference.
  No condition.
-/
namespace Go.Proofs.Ytcocbainookkcaa
set_option maxRecDepth 100000
open Go.RowKit

theorem good_app2 {p : Int} {n : Nat} {x : List Int} {u t : Int} (hx : Good p n x) (hu : 0 ≤ u ∧ u < p) (ht : 0 ≤ t ∧ t < p) : Good p (n + 2) (x ++ [u, t]) := by
  have e : x ++ [u, t] = (x ++ [u]) ++ [t] := by simp
  have h1 : ∀ {m : Nat} {y : List Int} {s : Int}, Good p m y → 0 ≤ s ∧ s < p → Good p (m + 1) (y ++ [s]) := fun {m y s} hy hs => ⟨by simp [hy.1], fun i hi => by
    by_cases h : i < m
    · rw [nth_append_left (by rw [hy.1]; exact h)]; exact hy.2 i h
    · have : i = y.length := by rw [hy.1]; omega
      rw [this, nth_append_len]; exact hs⟩
  rw [e]
  exact h1 (h1 hx hu) ht
theorem infL_len (d : Nat) : (infL d).length = d + 2 := by simp [infL]
theorem infL_good {p : Int} (hp : 3 ≤ p) (d : Nat) : Good p (d + 2) (infL d) := good_app2 (good_zero (by omega)) (by omega) (by omega)
def pointL (p : Int) (qs v : List Int) : List Int := plusL p (v ++ [((-1) * invN p 2) % p, (1 * invN p 2) % p]) (infL qs.length) ((pairL p qs v v qs.length * invN p 2) % p) (qs.length + 2)
theorem pointL_good {p : Int} {qs v : List Int} {d : Nat} (hp : 1 ≤ p) (hd : qs.length = d) : Good p (d + 2) (pointL p qs v) := by subst hd; exact plus_good hp
theorem app2_nth {x : List Int} {u t : Int} {n i : Nat} (hx : x.length = n) : nth (x ++ [u, t]) i = if i < n then nth x i else if i = n then u else if i = n + 1 then t else 0 := by
  subst hx
  by_cases h : i < x.length
  · rw [if_pos h, nth_append_left h]
  · rw [if_neg h]
    unfold nth
    rw [List.getD_eq_getElem?_getD, List.getElem?_append_right (by omega)]
    by_cases h1 : i = x.length
    · subst h1; simp
    · rw [if_neg h1]
      by_cases h2 : i = x.length + 1
      · subst h2
        rw [if_pos rfl, show x.length + 1 - x.length = 1 by omega]; rfl
      · rw [if_neg h2, List.getElem?_eq_none (by simp; omega)]; rfl
theorem point_eq {p : Int} {qs v : List Int} {d : Nat} (hd : qs.length = d) (hv : v.length = d) :
    plusL p (v ++ [p - invN p 2, invN p 2]) (scaleL p (infL d) (invN p 2 * pairL p qs v v d) (d + 2)) 1 (d + 2) = pointL p qs v := by
  unfold pointL
  rw [hd]
  generalize hN : pairL p qs v v d = N
  generalize hh : invN p 2 = h
  unfold plusL
  refine List.map_congr_left fun i hi => ?_
  have hi' : i < d + 2 := List.mem_range.1 hi
  unfold plusN
  rw [scaleL_nth hi', scaleN, app2_nth hv, app2_nth hv]
  have hinf : nth (infL d) i = if i < d then 0 else if i = d then 1 else if i = d + 1 then 1 else 0 := by
    unfold infL
    rw [app2_nth (List.length_replicate)]
    by_cases h : i < d
    · rw [if_pos h, if_pos h, nth_replicate h]
    · rw [if_neg h, if_neg h]
  rw [hinf]
  by_cases h1 : i < d
  · simp only [if_pos h1, Int.zero_mul, Int.zero_emod, Int.mul_zero]
  · rw [if_neg h1, if_neg h1, if_neg h1]
    by_cases h2 : i = d
    · simp only [if_pos h2, Int.one_mul, Int.mul_one, Int.add_emod_emod, Int.emod_add_emod]
      rw [show p - h + h * N = (-1 * h + N * h) + p by rw [Int.mul_comm N h]; omega, Int.add_emod_right]
    · rw [if_neg h2, if_neg h2, if_neg h2, if_pos (by omega), if_pos (by omega), if_pos (by omega)]
      simp only [Int.one_mul, Int.mul_one, Int.add_emod_emod, Int.emod_add_emod]
      rw [Int.mul_comm N h]
set_option maxHeartbeats 400000 in
theorem c_half (p n h : Int) (w : World) (hp1 : 3 ≤ p) (hp2 : p ≤ 1000) (hn : -1000 ≤ n ∧ n ≤ 1000) (hh : (n * invN p 2) % p = h) :
    Calls Try.prog 73 #[.int .i64 p, .int .i64 n] w fun e w' => e = .returned (.int .i64 h) ∧ Ext w w' := by
  have hb := invN_bd (a := 2) hp1
  obtain ⟨I, hI⟩ : ∃ I, I = invN p 2 := ⟨_, rfl⟩
  have HI := Lib.hid hI.symm
  rw [← hI] at hb hh
  have hkb := kmul_bd hn hb.1 (show I ≤ 1000 by omega)
  have hw1 : IntKind.i64.wrap (n * I) = n * I := IntWalk.i64_in _ (by omega)
  have HH := Lib.hid hh
  clear hh hI
  go_enter Try.func73, Try.ntmps73
  go_wp2_with (first | (go_at_call 97; refine (c_inv p 2 _ hp1 hp2 (by omega) (by omega)).mono ?_; rintro e w1 ⟨rfl, g1⟩; rw [HI.out]) | (go_at_call 64; refine (c_num _ _ _ (by omega) hp2).mono ?_; rintro e w2 ⟨rfl, g2⟩; rw [HH.out]))
  go_ret
  exact ⟨rfl, g1.trans g2⟩

set_option maxHeartbeats 4000000 in
set_option maxRecDepth 100000 in
theorem c_point (p : Int) (a : Option Addr) (d cap : Nat) (qs : List Int) (av : Option Addr) (cv : Nat) (v : List Int) (w : World) (hd1 : 0 < d) (hd : d ≤ 4) (hpr : primeB p = true) (hq : RdC w a d qs) (hqb : isB p qs = true) (hv : RdC w av d v) (hg : Good p d v) :
    Calls Try.prog 49 #[.agg #[.int .i64 p, .slice a d cap], .slice av d cv] w fun e w' => ∃ g rc, e = .returned (.slice (some ⟨g, 0, none⟩) (d + 2) rc) ∧ OwnC w.heap.size w' (some ⟨g, 0, none⟩) (d + 2) rc (pointL p qs v) ∧ Ext w w' := by
  have hpb := prime_bd hpr
  obtain ⟨bv, ov, rfl, _⟩ := hv.2 0 hd1
  have HPR := Lib.hid hpr
  have HQ := Lib.hid hq
  have HQB := Lib.hid hqb
  have HV := Lib.hid hv
  have HG := Lib.hid hg
  have HIG : Hid (Good p (d + 2) (infL d)) := Lib.hid (infL_good (by omega) d)
  obtain ⟨I, hI⟩ : ∃ I, I = invN p 2 := ⟨_, rfl⟩
  obtain ⟨N, hN⟩ : ∃ N, N = pairL p qs v v d := ⟨_, rfl⟩
  have HN := Lib.hid hN
  have hNb : 0 ≤ N ∧ N < p := by rw [hN]; exact pairL_bd (by omega)
  obtain ⟨H1, hH1⟩ : ∃ h, ((-1) * invN p 2) % p = h := ⟨_, rfl⟩
  obtain ⟨H2, hH2⟩ : ∃ h, (1 * invN p 2) % p = h := ⟨_, rfl⟩
  obtain ⟨K, hK⟩ : ∃ h, (N * invN p 2) % p = h := ⟨_, rfl⟩
  have hb1 : 0 ≤ H1 ∧ H1 < p := by rw [← hH1]; exact ⟨Int.emod_nonneg _ (by omega), Int.emod_lt_of_pos _ (by omega)⟩
  have hb2 : 0 ≤ H2 ∧ H2 < p := by rw [← hH2]; exact ⟨Int.emod_nonneg _ (by omega), Int.emod_lt_of_pos _ (by omega)⟩
  have hbK : 0 ≤ K ∧ K < p := by rw [← hK]; exact ⟨Int.emod_nonneg _ (by omega), Int.emod_lt_of_pos _ (by omega)⟩
  have HP := Lib.hid (show pointL p qs v = plusL p (v ++ [H1, H2]) (infL d) K (d + 2) by unfold pointL; rw [hq.1, ← hN, hH1, hH2, hK])
  have HOG := Lib.hid (good_app2 HG.out hb1 hb2)
  have HH1 := Lib.hid hH1
  have HH2 := Lib.hid hH2
  have HK := Lib.hid hK
  clear hq hqb hv hg hpr hI hN hH1 hH2 hK
  obtain ⟨W, hW⟩ : ∃ W, W = w.alloc (.cells #[.int .i64 p, .slice a d cap] 26) := ⟨_, rfl⟩
  have gW : Ext w W := by rw [hW]; exact ext_alloc _ _
  have hs0 : W.cell? ⟨w.heap.size, 0, none⟩ = some (.int .i64 p) := by rw [hW]; simp
  have hs1 : W.cell? ⟨w.heap.size, 1, none⟩ = some (.slice a d cap) := by rw [hW]; simp
  have HS0 := Lib.hid (hs0)
  have HS1 := Lib.hid (hs1)
  have GW := Lib.hid (gW)
  have HW := Lib.hid hW
  clear hs0 hs1 gW hW
  go_enter Try.func49, Try.ntmps49
  go_wp2_with (fail)
  rw [← HW.out]
  have hs0 := HS0.out
  have hs1 := HS1.out
  go_wp2_with (first
    | (go_at_call 63; refine (c_field _ _ _).mono ?_; rintro e w1 ⟨rfl, g1⟩; have G1 := Lib.hid g1; clear g1)
    | (go_at_call 62; refine (c_clone bv ov d cv v _ hd1 (by omega) (HV.out.ext (GW.out.trans G1.out))).mono ?_; rintro e w2 ⟨g2, r2, rfl, ho2, x2⟩; have HO2 := Lib.hid ho2; have G2 := Lib.hid (G1.out.trans x2); clear ho2 x2)
    | (go_at_call 73; refine (c_half p _ _ _ (by omega) (by omega) (by omega) rfl).mono ?_; rintro e w3 ⟨rfl, g3⟩; (first | rw [HH1.out] | rw [HH2.out]); first | (have X4 := Lib.hid (X3.out.trans g3); clear g3) | (have X3 := Lib.hid g3; clear g3))
    | (at_builtin; refine wpList_appendAll rfl (.tmp 10) (.tmp 15) rfl rfl rfl (HO2.out.ext (X4.out.trans (ext_alloc _ _))) (rdC_two (x := H1) (y := H2) (by simp) (by simp)) (by omega) (by omega) (by omega) ?hB ?hk))
  case hB => have h1 := (G2.out.trans X4.out).size'; have h2 := (HO2.out.base_of _ rfl).1; have h3 := G1.out.size'; have h4 := X4.out.size'; have h5 := (HO2.out.base_of _ rfl).2; simp; omega
  case hk =>
    intro g5 c5 w5 ho5 hg5 he5
    have HO5 := Lib.hid ho5
    have G5 := Lib.hid (he5 W G1.out.size' ((G2.out.trans X4.out).trans (ext_alloc _ _)))
    clear ho5 hg5 he5 hs0 hs1
    go_wp2_with (fail)
    have T0 := Lib.hid ((G5.out.trans (ext_drew _)).cell HS0.out)
    have T1 := Lib.hid ((G5.out.trans (ext_drew _)).cell HS1.out)
    have GX := Lib.hid (GW.out.trans (G5.out.trans (ext_drew w5)))
    have O5 := Lib.hid (HO5.out.ext (ext_drew w5))
    refine wp_region_lex [(3, .ownS w.heap.size (d + 2) (infL d)), (7, .val (.int .i64 N)), (8, .val (.int .i64 K)), (9, .ownS w.heap.size (d + 2) (plusL p (v ++ [H1, H2]) (infL d) K (d + 2)))] (by kernel_rfl) (by kernel_rfl) ?_
    (refine LexW.pure (v := ?_) rfl rfl (fun w1 he => ?_) ?_; rotate_left; ( have e1 := he.cell T0.out; have e2 := he.cell T1.out; go_simp; rfl); simp only [Act.put, List.setIfInBounds_toArray, List.set_cons_zero, List.set_cons_succ])
    (refine LexW.pure (v := ?_) rfl rfl (fun w1 he => ?_) ?_; rotate_left; ( have e1 := he.cell T0.out; have e2 := he.cell T1.out; go_simp; rfl); simp only [Act.put, List.setIfInBounds_toArray, List.set_cons_zero, List.set_cons_succ])
    (refine LexW.pure (v := ?_) rfl rfl (fun w1 he => ?_) ?_; rotate_left; ( have e1 := he.cell T0.out; have e2 := he.cell T1.out; go_simp; rfl); simp only [Act.put, List.setIfInBounds_toArray, List.set_cons_zero, List.set_cons_succ])
    (refine LexW.callR (f := ?_) (args := ?_) rfl rfl (fun w1 => ?_) (fun w1 he hdep => ?_) (fun v hv => ?_); rotate_left 2; (go_simp; refine ⟨?_, ?_⟩ <;> rfl); ( refine (c_infinity p a d cap w1 (by omega)).mono ?_; rintro e w2 ⟨g, rc, rfl, ho, g2⟩; exact ⟨_, rfl, g2, g, rc, rfl, ho.mono (Nat.le_trans GX.out.size he.size)⟩); simp only [Act.put, List.setIfInBounds_toArray, List.set_cons_zero, List.set_cons_succ])
    obtain ⟨_, g20, c20, rfl, _⟩ := hv
    (refine LexW.pure (v := ?_) rfl rfl (fun w1 he => ?_) ?_; rotate_left; ( have e1 := he.cell T0.out; have e2 := he.cell T1.out; go_simp; rfl); simp only [Act.put, List.setIfInBounds_toArray, List.set_cons_zero, List.set_cons_succ])
    (refine LexW.pure (v := ?_) rfl rfl (fun w1 he => ?_) ?_; rotate_left; ( have e1 := he.cell T0.out; have e2 := he.cell T1.out; go_simp; rfl); simp only [Act.put, List.setIfInBounds_toArray, List.set_cons_zero, List.set_cons_succ])
    (refine LexW.pure (v := ?_) rfl rfl (fun w1 he => ?_) ?_; rotate_left; ( have e1 := he.cell T0.out; have e2 := he.cell T1.out; go_simp; rfl); simp only [Act.put, List.setIfInBounds_toArray, List.set_cons_zero, List.set_cons_succ])
    (refine LexW.call (f := ?_) (args := ?_) rfl rfl (fun w1 => ?_) (fun w1 he hdep => ?_) ?_; rotate_left 2; (go_simp; refine ⟨?_, ?_⟩ <;> rfl); ( rw [HN.out]; exact c_norm p a d cap qs _ cv v w1 (by omega) (by omega) (by omega) (HQ.out.ext (GX.out.trans he)) HQB.out (HV.out.ext (GX.out.trans he)) HG.out); simp only [Act.put, List.setIfInBounds_toArray, List.set_cons_zero, List.set_cons_succ])
    (refine LexW.call (f := ?_) (args := ?_) rfl rfl (fun w1 => ?_) (fun w1 he hdep => ?_) ?_; rotate_left 2; (go_simp; refine ⟨?_, ?_⟩ <;> rfl); ( exact c_half p N K w1 (by omega) (by omega) (by omega) HK.out); simp only [Act.put, List.setIfInBounds_toArray, List.set_cons_zero, List.set_cons_succ])
    (refine LexW.callR (f := ?_) (args := ?_) rfl rfl (fun w1 => ?_) (fun w1 he hdep => ?_) (fun v hv => ?_); rotate_left 2; (go_simp; refine ⟨?_, ?_⟩ <;> rfl); ( obtain ⟨_, _, q20, r20⟩ : (SPred.ownS w.heap.size (d + 2) (infL d)).holds (.slice (some ⟨g20, 0, none⟩) (d + 2) c20) w1 := hdep (3, 20) (by decide +kernel); cases q20; refine (c_plus p _ _ (d + 2) c5 c20 (v ++ [H1, H2]) (infL d) K w1 (by omega) (by omega) (by omega) (by omega) (O5.out.rd.ext he) r20.rd HOG.out HIG.out).mono ?_; rintro e w2 ⟨g, rc, rfl, ho, g2⟩; exact ⟨_, rfl, g2, g, rc, rfl, ho.mono (Nat.le_trans GX.out.size he.size)⟩); simp only [Act.put, List.setIfInBounds_toArray, List.set_cons_zero, List.set_cons_succ])
    obtain ⟨_, g26, c26, rfl, _⟩ := hv
    (refine LexW.pure (v := ?_) rfl rfl (fun w1 he => ?_) ?_; rotate_left; ( have e1 := he.cell T0.out; have e2 := he.cell T1.out; go_simp; rfl); simp only [Act.put, List.setIfInBounds_toArray, List.set_cons_zero, List.set_cons_succ])
    refine LexW.nil (fun w3 he hkn => ?_)
    obtain ⟨_, _, q26, r26⟩ : (SPred.ownS w.heap.size (d + 2) (plusL p (v ++ [H1, H2]) (infL d) K (d + 2))).holds (.slice (some ⟨g26, 0, none⟩) (d + 2) c26) w3 := hkn (9, _) (by simp)
    cases q26
    have R26 := Lib.hid r26
    have HE := Lib.hid (GX.out.trans he)
    clear he hkn r26
    go_wp2_with (fail)
    go_ret
    exact ⟨_, _, rfl, by rw [HP.out]; exact R26.out, HE.out⟩

set_option maxHeartbeats 4000000 in
set_option maxRecDepth 100000 in
theorem s_point (p : Int) (a : Option Addr) (d cap : Nat) (qs : List Int) (av : Option Addr) (cv : Nat) (v : List Int) (w : World) (hd1 : 0 < d) (hd : d ≤ 4) (hpr : primeB p = true) (hq : RdC w a d qs) (hqb : isB p qs = true) (hv : RdC w av d v) (hg : Good p d v) :
    Calls Try.prog 54 #[.agg #[.int .i64 p, .slice a d cap], .slice av d cv] w fun e w' => ∃ g rc, e = .returned (.slice (some ⟨g, 0, none⟩) (d + 2) rc) ∧ OwnC w.heap.size w' (some ⟨g, 0, none⟩) (d + 2) rc (pointL p qs v) ∧ Ext w w' := by
  have hpb := prime_bd hpr
  obtain ⟨bv, ov, rfl, _⟩ := hv.2 0 hd1
  have HPR := Lib.hid hpr
  have HQ := Lib.hid hq
  have HQB := Lib.hid hqb
  have HV := Lib.hid hv
  have HG := Lib.hid hg
  have HIG : Hid (Good p (d + 2) (infL d)) := Lib.hid (infL_good (by omega) d)
  obtain ⟨I, hI⟩ : ∃ I, I = invN p 2 := ⟨_, rfl⟩
  obtain ⟨N, hN⟩ : ∃ N, N = pairL p qs v v d := ⟨_, rfl⟩
  have HN := Lib.hid hN
  have hNb : 0 ≤ N ∧ N < p := by rw [hN]; exact pairL_bd (by omega)
  have hib : 0 ≤ I ∧ I < p := by rw [hI]; exact invN_bd (by omega)
  obtain ⟨M, hM⟩ : ∃ M, M = I * N := ⟨_, rfl⟩
  have hMb : 0 ≤ M ∧ M ≤ 1000 := by
    rw [hM]
    refine ⟨Int.mul_nonneg hib.1 hNb.1, ?_⟩
    have h1 : I * N ≤ 13 * N := Int.mul_le_mul_of_nonneg_right (by omega) hNb.1
    omega
  have hwM : IntKind.i64.wrap (I * N) = M := by rw [hM]; exact IntWalk.i64_in _ (by omega)
  have hwI0 : IntKind.i64.wrap (p - I) = p - I := IntWalk.i64_in _ (by omega)
  have HP := Lib.hid (show plusL p (v ++ [p - I, I]) (scaleL p (infL d) M (d + 2)) 1 (d + 2) = pointL p qs v by rw [hM, hI, hN]; exact point_eq hq.1 hv.1)
  obtain ⟨J, hJ⟩ : ∃ J, J = p - I := ⟨_, rfl⟩
  rw [← hJ] at HP
  have hwI : IntKind.i64.wrap (p - I) = J := hwI0.trans hJ.symm
  have hJb : 0 ≤ J ∧ J ≤ 1000 := by omega
  have HOB : Hid (∀ i, i < d + 2 → 0 ≤ nth (v ++ [J, I]) i ∧ nth (v ++ [J, I]) i ≤ 1000) := Lib.hid (fun i hi => by
    rw [app2_nth hv.1]
    by_cases h1 : i < d
    · rw [if_pos h1]; have := hg.2 i h1; omega
    · rw [if_neg h1]
      by_cases h2 : i = d
      · rw [if_pos h2]; exact hJb
      · rw [if_neg h2, if_pos (by omega)]; omega)
  have HI := Lib.hid hI.symm
  clear hq hqb hv hg hpr hI hN hM hJ hwI0
  obtain ⟨W, hW⟩ : ∃ W, W = w.alloc (.cells #[.int .i64 p, .slice a d cap] 26) := ⟨_, rfl⟩
  have gW : Ext w W := by rw [hW]; exact ext_alloc _ _
  have hs0 : W.cell? ⟨w.heap.size, 0, none⟩ = some (.int .i64 p) := by rw [hW]; simp
  have hs1 : W.cell? ⟨w.heap.size, 1, none⟩ = some (.slice a d cap) := by rw [hW]; simp
  have HS0 := Lib.hid (hs0)
  have HS1 := Lib.hid (hs1)
  have GW := Lib.hid (gW)
  have HW := Lib.hid hW
  clear hs0 hs1 gW hW
  go_enter Try.func54, Try.ntmps54
  go_wp2_with (fail)
  rw [← HW.out]
  have hs0 := HS0.out
  have hs1 := HS1.out
  go_wp2_with (go_at_call 56; refine (s_inv p 2 _ HPR.out (by omega) (by omega)).mono ?_; rintro e w1 ⟨rfl, g1⟩; rw [HI.out]; have G1 := Lib.hid g1; clear g1)
  have T0 := Lib.hid ((G1.out.trans (ext_drew _)).cell HS0.out)
  have T1 := Lib.hid ((G1.out.trans (ext_drew _)).cell HS1.out)
  have GX := Lib.hid (GW.out.trans (G1.out.trans (ext_drew w1)))
  clear hs0 hs1
  rename World => w0
  refine wp_region_lex_tail 8 [(1, .ownS w0.drew.heap.size d v), (7, .two J I)] (by kernel_rfl) (by kernel_rfl) ?_
  simp only [List.take, List.drop]
  (refine LexW.pure (v := ?_) rfl rfl (fun w1 he => ?_) ?_; rotate_left; ( go_simp; rfl); simp only [Act.put, List.setIfInBounds_toArray, List.set_cons_zero, List.set_cons_succ])
  (refine LexW.callR (f := ?_) (args := ?_) rfl rfl (fun w1 => ?_) (fun w1 he hdep => ?_) (fun v hv => ?_); rotate_left 2; (go_simp; refine ⟨?_, ?_⟩ <;> rfl); ( refine (s_own bv ov d cv v w1 hd1 (by omega) (HV.out.ext (GX.out.trans he))).mono ?_; rintro e w2 ⟨g2, rc2, rfl, ho, x2⟩; exact ⟨_, rfl, x2, g2, rc2, rfl, ho.mono he.size⟩); simp only [Act.put, List.setIfInBounds_toArray, List.set_cons_zero, List.set_cons_succ])
  obtain ⟨_, g11, c11, rfl, _⟩ := hv
  (refine LexW.pure (v := ?_) rfl rfl (fun w1 he => ?_) ?_; rotate_left; ( have e1 := he.cell T0.out; have e2 := he.cell T1.out; go_simp; rfl); simp only [Act.put, List.setIfInBounds_toArray, List.set_cons_zero, List.set_cons_succ])
  (refine LexW.pure (v := ?_) rfl rfl (fun w1 he => ?_) ?_; rotate_left; ( have e1 := he.cell T0.out; have e2 := he.cell T1.out; go_simp; rfl); simp only [Act.put, List.setIfInBounds_toArray, List.set_cons_zero, List.set_cons_succ])
  (refine LexW.pure (v := ?_) rfl rfl (fun w1 he => ?_) ?_; rotate_left; ( go_simp; rfl); simp only [Act.put, List.setIfInBounds_toArray, List.set_cons_zero, List.set_cons_succ])
  (refine LexW.pure (v := ?_) rfl rfl (fun w1 he => ?_) ?_; rotate_left; ( go_simp; rfl); simp only [Act.put, List.setIfInBounds_toArray, List.set_cons_zero, List.set_cons_succ])
  (refine LexW.pure (v := ?_) rfl rfl (fun w1 he => ?_) ?_; rotate_left; ( go_simp; rfl); simp only [Act.put, List.setIfInBounds_toArray, List.set_cons_zero, List.set_cons_succ])
  (refine LexW.rel rfl rfl (fun w1 he hdep => ?_) (fun v hv => ?_); ( exact ⟨.slice (some ⟨w1.heap.size, 0, none⟩) 2 2, w1.alloc (.cells #[.int .i64 J, .int .i64 I] 2), (by go_simp), ext_alloc _ _, _, rfl, (by simp), (by simp)⟩); simp only [Act.put, List.setIfInBounds_toArray, List.set_cons_zero, List.set_cons_succ])
  obtain ⟨_, g17, rfl, _⟩ := hv
  refine LexW.nil (fun w3 he hkn => ?_)
  obtain ⟨_, _, q11, r11⟩ : (SPred.ownS w0.drew.heap.size d v).holds (.slice (some ⟨g11, 0, none⟩) d c11) w3 := hkn (1, _) (by simp)
  cases q11
  obtain ⟨_, q17, r17, r17'⟩ : (SPred.two J I).holds (.slice (some ⟨g17, 0, none⟩) 2 2) w3 := hkn (7, _) (by simp)
  cases q17
  have R11 := Lib.hid r11
  have R17 := Lib.hid (rdC_two r17 r17')
  have X3 := Lib.hid he
  clear he hkn r11 r17 r17'
  go_wp2_with (at_builtin; refine wpList_appendAll rfl (.tmp 11) (.tmp 17) rfl rfl rfl R11.out R17.out (by omega) (by omega) (by omega) X3.out.size ?hk)
  case hk =>
    intro g5 c5 w5 ho5 hg5 he5
    have HO5 := Lib.hid ho5
    have X5 := Lib.hid (he5 w0.drew (Nat.le_refl _) X3.out)
    clear ho5 hg5 he5
    go_wp2_with (fail)
    have GY := Lib.hid (GX.out.trans (X5.out.trans (ext_drew w5)))
    have U0 := Lib.hid ((X5.out.trans (ext_drew w5)).cell T0.out)
    have U1 := Lib.hid ((X5.out.trans (ext_drew w5)).cell T1.out)
    have O5 := Lib.hid (HO5.out.ext (ext_drew w5))
    refine wp_region_lex [(9, .val (.int .i64 N)), (12, .ownS w.heap.size (d + 2) (infL d)), (13, .ownS w.heap.size (d + 2) (scaleL p (infL d) M (d + 2))), (14, .ownS w.heap.size (d + 2) (plusL p (v ++ [J, I]) (scaleL p (infL d) M (d + 2)) 1 (d + 2)))] (by kernel_rfl) (by kernel_rfl) ?_
    (refine LexW.pure (v := ?_) rfl rfl (fun w1 he => ?_) ?_; rotate_left; ( have e1 := he.cell U0.out; have e2 := he.cell U1.out; go_simp; rfl); simp only [Act.put, List.setIfInBounds_toArray, List.set_cons_zero, List.set_cons_succ])
    (refine LexW.pure (v := ?_) rfl rfl (fun w1 he => ?_) ?_; rotate_left; ( have e1 := he.cell U0.out; have e2 := he.cell U1.out; go_simp; rfl); simp only [Act.put, List.setIfInBounds_toArray, List.set_cons_zero, List.set_cons_succ])
    (refine LexW.pure (v := ?_) rfl rfl (fun w1 he => ?_) ?_; rotate_left; ( have e1 := he.cell U0.out; have e2 := he.cell U1.out; go_simp; rfl); simp only [Act.put, List.setIfInBounds_toArray, List.set_cons_zero, List.set_cons_succ])
    (refine LexW.pure (v := ?_) rfl rfl (fun w1 he => ?_) ?_; rotate_left; ( have e1 := he.cell U0.out; have e2 := he.cell U1.out; go_simp; rfl); simp only [Act.put, List.setIfInBounds_toArray, List.set_cons_zero, List.set_cons_succ])
    (refine LexW.pure (v := ?_) rfl rfl (fun w1 he => ?_) ?_; rotate_left; ( have e1 := he.cell U0.out; have e2 := he.cell U1.out; go_simp; rfl); simp only [Act.put, List.setIfInBounds_toArray, List.set_cons_zero, List.set_cons_succ])
    (refine LexW.pure (v := ?_) rfl rfl (fun w1 he => ?_) ?_; rotate_left; ( have e1 := he.cell U0.out; have e2 := he.cell U1.out; go_simp; rfl); simp only [Act.put, List.setIfInBounds_toArray, List.set_cons_zero, List.set_cons_succ])
    (refine LexW.pure (v := ?_) rfl rfl (fun w1 he => ?_) ?_; rotate_left; ( have e1 := he.cell U0.out; have e2 := he.cell U1.out; go_simp; rfl); simp only [Act.put, List.setIfInBounds_toArray, List.set_cons_zero, List.set_cons_succ])
    (refine LexW.pure (v := ?_) rfl rfl (fun w1 he => ?_) ?_; rotate_left; ( have e1 := he.cell U0.out; have e2 := he.cell U1.out; go_simp; rfl); simp only [Act.put, List.setIfInBounds_toArray, List.set_cons_zero, List.set_cons_succ])
    (refine LexW.pure (v := ?_) rfl rfl (fun w1 he => ?_) ?_; rotate_left; ( have e1 := he.cell U0.out; have e2 := he.cell U1.out; go_simp; rfl); simp only [Act.put, List.setIfInBounds_toArray, List.set_cons_zero, List.set_cons_succ])
    (refine LexW.call (f := ?_) (args := ?_) rfl rfl (fun w1 => ?_) (fun w1 he hdep => ?_) ?_; rotate_left 2; (go_simp; refine ⟨?_, ?_⟩ <;> rfl); ( rw [HN.out]; exact s_pair p a d cap qs _ cv v _ cv v w1 (by omega) (by omega) (by omega) (HQ.out.ext (GY.out.trans he)) HQB.out (HV.out.ext (GY.out.trans he)) HG.out (HV.out.ext (GY.out.trans he)) HG.out); simp only [Act.put, List.setIfInBounds_toArray, List.set_cons_zero, List.set_cons_succ])
    (refine LexW.pure (v := ?_) rfl rfl (fun w1 he => ?_) ?_; rotate_left; ( have e1 := he.cell U0.out; have e2 := he.cell U1.out; go_simp; rfl); simp only [Act.put, List.setIfInBounds_toArray, List.set_cons_zero, List.set_cons_succ])
    (refine LexW.pure (v := ?_) rfl rfl (fun w1 he => ?_) ?_; rotate_left; ( have e1 := he.cell U0.out; have e2 := he.cell U1.out; go_simp; rfl); simp only [Act.put, List.setIfInBounds_toArray, List.set_cons_zero, List.set_cons_succ])
    (refine LexW.callR (f := ?_) (args := ?_) rfl rfl (fun w1 => ?_) (fun w1 he hdep => ?_) (fun v hv => ?_); rotate_left 2; (go_simp; refine ⟨?_, ?_⟩ <;> rfl); ( refine (s_infinity p a d cap w1 (by omega)).mono ?_; rintro e w2 ⟨g, rc, rfl, ho, g2⟩; exact ⟨_, rfl, g2, g, rc, rfl, ho.mono (Nat.le_trans GY.out.size he.size)⟩); simp only [Act.put, List.setIfInBounds_toArray, List.set_cons_zero, List.set_cons_succ])
    obtain ⟨_, g31, c31, rfl, _⟩ := hv
    (refine LexW.callR (f := ?_) (args := ?_) rfl rfl (fun w1 => ?_) (fun w1 he hdep => ?_) (fun v hv => ?_); rotate_left 2; (go_simp; refine ⟨?_, ?_⟩ <;> rfl); ( obtain ⟨_, _, q31, r31⟩ : (SPred.ownS w.heap.size (d + 2) (infL d)).holds (.slice (some ⟨g31, 0, none⟩) (d + 2) c31) w1 := hdep (12, 31) (by decide +kernel); cases q31; refine (s_scale11 p _ (d + 2) c31 (infL d) M w1 (by omega) (by omega) (by omega) (by omega) r31.rd HIG.out).mono ?_; rintro e w2 ⟨g, rc, rfl, ho, g2⟩; exact ⟨_, rfl, g2, g, rc, rfl, ho.mono (Nat.le_trans GY.out.size he.size)⟩); simp only [Act.put, List.setIfInBounds_toArray, List.set_cons_zero, List.set_cons_succ])
    obtain ⟨_, g32, c32, rfl, _⟩ := hv
    (refine LexW.callR (f := ?_) (args := ?_) rfl rfl (fun w1 => ?_) (fun w1 he hdep => ?_) (fun v hv => ?_); rotate_left 2; (go_simp; refine ⟨?_, ?_⟩ <;> rfl); ( obtain ⟨_, _, q32, r32⟩ : (SPred.ownS w.heap.size (d + 2) (scaleL p (infL d) M (d + 2))).holds (.slice (some ⟨g32, 0, none⟩) (d + 2) c32) w1 := hdep (13, 32) (by decide +kernel); cases q32; refine (s_add11 p _ _ (d + 2) c5 c32 (v ++ [J, I]) (scaleL p (infL d) M (d + 2)) w1 (by omega) (by omega) (by omega) (O5.out.rd.ext he) r32.rd HOB.out (scale_good (by omega))).mono ?_; rintro e w2 ⟨g, rc, rfl, ho, g2⟩; exact ⟨_, rfl, g2, g, rc, rfl, ho.mono (Nat.le_trans GY.out.size he.size)⟩); simp only [Act.put, List.setIfInBounds_toArray, List.set_cons_zero, List.set_cons_succ])
    obtain ⟨_, g33, c33, rfl, _⟩ := hv
    (refine LexW.pure (v := ?_) rfl rfl (fun w1 he => ?_) ?_; rotate_left; ( have e1 := he.cell U0.out; have e2 := he.cell U1.out; go_simp; rfl); simp only [Act.put, List.setIfInBounds_toArray, List.set_cons_zero, List.set_cons_succ])
    refine LexW.nil (fun w3 he hkn => ?_)
    obtain ⟨_, _, q33, r33⟩ : (SPred.ownS w.heap.size (d + 2) (plusL p (v ++ [J, I]) (scaleL p (infL d) M (d + 2)) 1 (d + 2))).holds (.slice (some ⟨g33, 0, none⟩) (d + 2) c33) w3 := hkn (14, _) (by simp)
    cases q33
    have R33 := Lib.hid r33
    have HE := Lib.hid (GY.out.trans he)
    clear he hkn r33
    go_wp2_with (fail)
    go_ret
    exact ⟨_, _, rfl, by rw [← HP.out]; exact R33.out, HE.out⟩

end Go.Proofs.Ytcocbainookkcaa

/-
  The codes of spaces that can be extended.
  No condition.
-/
namespace Go.Proofs.Ytcocbainookkcaa
set_option maxRecDepth 100000
open Go.RowKit

def code18 (p : Int) (qs : List Int) (vs : List (List Int)) : Int := if spaceB p qs = true then (if qs.length ≤ 4 then (if vs.all (vecB p qs.length) = true then 0 else 2) else 3) else 1
theorem code18_zero {p : Int} {qs : List Int} {vs : List (List Int)} (h : code18 p qs vs = 0) : spaceB p qs = true ∧ qs.length ≤ 4 ∧ vs.all (vecB p qs.length) = true := by
  unfold code18 at h
  split at h
  · rename_i h1
    split at h
    · rename_i h2
      split at h
      · rename_i h3; exact ⟨h1, h2, h3⟩
      · cases h
    · cases h
  · cases h
theorem extL_space {p : Int} {qs : List Int} (hs : spaceB p qs = true) (h4 : qs.length ≤ 4) : spaceB p (extL p qs) = true := by
  obtain ⟨hpr, hd1, hd6, hqb⟩ := space_of hs
  unfold spaceB
  rw [hpr, extL_isB (prime_bd hpr).1 hqb, extL_len]
  simp [inB]; omega
def code18L (p : Int) (qs : List Int) (vs : List (List Int)) : Int := if code18 p qs vs = 0 then (if vs.length ≤ 16 then 0 else 2) else code18 p qs vs
theorem code18L_zero {p : Int} {qs : List Int} {vs : List (List Int)} (h : code18L p qs vs = 0) : code18 p qs vs = 0 ∧ vs.length ≤ 16 := by
  unfold code18L at h
  split at h
  · rename_i h1
    split at h
    · rename_i h2; exact ⟨h1, h2⟩
    · cases h
  · rename_i h1; exact absurd h h1

set_option maxHeartbeats 2000000 in
theorem c_checkPlaces (p : Int) (a : Option Addr) (d cap : Nat) (qs : List Int) (al : Option Addr) (n cl : Nat) (vs : List (List Int)) (w : World) (hd : d ≤ 4194304) (hl : n ≤ 4194304) (hr : ∀ i, i < n → (nthR vs i).length ≤ 4194304)
    (hq : RdC w a d qs) (hx : RdR w al n vs) :
    Calls Try.prog 44 #[.agg #[.int .i64 p, .slice a d cap], .slice al n cl, .slice none 0 0] w fun e w' => e = .returned (.int .i64 (code18 p qs vs)) ∧ Ext w w' := by
  have Hr := Lib.hid hr
  have HQ := Lib.hid hq
  have HX := Lib.hid hx
  have hdl := hq.1
  clear hr hq hx
  cases hs : spaceB p qs
  · have HS := Lib.hid hs
    have HC := Lib.hid (show code18 p qs vs = 1 by simp [code18, hs])
    clear hs
    go_enter Try.func44, Try.ntmps44
    go_wp2_with (go_at_call 93; refine (c_isSpace _ _ _ _ _ _ hd (HQ.out.ext (ext_alloc _ _))).mono ?_; rintro e w1 ⟨rfl, g1⟩; rw [HS.out]; have hcc := Ext.cells g1)
    go_ret
    exact ⟨ret_int HC.out.symm, (ext_alloc _ _).trans g1⟩
  · obtain ⟨hpr, hd1, hd6, hqb⟩ := space_of hs
    have hpb := prime_bd hpr
    rw [hdl] at hd1
    have HS := Lib.hid hs
    have hcb : ((0 : Int) != 0) = false := by simp
    have hcb2 : ((2 : Int) != 0) = true := by simp
    by_cases h4 : d ≤ 4
    · have h4q : qs.length ≤ 4 := by omega
      have HV2 := Lib.hid (show codeV p (extL p qs) [] = 0 by unfold codeV; rw [extL_space hs h4q]; simp)
      cases ha : vs.all (vecB p qs.length)
      · have HV := Lib.hid (show codeV p qs vs = 2 by unfold codeV; rw [hs, ha]; rfl)
        have HC := Lib.hid (show code18 p qs vs = 2 by unfold code18; rw [if_pos hs, if_pos h4q, ha]; rfl)
        clear hs ha hpr hqb hd6 hdl h4q
        go_enter Try.func44, Try.ntmps44
        go_wp2_with (first | (go_at_call 93; refine (c_isSpace _ _ _ _ _ _ hd (HQ.out.ext (ext_alloc _ _))).mono ?_; rintro e w1 ⟨rfl, g1⟩; rw [HS.out]; have hcc := Ext.cells g1; try simp only [World.size_alloc] at hcc) | (go_at_call 50; refine (c_dim _ _ _ _ _).mono ?_; rintro e w2 ⟨rfl, g2⟩; have hcc2 := Ext.cells (g1.trans g2); try simp only [World.size_alloc] at hcc2) | (go_at_call 77; refine (c_checkVectors p a d cap qs al n cl vs _ hd hl Hr.out (HQ.out.ext ((ext_alloc _ _).trans (g1.trans g2))) (HX.out.ext ((ext_alloc _ _).trans (g1.trans g2)))).mono ?_; rintro e w3 ⟨rfl, g3⟩; rw [HV.out]; have hcc3 := Ext.cells ((g1.trans g2).trans g3); try simp only [World.size_alloc] at hcc3))
        go_ret
        exact ⟨ret_int HC.out.symm, (ext_alloc _ _).trans ((g1.trans g2).trans g3)⟩
      · have HV := Lib.hid (show codeV p qs vs = 0 by unfold codeV; rw [hs, ha]; rfl)
        have HC := Lib.hid (show code18 p qs vs = 0 by unfold code18; rw [if_pos hs, if_pos h4q, if_pos ha])
        clear hs ha hpr hqb hd6 hdl h4q
        go_enter Try.func44, Try.ntmps44
        go_wp2_with (first | (go_at_call 93; refine (c_isSpace _ _ _ _ _ _ hd (HQ.out.ext (ext_alloc _ _))).mono ?_; rintro e w1 ⟨rfl, g1⟩; rw [HS.out]; have hcc := Ext.cells g1; try simp only [World.size_alloc] at hcc) | (go_at_call 50; refine (c_dim _ _ _ _ _).mono ?_; rintro e w2 ⟨rfl, g2⟩; have hcc2 := Ext.cells (g1.trans g2); try simp only [World.size_alloc] at hcc2) | (go_at_call 45; refine (c_extended p a d cap qs _ (by omega) (by omega) (by omega) (by omega) (HQ.out.ext ((ext_alloc _ _).trans ((g1.trans g2).trans g3)))).mono ?_; rintro e w4 ⟨ge, re, rfl, he4, g4⟩; have HE4 := Lib.hid he4; clear he4) | (go_at_call 77; refine (c_checkVectors p (some ⟨ge, 0, none⟩) (d + 2) re (extL p qs) none 0 0 [] _ (by omega) (by omega) (fun _ hi => absurd hi (Nat.not_lt_zero _)) HE4.out.rd ⟨rfl, fun _ hi => absurd hi (Nat.not_lt_zero _)⟩).mono ?_; rintro e w5 ⟨rfl, g5⟩; rw [HV2.out]) | (go_at_call 77; refine (c_checkVectors p a d cap qs al n cl vs _ hd hl Hr.out (HQ.out.ext ((ext_alloc _ _).trans (g1.trans g2))) (HX.out.ext ((ext_alloc _ _).trans (g1.trans g2)))).mono ?_; rintro e w3 ⟨rfl, g3⟩; rw [HV.out]; have hcc3 := Ext.cells ((g1.trans g2).trans g3); try simp only [World.size_alloc] at hcc3))
        go_ret
        exact ⟨ret_int HC.out.symm, ((ext_alloc _ _).trans ((g1.trans g2).trans g3)).trans (g4.trans g5)⟩
    · have HC := Lib.hid (show code18 p qs vs = 3 by unfold code18; rw [if_pos hs, if_neg (by omega)])
      clear hs hpr hqb hd6 hdl
      go_enter Try.func44, Try.ntmps44
      go_wp2_with (first | (go_at_call 93; refine (c_isSpace _ _ _ _ _ _ hd (HQ.out.ext (ext_alloc _ _))).mono ?_; rintro e w1 ⟨rfl, g1⟩; rw [HS.out]; have hcc := Ext.cells g1; try simp only [World.size_alloc] at hcc) | (go_at_call 50; refine (c_dim _ _ _ _ _).mono ?_; rintro e w2 ⟨rfl, g2⟩; have hcc2 := Ext.cells (g1.trans g2); try simp only [World.size_alloc] at hcc2))
      go_ret
      exact ⟨ret_int HC.out.symm, (ext_alloc _ _).trans (g1.trans g2)⟩
set_option maxHeartbeats 2000000 in
theorem s_code18 (p : Int) (a : Option Addr) (d cap : Nat) (qs : List Int) (al : Option Addr) (n cl : Nat) (vs : List (List Int)) (w : World) (hd : d ≤ 4194304) (hl : n ≤ 4194304) (hr : ∀ i, i < n → (nthR vs i).length ≤ 4194304)
    (hq : RdC w a d qs) (hx : RdR w al n vs) :
    Calls Try.prog 74 #[.agg #[.int .i64 p, .slice a d cap], .slice al n cl] w fun e w' => e = .returned (.int .i64 (code18 p qs vs)) ∧ Ext w w' := by
  have Hr := Lib.hid hr
  have HQ := Lib.hid hq
  have HL := Lib.hid hx.1
  have HR := Lib.hid hx.2
  have hdl := hq.1
  clear hr hq hx
  cases hs : spaceB p qs
  · have HS := Lib.hid hs
    have HC := Lib.hid (show code18 p qs vs = 1 by simp [code18, hs])
    clear hs
    go_enter Try.func74, Try.ntmps74
    go_wp2_with (go_at_call 113; refine (s_is _ _ _ _ _ _ hd (HQ.out.ext (ext_alloc _ _))).mono ?_; rintro e w1 ⟨rfl, g1⟩; rw [HS.out]; have hcc := Ext.cells g1)
    go_ret
    exact ⟨ret_int HC.out.symm, (ext_alloc _ _).trans g1⟩
  · obtain ⟨hpr, hd1, hd6, hqb⟩ := space_of hs
    have hpb := prime_bd hpr
    have HS := Lib.hid hs
    by_cases h4 : d ≤ 4
    · have HC := Lib.hid (show code18 p qs vs = if vs.all (vecB p d) = true then 0 else 2 by unfold code18; rw [if_pos hs, if_pos (by omega), hdl])
      clear hs hpr hqb hd1 hd6 hdl
      go_enter Try.func74, Try.ntmps74
      go_wp2_with (go_at_call 113; refine (s_is _ _ _ _ _ _ hd (HQ.out.ext (ext_alloc _ _))).mono ?_; rintro e w1 ⟨rfl, g1⟩; rw [HS.out]; have hq0 : w1.cell? ⟨w.heap.size, 0, none⟩ = some (.int .i64 p) := g1.cell (by simp); have hq1 : w1.cell? ⟨w.heap.size, 1, none⟩ = some (.slice a d cap) := g1.cell (by simp))
      have Q0 := Lib.hid hq0
      have Q1 := Lib.hid hq1
      have G1 := Lib.hid ((ext_alloc w (.cells #[.int .i64 p, .slice a d cap] 26)).trans g1)
      clear g1 hq0 hq1
      go_loopw [5] (fun i wr => ∃ k : Nat, k ≤ n ∧ i = .int .i64 k ∧ Hid (∀ j, j < k → vecB p d (nthR vs j) = true) ∧ Ext w1 wr) (fun i _ => n - (intOf i).toNat)
      case atStart => exact ⟨0, Nat.zero_le _, rfl, Lib.hid (fun j hj => by omega), Ext.refl _⟩
      case round =>
        obtain ⟨k, hk, rfl, HT, hext⟩ := hrel
        have HExt := Lib.hid hext
        clear hext
        by_cases hlt : k < n
        · obtain ⟨b, off, ai, ci, rfl, hc, hrow⟩ := HR.out k hlt
          have g2 := G1.out.trans HExt.out
          have HRow := Lib.hid (hrow.ext g2)
          have Hc0 := Lib.hid ((g2.trans (ext_drew _)).cell hc)
          have Hq0 := Lib.hid ((HExt.out.trans (ext_drew _)).cell Q0.out)
          have Hq1 := Lib.hid ((HExt.out.trans (ext_drew _)).cell Q1.out)
          clear hc hrow g2
          have hl0 := Hr.out k hlt
          cases hb : vecB p d (nthR vs k)
          all_goals
            have HB := Lib.hid hb
            clear hb
            go_wp2_with (fail)
            refine wp_region_lex [(5, .val (.bool (vecB p d (nthR vs k))))] (by kernel_rfl) (by kernel_rfl) ?_
            repeat' first | (refine LexW.pure (v := ?_) rfl rfl (fun w1 he => ?_) ?_; rotate_left; ( have hc0 := he.cell Hc0.out; have hq0 := he.cell Hq0.out; have hq1 := he.cell Hq1.out; go_simp; rfl); simp only [Act.put, List.setIfInBounds_toArray, List.set_cons_zero, List.set_cons_succ]) | (refine LexW.call (f := ?_) (args := ?_) rfl rfl (fun w1 => ?_) (fun w1 he hdep => ?_) ?_; rotate_left 2; (go_simp; refine ⟨?_, ?_⟩ <;> rfl); ( have H := s_isVector p a d cap ai _ ci (nthR vs k) w1 (by omega) (by omega) hl0 (HRow.out.ext ((ext_drew _).trans he)); exact H); simp only [Act.put, List.setIfInBounds_toArray, List.set_cons_zero, List.set_cons_succ])
            refine LexW.nil (fun w2 he hk => ?_)
            have X2 := Lib.hid (HExt.out.trans ((ext_drew _).trans he))
            clear he hk
            rw [HB.out]
            go_wp2_with (fail)
          · go_ret
            exact ⟨ret_int (by rw [HC.out, allV_false HL.out hlt HB.out]; rfl), G1.out.trans X2.out⟩
          · go_roundw
            case rel => exact ⟨k + 1, by omega, by go_num, Lib.hid (fun j hj => by
              by_cases hjk : j = k
              · subst hjk; exact HB.out
              · exact HT.out j (by omega)), X2.out⟩
            case measure => simp [intOf]; omega
        · go_wp2_with (fail)
          go_ret
          exact ⟨ret_int (by rw [HC.out, allV_true HL.out (fun j hj => HT.out j (by omega))]; rfl), G1.out.trans HExt.out⟩
    · have HC := Lib.hid (show code18 p qs vs = 3 by unfold code18; rw [if_pos hs, if_neg (by omega)])
      clear hs hpr hqb hd1 hd6 hdl
      go_enter Try.func74, Try.ntmps74
      go_wp2_with (go_at_call 113; refine (s_is _ _ _ _ _ _ hd (HQ.out.ext (ext_alloc _ _))).mono ?_; rintro e w1 ⟨rfl, g1⟩; rw [HS.out]; have hcc := Ext.cells g1)
      go_ret
      exact ⟨ret_int HC.out.symm, (ext_alloc _ _).trans g1⟩
end Go.Proofs.Ytcocbainookkcaa

/-
  A region of which some operations may be carried out at any time while an invariant of the worlds holds: they are carried out first; all others go one after another and may write.
  No condition. General over every program.
-/
namespace Go.Proofs.Ytcocbainookkcaa
set_option maxRecDepth 100000
open Go.RowKit

def Region.floatsB (md : Region.Mode) (ops : Array Oper) : List Nat → Array Bool → Bool
  | [], _ => true
  | i :: l, listed => (Region.ready md ops listed).contains i && Region.free md ops listed i && Region.floatsB md ops l (listed.setIfInBounds i true)
def Region.marked : List Nat → Array Bool → Array Bool
  | [], listed => listed
  | i :: l, listed => Region.marked l (listed.setIfInBounds i true)
def Region.seqL (md : Region.Mode) (ops : Array Oper) : List Nat → Array Bool → Bool
  | [], listed => decide (Region.ready md ops listed = [])
  | i :: l, listed => decide (Region.ready md ops listed = [i]) && Region.seqL md ops l (listed.setIfInBounds i true)
def Region.floatN (ops : Array Oper) (fl rest : List Nat) : Bool :=
  Region.noSelect ops && Region.floatsB .any ops fl (Array.replicate ops.size false) && Region.seqL .any ops rest (Region.marked fl (Array.replicate ops.size false)) && decide (fl.length + rest.length = ops.size)

section
variable {P : Program} {ops : Array Oper} {md : Region.Mode} {Q : Exit → Act → World → Prop} {I : World → Prop}

variable (P ops I) in
/-- The floating operations yield these values, one after another, wherever the invariant holds. -/
def FloatW : List (Nat × Value) → Act → (Act → Prop) → Prop
  | [], a, K => K a
  | (i, v) :: l, a, K => ∃ o, ops[i]? = some o ∧ YieldsI P ops I o v a ∧ FloatW l (a.put o.dst v) K
theorem FloatW.cons {i : Nat} {v : Value} {l : List (Nat × Value)} {a : Act} {K : Act → Prop} {o : Oper} (t : Option Tmp) (ho : ops[i]? = some o) (ht : o.dst = t) (hw : Region.wanted o (yielded ops a.tmps) = true) (hy : ∀ w, I w → (execOp a.eval o).run P w = .ok (.value v) w) (h : FloatW P ops I l (a.put t v) K) : FloatW P ops I ((i, v) :: l) a K := ⟨o, ho, ⟨hw, hy⟩, by rw [ht]; exact h⟩

variable (P ops Q I) in
/-- These operations one after another. -/
def wpSeqI : List Nat → Act → World → Prop
  | [], a, w => I w ∧ Q .normal a w
  | i :: l, a, w => I w ∧ ∃ o, ops[i]? = some o ∧ Region.wanted o (yielded ops a.tmps) = true ∧ o.wp P a w (wpSeqI l) Q
theorem wpSeqI.value {i : Nat} {o : Oper} {l : List Nat} {a : Act} {w w' : World} {v : Value} (t : Option Tmp) (hI : I w) (ho : ops[i]? = some o) (ht : o.dst = t) (hw : Region.wanted o (yielded ops a.tmps) = true) (hr : (execOp a.eval o).run P w = .ok (.value v) w') (h : wpSeqI P ops Q I l (a.put t v) w') : wpSeqI P ops Q I (i :: l) a w :=
  ⟨hI, o, ho, hw, by unfold Oper.wp; rw [hr]; subst ht; exact h⟩
theorem wpSeqI.skip {i : Nat} {o : Oper} {l : List Nat} {a : Act} {w w' : World} (hI : I w) (ho : ops[i]? = some o) (hw : Region.wanted o (yielded ops a.tmps) = true) (hr : (execOp a.eval o).run P w = .ok .skip w') (h : wpSeqI P ops Q I l (a.put o.dst undef) w') : wpSeqI P ops Q I (i :: l) a w :=
  ⟨hI, o, ho, hw, by unfold Oper.wp; rw [hr]; exact h⟩
theorem wpSeqI.call {i f : Nat} {args : Array Value} {o : Oper} {l : List Nat} {a : Act} {w : World} {R : Value → World → Prop} (t : Option Tmp) (hI : I w) (ho : ops[i]? = some o) (ht : o.dst = t) (hw : Region.wanted o (yielded ops a.tmps) = true) (hr : (execOp a.eval o).run P w = .ok (.enter f args) w)
    (hc : Calls P f args w fun e w' => ∃ v, e = .returned v ∧ R v w') (h : ∀ v w', R v w' → wpSeqI P ops Q I l (a.put t v) w') : wpSeqI P ops Q I (i :: l) a w :=
  ⟨hI, o, ho, hw, wp_of_wpS (R := R) (by unfold wpS; rw [hr]; exact hc) (by subst ht; exact h)⟩

theorem wpAnyI_of_seqL : ∀ (l : List Nat) (listed : Array Bool) (a : Act) (w : World), Region.seqL md ops l listed = true → wpSeqI P ops Q I l a w → wpAnyI P ops md Q I l.length listed a w
  | [], _, _, _, hB, h => ⟨h.1, by simpa [Region.seqL] using hB, h.2⟩
  | i :: l, listed, a, w, hB, h => by
    obtain ⟨hI, o, ho, hw, h⟩ := h
    simp only [Region.seqL, Bool.and_eq_true, decide_eq_true_eq] at hB
    refine ⟨hI, fun h1 => (by rw [hB.1] at h1; cases h1), fun j hj => ?_⟩
    rw [hB.1] at hj
    have hik : j = i := by simpa using hj
    subst hik
    have hw' : wpOp P ops Q j (wpSeqI P ops Q I l) a w := by unfold wpOp; simp only [ho, hw, if_true]; exact .inl h
    exact wpOp_mono (fun a' w' h' => wpAnyI_of_seqL l _ a' w' hB.2 h') hw'

theorem wpAnyI_floats (hsel : Region.noSelect ops = true) (hQ : ∀ c a w, ¬ Q (.panic c) a w) {w : World} : ∀ (fl : List (Nat × Value)) (f : Nat) (listed : Array Bool) (a : Act) {K : Act → Prop}, Region.floatsB md ops (fl.map (·.1)) listed = true → FloatW P ops I fl a K →
    (∀ a', K a' → wpAnyI P ops md Q I f (Region.marked (fl.map (·.1)) listed) a' w) → wpAnyI P ops md Q I (f + fl.length) listed a w
  | [], _, _, _, _, _, h, hk => hk _ h
  | (i, v) :: fl, f, listed, a, K, hB, h, hk => by
    obtain ⟨o, ho, hy, h⟩ := h
    simp only [List.map_cons, Region.floatsB, Bool.and_eq_true] at hB
    have T := wpAnyI_floats hsel hQ fl f (listed.setIfInBounds i true) _ hB.2 h hk
    have T1 := wpAnyI_first (md := md) (Q := Q) (I := I) ho (Region.noSelect_spec hsel) (fun c a w hq => absurd hq (hQ _ _ _)) _ listed a w (Region.free_spec ho hB.1.2) (by simpa using hB.1.1) hy T
    simpa [Nat.add_assoc] using T1
end

/-- The operations fl float (they yield their values wherever the invariant holds); the operations rest go one after another. -/
theorem wp_region_floatN {P : Program} {id : Nat} {Q : Exit → Act → World → Prop} {a : Act} {w : World} {ops : Array Oper} (fl : List (Nat × Value)) (rest : List Nat) (I : World → Prop) (hm : P.follows .mixedOrders = true)
    (hB : Region.floatN ops (fl.map (·.1)) rest = true) (h : FloatW P ops I fl a fun a' => wpSeqI P ops (strictQ Q) I rest a' w.drew) : (Code.region id ops true).wp P Q a w := by
  simp only [Region.floatN, Bool.and_eq_true, decide_eq_true_eq] at hB
  obtain ⟨⟨⟨hsel, hf⟩, hs⟩, hl⟩ := hB
  refine wp_region_any hm ?_
  have T := wpAnyI_floats (md := .any) (Q := strictQ Q) (w := w.drew) hsel (fun c a w hq => absurd hq.1 (by simp)) fl rest.length (Array.replicate ops.size false) a hf h (fun a' h' => wpAnyI_of_seqL rest _ a' w.drew hs h')
  rw [show rest.length + fl.length = ops.size by simpa [Nat.add_comm] using hl] at T
  exact wpAny_strict _ _ _ _ (wpAnyI.plain _ _ _ _ T)

def Region.seqP (md : Region.Mode) (ops : Array Oper) (i j : Nat) (rest : List Nat) (listed : Array Bool) : Bool :=
  decide (Region.ready md ops listed = [i, j]) && Region.seqL md ops (j :: rest) (listed.setIfInBounds i true) && Region.seqL md ops (i :: rest) (listed.setIfInBounds j true)
def Region.floatP (ops : Array Oper) (fl : List Nat) (i j : Nat) (rest : List Nat) : Bool :=
  Region.noSelect ops && Region.floatsB .any ops fl (Array.replicate ops.size false) && Region.seqP .any ops i j rest (Region.marked fl (Array.replicate ops.size false)) && decide (fl.length + (rest.length + 2) = ops.size)

section
variable {P : Program} {ops : Array Oper} {md : Region.Mode} {Q : Exit → Act → World → Prop} {I : World → Prop}
theorem wpAnyI_of_seqP {i j : Nat} {rest : List Nat} {listed : Array Bool} {a : Act} {w : World} (hB : Region.seqP md ops i j rest listed = true) (h1 : wpSeqI P ops Q I (i :: j :: rest) a w) (h2 : wpSeqI P ops Q I (j :: i :: rest) a w) : wpAnyI P ops md Q I (rest.length + 2) listed a w := by
  simp only [Region.seqP, Bool.and_eq_true, decide_eq_true_eq] at hB
  obtain ⟨⟨hr, hB1⟩, hB2⟩ := hB
  obtain ⟨hI, o1, ho1, hw1, h1⟩ := h1
  obtain ⟨_, o2, ho2, hw2, h2⟩ := h2
  refine ⟨hI, fun h1 => (by rw [hr] at h1; cases h1), fun k hk => ?_⟩
  rw [hr] at hk
  simp only [List.mem_cons, List.not_mem_nil, or_false] at hk
  rcases hk with rfl | rfl
  · have hw' : wpOp P ops Q k (wpSeqI P ops Q I (j :: rest)) a w := by unfold wpOp; simp only [ho1, hw1, if_true]; exact .inl h1
    exact wpOp_mono (fun a' w' h' => wpAnyI_of_seqL (j :: rest) _ a' w' hB1 h') hw'
  · have hw' : wpOp P ops Q k (wpSeqI P ops Q I (i :: rest)) a w := by unfold wpOp; simp only [ho2, hw2, if_true]; exact .inl h2
    exact wpOp_mono (fun a' w' h' => wpAnyI_of_seqL (i :: rest) _ a' w' hB2 h') hw'
end

/-- The operations fl float; i and j come in either order, then the operations rest one after another. -/
theorem wp_region_floatP {P : Program} {id : Nat} {Q : Exit → Act → World → Prop} {a : Act} {w : World} {ops : Array Oper} (fl : List (Nat × Value)) (i j : Nat) (rest : List Nat) (I : World → Prop) (hm : P.follows .mixedOrders = true)
    (hB : Region.floatP ops (fl.map (·.1)) i j rest = true) (h : FloatW P ops I fl a fun a' => wpSeqI P ops (strictQ Q) I (i :: j :: rest) a' w.drew ∧ wpSeqI P ops (strictQ Q) I (j :: i :: rest) a' w.drew) : (Code.region id ops true).wp P Q a w := by
  simp only [Region.floatP, Bool.and_eq_true, decide_eq_true_eq] at hB
  obtain ⟨⟨⟨hsel, hf⟩, hs⟩, hl⟩ := hB
  refine wp_region_any hm ?_
  have T := wpAnyI_floats (md := .any) (Q := strictQ Q) (w := w.drew) hsel (fun c a w hq => absurd hq.1 (by simp)) fl (rest.length + 2) (Array.replicate ops.size false) a hf h (fun a' h' => wpAnyI_of_seqP hs h'.1 h'.2)
  rw [show rest.length + 2 + fl.length = ops.size by simpa [Nat.add_comm] using hl] at T
  exact wpAny_strict _ _ _ _ (wpAnyI.plain _ _ _ _ T)

section
variable {P : Program} {ops : Array Oper} {Q : Exit → Act → World → Prop} {I : World → Prop}
variable (P ops Q I) in
/-- Two operations, one after the other, hand on to M. -/
def wpTwo (M : Act → World → Prop) (i j : Nat) (a : Act) (w : World) : Prop :=
  I w ∧ ∃ o1, ops[i]? = some o1 ∧ Region.wanted o1 (yielded ops a.tmps) = true ∧ o1.wp P a w (fun a w => I w ∧ ∃ o2, ops[j]? = some o2 ∧ Region.wanted o2 (yielded ops a.tmps) = true ∧ o2.wp P a w M Q) Q
theorem wpSeqI.both {i j : Nat} {rest : List Nat} {a : Act} {w : World} (M : Act → Act → World → Prop) (h1 : wpTwo P ops Q I (M a) i j a w) (h2 : wpTwo P ops Q I (M a) j i a w) (h : ∀ a' w', M a a' w' → wpSeqI P ops Q I rest a' w') :
    wpSeqI P ops Q I (i :: j :: rest) a w ∧ wpSeqI P ops Q I (j :: i :: rest) a w := by
  have one : ∀ i j, wpTwo P ops Q I (M a) i j a w → wpSeqI P ops Q I (i :: j :: rest) a w := fun i j h1 => by
    obtain ⟨hI, o1, ho1, hw1, h1⟩ := h1
    refine ⟨hI, o1, ho1, hw1, Oper.wp_mono (fun a1 w1 h2 => ?_) h1⟩
    obtain ⟨hI, o2, ho2, hw2, h2⟩ := h2
    exact ⟨hI, o2, ho2, hw2, Oper.wp_mono (fun a' w' hm => h a' w' hm) h2⟩
  exact ⟨one _ _ h1, one _ _ h2⟩
end

end Go.Proofs.Ytcocbainookkcaa

/-
  append of a row to rows that may be the empty ones made at the start.
  No condition.
-/
namespace Go.Proofs.Ytcocbainookkcaa
set_option maxRecDepth 100000
open Go.RowKit

/-- Rows of the call's own, as a value. -/
def SPred.ownR (B n : Nat) (rows : List (List Int)) : SPred := ⟨fun v w => ∃ g cap, v = .slice (some ⟨g, 0, none⟩) n cap ∧ OwnR B w (some ⟨g, 0, none⟩) n cap rows, fun _ _ _ ⟨g, cap, hv, h⟩ he => ⟨g, cap, hv, h.ext he⟩⟩
/-- Rows of the call's own from block B on, or the empty rows that were made at the start. -/
def OwnW (B : Nat) (w : World) (a : Option Addr) (n cap : Nat) (rows : List (List Int)) : Prop :=
  (n = 0 ∧ cap = 0 ∧ rows = [] ∧ ∃ g, a = some ⟨g, 0, none⟩) ∨ OwnR B w a n cap rows
theorem OwnW.start (B g : Nat) (w : World) : OwnW B w (some ⟨g, 0, none⟩) 0 0 [] := .inl ⟨rfl, rfl, rfl, g, rfl⟩
theorem OwnW.strong {B : Nat} {w : World} {a : Option Addr} {n cap : Nat} {rows : List (List Int)} (h : OwnW B w a n cap rows) (hn : 0 < n) : OwnR B w a n cap rows := by
  rcases h with ⟨h, _⟩ | h
  · omega
  · exact h
theorem OwnW.rd {B : Nat} {w : World} {a : Option Addr} {n cap : Nat} {rows : List (List Int)} (h : OwnW B w a n cap rows) : RdR w a n rows := by
  rcases h with ⟨rfl, _, rfl, _⟩ | h
  · exact ⟨rfl, fun i hi => by omega⟩
  · exact h.rd
theorem OwnW.len {B : Nat} {w : World} {a : Option Addr} {n cap : Nat} {rows : List (List Int)} (h : OwnW B w a n cap rows) : rows.length = n := by
  rcases h with ⟨rfl, _, rfl, _⟩ | h
  · rfl
  · exact h.1
/-- The rows of a call that began in a world whose blocks are all below. -/
theorem OwnW.own {B B' : Nat} {w : World} {a : Option Addr} {n cap : Nat} {rows : List (List Int)} (h : OwnW B w a n cap rows) (hb : B' ≤ B) (h0 : OwnR B' w a 0 0 [] ∨ 0 < n) : OwnR B' w a n cap rows := by
  rcases h with ⟨rfl, rfl, rfl, _⟩ | h
  · rcases h0 with h0 | h0
    · exact h0
    · omega
  · exact h.mono hb

theorem append_empty (w : World) (b : Addr) (t : Addr) (v : Value) (c : Nat) (ty : TypeId) (hc : w.cell? (t.add 0) = some v) :
    (Builtin.append_ #[63, 63] ty #[.slice (some b) 0 0, .slice (some t) 1 c]).run Try.prog w =
    (Builtin.append_ #[63, 63] ty #[.slice none 0 0, .slice (some t) 1 c]).run Try.prog w := by
  obtain ⟨i0, hi, hz0, hz1, hz2⟩ := info_parts Try.infoR
  have hn : ∀ j u, [v][j]? = some u → w.cell? (t.add j) = some u := fun j u hj => by
    cases j with
    | zero => simp only [List.getElem?_cons_zero, Option.some.injEq] at hj; subst hj; exact hc
    | succ j => simp at hj
  have e : Builtin.nextslicecap (0 + 1) 0 * i0.bytes ≤ 281474976710656 := by
    rw [hz2]; decide
  rw [run_append_grow (P := Try.prog) w 63 ty 24 i0 (.slice none 0 0) Try.underlying63 hi hz0 b 0 0 [] (by simp) (fun j u hj => by simp at hj) t 1 c [v] (by simp [hz1]) hn (by omega) (by omega) e,
    run_append_nil (P := Try.prog) w 63 ty 24 i0 (.slice none 0 0) Try.underlying63 hi hz0 t 1 c [v] (by simp [hz1]) hn (by omega) (by omega) (by rw [hz2]; omega)]
  simp

theorem run_pushRW {B : Nat} {w0 w : World} {ra : Option Addr} {n cap : Nat} {rows : List (List Int)} {b : Option Addr} {m c : Nat} {xs : List Int} {g : Nat} (hown : OwnW B w0 ra n cap rows) (he : Ext w0 w) (hc : w.cell? ⟨g, 0, none⟩ = some (.slice b m c)) (hx : OwnC w0.heap.size w b m c xs) (hn : n ≤ 4194304) (hB : B ≤ w0.heap.size) (ty : TypeId) :
    ∃ g' cap' w', (Builtin.append_ #[63, 63] ty #[.slice ra n cap, .slice (some ⟨g, 0, none⟩) 1 1]).run Try.prog w = .ok (.slice (some ⟨g', 0, none⟩) (n + 1) cap') w' ∧
      OwnR B w' (some ⟨g', 0, none⟩) (n + 1) cap' (rows ++ [xs]) ∧ (∀ W : World, W.heap.size ≤ B → Ext W w → Ext W w') := by
  rcases hown with ⟨rfl, rfl, rfl, g0, rfl⟩ | hown
  · obtain ⟨g', cap', w', h1, h2, _, h4⟩ := run_pushR (OwnR.nil B w0) he hc hx hn hB ty
    exact ⟨g', cap', w', by rw [append_empty w _ _ (.slice b m c) 1 ty (by simpa [Addr.add] using hc)]; exact h1, h2, h4⟩
  · obtain ⟨g', cap', w', h1, h2, _, h4⟩ := run_pushR hown he hc hx hn hB ty
    exact ⟨g', cap', w', h1, h2, h4⟩

theorem wpList_pushRW {ops : Array Oper} {rest : List Oper} {o : Oper} {a : Act} {Q : Exit → Act → World → Prop} {w0 w : World} (hgd : o.guard = none) (s x : Operand)
    (ho : o.op = .call { callee := .builtin .append, args := #[s, x], argTypes := #[63, 63] })
    {B : Nat} {ra : Option Addr} {n cap : Nat} {rows : List (List Int)} {b : Option Addr} {m c : Nat} {xs : List Int} {g : Nat} (hs : a.eval s = .slice ra n cap) (hx : a.eval x = .slice (some ⟨g, 0, none⟩) 1 1)
    (hown : OwnW B w0 ra n cap rows) (he : Ext w0 w) (hxs : OwnC w0.heap.size w b m c xs) (hc : w.cell? ⟨g, 0, none⟩ = some (.slice b m c)) (hn : n ≤ 4194304) (hB : B ≤ w0.heap.size)
    (h : ∀ g' cap' w', OwnR B w' (some ⟨g', 0, none⟩) (n + 1) cap' (rows ++ [xs]) → (∀ W : World, W.heap.size ≤ B → Ext W w → Ext W w') →
      wpList Try.prog ops Q rest (a.put o.dst (.slice (some ⟨g', 0, none⟩) (n + 1) cap')) w') : wpList Try.prog ops Q (o :: rest) a w := by
  refine wpList_plain hgd fun K hK => ?_
  obtain ⟨g', cap', w', hr, h1, h3⟩ := run_pushRW hown he hc hxs hn hB o.type
  unfold Oper.wp execOp
  simp only [ho, resolve, invoke, builtin, Sem.run_bind, Sem.run_pure, Result.andThen_ok, List.map_toArray, List.map_cons, List.map_nil, hs, hx, hr]
  exact hK _ _ (h g' cap' w' h1 h3)

end Go.Proofs.Ytcocbainookkcaa
