/-
  Kernels: contract of the reference.
  No condition.
-/
import Derived.Test.YthimjfnmpicbiaaKernel
namespace Go.Proofs.Ythimjfnmpicbiaa
set_option maxRecDepth 100000
open Go.RowKit

/-- The places of the first numbers of the first k rows. -/
def pivL (red : List (List Int)) (k : Nat) : List Int := (List.range k).map fun i => ((leadN (nthR red i) : Nat) : Int)
theorem pivL_len (red : List (List Int)) (k : Nat) : (pivL red k).length = k := by simp [pivL]
theorem pivL_succ (red : List (List Int)) (k : Nat) : pivL red (k + 1) = pivL red k ++ [((leadN (nthR red k) : Nat) : Int)] := by simp [pivL, List.range_succ]
theorem pivL_nth {red : List (List Int)} {k i : Nat} (h : i < k) : nth (pivL red k) i = ((leadN (nthR red i) : Nat) : Int) := by
  unfold pivL; rw [nth_map (by simpa using h)]; simp
def inL (xs : List Int) (v : Int) : Bool := (List.range xs.length).any fun i => nth xs i == v
theorem inL_at {xs : List Int} {v : Int} {k : Nat} (hk : k < xs.length) (h : nth xs k = v) : inL xs v = true := by
  unfold inL
  rw [List.any_eq_true]
  exact ⟨k, List.mem_range.2 hk, by simp [h]⟩
theorem inL_none {xs : List Int} {v : Int} (h : ∀ k, k < xs.length → nth xs k ≠ v) : inL xs v = false := by
  unfold inL
  rw [List.any_eq_false]
  intro k hk
  simpa using h k (List.mem_range.1 hk)
theorem inL_piv {red : List (List Int)} {t : Nat} : inL (pivL red red.length) t = (pivIx red t).isSome := by
  cases h : pivIx red t with
  | none => exact inL_none (fun k hk => by rw [pivL_len] at hk; rw [pivL_nth hk]; have := pivIx_none h k hk; omega)
  | some i =>
    obtain ⟨h1, h2⟩ := pivIx_some h
    exact inL_at (k := i) (by rw [pivL_len]; exact h1) (by rw [pivL_nth h1]; omega)
/-- The vector when the first i rows have been gone through. -/
def kerF (p : Int) (red : List (List Int)) (f i t : Nat) : Int := if t = f then 1 else match pivIx red t with | some j => if j < i then (-(nth (nthR red j) f)) % p else 0 | none => 0
def kerI (p : Int) (n : Nat) (red : List (List Int)) (f i : Nat) : List Int := (List.range n).map (kerF p red f i)
theorem kerI_len (p : Int) (n : Nat) (red : List (List Int)) (f i : Nat) : (kerI p n red f i).length = n := by simp [kerI]
theorem kerI_nth {p : Int} {n : Nat} {red : List (List Int)} {f i t : Nat} (h : t < n) : nth (kerI p n red f i) t = kerF p red f i t := by
  unfold kerI; rw [nth_map (by simpa using h)]; simp
theorem kerI_zero {p : Int} {n : Nat} {red : List (List Int)} {f : Nat} (hf : f < n) : kerI p n red f 0 = bladeL n f := by
  refine ext_nth (by rw [kerI_len, bladeL_len]) (fun t ht => ?_)
  rw [kerI_len] at ht
  rw [kerI_nth ht, bladeL_nth hf ht]
  unfold kerF
  by_cases h : t = f
  · rw [if_pos h, if_pos h.symm]
  · rw [if_neg h, if_neg (fun e => h e.symm)]
    cases hp : pivIx red t with
    | none => rfl
    | some i => simp only [Nat.not_lt_zero, if_false]
theorem kerI_all {p : Int} {n : Nat} {red : List (List Int)} {f : Nat} : kerI p n red f red.length = kerV p n red f := by
  unfold kerI kerV
  refine List.map_congr_left fun t _ => ?_
  unfold kerF kerN
  cases hp : pivIx red t with
  | none => rfl
  | some i => simp only [(pivIx_some hp).1, if_true]
theorem kerI_step {p : Int} {m n : Nat} {red : List (List Int)} {c : Nat → Nat} (hb : Basis p m red c) {f i : Nat} (hi : i < red.length) (hx : leadN (nthR red i) < n) (hf : pivIx red f = none) :
    kerI p n red f (i + 1) = (kerI p n red f i).set (leadN (nthR red i)) ((-(nth (nthR red i) f)) % p) := by
  have hpi : pivIx red (leadN (nthR red i)) = some i := by rw [hb.leadN hi]; exact hb.piv hi
  have hne : leadN (nthR red i) ≠ f := fun e => by rw [e, hf] at hpi; cases hpi
  refine ext_nth (by rw [kerI_len, List.length_set, kerI_len]) (fun t ht => ?_)
  rw [kerI_len] at ht
  rw [kerI_nth ht, nth_set (by rw [kerI_len]; exact hx)]
  by_cases h : t = leadN (nthR red i)
  · subst h
    rw [if_pos rfl]
    unfold kerF
    rw [if_neg hne, hpi]
    simp only [Nat.lt_succ_self, if_true]
  · rw [if_neg (fun e => h e.symm), kerI_nth ht]
    unfold kerF
    by_cases htf : t = f
    · rw [if_pos htf, if_pos htf]
    · rw [if_neg htf, if_neg htf]
      cases hp : pivIx red t with
      | none => rfl
      | some j =>
        obtain ⟨h1, h2⟩ := pivIx_some hp
        have hji : j ≠ i := fun e => h (by rw [← h2, e])
        by_cases hlt : j < i
        · simp only [hlt, show j < i + 1 by omega, if_true]
        · simp only [hlt, show ¬ j < i + 1 by omega, if_false]
theorem neg_mod (p x : Int) : (p - x) % p = (-x) % p := by rw [show p - x = -x + p by omega, Int.add_emod_right]

set_option maxHeartbeats 400000 in
theorem s_index (a : Option Addr) (n cap : Nat) (xs : List Int) (v : Int) (w : World) (hl : n ≤ 4194303) (hx : RdC w a n xs) :
    Calls Try.prog 221 #[.slice a n cap, .int .i64 v] w fun e w' => ∃ r : Int, (e = .returned (.int .i64 r) ∧ (inL xs v = true ↔ 0 ≤ r)) ∧ Ext w w' := by
  have HX := Lib.hid hx
  clear hx
  go_enter Try.func221, Try.ntmps221
  go_wp2_with (fail)
  go_loopw [5] (fun i wr => ∃ k : Nat, k ≤ n ∧ i = .int .i64 k ∧ Hid (∀ j, j < k → nth xs j ≠ v) ∧ Ext w wr) (fun i _ => n - (intOf i).toNat)
  case atStart => exact ⟨0, Nat.zero_le _, rfl, Lib.hid (fun j hj => by omega), Ext.refl _⟩
  case round =>
    obtain ⟨k, hk, rfl, HT, hext⟩ := hrel
    by_cases hlt : k < n
    · obtain ⟨b, off, rfl, hc⟩ := HX.out.2 k hlt
      have hc' := hext.cell hc
      clear hc
      by_cases hz : nth xs k = v
      · have HZ := Lib.hid hz
        have hzb : (nth xs k == v) = true := by simp [hz]
        clear hz
        go_wp2_with (fail)
        go_ret
        have hi := inL_at (v := v) (by rw [HX.out.1]; exact hlt) HZ.out
        exact ⟨(k : Int), ⟨rfl, by rw [hi]; simp⟩, hext⟩
      · have HZ := Lib.hid hz
        have hzb : (nth xs k == v) = false := by simp [hz]
        clear hz
        go_wp2_with (fail)
        go_roundw
        case rel => exact ⟨k + 1, by omega, by go_num, Lib.hid (fun j hj => by
          by_cases hjk : j = k
          · subst hjk; exact HZ.out
          · exact HT.out j (by omega)), hext⟩
        case measure => simp [intOf]; omega
    · go_wp2_with (fail)
      go_ret
      have hi := inL_none (xs := xs) (v := v) (fun k' hk' => HT.out k' (by rw [HX.out.1] at hk'; omega))
      exact ⟨-1, ⟨rfl, by rw [hi]; simp⟩, hext⟩
set_option maxHeartbeats 400000 in
theorem s_has (a : Option Addr) (n cap : Nat) (xs : List Int) (v : Int) (w : World) (hl : n ≤ 4194303) (hx : RdC w a n xs) :
    Calls Try.prog 162 #[.slice a n cap, .int .i64 v] w fun e w' => e = .returned (.bool (inL xs v)) ∧ Ext w w' := by
  go_enter Try.func162, Try.ntmps162
  go_wp2_with (go_at_call 221; refine (s_index _ _ _ _ _ _ hl hx).mono ?_; rintro e w1 ⟨r, ⟨rfl, hr⟩, g1⟩)
  go_ret
  refine ⟨ret_bool ?_, g1⟩
  rw [Bool.eq_iff_iff, hr]
  simp

set_option maxHeartbeats 8000000 in
set_option maxRecDepth 100000 in
theorem s_kernel (p : Int) (a : Option Addr) (m cap n : Nat) (rows : List (List Int)) (w : World) (hpr : primeB p = true) (hm0 : 0 < m) (hn : 0 < n) (hn2 : n ≤ 4095) (hm : m ≤ 4095) (hx : RdR w a m rows) (hg : RowsG p n rows) :
    Calls Try.prog 96 #[.int .i64 p, .slice a m cap] w fun e w' => ∃ g rc, e = .returned (.slice (some ⟨g, 0, none⟩) (kernL p n rows).length rc) ∧ OwnR w.heap.size w' (some ⟨g, 0, none⟩) (kernL p n rows).length rc (kernL p n rows) ∧ Ext w w' := by
  have hpb := prime_bd hpr
  have hpz : ¬ p = 0 := by omega
  obtain ⟨cc, hbas⟩ := basis_red hpr hg
  have HPR := Lib.hid hpr
  have HX := Lib.hid hx
  have HG := Lib.hid hg
  obtain ⟨b0, off0, a0, c0, rfl, hc0, _⟩ := hx.2 0 hm0
  rw [(hg 0 (by rw [hx.1]; exact hm0)).1, Nat.add_zero] at hc0
  have HC0 := Lib.hid ((ext_drew w).cell hc0)
  obtain ⟨red, hred⟩ : ∃ red, red = basisL p n rows := ⟨_, rfl⟩
  have HBas := Lib.hid (show Basis p n red cc by rw [hred]; exact hbas)
  have HRed := Lib.hid hred
  have HKL := Lib.hid (show kernL p n rows = basisL p n (kerR p n red n) by unfold kernL; rw [hred])
  have hrl : red.length ≤ 4095 := by have := HBas.out.len; omega
  clear hx hg hbas hpr hred hc0
  go_enter Try.func96, Try.ntmps96
  go_wp2_with (fail)
  refine wp_region_lex [(2, .ownR w.heap.size red.length red)] (by kernel_rfl) (by kernel_rfl) ?_
  (refine LexW.pure (v := ?_) rfl rfl (fun w1 he => ?_) ?_; rotate_left; ( go_simp; rfl); simp only [Act.put, List.setIfInBounds_toArray, List.set_cons_zero, List.set_cons_succ])
  (refine LexW.pure (v := ?_) rfl rfl (fun w1 he => ?_) ?_; rotate_left; ( go_simp; rfl); simp only [Act.put, List.setIfInBounds_toArray, List.set_cons_zero, List.set_cons_succ])
  (refine LexW.callR (f := ?_) (args := ?_) rfl rfl (fun w1 => ?_) (fun w1 he hdep => ?_) (fun v hv => ?_); rotate_left 2; (go_simp; refine ⟨?_, ?_⟩ <;> rfl); ( refine (s_basis p _ m cap n rows w1 HPR.out hn (by omega) (by omega) (HX.out.ext ((ext_drew w).trans he)) HG.out).mono ?_; rintro e w2 ⟨g, rc, r, rfl, ho, g2⟩; rw [← HRed.out] at ho; obtain rfl := ho.len; exact ⟨_, rfl, g2, g, rc, rfl, ho.mono (Nat.le_trans (ext_drew w).size he.size)⟩); simp only [Act.put, List.setIfInBounds_toArray, List.set_cons_zero, List.set_cons_succ])
  obtain ⟨_, gb, cb, rfl, _⟩ := hv
  repeat' first | (refine LexW.pure (v := ?_) rfl rfl (fun w1 he => ?_) ?_; rotate_left; ( have e1 := he.cell HC0.out; go_simp; rfl); simp only [Act.put, List.setIfInBounds_toArray, List.set_cons_zero, List.set_cons_succ])
  refine LexW.nil (fun w3 he hkn => ?_)
  obtain ⟨_, _, q15, r15⟩ : (SPred.ownR w.heap.size red.length red).holds (.slice (some ⟨gb, 0, none⟩) red.length cb) w3 := hkn (2, _) (by simp)
  cases q15
  have HOb := Lib.hid r15
  have GW := Lib.hid ((ext_drew w).trans he)
  clear he hkn r15
  rename World => w1
  go_wp2_with (fail)
  go_loopw [7, 9] (fun v i wr => ∃ (k g rc : Nat), k ≤ red.length ∧ i = .int .i64 k ∧ v = .slice (some ⟨g, 0, none⟩) k rc ∧ OwnC w1.heap.size wr (some ⟨g, 0, none⟩) k rc (pivL red k) ∧ Ext w1 wr) (fun _ i _ => red.length - (intOf i).toNat)
  case atStart => exact ⟨0, _, _, Nat.zero_le _, rfl, rfl, (own_empty w1).ext (ext_alloc _ _), (ext_alloc _ _).alloc _⟩
  case round =>
    obtain ⟨k, gp, rp, hk, rfl, rfl, hown, hext⟩ := hrel
    have HOwn := Lib.hid hown
    have HExt := Lib.hid hext
    clear hown hext
    by_cases hlt : k < red.length
    · obtain ⟨aj, cj, hcj, hoj⟩ := HOb.out.at hlt
      have hjl := (HBas.out.good k hlt).1
      rw [hjl] at hcj hoj
      have hcj' := HExt.out.cell hcj
      have HOj := Lib.hid (hoj.rd.ext HExt.out)
      have hll : leadN (nthR red k) < n := by rw [HBas.out.leadN hlt]; exact HBas.out.clt k hlt
      have HFi := Lib.hid (show firstL (nthR red k) = ((leadN (nthR red k) : Nat) : Int) by unfold firstL; rw [if_neg (by rw [hjl]; omega)])
      obtain ⟨L, hL⟩ : ∃ L, L = leadN (nthR red k) := ⟨_, rfl⟩
      rw [← hL] at HFi
      have HL := Lib.hid hL
      clear hcj hoj hjl hL hll
      go_wp2_with (first
        | (go_at_call 172; refine (s_first aj n cj (nthR red k) _ (by omega) HOj.out).mono ?_; rintro e w2 ⟨rfl, g2⟩; rw [HFi.out]; have G2 := Lib.hid g2; clear g2)
        | (at_builtin; refine wpList_push rfl (.tmp 28) (.tmp 34) rfl rfl rfl (v := (L : Int)) (HOwn.out.ext (G2.out.trans (ext_alloc _ _))) ?hc ?hn ?hB ?hk))
      case hc => simp
      case hn => omega
      case hB => have hz := (HExt.out.trans G2.out).size'; simp; omega
      case hk =>
        intro g' cap' w3 ho3 hg3 he3
        have HO3 := Lib.hid ho3
        have HE3 := Lib.hid (he3 w1 (Nat.le_refl _) ((HExt.out.trans G2.out).alloc _))
        clear ho3 hg3 he3
        go_wp2_with (fail)
        go_roundw
        case rel => exact ⟨k + 1, g', cap', by omega, by go_num, rfl, by rw [pivL_succ, ← HL.out]; exact HO3.out, HE3.out⟩
        case measure => simp [intOf]; omega
    · obtain rfl : k = red.length := by omega
      have HPv := HOwn
      have X2 := HExt
      have HRd := Lib.hid (HOb.out.ext X2.out)
      have G2 := Lib.hid (GW.out.trans X2.out)
      clear HOwn HExt HOb
      rename World => wM
      go_wp2_with (fail)
      go_loopw [8, 10] (fun v i wq => ∃ (f g rc : Nat), f ≤ n ∧ i = .int .i64 f ∧ v = .slice (some ⟨g, 0, none⟩) (kerR p n red f).length rc ∧ OwnW wM.heap.size wq (some ⟨g, 0, none⟩) (kerR p n red f).length rc (kerR p n red f) ∧ Ext wM wq) (fun _ i _ => n - (intOf i).toNat)
      case atStart => exact ⟨0, _, _, Nat.zero_le _, rfl, rfl, OwnW.start _ _ _, Ext.refl _⟩
      case round =>
        obtain ⟨f, g, rc, hf, rfl, rfl, hown, hext⟩ := hrel
        rename World => wq
        have HOwn := Lib.hid hown
        have HExt := Lib.hid hext
        clear hown hext
        have hkl := kerR_len p n red f
        by_cases hlf : f < n
        · have hpiv := @inL_piv red f
          cases hp : pivIx red f with
          | some j =>
            rw [hp] at hpiv
            have HK := Lib.hid (kerR_no (p := p) (n := n) hp)
            have HIn : Hid (inL (pivL red red.length) f = true) := Lib.hid hpiv
            clear hp hpiv
            go_wp2_with (go_at_call 162; refine (s_has _ _ _ _ _ _ (by omega) (HPv.out.rd.ext HExt.out)).mono ?_; rintro e w4 ⟨rfl, g4⟩; rw [HIn.out]; have HE4 := Lib.hid (HExt.out.trans g4); have HO4 : Hid (OwnW wM.heap.size w4 (some ⟨g, 0, none⟩) (kerR p n red f).length rc (kerR p n red f)) := Lib.hid (by
              rcases HOwn.out with h | h
              · exact .inl h
              · exact .inr (h.ext g4)); clear g4)
            go_roundw
            case rel => exact ⟨f + 1, g, rc, by omega, by go_num, by rw [HK.out], by rw [HK.out]; exact HO4.out, HE4.out⟩
            case measure => simp [intOf]; omega
          | none =>
            rw [hp] at hpiv
            have HK := Lib.hid (kerR_yes (p := p) (n := n) hp)
            have HP := Lib.hid hp
            have HIn : Hid (inL (pivL red red.length) f = false) := Lib.hid hpiv
            clear hp hpiv
            go_wp2_with (go_at_call 162; refine (s_has _ _ _ _ _ _ (by omega) (HPv.out.rd.ext HExt.out)).mono ?_; rintro e w4 ⟨rfl, g4⟩; rw [HIn.out]; have HE4 := Lib.hid g4; clear g4)
            obtain ⟨w5, hmk, ho5, he5⟩ := make_ints w4 n (by omega)
            obtain ⟨g0, hg0⟩ : ∃ g, g = w4.heap.size := ⟨_, rfl⟩
            rw [← hg0] at hmk ho5
            have hge4 : w4.heap.size ≤ g0 := by omega
            have hge : wq.heap.size ≤ g0 := by have := HE4.out.size'; omega
            have HO5 := Lib.hid (ho5.mono hge4)
            have HE5 := Lib.hid (HE4.out.trans he5)
            have hcg := ho5.cell hlf
            have hfz := ho5.frozen f
            clear ho5 he5 hg0
            rw [hmk]
            go_wp2_with (fail)
            have X5 := Lib.hid (HE5.out.setCell (p := ⟨g0, f, none⟩) hge (.int .i64 1))
            have HOs := Lib.hid ((HO5.out.store hlf 1).mono HE4.out.size)
            clear hcg hfz hmk
            go_loopw [12] (fun i wz => ∃ (j : Nat), j ≤ red.length ∧ i = .int .i64 j ∧ OwnC wq.heap.size wz (some ⟨g0, 0, none⟩) n n (kerI p n red f j) ∧ Ext wq wz) (fun i _ => red.length - (intOf i).toNat)
            case atStart => exact ⟨0, Nat.zero_le _, rfl, by rw [kerI_zero hlf]; exact HOs.out, X5.out⟩
            case round =>
              obtain ⟨i, hi, rfl, hown, hext⟩ := hrel
              rename World => wz
              have HOz := Lib.hid hown
              have HEz := Lib.hid hext
              clear hown hext
              by_cases hli : i < red.length
              · have hjl := (HBas.out.good i hli).1
                have hlt : leadN (nthR red i) < n := by rw [HBas.out.leadN hli]; exact HBas.out.clt i hli
                have hbd := (HBas.out.good i hli).2 f hlf
                obtain ⟨ai, ci, hci, hoi⟩ := HRd.out.at hli
                rw [hjl] at hci hoi
                have HSt := Lib.hid (kerI_step (p := p) (n := n) HBas.out hli hlt HP.out)
                obtain ⟨bj, oj, rfl, hcm⟩ := hoi.rd.2 f (by omega)
                have hpc := HPv.out.cell hli
                rw [pivL_nth hli] at hpc
                have E7 := Lib.hid (HExt.out.trans (HEz.out.trans (ext_drew wz)))
                have HCi := Lib.hid (E7.out.cell hci)
                have HCm := Lib.hid (E7.out.cell hcm)
                have HPc := Lib.hid (E7.out.cell hpc)
                obtain ⟨u, hu⟩ : ∃ u, u = nth (nthR red i) f := ⟨_, rfl⟩
                rw [← hu] at HCm hbd HSt
                obtain ⟨L, hL⟩ : ∃ L, L = leadN (nthR red i) := ⟨_, rfl⟩
                rw [← hL] at hlt HSt HPc
                have hw1 : IntKind.i64.wrap (p - u) = p - u := IntWalk.i64_in _ (by omega)
                obtain ⟨Z, hZ⟩ : ∃ Z, Z = (-u) % p := ⟨_, rfl⟩
                have hw2 : (p - u).tmod p = Z := by rw [hZ, ← neg_mod]; exact Int.tmod_eq_emod_of_nonneg (by omega)
                rw [← hZ] at HSt
                clear hci hoi hcm hpc hjl hL hu hZ
                go_wp2_with (fail)
                refine wp_region_lex_tail 17 [] (by kernel_rfl) (by kernel_rfl) ?_
                simp only [List.take, List.drop]
                repeat' first | (refine LexW.pure (v := ?_) rfl rfl (fun w1 he => ?_) ?_; rotate_left; ( have e1 := he.cell HCi.out; have e2 := he.cell HCm.out; have e3 := he.cell HPc.out; go_simp; rfl); simp only [Act.put, List.setIfInBounds_toArray, List.set_cons_zero, List.set_cons_succ])
                refine LexW.nil (fun w8 he hkn => ?_)
                have X8 := Lib.hid ((ext_drew wz).trans he)
                clear he hkn
                have HO8 := Lib.hid (HOz.out.ext X8.out)
                have hcg := HO8.out.cell hlt
                have hfz := HO8.out.frozen L
                go_wp2_with (fail)
                go_roundw
                case rel => exact ⟨i + 1, by omega, by go_num, by rw [HSt.out]; exact HO8.out.store hlt _, (HEz.out.trans X8.out).setCell hge _⟩
                case measure => simp [intOf]; omega
              · obtain rfl : i = red.length := by omega
                have HKE := Lib.hid (kerI_all (p := p) (n := n) (red := red) (f := f))
                go_wp2_with (at_builtin; refine wpList_pushRW (w0 := wq) rfl (.tmp 72) (.tmp 74) rfl rfl rfl HOwn.out (HEz.out.trans (ext_alloc _ _)) (xs := kerV p n red f) (by rw [← HKE.out]; exact HOz.out.ext (ext_alloc _ _)) ?hc (by omega) HExt.out.size ?hk)
                case hc => exact cell_new _ _ rfl _ _
                case hk =>
                  intro g' cap' w9 ho9 he9
                  have HO9 := Lib.hid ho9
                  have HE9 := Lib.hid (he9 wM (Nat.le_refl _) ((HExt.out.trans HEz.out).alloc _))
                  clear ho9 he9
                  go_wp2_with (fail)
                  go_roundw
                  case rel => exact ⟨f + 1, g', cap', by omega, by go_num, by rw [HK.out, List.length_append]; rfl, by rw [HK.out, List.length_append]; exact .inr HO9.out, HE9.out⟩
                  case measure => simp [intOf]; omega
        · obtain rfl : f = n := by omega
          have HCnt := Lib.hid (kernL_cnt (n := f) (rows := rows) HPR.out)
          go_wp2_with (first
            | (go_at_call 171; refine (s_basis p (some ⟨g, 0, none⟩) (kerR p f red f).length rc f (kerR p f red f) _ HPR.out hn (by omega) (by omega) HOwn.out.rd (kerR_good (by omega))).mono ?_; rintro e w8 ⟨g8, c8, r, rfl, ho8, x8⟩; rw [← HKL.out] at ho8; obtain rfl := ho8.len; have HO8 := Lib.hid ho8; have X8 := Lib.hid x8; clear ho8 x8)
            | (go_at_call 173; refine (s_own2 _ _ _ f (kernL p f rows) _ hn (by omega) (by have := HCnt.out.1; omega) (fun i hi => (HCnt.out.2 i hi).1) HO8.out.rd).mono ?_; rintro e w9 ⟨g9, c9, rfl, ho9, x9⟩; have HO9 := Lib.hid ho9; have X9 := Lib.hid x9; clear ho9 x9))
          go_ret
          exact ⟨g9, c9, rfl, HO9.out.mono (Nat.le_trans (G2.out.trans HExt.out).size X8.out.size), G2.out.trans (HExt.out.trans (X8.out.trans X9.out))⟩
end Go.Proofs.Ythimjfnmpicbiaa
