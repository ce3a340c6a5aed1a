/-
  Contracts and plain laws, part 5: OrthL, RedP, AppR, AppV, Eleven, AlgB, Mat, InvM, Inverse.
  No condition.
-/
import Derived.Test.YtnabpmafcflljaaPart4
import Derived.Test.YtnabpmafcflljaaPart3
import Derived.Test.YtnabpmafcflljaaPart2
import Derived.Maps.AppendAt
import Derived.Test.YtnabpmafcflljaaPart1
/-
  Vectors orthogonal to some, in the program.
  No condition.
-/
namespace Go.Proofs.Ytnabpmafcflljaa
set_option maxRecDepth 100000
open Go.RowKit

def wtsL (p : Int) (qs : List Int) (vs : List (List Int)) (d k : Nat) : List (List Int) := (List.range k).map fun i => wtL p qs (nthR vs i) d
theorem wtsL_succ (p : Int) (qs : List Int) (vs : List (List Int)) (d k : Nat) : wtsL p qs vs d (k + 1) = wtsL p qs vs d k ++ [wtL p qs (nthR vs k) d] := by simp [wtsL, List.range_succ]
theorem wtsL_len (p : Int) (qs : List Int) (vs : List (List Int)) (d k : Nat) : (wtsL p qs vs d k).length = k := by simp [wtsL]
theorem wtsL_nth {p : Int} {qs : List Int} {vs : List (List Int)} {d k i : Nat} (h : i < k) : nthR (wtsL p qs vs d k) i = wtL p qs (nthR vs i) d := by
  unfold wtsL; rw [nthR_map (by simpa using h)]; simp
theorem wtsL_good {p : Int} {qs : List Int} {vs : List (List Int)} {d k : Nat} (hp : 1 ≤ p) : RowsG p d (wtsL p qs vs d k) := fun i hi => by
  rw [wtsL_len] at hi
  rw [wtsL_nth hi]; exact wt_good hp
set_option maxHeartbeats 4000000 in
set_option maxRecDepth 100000 in
theorem c_orthogonal (p : Int) (a : Option Addr) (d cap : Nat) (qs : List Int) (al : Option Addr) (n cl : Nat) (vs : List (List Int)) (w : World) (hpr : primeB p = true) (hd0 : 0 < d) (hd : d ≤ 6) (hn : n ≤ 4095) (hq : RdC w a d qs) (hqb : isB p qs = true) (hx : RdR w al n vs) (hg : RowsG p d vs) :
    Calls Try.prog 40 #[.agg #[.int .i64 p, .slice a d cap], .slice al n cl] w fun e w' => ∃ g rc, e = .returned (.slice (some ⟨g, 0, none⟩) (kernL p d (wtsL p qs vs d n)).length rc) ∧ OwnR w.heap.size w' (some ⟨g, 0, none⟩) (kernL p d (wtsL p qs vs d n)).length rc (kernL p d (wtsL p qs vs d n)) ∧ Ext w w' := by
  have hpb := prime_bd hpr
  have HPR := Lib.hid hpr
  have HQ := Lib.hid hq
  have HQB := Lib.hid hqb
  have HX := Lib.hid hx
  have HG := Lib.hid hg
  have HLN := Lib.hid hx.1
  clear hpr hq hqb hx hg
  obtain ⟨W, hW⟩ : ∃ W, W = w.alloc (.cells #[.int .i64 p, .slice a d cap] 30) := ⟨_, rfl⟩
  have gW : Ext w W := by rw [hW]; exact ext_alloc _ _
  have hs0 : W.cell? ⟨w.heap.size, 0, none⟩ = some (.int .i64 p) := by rw [hW]; simp
  have hs1 : W.cell? ⟨w.heap.size, 1, none⟩ = some (.slice a d cap) := by rw [hW]; simp
  have HS0 := Lib.hid (hs0)
  have HS1 := Lib.hid (hs1)
  have GW := Lib.hid (gW)
  have HW := Lib.hid hW
  clear hs0 hs1 gW hW
  go_enter Try.func40, Try.ntmps40
  go_wp2_with (fail)
  rw [← HW.out]
  have hs0 := HS0.out
  have hs1 := HS1.out
  go_wp2_with (fail)
  go_loopw [5, 11] (fun v i wr => ∃ (k g rc : Nat), k ≤ n ∧ i = .int .i64 k ∧ v = .slice (some ⟨g, 0, none⟩) k rc ∧ OwnW W.heap.size wr (some ⟨g, 0, none⟩) k rc (wtsL p qs vs d k) ∧ Ext W wr) (fun _ i _ => n - (intOf i).toNat)
  case atStart => exact ⟨0, _, _, Nat.zero_le _, rfl, rfl, OwnW.start _ _ _, ext_alloc _ _⟩
  case round =>
    obtain ⟨k, g, rc, hk, rfl, rfl, hown, hext⟩ := hrel
    rename World => wr
    have HOwn := Lib.hid hown
    have HExt := Lib.hid hext
    clear hown hext hs0 hs1
    by_cases hlt : k < n
    · obtain ⟨b, off, ak, ck, rfl, hc0, hrk⟩ := HX.out.2 k hlt
      have HGk := Lib.hid (HG.out k (by rw [HLN.out]; exact hlt))
      rw [HGk.out.1] at hc0 hrk
      have hc0' := (GW.out.trans HExt.out).cell hc0
      have HRk := Lib.hid (hrk.ext (GW.out.trans HExt.out))
      have hs0 := HExt.out.cell HS0.out
      have hs1 := HExt.out.cell HS1.out
      clear hc0 hrk
      go_wp2_with (first
        | (go_at_call 77; refine (c_weighted p a d cap qs ak ck (nthR vs k) _ (by omega) (by omega) (by omega) (HQ.out.ext (GW.out.trans HExt.out)) HQB.out HRk.out HGk.out).mono ?_; rintro e w4 ⟨g4, r4, rfl, ho4, x4⟩; have HO4 := Lib.hid ho4; have X4 := Lib.hid x4; clear ho4 x4)
        | (at_builtin; refine wpList_pushRW (w0 := wr) rfl (.tmp 15) (.tmp 19) rfl rfl rfl HOwn.out (X4.out.trans (ext_alloc _ _)) (HO4.out.ext (ext_alloc _ _)) ?hc (by omega) HExt.out.size ?hk))
      case hc => exact cell_new _ _ rfl _ _
      case hk =>
        intro g' cap' w3 ho3 he3
        have HO3 := Lib.hid ho3
        have HE3 := Lib.hid (he3 W (Nat.le_refl _) ((HExt.out.trans X4.out).alloc _))
        clear ho3 he3 hs0 hs1 hc0'
        go_wp2_with (fail)
        go_roundw
        case rel => exact ⟨k + 1, g', cap', by omega, by go_num, rfl, by rw [wtsL_succ]; exact .inr HO3.out, HE3.out⟩
        case measure => simp [intOf]; omega
    · obtain rfl : k = n := by omega
      have T0 := Lib.hid ((ext_drew wr).cell (HExt.out.cell HS0.out))
      have T1 := Lib.hid ((ext_drew wr).cell (HExt.out.cell HS1.out))
      have GX := Lib.hid ((GW.out.trans HExt.out).trans (ext_drew wr))
      have OW := Lib.hid (HOwn.out.rd.ext (ext_drew wr))
      go_wp2_with (fail)
      refine wp_region_lex [(1, .val (.int .i64 p)), (4, .val (.int .i64 d)), (5, .ownR w.heap.size (kernL p d (wtsL p qs vs d k)).length (kernL p d (wtsL p qs vs d k)))] (by kernel_rfl) (by kernel_rfl) ?_
      (refine LexW.pure (v := ?_) rfl rfl (fun w1 he => ?_) ?_; rotate_left; ( have e1 := he.cell T0.out; have e2 := he.cell T1.out; go_simp; rfl); simp only [Act.put, List.setIfInBounds_toArray, List.set_cons_zero, List.set_cons_succ])
      (refine LexW.call (f := ?_) (args := ?_) rfl rfl (fun w1 => ?_) (fun w1 he hdep => ?_) ?_; rotate_left 2; (go_simp; refine ⟨?_, ?_⟩ <;> rfl); ( exact c_field p _ w1); simp only [Act.put, List.setIfInBounds_toArray, List.set_cons_zero, List.set_cons_succ])
      (refine LexW.pure (v := ?_) rfl rfl (fun w1 he => ?_) ?_; rotate_left; ( have e1 := he.cell T0.out; have e2 := he.cell T1.out; go_simp; rfl); simp only [Act.put, List.setIfInBounds_toArray, List.set_cons_zero, List.set_cons_succ])
      (refine LexW.pure (v := ?_) rfl rfl (fun w1 he => ?_) ?_; rotate_left; ( have e1 := he.cell T0.out; have e2 := he.cell T1.out; go_simp; rfl); simp only [Act.put, List.setIfInBounds_toArray, List.set_cons_zero, List.set_cons_succ])
      (refine LexW.call (f := ?_) (args := ?_) rfl rfl (fun w1 => ?_) (fun w1 he hdep => ?_) ?_; rotate_left 2; (go_simp; refine ⟨?_, ?_⟩ <;> rfl); ( exact c_dim _ _ _ _ _); simp only [Act.put, List.setIfInBounds_toArray, List.set_cons_zero, List.set_cons_succ])
      (refine LexW.callR (f := ?_) (args := ?_) rfl rfl (fun w1 => ?_) (fun w1 he hdep => ?_) (fun v hv => ?_); rotate_left 2; (go_simp; refine ⟨?_, ?_⟩ <;> rfl); ( refine (c_kernel p _ k _ d (wtsL p qs vs d k) w1 HPR.out hd0 (by omega) (by omega) (OW.out.ext he) (wtsL_good (by omega))).mono ?_; rintro e w2 ⟨g, rc, rfl, ho, g2⟩; exact ⟨_, rfl, g2, g, rc, rfl, ho.mono (Nat.le_trans GX.out.size he.size)⟩); simp only [Act.put, List.setIfInBounds_toArray, List.set_cons_zero, List.set_cons_succ])
      obtain ⟨_, g27, c27, rfl, _⟩ := hv
      (refine LexW.pure (v := ?_) rfl rfl (fun w1 he => ?_) ?_; rotate_left; ( have e1 := he.cell T0.out; have e2 := he.cell T1.out; go_simp; rfl); simp only [Act.put, List.setIfInBounds_toArray, List.set_cons_zero, List.set_cons_succ])
      refine LexW.nil (fun w3 he hkn => ?_)
      obtain ⟨_, _, q27, r27⟩ : (SPred.ownR w.heap.size (kernL p d (wtsL p qs vs d k)).length (kernL p d (wtsL p qs vs d k))).holds (.slice (some ⟨g27, 0, none⟩) (kernL p d (wtsL p qs vs d k)).length c27) w3 := hkn (5, _) (by simp)
      cases q27
      have R27 := Lib.hid r27
      have HE := Lib.hid (GX.out.trans he)
      clear he hkn r27
      go_wp2_with (fail)
      go_ret
      exact ⟨_, _, rfl, R27.out, HE.out⟩
end Go.Proofs.Ytnabpmafcflljaa

/-
  Reduced bases are unique; the reduced basis with one more list; in plain numbers.
  No condition. No program in sight.
-/
namespace Go.Proofs.Ytnabpmafcflljaa
set_option maxRecDepth 100000
open Go.RowKit

/-- What is left of x when multiples of the first rows are taken away. -/
def restS (p : Int) (m : Nat) (rows : List (List Int)) (x : List Int) : Nat → List Int
  | 0 => x
  | i + 1 => plusL p (restS p m rows x i) (nthR rows i) (-(nth (restS p m rows x i) (leadN (nthR rows i)))) m
theorem restS_good {p : Int} {m : Nat} {rows : List (List Int)} {x : List Int} (hp : 1 ≤ p) (hx : Good p m x) : ∀ i, Good p m (restS p m rows x i)
  | 0 => hx
  | _ + 1 => plus_good hp
theorem restS_zero {p : Int} {m : Nat} {rows : List (List Int)} {x : List Int} {i : Nat} (hp : 1 ≤ p) (hx : Good p m x) (h : nth (restS p m rows x i) (leadN (nthR rows i)) = 0) : restS p m rows x (i + 1) = restS p m rows x i := by
  show plusL p _ _ _ m = _
  rw [h, Int.neg_zero, plus_zero (restS_good hp hx i)]
theorem rest_nth {p : Int} {m : Nat} {rows : List (List Int)} {c : Nat → Nat} {x : List Int} (h : Basis p m rows c) (hx : Good p m x) : ∀ k, k ≤ rows.length → ∀ t, t < m → nth (restS p m rows x k) t % p = (nth x t - sumN k (fun i => nth x (c i) * nth (nthR rows i) t)) % p
  | 0, _, t, _ => by simp [restS, sumN]
  | k + 1, hk, t, ht => by
    have ih := rest_nth h hx k (by omega)
    have hl := h.leadN (i := k) (by omega)
    have hck := h.clt k (by omega)
    show nth (plusL p _ _ _ m) t % p = _
    rw [plusL_nth ht, plusN, Int.emod_emod, hl]
    have e0 : nth (restS p m rows x k) (c k) % p = nth x (c k) % p := by
      rw [ih (c k) hck, sumN_zero fun i hi => by rw [h.one k (by omega) i (by omega), if_neg (by omega), Int.mul_zero], Int.sub_zero]
    rw [Int.add_emod, ih t ht, Int.neg_mul, Int.neg_emod_eq_sub_emod, ← Int.add_emod] 
    simp only [sumN]
    have e1 : nth (restS p m rows x k) (c k) * nth (nthR rows k) t % p = nth x (c k) * nth (nthR rows k) t % p := mul_emod_congr e0 rfl
    obtain ⟨z, hz⟩ : ∃ z, nth (restS p m rows x k) (c k) * nth (nthR rows k) t - nth x (c k) * nth (nthR rows k) t = p * z := Int.dvd_of_emod_eq_zero (by rw [Int.sub_emod, e1, Int.sub_self, Int.zero_emod])
    rw [show nth x t - sumN k (fun i => nth x (c i) * nth (nthR rows i) t) + (p - nth (restS p m rows x k) (c k) * nth (nthR rows k) t) = nth x t - (sumN k (fun i => nth x (c i) * nth (nthR rows i) t) + nth x (c k) * nth (nthR rows k) t) + p * (1 - z) by
      rw [Int.mul_sub, ← hz]; omega, Int.add_mul_emod_self_left]
/-- What is left has 0 at the places of the rows. -/
theorem rest_piv {p : Int} {m : Nat} {rows : List (List Int)} {c : Nat → Nat} {x : List Int} (hp : 1 ≤ p) (h : Basis p m rows c) (hx : Good p m x) {i : Nat} (hi : i < rows.length) : nth (restS p m rows x rows.length) (c i) = 0 := by
  have hb := (restS_good (rows := rows) hp hx rows.length).2 (c i) (h.clt i hi)
  have e := rest_nth h hx rows.length (Nat.le_refl _) (c i) (h.clt i hi)
  rw [sumN_single hi fun j hj hne => by rw [h.one i hi j hj, if_neg (by omega), Int.mul_zero], h.one i hi i hi, if_pos rfl, Int.mul_one, Int.sub_self, Int.zero_emod, Int.emod_eq_of_lt hb.1 hb.2] at e
  exact e
theorem rest_dot {p : Int} {m : Nat} {rows : List (List Int)} {x z : List Int} (hz : Kill p m rows z) : ∀ k, k ≤ rows.length → dotN m (restS p m rows x k) z % p = dotN m x z % p
  | 0, _ => rfl
  | k + 1, hk => by
    show dotN m (plusL p _ _ _ m) z % p = _
    rw [dot_plus, Int.add_emod, Int.mul_emod, hz k (by omega), Int.mul_zero, Int.zero_emod, Int.add_zero, Int.emod_emod]
    exact rest_dot hz k (by omega)
/-- The vectors of the kernel of a reduced basis. -/
theorem ker_kill {p : Int} {m : Nat} {rows : List (List Int)} {c : Nat → Nat} (_hp : 3 ≤ p) (h : Basis p m rows c) {f : Nat} (hf : f < m) (hn : ∀ i, i < rows.length → c i ≠ f) : Kill p m rows (kerV p m rows f) := by
  intro j hj
  have hcj := h.clt j hj
  have hne := hn j hj
  have hpn : pivIx rows f = none := by
    cases e : pivIx rows f with
    | none => rfl
    | some i => obtain ⟨hi, hl⟩ := pivIx_some e; rw [h.leadN hi] at hl; exact absurd hl (hn i hi)
  unfold dotN
  have e : sumN m (fun t => nth (nthR rows j) t * nth (kerV p m rows f) t) = sumN m (fun t => (if t = f then nth (nthR rows j) f else 0) + (if t = c j then nth (kerV p m rows f) (c j) else 0)) := sumN_congr fun t ht => by
    by_cases h1 : t = f
    · subst h1
      rw [if_pos rfl, if_neg (Ne.symm hne), kerV_nth ht, kerN, if_pos rfl, Int.mul_one, Int.add_zero]
    · rw [if_neg h1, Int.zero_add]
      by_cases h2 : t = c j
      · subst h2
        rw [if_pos rfl, h.one j hj j hj, if_pos rfl, Int.one_mul]
      · rw [if_neg h2, kerV_nth ht, kerN, if_neg h1]
        cases e : pivIx rows t with
        | none => exact Int.mul_zero _
        | some i =>
          obtain ⟨hi, hl⟩ := pivIx_some e
          rw [h.leadN hi] at hl
          subst hl
          rw [h.one i hi j hj, if_neg (fun e => h2 (by rw [e])), Int.zero_mul]
  rw [e, sumN_add, sumN_single hf fun i _ hi => if_neg hi, sumN_single hcj fun i _ hi => if_neg hi, if_pos rfl, if_pos rfl, kerV_nth hcj, kerN, if_neg hne, h.piv hj]
  show (_ + -_ % p) % p = 0
  rw [Int.add_emod, Int.emod_emod, ← Int.add_emod, Int.add_right_neg, Int.zero_emod]
/-- A vector whose product with the kernel is 0 is made by the rows. -/
theorem rest_null {p : Int} {m : Nat} {rows : List (List Int)} {c : Nat → Nat} {x : List Int} (hp : 3 ≤ p) (h : Basis p m rows c) (hx : Good p m x) (hk : ∀ z, Kill p m rows z → dotN m x z % p = 0) : ∀ t, t < m → nth (restS p m rows x rows.length) t = 0 := by
  intro f hf
  by_cases hc : ∃ i, i < rows.length ∧ c i = f
  · obtain ⟨i, hi, rfl⟩ := hc; exact rest_piv (by omega) h hx hi
  · have hn : ∀ i, i < rows.length → c i ≠ f := fun i hi he => hc ⟨i, hi, he⟩
    have hz := ker_kill hp h hf hn
    have e := rest_dot (x := x) hz rows.length (Nat.le_refl _)
    rw [hk _ hz] at e
    unfold dotN at e
    rw [sumN_single hf fun t ht hne => by
      rw [kerV_nth ht, kerN, if_neg hne]
      cases e : pivIx rows t with
      | none => exact Int.mul_zero _
      | some i =>
        obtain ⟨hi, hl⟩ := pivIx_some e
        rw [h.leadN hi] at hl
        subst hl
        rw [rest_piv (by omega) h hx hi, Int.zero_mul], kerV_nth hf, kerN, if_pos rfl, Int.mul_one] at e
    have hb := (restS_good (rows := rows) (by omega) hx rows.length).2 f hf
    rwa [Int.emod_eq_of_lt hb.1 hb.2] at e
theorem span_nth {p : Int} {m : Nat} {rows : List (List Int)} {c : Nat → Nat} {x : List Int} (hp : 3 ≤ p) (h : Basis p m rows c) (hx : Good p m x) (hk : ∀ z, Kill p m rows z → dotN m x z % p = 0) {t : Nat} (ht : t < m) : nth x t = sumN rows.length (fun i => nth x (c i) * nth (nthR rows i) t) % p := by
  have e := rest_nth h hx rows.length (Nat.le_refl _) t ht
  rw [rest_null hp h hx hk t ht, Int.zero_emod] at e
  have := sub_zero_iff.1 e.symm
  have hb := hx.2 t ht
  rwa [Int.emod_eq_of_lt hb.1 hb.2] at this
theorem sumN_some {n : Nat} {f : Nat → Int} (h : sumN n f ≠ 0) : ∃ i, i < n ∧ f i ≠ 0 :=
  Classical.byContradiction fun hn => h (sumN_zero fun i hi => Classical.byContradiction fun hf => hn ⟨i, hi, hf⟩)
theorem piv_sub {p : Int} {m : Nat} {R S : List (List Int)} {c d : Nat → Nat} (hp : 3 ≤ p) (h : Basis p m R c) (h' : Basis p m S d) (hk : ∀ z, Kill p m R z → Kill p m S z) {j : Nat} (hj : j < S.length) : ∃ i, i < R.length ∧ c i = d j := by
  have e := span_nth hp h (h'.good j hj) (fun z hz => hk z hz j hj) (h'.clt j hj)
  rw [h'.one j hj j hj, if_pos rfl] at e
  obtain ⟨i, hi, hne⟩ := sumN_some (n := R.length) (f := fun i => nth (nthR S j) (c i) * nth (nthR R i) (d j)) (by intro h0; rw [h0, Int.zero_emod] at e; omega)
  refine ⟨i, hi, ?_⟩
  have h1 : ¬ c i < d j := fun hl => hne (by show _ * _ = (0 : Int); rw [h'.lead j hj _ hl, Int.zero_mul])
  have h2 : ¬ d j < c i := fun hl => hne (by show _ * _ = (0 : Int); rw [h.lead i hi _ hl, Int.mul_zero])
  omega
theorem mono_same {n n' : Nat} {f g : Nat → Nat} (hf : ∀ i j, i < j → j < n → f i < f j) (hg : ∀ i j, i < j → j < n' → g i < g j) (h1 : ∀ i, i < n → ∃ j, j < n' ∧ g j = f i) (h2 : ∀ j, j < n' → ∃ i, i < n ∧ f i = g j) : ∀ i, i < n → i < n' ∧ g i = f i := by
  intro i
  induction i using Nat.strongRecOn with
  | ind i ih =>
    intro hi
    obtain ⟨j, hj, he⟩ := h1 i hi
    have hij : i ≤ j := Classical.byContradiction fun hn => by
      obtain ⟨_, e⟩ := ih j (by omega) (by omega)
      have := hf j i (by omega) hi
      omega
    have hin : i < n' := by omega
    obtain ⟨l, hl, hle⟩ := h2 i hin
    have hil : i ≤ l := Classical.byContradiction fun hn => by
      obtain ⟨_, e⟩ := ih l (by omega) (by omega)
      have := hg l i (by omega) hin
      omega
    refine ⟨hin, ?_⟩
    rcases Nat.lt_or_eq_of_le hij with h | h
    · have := hg i j h hj
      rcases Nat.lt_or_eq_of_le hil with h' | h'
      · have := hf i l h' hl; omega
      · subst h'; omega
    · subst h; exact he
/-- Reduced bases with the same kernel are the same. -/
theorem basis_unique {p : Int} {m : Nat} {R S : List (List Int)} {c d : Nat → Nat} (hp : 3 ≤ p) (h : Basis p m R c) (h' : Basis p m S d) (hk : ∀ z, Kill p m R z ↔ Kill p m S z) : R = S := by
  have s1 := fun j (hj : j < S.length) => piv_sub hp h h' (fun z => (hk z).1) hj
  have s2 := fun j (hj : j < R.length) => piv_sub hp h' h (fun z => (hk z).2) hj
  have m1 := mono_same h.mono h'.mono s2 s1
  have m2 := mono_same h'.mono h.mono s1 s2
  have hl : R.length = S.length := by
    rcases Nat.lt_trichotomy R.length S.length with hlt | he | hlt
    · have := (m2 R.length hlt).1; omega
    · exact he
    · have := (m1 S.length hlt).1; omega
  refine ext_rows hl fun j hj => ?_
  have gj := h.good j hj
  have gj' := h'.good j (by omega)
  refine ext_nth (by rw [gj.1, gj'.1]) fun t ht => ?_
  rw [gj.1] at ht
  have e := span_nth hp h' gj (fun z hz => (hk z).2 hz j hj) ht
  rw [e, sumN_single (show j < S.length by omega) fun i hi hne => by
    rw [(m1 i (by omega)).2, h.one i (by omega) j hj, if_neg (by omega), Int.zero_mul], (m1 j hj).2, h.one j hj j hj, if_pos rfl, Int.one_mul]
  have hb := gj'.2 t ht
  exact Int.emod_eq_of_lt hb.1 hb.2

/-! ### One more list -/
/-- The place of the first row that leads behind the place `at`, or the number of rows. -/
def insQ (rows : List (List Int)) (t : Nat) : Nat := match (List.range rows.length).find? (fun i => decide (t < leadN (nthR rows i))) with | some i => i | none => rows.length
theorem insQ_le (rows : List (List Int)) (t : Nat) : insQ rows t ≤ rows.length := by
  unfold insQ
  split
  · rename_i i h
    rw [List.find?_range_eq_some] at h
    have := h.2.1
    simp at this
    omega
  · exact Nat.le_refl _
theorem insQ_iff {p : Int} {m : Nat} {rows : List (List Int)} {c : Nat → Nat} (h : Basis p m rows c) (t : Nat) {i : Nat} (hi : i < rows.length) : t < c i ↔ insQ rows t ≤ i := by
  unfold insQ
  split
  · rename_i q hq
    rw [List.find?_range_eq_some] at hq
    obtain ⟨h1, h2, h3⟩ := hq
    have h2' : q < rows.length := by simpa using h2
    have h1' : t < c q := by have := of_decide_eq_true h1; rwa [h.leadN h2'] at this
    constructor
    · intro hc
      refine Classical.byContradiction fun hn => ?_
      have := h3 i (by omega)
      simp [h.leadN hi] at this
      omega
    · intro hqi
      rcases Nat.lt_or_eq_of_le hqi with hlt | he
      · have := h.mono q i hlt hi; omega
      · subst he; exact h1'
  · rename_i hn
    rw [List.find?_range_eq_none] at hn
    have := hn i hi
    simp [h.leadN hi] at this
    omega
/-- The rows, without their multiples of r, r inserted at place q: number j. -/
def putN (p : Int) (m : Nat) (rows : List (List Int)) (r : List Int) (t q j : Nat) : List Int :=
  if j < q then plusL p (nthR rows j) r (-(nth (nthR rows j) t)) m else if j = q then r else plusL p (nthR rows (j - 1)) r (-(nth (nthR rows (j - 1)) t)) m
def putP (p : Int) (m : Nat) (rows : List (List Int)) (r : List Int) (t q k : Nat) : List (List Int) := (List.range k).map (putN p m rows r t q)
theorem putP_len (p : Int) (m : Nat) (rows : List (List Int)) (r : List Int) (t q k : Nat) : (putP p m rows r t q k).length = k := by simp [putP]
theorem putP_succ (p : Int) (m : Nat) (rows : List (List Int)) (r : List Int) (t q k : Nat) : putP p m rows r t q (k + 1) = putP p m rows r t q k ++ [putN p m rows r t q k] := by simp [putP, List.range_succ]
theorem putP_nth {p : Int} {m : Nat} {rows : List (List Int)} {r : List Int} {t q k j : Nat} (hj : j < k) : nthR (putP p m rows r t q k) j = putN p m rows r t q j := by
  unfold putP; rw [nthR_map (by simpa using hj)]; simp
theorem putN_good {p : Int} {m : Nat} {rows : List (List Int)} {r : List Int} {t q j : Nat} (hp : 1 ≤ p) (hr : Good p m r) : Good p m (putN p m rows r t q j) := by
  unfold putN
  split
  · exact plus_good hp
  · split
    · exact hr
    · exact plus_good hp
def restL (p : Int) (m : Nat) (rows : List (List Int)) (x : List Int) : List Int := restS p m rows x rows.length
def oneL (p : Int) (m : Nat) (rest : List Int) : List Int := scaleL p rest (invN p (nth rest (leadN rest))) m
def putL (p : Int) (m : Nat) (rows : List (List Int)) (x : List Int) : List (List Int) :=
  if leadN (restL p m rows x) = m then rows
  else putP p m rows (oneL p m (restL p m rows x)) (leadN (restL p m rows x)) (insQ rows (leadN (restL p m rows x))) (rows.length + 1)
theorem put_ok {p : Int} {m : Nat} {rows : List (List Int)} {c : Nat → Nat} {x : List Int} (hp : primeB p = true) (h : Basis p m rows c) (hx : Good p m x) :
    (∃ c', Basis p m (putL p m rows x) c') ∧ ∀ z, Kill p m (putL p m rows x) z ↔ Kill p m rows z ∧ dotN m x z % p = 0 := by
  have hpb := prime_bd hp
  obtain ⟨rest, hrest⟩ : ∃ r, r = restL p m rows x := ⟨_, rfl⟩
  have gr : Good p m rest := by rw [hrest]; exact restS_good (by omega) hx _
  have rp : ∀ i, i < rows.length → nth rest (c i) = 0 := fun i hi => by rw [hrest]; exact rest_piv (by omega) h hx hi
  have rd : ∀ z, Kill p m rows z → dotN m rest z % p = dotN m x z % p := fun z hz => by rw [hrest]; exact rest_dot hz _ (Nat.le_refl _)
  unfold putL
  rw [← hrest]
  clear hrest
  by_cases hl : leadN rest = m
  · rw [if_pos hl]
    refine ⟨⟨c, h⟩, fun z => ⟨fun hz => ⟨hz, ?_⟩, fun hz => hz.1⟩⟩
    rw [← rd z hz]
    unfold dotN
    rw [sumN_zero fun t ht => by rw [leadN_zero (by omega), Int.zero_mul], Int.zero_emod]
  rw [if_neg hl]
  obtain ⟨t, ht⟩ : ∃ t, t = leadN rest := ⟨_, rfl⟩
  have htm : t < m := by have := leadN_le rest; rw [gr.1] at this; omega
  have rz : ∀ s, s < t → nth rest s = 0 := fun s hs => leadN_zero (by omega)
  have rn : nth rest t ≠ 0 := by rw [ht]; exact leadN_ne (by rw [gr.1]; omega)
  have rb := gr.2 t htm
  have hinv := (inv_spec hp (show 0 < nth rest t by omega) rb.2).2.1
  obtain ⟨r, hr⟩ : ∃ r, r = oneL p m rest := ⟨_, rfl⟩
  have grr : Good p m r := by rw [hr]; exact scale_good (by omega)
  have r1 : nth r t = 1 := by rw [hr, oneL, ← ht, scaleL_nth htm, scaleN, hinv]
  have r0 : ∀ s, s < t → nth r s = 0 := fun s hs => by rw [hr, oneL, scaleL_nth (by omega), scaleN, rz s hs, Int.zero_mul, Int.zero_emod]
  have rc : ∀ i, i < rows.length → nth r (c i) = 0 := fun i hi => by rw [hr, oneL, scaleL_nth (h.clt i hi), scaleN, rp i hi, Int.zero_mul, Int.zero_emod]
  have rk : ∀ z, dotN m r z % p = 0 ↔ dotN m rest z % p = 0 := fun z => by
    rw [hr, oneL, ← ht, dot_scale]
    constructor
    · intro h0
      have e : nth rest t * (invN p (nth rest t) * dotN m rest z) % p = 0 := by rw [Int.mul_emod, h0, Int.mul_zero, Int.zero_emod]
      rwa [← Int.mul_assoc, Int.mul_emod, hinv, Int.one_mul, Int.emod_emod] at e
    · intro h0; rw [Int.mul_emod, h0, Int.mul_zero, Int.zero_emod]
  rw [← ht, ← hr]
  clear hr hinv rb rn rz
  have hct : ∀ i, i < rows.length → c i ≠ t := fun i hi he => by have := rc i hi; rw [he, r1] at this; omega
  obtain ⟨q, hq⟩ : ∃ q, q = insQ rows t := ⟨_, rfl⟩
  have hqn : q ≤ rows.length := by rw [hq]; exact insQ_le _ _
  have hqi : ∀ i, i < rows.length → (t < c i ↔ q ≤ i) := fun i hi => by rw [hq]; exact insQ_iff h t hi
  rw [← hq]
  clear hq
  have P : ∀ j, j < rows.length + 1 → nthR (putP p m rows r t q (rows.length + 1)) j = putN p m rows r t q j := fun j hj => putP_nth hj
  -- the rows with multiples taken away
  obtain ⟨U, hU⟩ : ∃ U : Nat → List Int, U = fun j => plusL p (nthR rows j) r (-(nth (nthR rows j) t)) m := ⟨_, rfl⟩
  have U1 : ∀ j, j < rows.length → ∀ i, i < rows.length → nth (U j) (c i) = if j = i then 1 else 0 := fun j hj i hi => by
    rw [hU]; show nth (plusL p _ _ _ m) _ = _
    rw [plusL_nth (h.clt i hi), plusN, rc i hi, Int.mul_zero, Int.add_zero, h.one i hi j hj]
    split
    · exact Int.emod_eq_of_lt (by omega) (by omega)
    · rfl
  have Ut : ∀ j, nth (U j) t = 0 := fun j => by
    rw [hU]; show nth (plusL p _ _ _ m) _ = _
    rw [plusL_nth htm, plusN, r1, Int.mul_one, Int.add_right_neg, Int.zero_emod]
  have Ul : ∀ j, j < rows.length → ∀ s, s < c j → nth (U j) s = 0 := fun j hj s hs => by
    rw [hU]; show nth (plusL p _ _ _ m) _ = _
    have hsm : s < m := by have := h.clt j hj; omega
    rw [plusL_nth hsm, plusN, h.lead j hj s hs]
    by_cases hst : s < t
    · rw [r0 s hst, Int.mul_zero, Int.zero_add, Int.zero_emod]
    · have : nth (nthR rows j) t = 0 := by
        rcases Nat.lt_or_ge t (c j) with h1 | h1
        · exact h.lead j hj t h1
        · omega
      rw [this, Int.neg_zero, Int.zero_mul, Int.zero_add, Int.zero_emod]
  have N1 : ∀ j, j < q → putN p m rows r t q j = U j := fun j hj => by rw [putN, if_pos hj, hU]
  have N2 : putN p m rows r t q q = r := by rw [putN, if_neg (Nat.lt_irrefl _), if_pos rfl]
  have N3 : ∀ j, q < j → putN p m rows r t q j = U (j - 1) := fun j hj => by rw [putN, if_neg (by omega), if_neg (by omega), hU]
  refine ⟨⟨fun j => if j < q then c j else if j = q then t else c (j - 1), ?_⟩, ?_⟩
  · constructor
    · intro j hj
      rw [putP_len] at hj
      rw [P j hj]; exact putN_good (by omega) grr
    · rw [putP_len]
      -- the places are different: at most m of them
      by_cases he : rows.length < m
      · omega
      · exfalso
        have hlen := h.len
        have hm0 : rows.length = m := by omega
        have : ∀ i, i ≤ rows.length → i < rows.length → i ≤ c i := by
          intro i _ hi
          induction i with
          | zero => omega
          | succ k ih => have := ih (by omega) (by omega); have := h.mono k (k + 1) (by omega) hi; omega
        have hup : ∀ e i, i + e + 1 = rows.length → c i ≤ i := by
          intro e
          induction e with
          | zero => intro i hi; have := h.clt i (by omega); omega
          | succ e ih => intro i hi; have := ih (i + 1) (by omega); have := h.mono i (i + 1) (by omega) (by omega); omega
        have e := hct t (by omega)
        have := this t (by omega) (by omega)
        have := hup (rows.length - t - 1) t (by omega)
        omega
    · intro i hi
      rw [putP_len] at hi
      show (if i < q then c i else if i = q then t else c (i - 1)) < m
      split
      · exact h.clt i (by omega)
      · split
        · exact htm
        · exact h.clt (i - 1) (by omega)
    · intro i j hij hj
      rw [putP_len] at hj
      show (if i < q then c i else if i = q then t else c (i - 1)) < (if j < q then c j else if j = q then t else c (j - 1))
      by_cases h1 : i < q
      · rw [if_pos h1]
        have hci : c i < t := by have := hqi i (by omega); have := hct i (by omega); omega
        by_cases h2 : j < q
        · rw [if_pos h2]; exact h.mono i j hij (by omega)
        · rw [if_neg h2]
          by_cases h3 : j = q
          · rw [if_pos h3]; exact hci
          · rw [if_neg h3]
            have := (hqi (j - 1) (by omega)).2 (by omega)
            omega
      · rw [if_neg h1, if_neg (show ¬ j < q by omega), if_neg (show ¬ j = q by omega)]
        by_cases h3 : i = q
        · rw [if_pos h3]; exact (hqi (j - 1) (by omega)).2 (by omega)
        · rw [if_neg h3]; exact h.mono (i - 1) (j - 1) (by omega) (by omega)
    · intro i hi j hj
      rw [putP_len] at hi hj
      rw [P j hj]
      show nth _ (if i < q then c i else if i = q then t else c (i - 1)) = _
      by_cases j1 : j < q
      · rw [N1 j j1]
        by_cases i1 : i < q
        · rw [if_pos i1, U1 j (by omega) i (by omega)]
        · rw [if_neg i1, if_neg (show ¬ j = i by omega)]
          by_cases i2 : i = q
          · rw [if_pos i2]; exact Ut j
          · rw [if_neg i2, U1 j (by omega) (i - 1) (by omega), if_neg (by omega)]
      · by_cases j2 : j = q
        · subst j2
          rw [N2]
          by_cases i1 : i < j
          · rw [if_pos i1, rc i (by omega), if_neg (by omega)]
          · rw [if_neg i1]
            by_cases i2 : i = j
            · rw [if_pos i2, if_pos i2.symm]; exact r1
            · rw [if_neg i2, if_neg (Ne.symm i2)]; exact rc (i - 1) (by omega)
        · rw [N3 j (by omega)]
          by_cases i1 : i < q
          · rw [if_pos i1, U1 (j - 1) (by omega) i (by omega), if_neg (by omega), if_neg (by omega)]
          · rw [if_neg i1]
            by_cases i2 : i = q
            · rw [if_pos i2, if_neg (by omega)]; exact Ut _
            · rw [if_neg i2, U1 (j - 1) (by omega) (i - 1) (by omega)]
              by_cases e : j = i
              · rw [if_pos (by omega), if_pos e]
              · rw [if_neg (by omega), if_neg e]
    · intro i hi s hs
      rw [putP_len] at hi
      rw [P i hi]
      replace hs : s < (if i < q then c i else if i = q then t else c (i - 1)) := hs
      by_cases i1 : i < q
      · rw [if_pos i1] at hs
        rw [N1 i i1]; exact Ul i (by omega) s hs
      · rw [if_neg i1] at hs
        by_cases i2 : i = q
        · rw [if_pos i2] at hs
          subst i2
          rw [N2]; exact r0 s hs
        · rw [if_neg i2] at hs
          rw [N3 i (by omega)]; exact Ul (i - 1) (by omega) s hs
  · intro z
    have Uk : ∀ j, dotN m r z % p = 0 → (dotN m (U j) z % p = 0 ↔ dotN m (nthR rows j) z % p = 0) := fun j h0 => by
      rw [hU]; show dotN m (plusL p _ _ _ m) z % p = 0 ↔ _
      rw [dot_plus, Int.add_emod, Int.mul_emod _ (dotN m r z), h0, Int.mul_zero, Int.zero_emod, Int.add_zero, Int.emod_emod]
    constructor
    · intro hz
      have hz' : ∀ j, j < rows.length + 1 → dotN m (putN p m rows r t q j) z % p = 0 := fun j hj => by
        have := hz j (by rw [putP_len]; exact hj)
        rwa [P j hj] at this
      have hr0 : dotN m r z % p = 0 := by have := hz' q (by omega); rwa [N2] at this
      have hR : Kill p m rows z := fun j hj => by
        rw [← Uk j hr0]
        by_cases hjq : j < q
        · have := hz' j (by omega); rwa [N1 j hjq] at this
        · have := hz' (j + 1) (by omega); rwa [N3 (j + 1) (by omega)] at this
      exact ⟨hR, by rw [← rd z hR]; exact (rk z).1 hr0⟩
    · rintro ⟨hR, h0⟩
      have hr0 : dotN m r z % p = 0 := (rk z).2 (by rw [rd z hR]; exact h0)
      intro j hj
      rw [putP_len] at hj
      rw [P j hj]
      by_cases j1 : j < q
      · rw [N1 j j1, Uk j hr0]; exact hR j (by omega)
      · by_cases j2 : j = q
        · rw [j2, N2]; exact hr0
        · rw [N3 j (by omega), Uk _ hr0]; exact hR _ (by omega)
/-- The reduced basis of the first k lists. -/
def redS (p : Int) (m : Nat) (lists : List (List Int)) : Nat → List (List Int)
  | 0 => []
  | k + 1 => putL p m (redS p m lists k) (nthR lists k)
theorem redS_ok {p : Int} {m : Nat} {lists : List (List Int)} (hp : primeB p = true) (hg : RowsG p m lists) : ∀ k, k ≤ lists.length → (∃ c, Basis p m (redS p m lists k) c) ∧ ∀ z, Kill p m (redS p m lists k) z ↔ ∀ i, i < k → dotN m (nthR lists i) z % p = 0
  | 0, _ => ⟨⟨fun _ => 0, ⟨fun i hi => absurd hi (Nat.not_lt_zero _), Nat.zero_le _, fun i hi => absurd hi (Nat.not_lt_zero _), fun i j _ hj => absurd hj (Nat.not_lt_zero _), fun i hi => absurd hi (Nat.not_lt_zero _), fun i hi => absurd hi (Nat.not_lt_zero _)⟩⟩, fun z => ⟨fun _ i hi => absurd hi (Nat.not_lt_zero _), fun _ i hi => absurd hi (Nat.not_lt_zero _)⟩⟩
  | k + 1, hk => by
    obtain ⟨⟨c, h1⟩, h2⟩ := redS_ok hp hg k (by omega)
    obtain ⟨h3, h4⟩ := put_ok hp h1 (hg k (by omega))
    refine ⟨h3, fun z => ?_⟩
    show Kill p m (putL p m (redS p m lists k) (nthR lists k)) z ↔ _
    rw [h4 z, h2 z]
    constructor
    · rintro ⟨ha, hb⟩ i hi
      by_cases h : i < k
      · exact ha i h
      · rw [show i = k by omega]; exact hb
    · intro h; exact ⟨fun i hi => h i (by omega), h k (by omega)⟩
/-- The two ways to a reduced basis lead to the same one. -/
theorem redS_basis {p : Int} {m : Nat} {lists : List (List Int)} (hp : primeB p = true) (hg : RowsG p m lists) : redS p m lists lists.length = basisL p m lists := by
  obtain ⟨⟨c, h1⟩, h2⟩ := redS_ok hp hg lists.length (Nat.le_refl _)
  obtain ⟨d, h3⟩ := basis_red hp hg
  exact basis_unique (prime_bd hp).1 h1 h3 fun z => by rw [h2 z, kill_basis hp hg]; rfl
end Go.Proofs.Ytnabpmafcflljaa

/-
  append of rows to rows; sums of matrices.
  No condition.
-/
namespace Go.Proofs.Ytnabpmafcflljaa
set_option maxRecDepth 100000
open Go.RowKit

/-- append of rows of the call's own. -/
theorem run_appendRows {B : Nat} {w0 w : World} {ra : Option Addr} {n cap : Nat} {rows : List (List Int)} {g2 m c2 : Nat} {rows2 : List (List Int)} (hown : OwnR B w0 ra n cap rows) (he : Ext w0 w) (hx : OwnR w0.heap.size w (some ⟨g2, 0, none⟩) m c2 rows2) (hm : 0 < m) (hn : n ≤ 4194304) (hml : m ≤ 4194304) (hB : B ≤ w0.heap.size) (ty : TypeId) :
    ∃ g' cap' w', (Builtin.append_ #[25, 25] ty #[.slice ra n cap, .slice (some ⟨g2, 0, none⟩) m c2]).run Try.prog w = .ok (.slice (some ⟨g', 0, none⟩) (n + m) cap') w' ∧
      OwnR B w' (some ⟨g', 0, none⟩) (n + m) cap' (rows ++ rows2) ∧ (∀ W : World, W.heap.size ≤ B → Ext W w → Ext W w') := by
  obtain ⟨i0, hi, hz0, hz1, hz2⟩ := info_parts Try.infoR
  have hown0 := hown
  obtain ⟨h1, vs, h2, hap, h4⟩ := hown
  obtain ⟨x1, us, x2, xap, x4⟩ := hx
  have h2' := ownsRow_ext h2 he
  have hvl : vs.length = n := by have := h2.1; omega
  have hul : us.length = m := by have := x2.1; omega
  have hcell : ∀ j u, us[j]? = some u → w.cell? ⟨g2, j, none⟩ = some u := fun j u hj => by
    have hjl : j < m := by
      rcases Nat.lt_or_ge j m with h | h
      · exact h
      · rw [List.getElem?_eq_none (by omega)] at hj; cases hj
    rcases x2.2 with ⟨_, h3⟩ | ⟨g, c, cur, hv, hb, hh, hc1, hc2, hc3, hc4⟩
    · omega
    · simp only [Value.slice.injEq] at hv
      obtain ⟨hv1, _, _⟩ := hv
      cases hv1
      rw [← hc4, List.getElem?_take_of_lt (by omega), Array.getElem?_toList] at hj
      simp only [World.cell?, hh]
      simpa using hj
  obtain ⟨v', w', hr, h5, h6, _⟩ := run_append_own (P := Try.prog) w B 25 ty 22 i0 (.slice none 0 0) 1 24 Try.underlying25 hi hz0 hz1 hz2 rfl (by decide) (.slice ra n cap) n vs h2'
    ⟨g2, 0, none⟩ m c2 us (by omega) (fun j u hj => by
      have := hcell j u hj
      by_cases hj0 : j = 0
      · subst hj0; simpa [Addr.add] using this
      · simpa [Addr.add, hj0] using this) (fun u hu => by
        obtain ⟨j, hj, rfl⟩ := List.getElem_of_mem hu
        obtain ⟨ai, ci, h7, _⟩ := x4 j (by omega)
        rw [List.getElem?_eq_getElem hj] at h7
        rw [Option.some.inj h7]; rfl) (by unfold maxLen; omega) (by omega) (Nat.le_trans hB he.size)
  have form : ∃ g cap, v' = .slice (some ⟨g, 0, none⟩) (n + m) cap := by
    rcases h5.2 with ⟨_, h3⟩ | ⟨g, c, cur, hv, _⟩
    · omega
    · exact ⟨g, c, hv⟩
  obtain ⟨g', cap', rfl⟩ := form
  refine ⟨g', cap', w', hr, ⟨by simp [h1, x1], vs ++ us, h5, ?_, fun i hin => ?_⟩, fun W hW hE => hE.grown h6 fun k hk => Nat.le_trans hW (hown0.blk k hk)⟩
  · intro i k g1 n1 c1 n2 c2 hik hi hk
    have old : ∀ l n3 c3, l < n → vs[l]? = some (Value.slice (some ⟨g1, 0, none⟩) n3 c3) → g1 < w0.heap.size := fun l n3 c3 hl e => by
      obtain ⟨ai, ci, h5, h6⟩ := h4 l hl
      rw [h5] at e
      simp only [Option.some.injEq, Value.slice.injEq] at e
      exact (h6.base_of g1 e.1).2
    have new : ∀ l n3 c3, us[l]? = some (Value.slice (some ⟨g1, 0, none⟩) n3 c3) → w0.heap.size ≤ g1 := fun l n3 c3 e => by
      have hl : l < m := by
        rcases Nat.lt_or_ge l m with h | h
        · exact h
        · rw [List.getElem?_eq_none (by omega)] at e; cases e
      obtain ⟨ai, ci, h5, h6⟩ := x4 l hl
      rw [h5] at e
      simp only [Option.some.injEq, Value.slice.injEq] at e
      exact (h6.base_of g1 e.1).1
    by_cases li : i < n
    · rw [List.getElem?_append_left (by omega)] at hi
      by_cases lk : k < n
      · rw [List.getElem?_append_left (by omega)] at hk
        exact hap i k g1 _ _ _ _ hik hi hk
      · rw [List.getElem?_append_right (by omega)] at hk
        have := new _ _ _ hk; have := old i _ _ li hi; omega
    · rw [List.getElem?_append_right (by omega)] at hi
      by_cases lk : k < n
      · rw [List.getElem?_append_left (by omega)] at hk
        have := new _ _ _ hi; have := old k _ _ lk hk; omega
      · rw [List.getElem?_append_right (by omega)] at hk
        exact xap _ _ g1 _ _ _ _ (by omega) hi hk
  · by_cases hlt : i < n
    · obtain ⟨ai, ci, h7, h8⟩ := h4 i hlt
      have e : nthR (rows ++ rows2) i = nthR rows i := by simp [nthR, List.getElem?_append_left (show i < rows.length by omega)]
      rw [e]
      exact ⟨ai, ci, by rw [List.getElem?_append_left (by omega)]; exact h7, (h8.ext he).grown h6 (own_apart h2' (h8.ext he))⟩
    · obtain ⟨ai, ci, h7, h8⟩ := x4 (i - n) (by omega)
      have e : nthR (rows ++ rows2) i = nthR rows2 (i - n) := by
        unfold nthR
        rw [List.getD_eq_getElem?_getD, List.getD_eq_getElem?_getD, List.getElem?_append_right (by omega), h1]
      rw [e]
      exact ⟨ai, ci, by rw [List.getElem?_append_right (by omega), hvl]; exact h7, (h8.mono hB).grown h6 (own_apart h2' h8)⟩

theorem append_emptyN (w : World) (b t : Addr) (m c : Nat) (us : List Value) (ty : TypeId) (hul : us.length = m) (hn : ∀ j u, us[j]? = some u → w.cell? (t.add j) = some u) (hm : 0 < m) (hml : m ≤ 4194304) :
    (Builtin.append_ #[25, 25] ty #[.slice (some b) 0 0, .slice (some t) m c]).run Try.prog w =
    (Builtin.append_ #[25, 25] ty #[.slice none 0 0, .slice (some t) m c]).run Try.prog w := by
  obtain ⟨i0, hi, hz0, hz1, hz2⟩ := info_parts Try.infoR
  have e : Builtin.nextslicecap (0 + m) 0 * i0.bytes ≤ 281474976710656 := by
    rw [hz2]; unfold Builtin.nextslicecap; rw [if_pos (by omega)]; omega
  rw [run_append_grow (P := Try.prog) w 25 ty 22 i0 (.slice none 0 0) Try.underlying25 hi hz0 b 0 0 [] (by simp) (fun j u hj => by simp at hj) t m c us (by simp [hz1, hul]) hn (by omega) (by omega) e,
    run_append_nil (P := Try.prog) w 25 ty 22 i0 (.slice none 0 0) Try.underlying25 hi hz0 t m c us (by simp [hz1, hul]) hn (by omega) (by omega) (by rw [hz2]; omega)]
  simp

/-- The cells of owned rows. -/
theorem ownR_cells {B : Nat} {w : World} {g m c : Nat} {rows : List (List Int)} (h : OwnR B w (some ⟨g, 0, none⟩) m c rows) (hm : 0 < m) : ∃ us : List Value, us.length = m ∧ ∀ j u, us[j]? = some u → w.cell? ((⟨g, 0, none⟩ : Addr).add j) = some u := by
  obtain ⟨x1, us, x2, xap, x4⟩ := h
  have hul : us.length = m := by have := x2.1; omega
  refine ⟨us, hul, fun j u hj => ?_⟩
  have hjl : j < m := by
    rcases Nat.lt_or_ge j m with h | h
    · exact h
    · rw [List.getElem?_eq_none (by omega)] at hj; cases hj
  have hc : w.cell? ⟨g, j, none⟩ = some u := by
    rcases x2.2 with ⟨_, h3⟩ | ⟨g, c, cur, hv, hb, hh, hc1, hc2, hc3, hc4⟩
    · omega
    · simp only [Value.slice.injEq] at hv
      obtain ⟨hv1, _, _⟩ := hv
      cases hv1
      rw [← hc4, List.getElem?_take_of_lt (by omega), Array.getElem?_toList] at hj
      simp only [World.cell?, hh]
      simpa using hj
  by_cases hj0 : j = 0
  · subst hj0; simpa [Addr.add] using hc
  · simpa [Addr.add, hj0] using hc

theorem run_appendRowsW {B : Nat} {w0 w : World} {ra : Option Addr} {n cap : Nat} {rows : List (List Int)} {g2 m c2 : Nat} {rows2 : List (List Int)} (hown : OwnW B w0 ra n cap rows) (he : Ext w0 w) (hx : OwnR w0.heap.size w (some ⟨g2, 0, none⟩) m c2 rows2) (hm : 0 < m) (hn : n ≤ 4194304) (hml : m ≤ 4194304) (hB : B ≤ w0.heap.size) (ty : TypeId) :
    ∃ g' cap' w', (Builtin.append_ #[25, 25] ty #[.slice ra n cap, .slice (some ⟨g2, 0, none⟩) m c2]).run Try.prog w = .ok (.slice (some ⟨g', 0, none⟩) (n + m) cap') w' ∧
      OwnR B w' (some ⟨g', 0, none⟩) (n + m) cap' (rows ++ rows2) ∧ (∀ W : World, W.heap.size ≤ B → Ext W w → Ext W w') := by
  rcases hown with ⟨rfl, rfl, rfl, g0, rfl⟩ | hown
  · obtain ⟨us, hul, hcs⟩ := ownR_cells hx hm
    obtain ⟨g', cap', w', h1, h2, h4⟩ := run_appendRows (OwnR.nil B w0) he hx hm hn hml hB ty
    exact ⟨g', cap', w', by rw [append_emptyN w _ _ m c2 us ty hul hcs hm hml]; exact h1, h2, h4⟩
  · exact run_appendRows hown he hx hm hn hml hB ty

theorem wpList_appendRowsW {ops : Array Oper} {rest : List Oper} {o : Oper} {a : Act} {Q : Exit → Act → World → Prop} {w0 w : World} (hgd : o.guard = none) (s x : Operand)
    (ho : o.op = .call { callee := .builtin .append, args := #[s, x], argTypes := #[25, 25] })
    {B : Nat} {ra : Option Addr} {n cap : Nat} {rows : List (List Int)} {g2 m c2 : Nat} {rows2 : List (List Int)} (hs : a.eval s = .slice ra n cap) (hx : a.eval x = .slice (some ⟨g2, 0, none⟩) m c2)
    (hown : OwnW B w0 ra n cap rows) (he : Ext w0 w) (hxs : OwnR w0.heap.size w (some ⟨g2, 0, none⟩) m c2 rows2) (hm : 0 < m) (hn : n ≤ 4194304) (hml : m ≤ 4194304) (hB : B ≤ w0.heap.size)
    (h : ∀ g' cap' w', OwnR B w' (some ⟨g', 0, none⟩) (n + m) cap' (rows ++ rows2) → (∀ W : World, W.heap.size ≤ B → Ext W w → Ext W w') →
      wpList Try.prog ops Q rest (a.put o.dst (.slice (some ⟨g', 0, none⟩) (n + m) cap')) w') : wpList Try.prog ops Q (o :: rest) a w := by
  refine wpList_plain hgd fun K hK => ?_
  obtain ⟨g', cap', w', hr, h1, h3⟩ := run_appendRowsW hown he hxs hm hn hml hB o.type
  unfold Oper.wp execOp
  simp only [ho, resolve, invoke, builtin, Sem.run_bind, Sem.run_pure, Result.andThen_ok, List.map_toArray, List.map_cons, List.map_nil, hs, hx, hr]
  exact hK _ _ (h g' cap' w' h1 h3)

theorem run_pushR_at {B : Nat} {w0 w : World} {ra : Option Addr} {n cap : Nat} {rows : List (List Int)} {b : Option Addr} {m c : Nat} {xs : List Int} {g : Nat} (hown : OwnR B w0 ra n cap rows) (he : Ext w0 w) (hc : w.cell? ⟨g, 0, none⟩ = some (.slice b m c)) (hx : OwnC w0.heap.size w b m c xs) (hn : n ≤ 4194304) (hB : B ≤ w0.heap.size) (ty : TypeId) :
    ∃ g' cap' w', (Builtin.append_ #[25, 25] ty #[.slice ra n cap, .slice (some ⟨g, 0, none⟩) 1 1]).run Try.prog w = .ok (.slice (some ⟨g', 0, none⟩) (n + 1) cap') w' ∧
      OwnR B w' (some ⟨g', 0, none⟩) (n + 1) cap' (rows ++ [xs]) ∧ w.grownBy w' (Value.slice ra n cap).ownBlock ∧ (g' = w.heap.size ∨ (Value.slice ra n cap).ownBlock = some g') ∧ (∀ W : World, W.heap.size ≤ B → Ext W w → Ext W w') := by
  obtain ⟨i0, hi, hz0, hz1, hz2⟩ := info_parts Try.infoR
  have hown0 := hown
  obtain ⟨h1, vs, h2, hap, h4⟩ := hown
  have h2' := ownsRow_ext h2 he
  have hvl : vs.length = n := by have := h2.1; omega
  obtain ⟨v', w', hr, h5, h6, _, hbk⟩ := run_append_own_at (P := Try.prog) w B 25 ty 22 i0 (.slice none 0 0) 1 24 Try.underlying25 hi hz0 hz1 hz2 rfl (by decide) (.slice ra n cap) n vs h2'
    ⟨g, 0, none⟩ 1 1 [.slice b m c] rfl (fun j u hj => by
      cases j with
      | zero => simp only [List.getElem?_cons_zero, Option.some.injEq] at hj; subst hj; simpa [Addr.add] using hc
      | succ j => simp at hj) (fun u hu => by simp only [List.mem_singleton] at hu; subst hu; rfl) (by unfold maxLen; omega) (by omega) (Nat.le_trans hB he.size)
  have form : ∃ g cap, v' = .slice (some ⟨g, 0, none⟩) (n + 1) cap := by
    rcases h5.2 with ⟨_, h3⟩ | ⟨g, c, cur, hv, _⟩
    · omega
    · exact ⟨g, c, hv⟩
  obtain ⟨g', cap', rfl⟩ := form
  refine ⟨g', cap', w', hr, ⟨by simp [h1], vs ++ [.slice b m c], h5, ?_, fun i hin => ?_⟩, h6, hbk.elim (fun h => .inr h.symm) (fun h => .inl (Option.some.inj h)), fun W hW hE => hE.grown h6 fun k hk => Nat.le_trans hW (hown0.blk k hk)⟩
  · intro i k g1 n1 c1 n2 c2 hik hi hk
    have old : ∀ l n3 c3, l < n → vs[l]? = some (.slice (some ⟨g1, 0, none⟩) n3 c3) → g1 < w0.heap.size := fun l n3 c3 hl e => by
      obtain ⟨ai, ci, h5, h6⟩ := h4 l hl
      rw [h5] at e
      simp only [Option.some.injEq, Value.slice.injEq] at e
      exact (h6.base_of g1 e.1).2
    have new : (some (Value.slice b m c)) = some (.slice (some ⟨g1, 0, none⟩) n1 c1) ∨ (some (Value.slice b m c)) = some (.slice (some ⟨g1, 0, none⟩) n2 c2) → w0.heap.size ≤ g1 := fun e => by
      rcases e with e | e
      all_goals
        simp only [Option.some.injEq, Value.slice.injEq] at e
        exact (hx.base_of g1 e.1).1
    rcases Nat.lt_trichotomy i n with li | li | li
    · rw [List.getElem?_append_left (by omega)] at hi
      rcases Nat.lt_trichotomy k n with lk | lk | lk
      · rw [List.getElem?_append_left (by omega)] at hk
        exact hap i k g1 _ _ _ _ hik hi hk
      · rw [lk, ← hvl, List.getElem?_concat_length] at hk
        have := new (.inr hk); have := old i _ _ li hi; omega
      · rw [List.getElem?_eq_none (by simp; omega)] at hk; cases hk
    · rw [li, ← hvl, List.getElem?_concat_length] at hi
      rcases Nat.lt_trichotomy k n with lk | lk | lk
      · rw [List.getElem?_append_left (by omega)] at hk
        have := new (.inl hi); have := old k _ _ lk hk; omega
      · omega
      · rw [List.getElem?_eq_none (by simp; omega)] at hk; cases hk
    · rw [List.getElem?_eq_none (by simp; omega)] at hi; cases hi
  · by_cases hlt : i < n
    · obtain ⟨ai, ci, h7, h8⟩ := h4 i hlt
      have e : nthR (rows ++ [xs]) i = nthR rows i := by simp [nthR, List.getElem?_append_left (show i < rows.length by omega)]
      rw [e]
      exact ⟨ai, ci, by rw [List.getElem?_append_left (by omega)]; exact h7, (h8.ext he).grown h6 (own_apart h2' (h8.ext he))⟩
    · obtain rfl : i = n := by omega
      have e : nthR (rows ++ [xs]) i = xs := by simp [nthR, ← h1]
      rw [e, hx.1]
      exact ⟨b, c, by rw [← hvl]; simp, (hx.mono hB).grown h6 (own_apart h2' hx)⟩

theorem wpList_pushR_at {ops : Array Oper} {rest : List Oper} {o : Oper} {a : Act} {Q : Exit → Act → World → Prop} {w0 w : World} (hgd : o.guard = none) (s x : Operand)
    (ho : o.op = .call { callee := .builtin .append, args := #[s, x], argTypes := #[25, 25] })
    {B : Nat} {ra : Option Addr} {n cap : Nat} {rows : List (List Int)} {b : Option Addr} {m c : Nat} {xs : List Int} {g : Nat} (hs : a.eval s = .slice ra n cap) (hx : a.eval x = .slice (some ⟨g, 0, none⟩) 1 1)
    (hown : OwnR B w0 ra n cap rows) (he : Ext w0 w) (hxs : OwnC w0.heap.size w b m c xs) (hc : w.cell? ⟨g, 0, none⟩ = some (.slice b m c)) (hn : n ≤ 4194304) (hB : B ≤ w0.heap.size)
    (h : ∀ g' cap' w', OwnR B w' (some ⟨g', 0, none⟩) (n + 1) cap' (rows ++ [xs]) → w.grownBy w' (Value.slice ra n cap).ownBlock → (g' = w.heap.size ∨ (Value.slice ra n cap).ownBlock = some g') → (∀ W : World, W.heap.size ≤ B → Ext W w → Ext W w') →
      wpList Try.prog ops Q rest (a.put o.dst (.slice (some ⟨g', 0, none⟩) (n + 1) cap')) w') : wpList Try.prog ops Q (o :: rest) a w := by
  refine wpList_plain hgd fun K hK => ?_
  obtain ⟨g', cap', w', hr, h1, h2, h2b, h3⟩ := run_pushR_at hown he hc hxs hn hB o.type
  unfold Oper.wp execOp
  simp only [ho, resolve, invoke, builtin, Sem.run_bind, Sem.run_pure, Result.andThen_ok, List.map_toArray, List.map_cons, List.map_nil, hs, hx, hr]
  exact hK _ _ (h g' cap' w' h1 h2 h2b h3)

/-- Owned rows stay, where another list of rows is grown. -/
theorem OwnR.grown2 {B B2 : Nat} {w w' : World} {a ra : Option Addr} {n cap m c : Nat} {rows rows2 : List (List Int)} (h : OwnR B w a n cap rows) (h2 : OwnR B2 w ra m c rows2) (hg : w.grownBy w' (Value.slice ra m c).ownBlock) (hne : ∀ g, a = some ⟨g, 0, none⟩ → (Value.slice ra m c).ownBlock ≠ some g) : OwnR B w' a n cap rows := by
  have hlt := h.base_of
  obtain ⟨h1, vs, hv, hap, h4⟩ := h
  obtain ⟨_, us, hu, _⟩ := h2
  refine ⟨h1, vs, ⟨hv.1, ?_⟩, hap, fun i hi => ?_⟩
  · rcases hv.2 with h3 | ⟨g, c, cur, hv, hb, hh, h4⟩
    · exact .inl h3
    · refine .inr ⟨g, c, cur, hv, hb, ?_, h4⟩
      simp only [Value.slice.injEq] at hv
      rw [hg.block g (hlt g hv.1).2 (fun e => hne g hv.1 e.symm)]; exact hh
  · obtain ⟨ai, ci, h5, h6⟩ := h4 i hi
    exact ⟨ai, ci, h5, h6.grown hg (own_apart hu h6)⟩

/-! ### Sums of matrices -/
def sumM (p : Int) (A B : List (List Int)) (k : Int) (m n : Nat) : List (List Int) := (List.range n).map fun i => plusL p (nthR A i) (nthR B i) k m
theorem sumM_succ (p : Int) (A B : List (List Int)) (k : Int) (m n : Nat) : sumM p A B k m (n + 1) = sumM p A B k m n ++ [plusL p (nthR A n) (nthR B n) k m] := by simp [sumM, List.range_succ]
theorem sumM_len (p : Int) (A B : List (List Int)) (k : Int) (m n : Nat) : (sumM p A B k m n).length = n := by simp [sumM]
theorem sumM_nth {p : Int} {A B : List (List Int)} {k : Int} {m n i : Nat} (h : i < n) : nthR (sumM p A B k m n) i = plusL p (nthR A i) (nthR B i) k m := by
  unfold sumM; rw [nthR_map (by simpa using h)]; simp
theorem sumM_good {p : Int} {A B : List (List Int)} {k : Int} {m n : Nat} (hp : 1 ≤ p) : RowsG p m (sumM p A B k m n) := fun i hi => by
  rw [sumM_len] at hi
  rw [sumM_nth hi]
  exact plus_good hp

end Go.Proofs.Ytnabpmafcflljaa

/-
  A list of the call's own whose rows are only read; appends to it.
  No condition.
-/
namespace Go.Proofs.Ytnabpmafcflljaa
set_option maxRecDepth 100000
open Go.RowKit

/-- A list of the call's own (from block B on); its rows are rows of numbers in blocks of numbers. -/
def OwnVC (C B : Nat) (w : World) (a : Option Addr) (n cap : Nat) (rows : List (List Int)) : Prop :=
  rows.length = n ∧ ∃ vs : List Value, w.ownsRow B 22 1 (.slice a n cap) n vs ∧
    ∀ i, i < n → ∃ ai ci, vs[i]? = some (.slice ai (nthR rows i).length ci) ∧ OwnC C w ai (nthR rows i).length ci (nthR rows i)
abbrev OwnV (B : Nat) := OwnVC 0 B
theorem OwnR.toV {C B : Nat} {w : World} {a : Option Addr} {n cap : Nat} {rows : List (List Int)} (h : OwnR B w a n cap rows) (hC : C ≤ B) : OwnVC C B w a n cap rows := by
  obtain ⟨h1, vs, h2, _, h4⟩ := h
  exact ⟨h1, vs, h2, fun i hi => by
    obtain ⟨ai, ci, h5, h6⟩ := h4 i hi
    exact ⟨ai, ci, h5, h6.mono hC⟩⟩
theorem OwnVC.ext {C B : Nat} {w w' : World} {a : Option Addr} {n cap : Nat} {rows : List (List Int)} (h : OwnVC C B w a n cap rows) (he : Ext w w') : OwnVC C B w' a n cap rows := by
  obtain ⟨h1, vs, h2, h4⟩ := h
  refine ⟨h1, vs, ownsRow_ext h2 he, fun i hi => ?_⟩
  obtain ⟨ai, ci, h5, h6⟩ := h4 i hi
  exact ⟨ai, ci, h5, h6.ext he⟩
theorem OwnVC.blk {C B : Nat} {w : World} {a : Option Addr} {n cap : Nat} {rows : List (List Int)} (h : OwnVC C B w a n cap rows) : ∀ k, (Value.slice a n cap).ownBlock = some k → B ≤ k ∧ k < w.heap.size := by
  intro k hk
  obtain ⟨_, vs, h2, _⟩ := h
  exact h2.lt k hk
theorem OwnVC.rd {C B : Nat} {w : World} {a : Option Addr} {n cap : Nat} {rows : List (List Int)} (h : OwnVC C B w a n cap rows) : RdR w a n rows := by
  obtain ⟨h1, vs, ⟨h2, h3⟩, h4⟩ := h
  refine ⟨h1, fun i hi => ?_⟩
  rcases h3 with ⟨_, h3⟩ | ⟨g, c, cur, hv, hb, hh, hc1, hc2, hc3, hc4⟩
  · omega
  · simp only [Value.slice.injEq] at hv
    obtain ⟨hv1, _, _⟩ := hv
    obtain ⟨ai, ci, h5, h6⟩ := h4 i hi
    refine ⟨g, 0, ai, ci, hv1, ?_, h6.rd⟩
    rw [← hc4, List.getElem?_take_of_lt (by omega), Array.getElem?_toList] at h5
    simp only [World.cell?, hh]
    simpa using h5
/-- The same, or the empty list that was made at the start. -/
def OwnXC (C B : Nat) (w : World) (a : Option Addr) (n cap : Nat) (rows : List (List Int)) : Prop :=
  (n = 0 ∧ cap = 0 ∧ rows = [] ∧ ∃ g, a = some ⟨g, 0, none⟩ ∧ g < w.heap.size) ∨ OwnVC C B w a n cap rows
abbrev OwnX (B : Nat) := OwnXC 0 B
theorem OwnXC.rd {C B : Nat} {w : World} {a : Option Addr} {n cap : Nat} {rows : List (List Int)} (h : OwnXC C B w a n cap rows) : RdR w a n rows := by
  rcases h with ⟨rfl, _, rfl, _⟩ | h
  · exact ⟨rfl, fun i hi => by omega⟩
  · exact h.rd
theorem OwnXC.ext {C B : Nat} {w w' : World} {a : Option Addr} {n cap : Nat} {rows : List (List Int)} (h : OwnXC C B w a n cap rows) (he : Ext w w') : OwnXC C B w' a n cap rows := by
  rcases h with ⟨h1, h2, h3, g, h4, h5⟩ | h
  · exact .inl ⟨h1, h2, h3, g, h4, Nat.lt_of_lt_of_le h5 he.size⟩
  · exact .inr (h.ext he)

theorem run_appendV {C B : Nat} {w : World} {ra : Option Addr} {n cap : Nat} {rows : List (List Int)} {g2 m c2 : Nat} {rows2 : List (List Int)} {us : List Value} (hown : OwnVC C B w ra n cap rows) (hul : us.length = m) (h2l : rows2.length = m) (hcell : ∀ j u, us[j]? = some u → w.cell? ⟨g2, j, none⟩ = some u) (x4 : ∀ i, i < m → ∃ ai ci, us[i]? = some (.slice ai (nthR rows2 i).length ci) ∧ OwnC C w ai (nthR rows2 i).length ci (nthR rows2 i)) (hm : 0 < m) (hn : n ≤ 4194304) (hml : m ≤ 4194304) (hB : B ≤ w.heap.size) (ty : TypeId) :
    ∃ g' cap' w', (Builtin.append_ #[25, 25] ty #[.slice ra n cap, .slice (some ⟨g2, 0, none⟩) m c2]).run Try.prog w = .ok (.slice (some ⟨g', 0, none⟩) (n + m) cap') w' ∧
      OwnVC C B w' (some ⟨g', 0, none⟩) (n + m) cap' (rows ++ rows2) ∧ w.grownBy w' (Value.slice ra n cap).ownBlock ∧ (g' = w.heap.size ∨ (Value.slice ra n cap).ownBlock = some g') ∧ (∀ W : World, W.heap.size ≤ B → Ext W w → Ext W w') := by
  obtain ⟨i0, hi, hz0, hz1, hz2⟩ := info_parts Try.infoR
  have hown0 := hown
  obtain ⟨h1, vs, h2, h4⟩ := hown
  have hvl : vs.length = n := by have := h2.1; omega
  obtain ⟨v', w', hr, h5, h6, _, hbk⟩ := run_append_own_at (P := Try.prog) w B 25 ty 22 i0 (.slice none 0 0) 1 24 Try.underlying25 hi hz0 hz1 hz2 rfl (by decide) (.slice ra n cap) n vs h2
    ⟨g2, 0, none⟩ m c2 us (by omega) (fun j u hj => by
      have := hcell j u hj
      by_cases hj0 : j = 0
      · subst hj0; simpa [Addr.add] using this
      · simpa [Addr.add, hj0] using this) (fun u hu => by
        obtain ⟨j, hj, rfl⟩ := List.getElem_of_mem hu
        obtain ⟨ai, ci, h7, _⟩ := x4 j (by omega)
        rw [List.getElem?_eq_getElem hj] at h7
        rw [Option.some.inj h7]; rfl) (by unfold maxLen; omega) (by omega) hB
  have form : ∃ g cap, v' = .slice (some ⟨g, 0, none⟩) (n + m) cap := by
    rcases h5.2 with ⟨_, h3⟩ | ⟨g, c, cur, hv, _⟩
    · omega
    · exact ⟨g, c, hv⟩
  obtain ⟨g', cap', rfl⟩ := form
  refine ⟨g', cap', w', hr, ⟨by simp [h1, h2l], vs ++ us, h5, fun i hin => ?_⟩, h6, hbk.elim (fun h => .inr h.symm) (fun h => .inl (Option.some.inj h)), fun W hW hE => hE.grown h6 fun k hk => Nat.le_trans hW (hown0.blk k hk).1⟩
  by_cases hlt : i < n
  · obtain ⟨ai, ci, h7, h8⟩ := h4 i hlt
    have e : nthR (rows ++ rows2) i = nthR rows i := by simp [nthR, List.getElem?_append_left (show i < rows.length by omega)]
    rw [e]
    exact ⟨ai, ci, by rw [List.getElem?_append_left (by omega)]; exact h7, h8.grown h6 (own_apart h2 h8)⟩
  · obtain ⟨ai, ci, h7, h8⟩ := x4 (i - n) (by omega)
    have e : nthR (rows ++ rows2) i = nthR rows2 (i - n) := by
      unfold nthR
      rw [List.getD_eq_getElem?_getD, List.getD_eq_getElem?_getD, List.getElem?_append_right (by omega), h1]
    rw [e]
    exact ⟨ai, ci, by rw [List.getElem?_append_right (by omega), hvl]; exact h7, h8.grown h6 (own_apart h2 h8)⟩
theorem OwnVC.nil (C B : Nat) (w : World) : OwnVC C B w none 0 0 [] := by
  obtain ⟨h1, vs, h2, _⟩ := OwnR.nil B w
  exact ⟨h1, vs, h2, fun i hi => absurd hi (Nat.not_lt_zero _)⟩

theorem run_appendX {C B : Nat} {w : World} {ra : Option Addr} {n cap : Nat} {rows : List (List Int)} {g2 m c2 : Nat} {rows2 : List (List Int)} {us : List Value} (hown : OwnXC C B w ra n cap rows) (hul : us.length = m) (h2l : rows2.length = m) (hcell : ∀ j u, us[j]? = some u → w.cell? ⟨g2, j, none⟩ = some u) (x4 : ∀ i, i < m → ∃ ai ci, us[i]? = some (.slice ai (nthR rows2 i).length ci) ∧ OwnC C w ai (nthR rows2 i).length ci (nthR rows2 i)) (hm : 0 < m) (hn : n ≤ 4194304) (hml : m ≤ 4194304) (hB : B ≤ w.heap.size) (ty : TypeId) :
    ∃ g' cap' w' row, (Builtin.append_ #[25, 25] ty #[.slice ra n cap, .slice (some ⟨g2, 0, none⟩) m c2]).run Try.prog w = .ok (.slice (some ⟨g', 0, none⟩) (n + m) cap') w' ∧
      OwnVC C B w' (some ⟨g', 0, none⟩) (n + m) cap' (rows ++ rows2) ∧ w.grownBy w' row ∧ (row = none ∨ OwnVC C B w ra n cap rows ∧ row = (Value.slice ra n cap).ownBlock) ∧ (g' = w.heap.size ∨ row = some g') ∧ (∀ W : World, W.heap.size ≤ B → Ext W w → Ext W w') := by
  rcases hown with ⟨rfl, rfl, rfl, g0, rfl, _⟩ | hown
  · obtain ⟨g', cap', w', h1, h2, h3, h4, h5⟩ := run_appendV (OwnVC.nil C B w) hul h2l hcell x4 hm hn hml hB ty
    refine ⟨g', cap', w', none, ?_, h2, h3, .inl rfl, ?_, h5⟩
    · rw [append_emptyN w _ _ m c2 us ty hul (fun j u hj => by
        have := hcell j u hj
        by_cases hj0 : j = 0
        · subst hj0; simpa [Addr.add] using this
        · simpa [Addr.add, hj0] using this) hm hml]; exact h1
    · rcases h4 with h | h
      · exact .inl h
      · simp [Value.ownBlock] at h
  · obtain ⟨g', cap', w', h1, h2, h3, h4, h5⟩ := run_appendV hown hul h2l hcell x4 hm hn hml hB ty
    exact ⟨g', cap', w', _, h1, h2, h3, .inr ⟨hown, rfl⟩, h4, h5⟩

theorem wpList_appendX {ops : Array Oper} {rest : List Oper} {o : Oper} {a : Act} {Q : Exit → Act → World → Prop} {w : World} (hgd : o.guard = none) (s x : Operand)
    (ho : o.op = .call { callee := .builtin .append, args := #[s, x], argTypes := #[25, 25] })
    {C B : Nat} {ra : Option Addr} {n cap : Nat} {rows : List (List Int)} {g2 m c2 : Nat} {rows2 : List (List Int)} {us : List Value} (hs : a.eval s = .slice ra n cap) (hx : a.eval x = .slice (some ⟨g2, 0, none⟩) m c2)
    (hown : OwnXC C B w ra n cap rows) (hul : us.length = m) (h2l : rows2.length = m) (hcell : ∀ j u, us[j]? = some u → w.cell? ⟨g2, j, none⟩ = some u) (x4 : ∀ i, i < m → ∃ ai ci, us[i]? = some (.slice ai (nthR rows2 i).length ci) ∧ OwnC C w ai (nthR rows2 i).length ci (nthR rows2 i)) (hm : 0 < m) (hn : n ≤ 4194304) (hml : m ≤ 4194304) (hB : B ≤ w.heap.size)
    (h : ∀ g' cap' w' row, OwnVC C B w' (some ⟨g', 0, none⟩) (n + m) cap' (rows ++ rows2) → w.grownBy w' row → (row = none ∨ OwnVC C B w ra n cap rows ∧ row = (Value.slice ra n cap).ownBlock) → (g' = w.heap.size ∨ row = some g') → (∀ W : World, W.heap.size ≤ B → Ext W w → Ext W w') →
      wpList Try.prog ops Q rest (a.put o.dst (.slice (some ⟨g', 0, none⟩) (n + m) cap')) w') : wpList Try.prog ops Q (o :: rest) a w := by
  refine wpList_plain hgd fun K hK => ?_
  obtain ⟨g', cap', w', row, hr, h1, h2, h3, h4, h5⟩ := run_appendX (c2 := c2) hown hul h2l hcell x4 hm hn hml hB o.type
  unfold Oper.wp execOp
  simp only [ho, resolve, invoke, builtin, Sem.run_bind, Sem.run_pure, Result.andThen_ok, List.map_toArray, List.map_cons, List.map_nil, hs, hx, hr]
  exact hK _ _ (h g' cap' w' row h1 h2 h3 h4 h5)

/-- Owned rows stay, where another block is grown. -/
theorem OwnR.grown3 {B : Nat} {w w' : World} {g n cap : Nat} {rows : List (List Int)} {row : Option Nat} (h : OwnR B w (some ⟨g, 0, none⟩) n cap rows) (hg : w.grownBy w' row) (hne : row ≠ some g) (hin : ∀ i ai ci, i < n → OwnC B w ai (nthR rows i).length ci (nthR rows i) → ∀ k, ai = some ⟨k, 0, none⟩ → row ≠ some k) : OwnR B w' (some ⟨g, 0, none⟩) n cap rows := by
  have hlt := h.base_of g rfl
  obtain ⟨h1, vs, hv, hap, h4⟩ := h
  refine ⟨h1, vs, ⟨hv.1, ?_⟩, hap, fun i hi => ?_⟩
  · rcases hv.2 with h3 | ⟨g1, c, cur, hv, hb, hh, h4⟩
    · exact .inl h3
    · refine .inr ⟨g1, c, cur, hv, hb, ?_, h4⟩
      simp only [Value.slice.injEq, Option.some.injEq, Addr.mk.injEq] at hv
      obtain ⟨⟨rfl, _⟩, _⟩ := hv
      rw [hg.block g hlt.2 (fun e => hne e.symm)]; exact hh
  · obtain ⟨ai, ci, h5, h6⟩ := h4 i hi
    exact ⟨ai, ci, h5, h6.grown hg (hin i ai ci hi h6)⟩

/-- A matrix from before a world, or one of the call's own in another block than g. -/
def MatX (W w : World) (g : Nat) (a : Option Addr) (d cap : Nat) (rows : List (List Int)) : Prop :=
  RdR W a d rows ∨ ∃ gm, a = some ⟨gm, 0, none⟩ ∧ gm ≠ g ∧ OwnR W.heap.size w (some ⟨gm, 0, none⟩) d cap rows
theorem MatX.rd {W w : World} {g : Nat} {a : Option Addr} {d cap : Nat} {rows : List (List Int)} (h : MatX W w g a d cap rows) (he : Ext W w) : RdR w a d rows := by
  rcases h with h | ⟨gm, rfl, _, h⟩
  · exact h.ext he
  · exact h.rd
theorem MatX.ext {W w w' : World} {g : Nat} {a : Option Addr} {d cap : Nat} {rows : List (List Int)} (h : MatX W w g a d cap rows) (he : Ext w w') : MatX W w' g a d cap rows := by
  rcases h with h | ⟨gm, h1, h2, h⟩
  · exact .inl h
  · exact .inr ⟨gm, h1, h2, h.ext he⟩
theorem MatX.app {W w w' : World} {g g' n c : Nat} {a : Option Addr} {d cap : Nat} {rows out : List (List Int)} {row : Option Nat} {C B : Nat} (h : MatX W w g a d cap rows) (hg : w.grownBy w' row) (hr : row = none ∨ OwnVC C B w (some ⟨g, 0, none⟩) n c out ∧ row = (Value.slice (some ⟨g, 0, none⟩) n c).ownBlock) (hn : g' = w.heap.size ∨ row = some g') : MatX W w' g' a d cap rows := by
  rcases h with h | ⟨gm, rfl, h2, h⟩
  · exact .inl h
  · have hb := (h.base_of gm rfl).2
    have hrow : row = none ∨ row = some g := by
      rcases hr with hr | ⟨hv, hr⟩
      · exact .inl hr
      · right; rw [hr]
        by_cases hc : c = 0
        · obtain ⟨_, vs, h3, _⟩ := hv
          rcases h3.2 with ⟨h3, _⟩ | ⟨g1, c1, cur, h3, _⟩
          · cases h3
          · rfl
        · rfl
    refine .inr ⟨gm, rfl, ?_, h.grown3 hg ?_ ?_⟩
    · rcases hn with hn | hn
      · omega
      · rcases hrow with e | e
        · rw [e] at hn; cases hn
        · rw [e] at hn; cases hn; exact h2
    · rcases hrow with e | e
      · rw [e]; exact fun h => by cases h
      · rw [e]; exact fun h => h2 (Option.some.inj h).symm
    · intro i ai ci _ hi k hk
      rcases hr with hr | ⟨hv, hr⟩
      · rw [hr]; exact fun h => by cases h
      · obtain ⟨_, vs, h3, _⟩ := hv
        rw [hr]; exact own_apart h3 hi k hk

/-- A list that can be read, whose rows are of the call's own. -/
def RdO (B : Nat) (w : World) (a : Option Addr) (n : Nat) (rows : List (List Int)) : Prop :=
  rows.length = n ∧ ∀ i, i < n → ∃ b off ai ci, a = some ⟨b, off, none⟩ ∧ w.cell? ⟨b, off + i, none⟩ = some (.slice ai (nthR rows i).length ci) ∧ OwnC B w ai (nthR rows i).length ci (nthR rows i)
theorem RdO.ext {B : Nat} {w w' : World} {a : Option Addr} {n : Nat} {rows : List (List Int)} (h : RdO B w a n rows) (he : Ext w w') : RdO B w' a n rows :=
  ⟨h.1, fun i hi => let ⟨b, off, ai, ci, ha, hc, hr⟩ := h.2 i hi; ⟨b, off, ai, ci, ha, he.cell hc, hr.ext he⟩⟩
theorem RdO.rd {B : Nat} {w : World} {a : Option Addr} {n : Nat} {rows : List (List Int)} (h : RdO B w a n rows) : RdR w a n rows :=
  ⟨h.1, fun i hi => let ⟨b, off, ai, ci, ha, hc, hr⟩ := h.2 i hi; ⟨b, off, ai, ci, ha, hc, hr.rd⟩⟩
theorem RdO.nil (B : Nat) (w : World) (a : Option Addr) : RdO B w a 0 [] := ⟨rfl, fun _ hi => absurd hi (Nat.not_lt_zero _)⟩
theorem OwnVC.ro {C B : Nat} {w : World} {a : Option Addr} {n cap : Nat} {rows : List (List Int)} (h : OwnVC C B w a n cap rows) : RdO C w a n rows := by
  obtain ⟨h1, vs, ⟨h2, h3⟩, h4⟩ := h
  refine ⟨h1, fun i hi => ?_⟩
  rcases h3 with ⟨_, h3⟩ | ⟨g, c, cur, hv, hb, hh, hc1, hc2, hc3, hc4⟩
  · omega
  · simp only [Value.slice.injEq] at hv
    obtain ⟨hv1, _, _⟩ := hv
    obtain ⟨ai, ci, h5, h6⟩ := h4 i hi
    refine ⟨g, 0, ai, ci, hv1, ?_, h6⟩
    rw [← hc4, List.getElem?_take_of_lt (by omega), Array.getElem?_toList] at h5
    simp only [World.cell?, hh]
    simpa using h5
theorem OwnXC.ro {C B : Nat} {w : World} {a : Option Addr} {n cap : Nat} {rows : List (List Int)} (h : OwnXC C B w a n cap rows) : RdO C w a n rows := by
  rcases h with ⟨rfl, _, rfl, _⟩ | h
  · exact RdO.nil _ _ _
  · exact h.ro
end Go.Proofs.Ytnabpmafcflljaa

/-
  Sums and multiples of elements in the reference: contracts.
  No condition.
-/
namespace Go.Proofs.Ytnabpmafcflljaa
set_option maxRecDepth 100000
open Go.RowKit

set_option maxHeartbeats 400000 in
theorem s_mod (p n : Int) (w : World) (h1 : 1 ≤ p) (h2 : p ≤ 1000) :
    Calls Try.prog 34 #[.int .i64 p, .int .i64 n] w fun e w' => e = .returned (.int .i64 (n % p)) ∧ Ext w w' := by
  have HE := Lib.hid (num_eq (n := n) h1 h2)
  have hpz : ¬ p = 0 := by omega
  go_enter Try.func34, Try.ntmps34
  go_wp2
  go_ret
  exact ⟨ret_int HE.out, Ext.refl _⟩
set_option maxHeartbeats 1000000 in
theorem s_scale11 (p : Int) (ax : Option Addr) (n cx : Nat) (x : List Int) (k : Int) (w : World) (hp1 : 3 ≤ p) (hp2 : p ≤ 1000) (hk : -1000 ≤ k ∧ k ≤ 1000) (hn : n ≤ 4194303) (hx : RdC w ax n x) (hgx : Good p n x) :
    Calls Try.prog 65 #[.int .i64 p, .int .i64 k, .slice ax n cx] w fun e w' => ∃ g rc, e = .returned (.slice (some ⟨g, 0, none⟩) n rc) ∧ OwnC w.heap.size w' (some ⟨g, 0, none⟩) n rc (scaleL p x k n) ∧ Ext w w' := by
  have HX := Lib.hid hx
  have HGX := Lib.hid hgx
  clear hx hgx
  go_enter Try.func65, Try.ntmps65
  go_wp2_with (fail)
  go_loopw [7, 8] (fun v i wr => ∃ (j g rc : Nat), j ≤ n ∧ i = .int .i64 j ∧ v = .slice (some ⟨g, 0, none⟩) j rc ∧ OwnC w.heap.size wr (some ⟨g, 0, none⟩) j rc (scaleL p x k j) ∧ Ext w wr) (fun _ i _ => n - (intOf i).toNat)
  case atStart => exact ⟨0, _, _, Nat.zero_le _, rfl, rfl, own_empty w, ext_alloc _ _⟩
  case round =>
    obtain ⟨j, g, rc, hj, rfl, rfl, hown, hext⟩ := hrel
    have HOwn := Lib.hid hown
    have HExt := Lib.hid hext
    clear hown hext
    by_cases hlt : j < n
    · obtain ⟨bx, ox, rfl, hcx⟩ := HX.out.2 j hlt
      have hcx' := HExt.out.cell hcx
      have hbx := HGX.out.2 j hlt
      have hkb := kmul_bd hk hbx.1 (show nth x j ≤ 1000 by omega)
      have hw1 : IntKind.i64.wrap (k * nth x j) = k * nth x j := IntWalk.i64_in _ (by omega)
      have HP := Lib.hid (show (k * nth x j) % p = scaleN p x k j by unfold scaleN; rw [Int.mul_comm])
      clear hcx
      go_wp2_with (first | (go_at_call 34; refine (s_mod _ _ _ (by omega) hp2).mono ?_; rintro e w2 ⟨rfl, g2⟩; rw [HP.out]; have G2 := Lib.hid g2; clear g2) | (at_builtin; refine wpList_push rfl (.tmp 16) (.tmp 25) rfl rfl rfl (v := scaleN p x k j) (HOwn.out.ext (G2.out.trans (ext_alloc _ _))) ?hc ?hn ?hB ?hk))
      case hc => simp
      case hn => omega
      case hB => have hz := (HExt.out.trans G2.out).size'; simp; omega
      case hk =>
        intro g' cap' w3 ho3 hg3 he3
        have HO3 := Lib.hid ho3
        have HE3 := Lib.hid (he3 w (Nat.le_refl _) ((HExt.out.trans G2.out).alloc _))
        clear ho3 hg3 he3
        go_wp2_with (fail)
        go_roundw
        case rel => exact ⟨j + 1, g', cap', by omega, by go_num, rfl, by rw [scaleL_succ]; exact HO3.out, HE3.out⟩
        case measure => simp [intOf]; omega
    · go_wp2_with (fail)
      go_ret
      obtain rfl : j = n := by omega
      exact ⟨g, rc, rfl, HOwn.out, HExt.out⟩
set_option maxHeartbeats 1000000 in
theorem s_add11 (p : Int) (ax ay : Option Addr) (n cx cy : Nat) (x y : List Int) (w : World) (hp1 : 3 ≤ p) (hp2 : p ≤ 1000) (hn : n ≤ 4194303) (hx : RdC w ax n x) (hy : RdC w ay n y) (hgx : ∀ i, i < n → 0 ≤ nth x i ∧ nth x i ≤ 1000) (hgy : Good p n y) :
    Calls Try.prog 64 #[.int .i64 p, .slice ax n cx, .slice ay n cy] w fun e w' => ∃ g rc, e = .returned (.slice (some ⟨g, 0, none⟩) n rc) ∧ OwnC w.heap.size w' (some ⟨g, 0, none⟩) n rc (plusL p x y 1 n) ∧ Ext w w' := by
  have HX := Lib.hid hx
  have HY := Lib.hid hy
  have HGX := Lib.hid hgx
  have HGY := Lib.hid hgy
  clear hx hy hgx hgy
  go_enter Try.func64, Try.ntmps64
  go_wp2_with (fail)
  go_loopw [7, 8] (fun v i wr => ∃ (j g rc : Nat), j ≤ n ∧ i = .int .i64 j ∧ v = .slice (some ⟨g, 0, none⟩) j rc ∧ OwnC w.heap.size wr (some ⟨g, 0, none⟩) j rc (plusL p x y 1 j) ∧ Ext w wr) (fun _ i _ => n - (intOf i).toNat)
  case atStart => exact ⟨0, _, _, Nat.zero_le _, rfl, rfl, own_empty w, ext_alloc _ _⟩
  case round =>
    obtain ⟨j, g, rc, hj, rfl, rfl, hown, hext⟩ := hrel
    have HOwn := Lib.hid hown
    have HExt := Lib.hid hext
    clear hown hext
    by_cases hlt : j < n
    · obtain ⟨bx, ox, rfl, hcx⟩ := HX.out.2 j hlt
      obtain ⟨by', oy, rfl, hcy⟩ := HY.out.2 j hlt
      have Hcx := Lib.hid ((HExt.out.trans (ext_drew _)).cell hcx)
      have Hcy := Lib.hid ((HExt.out.trans (ext_drew _)).cell hcy)
      have hbx := HGX.out j hlt
      have hby := HGY.out.2 j hlt
      have hw2 : IntKind.i64.wrap (nth x j + nth y j) = nth x j + nth y j := IntWalk.i64_in _ (by omega)
      have HP := Lib.hid (show (nth x j + nth y j) % p = plusN p x y 1 j by unfold plusN; rw [Int.one_mul])
      clear hcx hcy
      go_wp2_with (fail)
      refine wp_region_lex_tail 13 [(11, .val (.int .i64 (plusN p x y 1 j))), (12, .one (plusN p x y 1 j))] (by kernel_rfl) (by kernel_rfl) ?_
      simp only [List.take, List.drop]
      repeat' first | (refine LexW.pure (v := ?_) rfl rfl (fun w1 he => ?_) ?_; rotate_left; ( have e3 := he.cell Hcx.out; have e4 := he.cell Hcy.out; go_simp; rfl); simp only [Act.put, List.setIfInBounds_toArray, List.set_cons_zero, List.set_cons_succ]) | (refine LexW.call (f := ?_) (args := ?_) rfl rfl (fun w1 => ?_) (fun w1 he hdep => ?_) ?_; rotate_left 2; (go_simp; refine ⟨?_, ?_⟩ <;> rfl); ( rw [← HP.out]; exact s_mod _ _ _ (by omega) hp2); simp only [Act.put, List.setIfInBounds_toArray, List.set_cons_zero, List.set_cons_succ]) | ((refine LexW.rel rfl rfl (fun w1 he hdep => ?_) (fun v hv => ?_); ( exact ⟨.slice (some ⟨w1.heap.size, 0, none⟩) 1 1, w1.alloc (.cells #[.int .i64 (plusN p x y 1 j)] 2), (by go_simp), ext_alloc _ _, _, rfl, (by simp)⟩); simp only [Act.put, List.setIfInBounds_toArray, List.set_cons_zero, List.set_cons_succ]); obtain ⟨_, g9, rfl, _⟩ := hv)
      refine LexW.nil (fun w2 he hkn => ?_)
      obtain ⟨_, q9, r9⟩ : (SPred.one (plusN p x y 1 j)).holds (.slice (some ⟨g9, 0, none⟩) 1 1) w2 := hkn (12, _) (by simp)
      cases q9
      have G2 := Lib.hid ((ext_drew _).trans he)
      have R9 := Lib.hid r9
      clear he hkn r9
      go_wp2_with (at_builtin; refine wpList_push rfl (.tmp 16) (.tmp 28) rfl rfl rfl (v := plusN p x y 1 j) (HOwn.out.ext G2.out) ?hc ?hn ?hB ?hk)
      case hc => exact R9.out
      case hn => omega
      case hB => exact (HExt.out.trans G2.out).size'
      case hk =>
        intro g' cap' w3 ho3 hg3 he3
        have HO3 := Lib.hid ho3
        have HE3 := Lib.hid (he3 w (Nat.le_refl _) (HExt.out.trans G2.out))
        clear ho3 hg3 he3
        go_wp2_with (fail)
        go_roundw
        case rel => exact ⟨j + 1, g', cap', by omega, by go_num, rfl, by rw [plusL_succ]; exact HO3.out, HE3.out⟩
        case measure => simp [intOf]; omega
    · go_wp2_with (fail)
      go_ret
      obtain rfl : j = n := by omega
      exact ⟨g, rc, rfl, HOwn.out, HExt.out⟩
theorem scale_plus {p : Int} {x y : List Int} {n : Nat} : plusL p x (scaleL p y (p - 1) n) 1 n = plusL p x y (-1) n := by
  unfold plusL
  refine List.map_congr_left fun i hi => ?_
  have hi' : i < n := List.mem_range.1 hi
  unfold plusN
  rw [scaleL_nth hi', scaleN, Int.one_mul, Int.add_emod_emod, show nth y i * (p - 1) = -1 * nth y i + p * nth y i by rw [Int.mul_sub, Int.mul_comm p]; omega, ← Int.add_assoc, Int.add_mul_emod_self_left]
set_option maxHeartbeats 400000 in
theorem s_minus11 (p : Int) (ax ay : Option Addr) (n cx cy : Nat) (x y : List Int) (w : World) (hp1 : 3 ≤ p) (hp2 : p ≤ 1000) (hn : n ≤ 4194303) (hx : RdC w ax n x) (hy : RdC w ay n y) (hgx : ∀ i, i < n → 0 ≤ nth x i ∧ nth x i ≤ 1000) (hgy : Good p n y) :
    Calls Try.prog 145 #[.int .i64 p, .slice ax n cx, .slice ay n cy] w fun e w' => ∃ g rc, e = .returned (.slice (some ⟨g, 0, none⟩) n rc) ∧ OwnC w.heap.size w' (some ⟨g, 0, none⟩) n rc (plusL p x y (-1) n) ∧ Ext w w' := by
  have hw1 : IntKind.i64.wrap (p - 1) = p - 1 := IntWalk.i64_in _ (by omega)
  have HX := Lib.hid hx
  have HY := Lib.hid hy
  have HGX := Lib.hid hgx
  have HGY := Lib.hid hgy
  clear hx hy hgx hgy
  go_enter Try.func145, Try.ntmps145
  go_wp2_with (first | (go_at_call 65; refine (s_scale11 p ay n cy y (p - 1) _ hp1 hp2 (by omega) hn HY.out HGY.out).mono ?_; rintro e w1 ⟨g1, r1, rfl, ho1, x1⟩; have HO1 := Lib.hid ho1; have X1 := Lib.hid x1; clear ho1 x1) | (go_at_call 64; refine (s_add11 p ax _ n cx _ x (scaleL p y (p - 1) n) _ hp1 hp2 hn (HX.out.ext X1.out) HO1.out.rd HGX.out (scale_good (by omega))).mono ?_; rintro e w2 ⟨g2, r2, rfl, ho2, x2⟩; rw [scale_plus] at ho2; have HO2 := Lib.hid ho2; have X2 := Lib.hid x2; clear ho2 x2))
  go_ret
  exact ⟨g2, r2, rfl, HO2.out.mono X1.out.size, X1.out.trans X2.out⟩
end Go.Proofs.Ytnabpmafcflljaa

/-
  The wedge product, contractions, reverses and duals in plain numbers.
  No condition. No program in sight.
-/
namespace Go.Proofs.Ytnabpmafcflljaa
set_option maxRecDepth 100000
open Go.RowKit

/-! ### Products of parts are associative where their conditions agree -/
/-- The coefficient of a product of parts. -/
def tkI (tk : Nat → Nat → Bool) (a b : Nat) : Int := if tk a b = true then 1 else 0
theorem prodT_nth {p : Int} {qs x y : List Int} {tk : Nat → Nat → Bool} (hp : 1 ≤ p) {k : Nat} (hk : k < 2 ^ qs.length) :
    nth (prodL p qs tk x y) k = (sumN (2 ^ qs.length) fun i => tkI tk i (i ^^^ k) * (nth x i * nth y (i ^^^ k) * facZ qs i (i ^^^ k) qs.length)) % p := by
  rw [prod_nth1 hp hk]
  refine sumN_emod fun i hi => ?_
  unfold tkI
  split
  · rw [Int.one_mul]; exact mul_emod_congr rfl fac_emod
  · rw [Int.zero_mul]
/-- (x 1 y) 2 z = x 3 (y 4 z) -/
theorem prodT_assoc {p : Int} {qs x y z : List Int} {t1 t2 t3 t4 : Nat → Nat → Bool} (hp : 1 ≤ p) (hd : qs.length ≤ 6)
    (ht : ∀ a, a < 2 ^ qs.length → ∀ b, b < 2 ^ qs.length → ∀ c, c < 2 ^ qs.length → (t1 a b && t2 (a ^^^ b) c) = (t4 b c && t3 a (b ^^^ c))) :
    prodL p qs t2 (prodL p qs t1 x y) z = prodL p qs t3 x (prodL p qs t4 y z) := by
  have hN := pow_le64 hd
  have hT : ∀ a, a < 2 ^ qs.length → ∀ b, b < 2 ^ qs.length → ∀ c, c < 2 ^ qs.length → tkI t1 a b * tkI t2 (a ^^^ b) c = tkI t4 b c * tkI t3 a (b ^^^ c) := fun a ha b hb c hc => by
    have := ht a ha b hb c hc
    unfold tkI
    cases h1 : t1 a b <;> cases h2 : t2 (a ^^^ b) c <;> cases h3 : t4 b c <;> cases h4 : t3 a (b ^^^ c) <;> simp_all
  refine ext_nth (by rw [(prod_good hp).1, (prod_good hp).1]) fun k hk => ?_
  rw [(prod_good hp).1] at hk
  rw [prodT_nth hp hk, prodT_nth hp hk]
  have e1 : ∀ m, m < 2 ^ qs.length → (tkI t2 m (m ^^^ k) * (nth (prodL p qs t1 x y) m * nth z (m ^^^ k) * facZ qs m (m ^^^ k) qs.length)) % p =
      (sumN (2 ^ qs.length) fun a => tkI t1 a (a ^^^ m) * (nth x a * nth y (a ^^^ m) * facZ qs a (a ^^^ m) qs.length) * (tkI t2 m (m ^^^ k) * (nth z (m ^^^ k) * facZ qs m (m ^^^ k) qs.length))) % p := fun m hm => by
    rw [prodT_nth hp hm, sumN_mulr, Int.mul_assoc (_ % p), Int.mul_left_comm]
    exact mul_emod_congr (Int.emod_emod _ _) rfl
  have e2 : ∀ a, a < 2 ^ qs.length → (tkI t3 a (a ^^^ k) * (nth x a * nth (prodL p qs t4 y z) (a ^^^ k) * facZ qs a (a ^^^ k) qs.length)) % p =
      (sumN (2 ^ qs.length) fun m => tkI t1 a (a ^^^ m) * (nth x a * nth y (a ^^^ m) * facZ qs a (a ^^^ m) qs.length) * (tkI t2 m (m ^^^ k) * (nth z (m ^^^ k) * facZ qs m (m ^^^ k) qs.length))) % p := fun a ha => by
    rw [prodT_nth hp (Nat.xor_lt_two_pow ha hk), ← sumN_xor hd ha]
    have : (tkI t3 a (a ^^^ k) * (nth x a * ((sumN (2 ^ qs.length) fun m => tkI t4 (a ^^^ m) (a ^^^ m ^^^ (a ^^^ k)) * (nth y (a ^^^ m) * nth z (a ^^^ m ^^^ (a ^^^ k)) * facZ qs (a ^^^ m) (a ^^^ m ^^^ (a ^^^ k)) qs.length)) % p) * facZ qs a (a ^^^ k) qs.length)) % p =
        (tkI t3 a (a ^^^ k) * nth x a * (sumN (2 ^ qs.length) fun m => tkI t4 (a ^^^ m) (a ^^^ m ^^^ (a ^^^ k)) * (nth y (a ^^^ m) * nth z (a ^^^ m ^^^ (a ^^^ k)) * facZ qs (a ^^^ m) (a ^^^ m ^^^ (a ^^^ k)) qs.length)) * facZ qs a (a ^^^ k) qs.length) % p := by
      rw [← Int.mul_assoc, ← Int.mul_assoc]
      exact mul_emod_congr (mul_emod_congr rfl (Int.emod_emod _ _)) rfl
    rw [this, ← sumN_mul, ← sumN_mulr]
    congr 1
    refine sumN_congr fun m hm => ?_
    rw [xor_cancel]
    have ham := Nat.xor_lt_two_pow ha hm
    have hmk := Nat.xor_lt_two_pow hm hk
    have hc := facZ_cocycle (qs := qs) (a := a) (b := a ^^^ m) (c := m ^^^ k) (by omega) (Nat.lt_of_lt_of_le ham hN) qs.length hd
    have hT' := hT a ha (a ^^^ m) ham (m ^^^ k) hmk
    have x1 : a ^^^ (a ^^^ m) = m := by rw [← Nat.xor_assoc, Nat.xor_self, Nat.zero_xor]
    have x2 : a ^^^ m ^^^ (m ^^^ k) = a ^^^ k := by rw [Nat.xor_assoc, ← Nat.xor_assoc m m k, Nat.xor_self, Nat.zero_xor]
    rw [x1, x2] at hc hT'
    rw [show tkI t1 a (a ^^^ m) * (nth x a * nth y (a ^^^ m) * facZ qs a (a ^^^ m) qs.length) * (tkI t2 m (m ^^^ k) * (nth z (m ^^^ k) * facZ qs m (m ^^^ k) qs.length)) = nth x a * nth y (a ^^^ m) * nth z (m ^^^ k) * ((facZ qs a (a ^^^ m) qs.length * facZ qs m (m ^^^ k) qs.length) * (tkI t1 a (a ^^^ m) * tkI t2 m (m ^^^ k))) by ac_rfl, hc, hT']
    ac_rfl
  rw [sumN_emod e1, sumN_emod e2, sumN_swap]

theorem bit_all {a b : Nat} (ha : a < 64) (hb : b < 64) (h : ∀ i, i < 6 → a.testBit i = b.testBit i) : a = b := by
  apply Nat.eq_of_testBit_eq
  intro i
  by_cases hi : i < 6
  · exact h i hi
  · rw [Nat.testBit_lt_two_pow (Nat.lt_of_lt_of_le ha (by exact Nat.pow_le_pow_right (by omega) (show 6 ≤ i by omega) : 2 ^ 6 ≤ 2 ^ i)), Nat.testBit_lt_two_pow (Nat.lt_of_lt_of_le hb (by exact Nat.pow_le_pow_right (by omega) (show 6 ≤ i by omega) : 2 ^ 6 ≤ 2 ^ i))]
theorem tkW_iff {a b : Nat} : tkW a b = true ↔ ∀ i, (a.testBit i && b.testBit i) = false := by
  unfold tkW
  rw [beq_iff_eq]
  constructor
  · intro h i
    rw [← Nat.testBit_and, h, Nat.zero_testBit]
  · intro h
    apply Nat.eq_of_testBit_eq
    intro i
    rw [Nat.testBit_and, h i, Nat.zero_testBit]
theorem tkL_iff {a b : Nat} : tkL a b = true ↔ ∀ i, a.testBit i = true → b.testBit i = true := by
  unfold tkL
  rw [beq_iff_eq]
  constructor
  · intro h i hi
    have : (a &&& b).testBit i = true := by rw [h]; exact hi
    rw [Nat.testBit_and] at this
    simp_all
  · intro h
    apply Nat.eq_of_testBit_eq
    intro i
    rw [Nat.testBit_and]
    cases ha : a.testBit i
    · rfl
    · rw [h i ha]; rfl
theorem wedge_tk (a b c : Nat) : (tkW a b && tkW (a ^^^ b) c) = (tkW b c && tkW a (b ^^^ c)) := by
  rw [Bool.eq_iff_iff]
  simp only [Bool.and_eq_true, tkW_iff, Nat.testBit_xor]
  constructor
  · rintro ⟨h1, h2⟩
    refine ⟨fun i => ?_, fun i => ?_⟩ <;> (have h3 := h1 i; have h4 := h2 i; revert h3 h4; cases a.testBit i <;> cases b.testBit i <;> cases c.testBit i <;> simp)
  · rintro ⟨h1, h2⟩
    refine ⟨fun i => ?_, fun i => ?_⟩ <;> (have h3 := h1 i; have h4 := h2 i; revert h3 h4; cases a.testBit i <;> cases b.testBit i <;> cases c.testBit i <;> simp)
/-- The wedge product is associative. -/
theorem wedge_assoc {p : Int} {qs x y z : List Int} (hp : 1 ≤ p) (hd : qs.length ≤ 6) : prodL p qs tkW (prodL p qs tkW x y) z = prodL p qs tkW x (prodL p qs tkW y z) :=
  prodT_assoc hp hd fun a _ b _ c _ => wedge_tk a b c
theorem left_tk (a b c : Nat) : (tkW a b && tkL (a ^^^ b) c) = (tkL b c && tkL a (b ^^^ c)) := by
  rw [Bool.eq_iff_iff]
  simp only [Bool.and_eq_true, tkW_iff, tkL_iff, Nat.testBit_xor]
  constructor
  · rintro ⟨h1, h2⟩
    refine ⟨fun i => ?_, fun i => ?_⟩ <;> (have h3 := h1 i; have h4 := h2 i; revert h3 h4; cases a.testBit i <;> cases b.testBit i <;> cases c.testBit i <;> simp)
  · rintro ⟨h1, h2⟩
    refine ⟨fun i => ?_, fun i => ?_⟩ <;> (have h3 := h1 i; have h4 := h2 i; revert h3 h4; cases a.testBit i <;> cases b.testBit i <;> cases c.testBit i <;> simp)
/-- The left contraction of a wedge product. -/
theorem left_wedge {p : Int} {qs x y z : List Int} (hp : 1 ≤ p) (hd : qs.length ≤ 6) : prodL p qs tkL (prodL p qs tkW x y) z = prodL p qs tkL x (prodL p qs tkL y z) :=
  prodT_assoc hp hd fun a _ b _ c _ => left_tk a b c

/-! ### Sums and multiples -/
theorem prod_plus_right {p k : Int} {qs x y z : List Int} {tk : Nat → Nat → Bool} (hp : 1 ≤ p) : prodL p qs tk x (plusL p y z k (2 ^ qs.length)) = plusL p (prodL p qs tk x y) (prodL p qs tk x z) k (2 ^ qs.length) := by
  refine ext_nth (by rw [(prod_good hp).1, plusL_len]) fun i hi => ?_
  rw [(prod_good hp).1] at hi
  rw [plusL_nth hi, prodT_nth hp hi, plusN, prodT_nth hp hi, prodT_nth hp hi, Int.emod_add_emod, Int.add_comm (sumN _ _), ← Int.emod_add_emod, Int.mul_emod, Int.emod_emod, ← Int.mul_emod, Int.emod_add_emod, ← sumN_mul, ← sumN_add]
  refine sumN_emod fun a ha => ?_
  rw [plusL_nth (Nat.xor_lt_two_pow ha hi), plusN]
  have : ∀ u v f s : Int, (s * (u * ((v) % p) * f)) % p = (s * (u * v * f)) % p := fun u v f s => mul_emod_congr rfl (mul_emod_congr (mul_emod_congr rfl (Int.emod_emod _ _)) rfl)
  rw [this]
  congr 1
  rw [Int.mul_add, Int.add_mul, Int.mul_add, Int.add_comm]
  congr 1
  ac_rfl
theorem prod_plus_left {p k : Int} {qs x y z : List Int} {tk : Nat → Nat → Bool} (hp : 1 ≤ p) : prodL p qs tk (plusL p x y k (2 ^ qs.length)) z = plusL p (prodL p qs tk x z) (prodL p qs tk y z) k (2 ^ qs.length) := by
  refine ext_nth (by rw [(prod_good hp).1, plusL_len]) fun i hi => ?_
  rw [(prod_good hp).1] at hi
  rw [plusL_nth hi, prodT_nth hp hi, plusN, prodT_nth hp hi, prodT_nth hp hi, Int.emod_add_emod, Int.add_comm (sumN _ _), ← Int.emod_add_emod, Int.mul_emod, Int.emod_emod, ← Int.mul_emod, Int.emod_add_emod, ← sumN_mul, ← sumN_add]
  refine sumN_emod fun a ha => ?_
  rw [plusL_nth ha, plusN]
  have : ∀ u v f s : Int, (s * (v % p * u * f)) % p = (s * (v * u * f)) % p := fun u v f s => mul_emod_congr rfl (mul_emod_congr (mul_emod_congr (Int.emod_emod _ _) rfl) rfl)
  rw [this]
  congr 1
  rw [Int.add_mul, Int.add_mul, Int.mul_add, Int.add_comm]
  congr 1
  ac_rfl

end Go.Proofs.Ytnabpmafcflljaa

/-
  Matrices of the multiplications by a multivector; the listed functions LeftMatrix and RightMatrix.
  No condition.
-/
namespace Go.Proofs.Ytnabpmafcflljaa
set_option maxRecDepth 100000
open Go.RowKit

/-- The product of a multivector, on one side, and a blade. -/
def mulC (p : Int) (qs x : List Int) (left : Bool) (m : Nat) : List Int := if left = true then prodL p qs tkA x (bladeL (2 ^ qs.length) m) else prodL p qs tkA (bladeL (2 ^ qs.length) m) x
def colsM (p : Int) (qs x : List Int) (left : Bool) (k : Nat) : List (List Int) := (List.range k).map (mulC p qs x left)
theorem colsM_succ (p : Int) (qs x : List Int) (left : Bool) (k : Nat) : colsM p qs x left (k + 1) = colsM p qs x left k ++ [mulC p qs x left k] := by simp [colsM, List.range_succ]
theorem colsM_len (p : Int) (qs x : List Int) (left : Bool) (k : Nat) : (colsM p qs x left k).length = k := by simp [colsM]
theorem mulC_good {p : Int} {qs x : List Int} {left : Bool} {m : Nat} (hp : 1 ≤ p) : Good p (2 ^ qs.length) (mulC p qs x left m) := by unfold mulC; split <;> exact prod_good hp
theorem colsM_nth {p : Int} {qs x : List Int} {left : Bool} {k i : Nat} (h : i < k) : nthR (colsM p qs x left k) i = mulC p qs x left i := by
  unfold colsM; rw [nthR_map (by simpa using h)]; simp
/-- The matrix of a multiplication. -/
def matM (p : Int) (qs x : List Int) (left : Bool) : List (List Int) := turnL (colsM p qs x left (2 ^ qs.length)) (2 ^ qs.length) (2 ^ qs.length)
theorem matM_len (p : Int) (qs x : List Int) (left : Bool) : (matM p qs x left).length = 2 ^ qs.length := turnL_len _ _ _
theorem matM_good {p : Int} {qs x : List Int} {left : Bool} (hp : 1 ≤ p) : RowsG p (2 ^ qs.length) (matM p qs x left) := fun i hi => by
  rw [matM_len] at hi
  unfold matM
  rw [turnL_nth hi]
  refine ⟨colL_len _ _ _, fun j hj => ?_⟩
  rw [colL_nth hj, colsM_nth hj]
  exact (mulC_good hp).2 i hi






theorem cnt_good {p : Int} {m : Nat} {rows : List (List Int)} (h : RowsG p m rows) : ∀ k, k ≤ rows.length → cntR rows k = k * m
  | 0, _ => by simp [cntR]
  | k + 1, hk => by
    show cntR rows k + _ = _
    rw [cnt_good h k (by omega), (h k (by omega)).1, Nat.succ_mul]
theorem matM_cnt {p : Int} {a : Option Addr} {d : Nat} {qs : List Int} {ax1 : Option Addr} {n1 : Nat} {xs1 : List Int} {w : World} {b : Bool} (_hq : RdC w a d qs) (hx1 : RdC w ax1 n1 xs1) (hc : codeA p qs [xs1] = 0) : cntR (matM p qs xs1 b) n1 ≤ 1048576 := by
  obtain ⟨hcm, hq4⟩ := codeA_zero hc
  obtain ⟨hs, hm⟩ := codeM_one hcm
  obtain ⟨hpr, hd1, hd6, hqb⟩ := space_of hs
  have hpb := prime_bd hpr
  obtain ⟨hxl, hxb⟩ := multi_of hm
  have hN : n1 = 2 ^ qs.length := by rw [← hxl]; exact hx1.1.symm
  have h64 := pow_le64 hd6
  rw [cnt_good (matM_good (by omega)) n1 (by rw [matM_len]; omega), hN]
  exact Nat.le_trans (Nat.mul_le_mul h64 h64) (by omega)





end Go.Proofs.Ytnabpmafcflljaa

/-
  Inverses of multivectors from linear systems, in plain numbers.
  No condition. No program in sight.
-/
namespace Go.Proofs.Ytnabpmafcflljaa
set_option maxRecDepth 100000
open Go.RowKit

theorem mul_blade {p : Int} {qs x : List Int} {i j : Nat} (hp : 1 ≤ p) (hi : i < 2 ^ qs.length) (hj : j < 2 ^ qs.length) :
    nth (prodL p qs tkA x (bladeL (2 ^ qs.length) j)) i = (nth x (i ^^^ j) * facZ qs (i ^^^ j) j qs.length) % p := by
  have hij := Nat.xor_lt_two_pow hi hj
  rw [prodA_nth hp hi, sumN_single hij (fun a ha hne => by
    have : ¬ j = a ^^^ i := fun h => hne (by rw [h, Nat.xor_comm a i, ← Nat.xor_assoc, Nat.xor_self, Nat.zero_xor])
    rw [bladeL_nth hj (Nat.xor_lt_two_pow ha hi), if_neg this]; simp)]
  have e : i ^^^ j ^^^ i = j := by rw [Nat.xor_comm i j, Nat.xor_assoc, Nat.xor_self, Nat.xor_zero]
  rw [e, bladeL_nth hj hj, if_pos rfl, Int.mul_one]
/-- The left matrix leads a multivector to the product. -/
theorem mat_dot {p : Int} {qs x y : List Int} {i : Nat} (hp : 1 ≤ p) (hd : qs.length ≤ 6) (hi : i < 2 ^ qs.length) :
    dotN (2 ^ qs.length) (nthR (matM p qs x true) i) y % p = nth (prodL p qs tkA x y) i := by
  unfold dotN matM
  rw [turnL_nth hi, prodA_nth hp hi, ← sumN_xor hd hi]
  refine sumN_emod fun m hm => ?_
  have him := Nat.xor_lt_two_pow hi hm
  rw [colL_nth him, colsM_nth him, mulC, if_pos rfl, mul_blade hp hi him]
  have e : i ^^^ (i ^^^ m) = m := by rw [← Nat.xor_assoc, Nat.xor_self, Nat.zero_xor]
  have e2 : m ^^^ i = i ^^^ m := Nat.xor_comm _ _
  rw [e, e2]
  have : nth x m * nth y (i ^^^ m) * facZ qs m (i ^^^ m) qs.length = nth x m * facZ qs m (i ^^^ m) qs.length * nth y (i ^^^ m) := by ac_rfl
  rw [this]
  exact mul_emod_congr (Int.emod_emod _ _) rfl

/-- The rows that tell whether a multivector has an inverse. -/
def invRed (p : Int) (qs x : List Int) : List (List Int) := redL p (2 ^ qs.length) (matM p qs x true) (bladeL (2 ^ qs.length) 0) (2 ^ qs.length)
def invOk (p : Int) (qs x : List Int) : Bool := okS (2 ^ qs.length) (invRed p qs x)
def invL (p : Int) (qs x : List Int) : List Int := solR (2 ^ qs.length) (invRed p qs x)
theorem inv_right {p : Int} {qs x : List Int} (hp : primeB p = true) (hd : qs.length ≤ 6) (h : invOk p qs x = true) :
    Good p (2 ^ qs.length) (invL p qs x) ∧ prodL p qs tkA x (invL p qs x) = bladeL (2 ^ qs.length) 0 := by
  have hpb := prime_bd hp
  have hN := pow_pos' qs.length
  have hML : (matM p qs x true).length = 2 ^ qs.length := matM_len _ _ _ _
  have hMG : RowsG p (2 ^ qs.length) (matM p qs x true) := matM_good (by omega)
  have hBG : Good p (matM p qs x true).length (bladeL (2 ^ qs.length) 0) := by rw [hML]; exact blade_good (by omega)
  have e : invL p qs x = solL (2 ^ qs.length) (basisL p (2 ^ qs.length + 1) (wideL (matM p qs x true) (bladeL (2 ^ qs.length) 0) (matM p qs x true).length)) := by
    unfold invL solR
    rw [show okS (2 ^ qs.length) (invRed p qs x) = true from h, if_pos rfl, hML]; rfl
  have hs := sol_spec (v := bladeL (2 ^ qs.length) 0) hp hMG hBG (by rw [hML]; exact h)
  rw [← e] at hs
  have hg : Good p (2 ^ qs.length) (invL p qs x) := by
    rw [e]
    obtain ⟨c, hb⟩ := basis_red hp (wideL_good hMG hBG (Nat.le_refl _))
    exact sol_good (by omega) hb.good
  refine ⟨hg, ext_nth (by rw [(prod_good (by omega)).1, bladeL_len]) fun i hi => ?_⟩
  rw [(prod_good (by omega)).1] at hi
  rw [← mat_dot (by omega) hd hi, hs i (by rw [hML]; exact hi)]
  have hb := (blade_good (p := p) (N := 2 ^ qs.length) (m := 0) (by omega)).2 i hi
  exact Int.emod_eq_of_lt hb.1 hb.2
theorem inv_left {p : Int} {qs x : List Int} (hp : primeB p = true) (hd : qs.length ≤ 6) (hx : Good p (2 ^ qs.length) x) (h : invOk p qs x = true) :
    prodL p qs tkA (invL p qs x) x = bladeL (2 ^ qs.length) 0 := by
  have hpb := prime_bd hp
  obtain ⟨h1, h2⟩ := inv_right hp hd h
  exact inv_both (by omega) hd hx h1 h2
theorem inv_iff {p : Int} {qs x y : List Int} (hp : primeB p = true) (hd : qs.length ≤ 6) (hy : Good p (2 ^ qs.length) y) (h : prodL p qs tkA x y = bladeL (2 ^ qs.length) 0) : invOk p qs x = true := by
  have hpb := prime_bd hp
  have hML : (matM p qs x true).length = 2 ^ qs.length := matM_len _ _ _ _
  have hMG : RowsG p (2 ^ qs.length) (matM p qs x true) := matM_good (by omega)
  have hBG : Good p (matM p qs x true).length (bladeL (2 ^ qs.length) 0) := by rw [hML]; exact blade_good (by omega)
  have := sol_exists hp hMG hBG hy.1 (fun i hi => by
    rw [hML] at hi
    rw [mat_dot (by omega) hd hi, h]
    have hb := (blade_good (p := p) (N := 2 ^ qs.length) (m := 0) (by omega)).2 i hi
    exact (Int.emod_eq_of_lt hb.1 hb.2).symm)
  rw [hML] at this
  exact this

/-- A tuple of a slice of the call's own and a bool. -/
def SPred.sol (B n : Nat) (xs : List Int) (b : Bool) : SPred := ⟨fun v w => ∃ ra rc, v = .tuple #[.slice ra n rc, .bool b] ∧ OwnC B w ra n rc xs, fun _ _ _ ⟨ra, rc, hv, h⟩ he => ⟨ra, rc, hv, h.ext he⟩⟩

end Go.Proofs.Ytnabpmafcflljaa

/-
  Inverses of multivectors.
  No condition.
-/
namespace Go.Proofs.Ytnabpmafcflljaa
set_option maxRecDepth 100000
open Go.RowKit



end Go.Proofs.Ytnabpmafcflljaa
