/-
  Contracts and plain laws, part 2: Times, Alg, TopProd, Pseudo, Plus, Kit, Regular, Inv, Gauss, Idem, Ker.
  No condition.
-/
import Derived.Test.YtnabpmafcflljaaPart1
import Derived.Test.YtnabpmafcflljaaPart0
/-
  Contracts: choices of pairs, blades, products of lists of multivectors, in the program.
  No condition.
-/
namespace Go.Proofs.Ytnabpmafcflljaa
set_option maxRecDepth 100000
open Go.RowKit

/-! ### The choices of pairs -/
set_option maxHeartbeats 400000 in
theorem c_anyPair (i j : Nat) (w : World) (_hi : i < 64) (_hj : j < 64) :
    Calls Try.prog 139 #[.int .i64 i, .int .i64 j] w fun e w' => e = .returned (.bool (tkA i j)) ∧ Ext w w' := by
  go_enter Try.func139, Try.ntmps139
  go_wp2
  go_ret
  exact ⟨rfl, Ext.refl _⟩
theorem andn_ab (a b : Nat) (ha : a < 64) (hb : b < 64) : (bits BinOp.andNot IntKind.i64 (a : Int) (b : Int) == 0) = tkL a b := by
  have : ∀ a : Nat, a < 64 → ∀ b : Nat, b < 64 → (bits BinOp.andNot IntKind.i64 (a : Int) (b : Int) == 0) = tkL a b := by decide +kernel
  exact this a ha b hb
theorem andn_ba (a b : Nat) (ha : a < 64) (hb : b < 64) : (bits BinOp.andNot IntKind.i64 (b : Int) (a : Int) == 0) = tkR a b := by
  have : ∀ a : Nat, a < 64 → ∀ b : Nat, b < 64 → (bits BinOp.andNot IntKind.i64 (b : Int) (a : Int) == 0) = tkR a b := by decide +kernel
  exact this a ha b hb

/-! ### Blades -/
def bladeL (N m : Nat) : List Int := (List.replicate N 0).set m 1
theorem bladeL_len (N m : Nat) : (bladeL N m).length = N := by simp [bladeL]
theorem bladeL_nth {N m i : Nat} (hm : m < N) (hi : i < N) : nth (bladeL N m) i = if m = i then 1 else 0 := by
  unfold bladeL
  rw [nth_set (by simpa using hm)]
  split
  · rfl
  · exact nth_replicate hi
theorem blade_good {p : Int} {N m : Nat} (hp : 3 ≤ p) : Good p N (bladeL N m) := good_set (good_zero (by omega)) (by omega) (by omega)

set_option maxHeartbeats 400000 in
theorem c_blade (p : Int) (a : Option Addr) (d cap : Nat) (m : Nat) (w : World) (hd : d ≤ 6) (hm : m < 2 ^ d) :
    Calls Try.prog 137 #[.agg #[.int .i64 p, .slice a d cap], .int .i64 m] w fun e w' => ∃ g, e = .returned (.slice (some ⟨g, 0, none⟩) (2 ^ d) (2 ^ d)) ∧ OwnC w.heap.size w' (some ⟨g, 0, none⟩) (2 ^ d) (2 ^ d) (bladeL (2 ^ d) m) ∧ Ext w w' := by
  have hN := pow_le64 hd
  obtain ⟨N, hN'⟩ : ∃ N, N = 2 ^ d := ⟨_, rfl⟩
  have HN := Lib.hid hN'
  rw [← hN'] at hN hm ⊢
  clear hN'
  go_enter Try.func137, Try.ntmps137
  go_wp2_with (fail)
  have Hno := c_nothing p a d cap (w.alloc (.cells #[.int .i64 p, .slice a d cap] 30)) hd
  rw [← HN.out] at Hno
  refine Hno.mono ?_
  rintro e w1 ⟨g, rfl, ho, g1⟩
  have HO := Lib.hid ho
  have G1 := Lib.hid g1
  have ec := ho.cell hm
  have ef := ho.frozen m
  have hg := ho.base_le
  simp only [World.size_alloc] at hg
  have hmN : (m : Int) < N := by omega
  clear Hno ho g1
  go_wp2_with (fail)
  go_ret
  exact ⟨g, rfl, (HO.out.store hm _).mono (by simp), ((ext_alloc _ _).trans G1.out).setCell (by simp; omega) _⟩

set_option maxHeartbeats 400000 in
theorem c_one (p : Int) (a : Option Addr) (d cap : Nat) (w : World) (hd : d ≤ 6) :
    Calls Try.prog 109 #[.agg #[.int .i64 p, .slice a d cap]] w fun e w' => ∃ g, e = .returned (.slice (some ⟨g, 0, none⟩) (2 ^ d) (2 ^ d)) ∧ OwnC w.heap.size w' (some ⟨g, 0, none⟩) (2 ^ d) (2 ^ d) (bladeL (2 ^ d) 0) ∧ Ext w w' := by
  go_enter Try.func109, Try.ntmps109
  go_wp2_with (go_at_call 137; refine (c_blade p a d cap 0 _ hd (Nat.pos_of_ne_zero (by simp))).mono ?_; rintro e w1 ⟨g, rfl, ho, g1⟩)
  go_ret
  exact ⟨g, rfl, ho.mono (by simp), (ext_alloc _ _).trans g1⟩

/-! ### 1 is neutral -/
theorem popc_zero : popc 0 = 0 := by decide
theorem facS_zero (p : Int) (qs : List Int) (b : Nat) (k : Nat) : facS p qs 0 b k = (0, 1) := by
  induction k with
  | zero => rfl
  | succ k ih =>
    cases hb : b.testBit k with
    | false => rw [facS_no hb, ih]
    | true => rw [facS_one hb (by simp), ih]; simp [popc_zero]
theorem fac_zero (p : Int) (qs : List Int) (b : Nat) : fac p qs 0 b = 1 := by simp [fac, facS_zero, sgn]

theorem inP_first {p : Int} {f : Nat → Nat → Int} {x y : List Int} {N : Nat} (hy : Good p N y) (hx : nth x 0 = 1) (hf : ∀ b, f 0 b = 1) : ∀ b, b ≤ N →
    (inP p f tkA x y 0 b (List.replicate N 0)).length = N ∧ ∀ i, i < N → nth (inP p f tkA x y 0 b (List.replicate N 0)) i = if i < b then nth y i else 0
  | 0, _ => ⟨by simp [inP], fun i hi => by simp [inP, nth_replicate hi]⟩
  | b + 1, hb => by
    obtain ⟨ih1, ih2⟩ := inP_first hy hx hf b (by omega)
    unfold inP
    rw [stepP_yes rfl, Nat.zero_xor, hx, hf, ih2 b (by omega), if_neg (by omega)]
    have hyb := hy.2 b (by omega)
    have e : (0 + 1 * nth y b * 1) % p = nth y b := by rw [Int.one_mul, Int.mul_one, Int.zero_add, Int.emod_eq_of_lt hyb.1 hyb.2]
    rw [e]
    refine ⟨by simpa using ih1, fun i hi => ?_⟩
    rw [nth_set (by omega)]
    by_cases h : b = i
    · subst h; simp
    · rw [if_neg h, ih2 i hi]
      by_cases h2 : i < b
      · rw [if_pos h2, if_pos (by omega)]
      · rw [if_neg h2, if_neg (by omega)]
theorem outP_rest {p : Int} {f : Nat → Nat → Int} {tk : Nat → Nat → Bool} {x y : List Int} {N d : Nat} (hp : 1 ≤ p) (hN : N = 2 ^ d) (hx : ∀ a, 0 < a → a < N → nth x a = 0) : ∀ a, 1 ≤ a → a ≤ N → outP p f tk x y N a = outP p f tk x y N 1
  | 0, h, _ => by omega
  | 1, _, _ => rfl
  | a + 2, _, ha => by
    have ih := outP_rest (f := f) (tk := tk) (y := y) hp hN hx (a + 1) (by omega) (by omega)
    rw [← ih]
    show inP p f tk x y (a + 1) N (outP p f tk x y N (a + 1)) = _
    exact inP_zero (d := d) hp hN (by omega) (outP_good hp (a + 1)) (hx (a + 1) (by omega) (by omega)) N (Nat.le_refl _)
theorem one_times {p : Int} {qs : List Int} {y : List Int} (hp : 3 ≤ p) (hy : Good p (2 ^ qs.length) y) : prodL p qs tkA (bladeL (2 ^ qs.length) 0) y = y := by
  have hN : 0 < 2 ^ qs.length := Nat.pos_of_ne_zero (by simp)
  unfold prodL
  rw [outP_rest (d := qs.length) (by omega) rfl (fun a h1 h2 => by rw [bladeL_nth hN h2, if_neg (by omega)]) _ hN (Nat.le_refl _)]
  show inP p (fac p qs) tkA _ y 0 (2 ^ qs.length) (List.replicate _ 0) = y
  obtain ⟨h1, h2⟩ := inP_first (f := fac p qs) (x := bladeL (2 ^ qs.length) 0) hy (by rw [bladeL_nth hN hN, if_pos rfl]) (fac_zero p qs) (2 ^ qs.length) (Nat.le_refl _)
  refine ext_nth (by rw [h1, hy.1]) (fun i hi => ?_)
  rw [h1] at hi
  rw [h2 i hi, if_pos hi]

theorem prod_good {p : Int} {qs x y : List Int} {tk : Nat → Nat → Bool} (hp : 1 ≤ p) : Good p (2 ^ qs.length) (prodL p qs tk x y) := outP_good hp _

/-! ### Products of lists -/
def timesL (p : Int) (qs : List Int) (rows : List (List Int)) : List Int := rows.foldl (fun o x => prodL p qs tkA o x) (bladeL (2 ^ qs.length) 0)
theorem timesL_good {p : Int} {qs : List Int} (hp : 3 ≤ p) (rows : List (List Int)) : Good p (2 ^ qs.length) (timesL p qs rows) := by
  rcases List.eq_nil_or_concat rows with rfl | ⟨l, x, rfl⟩
  · exact blade_good hp
  · unfold timesL
    rw [List.concat_eq_append, List.foldl_append]
    exact prod_good (by omega)
theorem timesL_snoc {p : Int} {qs : List Int} (rows : List (List Int)) (x : List Int) : timesL p qs (rows ++ [x]) = prodL p qs tkA (timesL p qs rows) x := by
  unfold timesL; rw [List.foldl_append]; rfl
theorem timesL_two {p : Int} {qs x y : List Int} (hp : 3 ≤ p) (hx : Good p (2 ^ qs.length) x) : timesL p qs [x, y] = prodL p qs tkA x y := by
  show prodL p qs tkA (prodL p qs tkA (bladeL (2 ^ qs.length) 0) x) y = _
  rw [one_times hp hx]
theorem take_snocR (rows : List (List Int)) (k : Nat) (h : k < rows.length) : rows.take (k + 1) = rows.take k ++ [nthR rows k] := by
  rw [List.take_succ_eq_append_getElem h, nthR_eq h]

set_option maxHeartbeats 1000000 in
theorem c_times (p : Int) (a : Option Addr) (d cap : Nat) (qs : List Int) (al : Option Addr) (n cl : Nat) (rows : List (List Int)) (w : World) (hd : d ≤ 6) (hp1 : 3 ≤ p) (hp2 : p ≤ 1000) (hl : n ≤ 4194304) (hq : RdC w a d qs) (hqb : isB p qs = true)
    (hx : RdR w al n rows) (hr : ∀ i, i < n → Good p (2 ^ d) (nthR rows i)) :
    Calls Try.prog 110 #[.agg #[.int .i64 p, .slice a d cap], .slice al n cl] w fun e w' => ∃ g, e = .returned (.slice (some ⟨g, 0, none⟩) (2 ^ d) (2 ^ d)) ∧ OwnC w.heap.size w' (some ⟨g, 0, none⟩) (2 ^ d) (2 ^ d) (timesL p qs rows) ∧ Ext w w' := by
  have HL := Lib.hid hx.1
  have HR := Lib.hid hx.2
  have HG := Lib.hid hr
  have HQ := Lib.hid hq
  have HQB := Lib.hid hqb
  clear hx hr hq hqb
  obtain ⟨W, hW⟩ : ∃ W, W = w.alloc (.cells #[.int .i64 p, .slice a d cap] 30) := ⟨_, rfl⟩
  have gW : Ext w W := by rw [hW]; exact ext_alloc _ _
  have hs0 : W.cell? ⟨w.heap.size, 0, none⟩ = some (.int .i64 p) := by rw [hW]; simp
  have hs1 : W.cell? ⟨w.heap.size, 1, none⟩ = some (.slice a d cap) := by rw [hW]; simp
  have HS0 := Lib.hid hs0
  have HS1 := Lib.hid hs1
  have GW := Lib.hid gW
  have HW := Lib.hid hW
  clear hs0 hs1 gW hW
  go_enter Try.func110, Try.ntmps110
  go_wp2_with (fail)
  rw [← HW.out]
  refine (c_one p a d cap W hd).mono ?_
  rintro e w1 ⟨g, rfl, ho, g1⟩
  have HO := Lib.hid ho
  have G1 := Lib.hid g1
  clear ho g1
  go_wp2_with (fail)
  go_loopw [5, 12] (fun v i wr => ∃ (k g : Nat), k ≤ n ∧ i = .int .i64 k ∧ v = .slice (some ⟨g, 0, none⟩) (2 ^ d) (2 ^ d) ∧ OwnC W.heap.size wr (some ⟨g, 0, none⟩) (2 ^ d) (2 ^ d) (timesL p qs (rows.take k)) ∧ Ext W wr) (fun _ i _ => n - (intOf i).toNat)
  case atStart => exact ⟨0, g, Nat.zero_le _, rfl, rfl, by have := HO.out; rw [← HQ.out.1] at this ⊢; exact this, G1.out⟩
  case round =>
    obtain ⟨k, g', hk, rfl, rfl, hown, hext⟩ := hrel
    have HOwn := Lib.hid hown
    have HExt := Lib.hid hext
    clear hown hext
    by_cases hlt : k < n
    · obtain ⟨b, off, ai, ci, rfl, hc, hrow⟩ := HR.out k hlt
      have hgk := HG.out k hlt
      rw [hgk.1] at hc hrow
      have hck := (GW.out.trans HExt.out).cell hc
      have Hrow := Lib.hid (hrow.ext (GW.out.trans HExt.out))
      have Hgk := Lib.hid hgk
      have hq0 := HExt.out.cell HS0.out
      have hq1 := HExt.out.cell HS1.out
      have Hgood := Lib.hid (timesL_good (qs := qs) hp1 (rows.take k))
      have HQd := Lib.hid HQ.out.1
      clear hc hrow hgk
      go_wp2_with (fail)
      refine (c_product p a d cap qs _ _ _ _ (timesL p qs (rows.take k)) (nthR rows k) 139 tkA wr hd hp1 hp2 (HQ.out.ext (GW.out.trans HExt.out)) HQB.out HOwn.out.rd Hrow.out (by have := Hgood.out; rw [HQd.out] at this; exact this.isB) Hgk.out.isB ?_ (fun i j w hi hj => c_anyPair i j w hi hj)).mono ?_
      · intro args w; go_simp
      rintro e w2 ⟨g2, rfl, ho2, x2⟩
      have HO2 := Lib.hid ho2
      have X2 := Lib.hid x2
      clear ho2 x2 hq0 hq1
      go_wp2_with (fail)
      go_roundw
      case rel => exact ⟨k + 1, g2, by omega, by go_num, rfl, by rw [take_snocR _ _ (by rw [HL.out]; exact hlt), timesL_snoc]; exact HO2.out.mono HExt.out.size, HExt.out.trans X2.out⟩
      case measure => simp [intOf]; omega
    · go_wp2_with (fail)
      go_ret
      refine ⟨g', rfl, ?_, GW.out.trans HExt.out⟩
      have := HOwn.out
      rw [List.take_of_length_le (by rw [HL.out]; omega)] at this
      exact this.mono GW.out.size


end Go.Proofs.Ytnabpmafcflljaa

/-
  The geometric product in plain numbers: a formula for its coefficients, associativity, sums, multiples.
  No condition. No program in sight.
-/
namespace Go.Proofs.Ytnabpmafcflljaa
set_option maxRecDepth 100000
open Go.RowKit

/-! ### Sums -/
def sumN : Nat → (Nat → Int) → Int
  | 0, _ => 0
  | n + 1, g => sumN n g + g n
theorem sumN_congr {n : Nat} {f g : Nat → Int} (h : ∀ i, i < n → f i = g i) : sumN n f = sumN n g := by
  induction n with
  | zero => rfl
  | succ n ih => simp only [sumN]; rw [ih (fun i hi => h i (by omega)), h n (by omega)]
theorem sumN_zero {n : Nat} {f : Nat → Int} (h : ∀ i, i < n → f i = 0) : sumN n f = 0 := by
  induction n with
  | zero => rfl
  | succ n ih => simp only [sumN]; rw [ih (fun i hi => h i (by omega)), h n (by omega)]; rfl
theorem sumN_add (n : Nat) (f g : Nat → Int) : sumN n (fun i => f i + g i) = sumN n f + sumN n g := by
  induction n with
  | zero => rfl
  | succ n ih => simp only [sumN]; rw [ih]; omega
theorem sumN_mul (n : Nat) (c : Int) (f : Nat → Int) : sumN n (fun i => c * f i) = c * sumN n f := by
  induction n with
  | zero => simp [sumN]
  | succ n ih => simp only [sumN]; rw [ih, Int.mul_add]
theorem sumN_mulr (n : Nat) (c : Int) (f : Nat → Int) : sumN n (fun i => f i * c) = sumN n f * c := by
  induction n with
  | zero => simp [sumN]
  | succ n ih => simp only [sumN]; rw [ih, Int.add_mul]
theorem sumN_swap (n m : Nat) (f : Nat → Nat → Int) : sumN n (fun i => sumN m (fun j => f i j)) = sumN m (fun j => sumN n (fun i => f i j)) := by
  induction n with
  | zero => simp only [sumN]; exact (sumN_zero (fun _ _ => rfl)).symm
  | succ n ih => simp only [sumN]; rw [ih, ← sumN_add]
theorem sumN_single {n : Nat} {f : Nat → Int} {k : Nat} (hk : k < n) (h : ∀ i, i < n → i ≠ k → f i = 0) : sumN n f = f k := by
  induction n with
  | zero => omega
  | succ n ih =>
    simp only [sumN]
    by_cases hkn : k = n
    · subst hkn
      rw [sumN_zero (fun i hi => h i (by omega) (by omega))]; omega
    · rw [ih (by omega) (fun i hi hne => h i (by omega) hne), h n (by omega) (by omega)]; omega
theorem sumN_emod {p : Int} {n : Nat} {f g : Nat → Int} (h : ∀ i, i < n → f i % p = g i % p) : sumN n f % p = sumN n g % p := by
  induction n with
  | zero => rfl
  | succ n ih =>
    simp only [sumN]
    rw [Int.add_emod, ih (fun i hi => h i (by omega)), h n (by omega), ← Int.add_emod]
theorem mul_emod_congr {p a b c d : Int} (h : a % p = b % p) (h' : c % p = d % p) : (a * c) % p = (b * d) % p := by
  rw [Int.mul_emod, h, h', ← Int.mul_emod]

def sumL (l : List Nat) (g : Nat → Int) : Int := l.foldr (fun i s => g i + s) 0
theorem sumL_cons (a : Nat) (l : List Nat) (g : Nat → Int) : sumL (a :: l) g = g a + sumL l g := rfl
theorem sumL_snoc (l : List Nat) (i : Nat) (g : Nat → Int) : sumL (l ++ [i]) g = sumL l g + g i := by
  induction l with
  | nil => simp [sumL]
  | cons a l ih =>
    rw [List.cons_append, sumL_cons, ih, sumL_cons]; omega
theorem sumN_range (n : Nat) (g : Nat → Int) : sumN n g = sumL (List.range n) g := by
  induction n with
  | zero => rfl
  | succ n ih => rw [List.range_succ, sumL_snoc, ← ih]; rfl
theorem sumL_perm {l l' : List Nat} (h : l.Perm l') (g : Nat → Int) : sumL l g = sumL l' g := by
  induction h with
  | nil => rfl
  | cons x _ ih => rw [sumL_cons, sumL_cons, ih]
  | swap x y l => rw [sumL_cons, sumL_cons, sumL_cons, sumL_cons]; omega
  | trans _ _ ih1 ih2 => rw [ih1, ih2]
theorem sumL_map (l : List Nat) (f : Nat → Nat) (g : Nat → Int) : sumL (l.map f) g = sumL l (fun i => g (f i)) := by
  induction l with
  | nil => rfl
  | cons a l ih => rw [List.map_cons, sumL_cons, sumL_cons, ih]
theorem xor_perm : ∀ d : Nat, d < 7 → ∀ a : Nat, a < 2 ^ d → ((List.range (2 ^ d)).map (fun m => a ^^^ m)).isPerm (List.range (2 ^ d)) = true := by decide +kernel
theorem sumN_xor {d a : Nat} (hd : d ≤ 6) (ha : a < 2 ^ d) (g : Nat → Int) : sumN (2 ^ d) (fun m => g (a ^^^ m)) = sumN (2 ^ d) g := by
  have h := List.isPerm_iff.1 (xor_perm d (by omega) a ha)
  rw [sumN_range, sumN_range]
  exact (sumL_map _ _ _).symm.trans (sumL_perm h g)

/-! ### The coefficients of a product -/
theorem inP_nth {p : Int} {f : Nat → Nat → Int} {tk : Nat → Nat → Bool} {x y : List Int} {d a : Nat} {out : List Int} (hp : 1 ≤ p) (ha : a < 2 ^ d) (ho : Good p (2 ^ d) out) {k : Nat} (hk : k < 2 ^ d) :
    ∀ b, b ≤ 2 ^ d → nth (inP p f tk x y a b out) k = (nth out k + sumN b (fun j => if (tk a j && (a ^^^ j == k)) = true then nth x a * nth y j * f a j else 0)) % p
  | 0, _ => by
    have := ho.2 k hk
    simp only [inP, sumN, Int.add_zero]
    rw [Int.emod_eq_of_lt this.1 this.2]
  | b + 1, hb => by
    have ih := inP_nth (f := f) (tk := tk) (x := x) (y := y) hp ha ho hk b (by omega)
    have hg := inP_good (f := f) (tk := tk) (x := x) (y := y) (a := a) hp ho b
    have hc : a ^^^ b < 2 ^ d := Nat.xor_lt_two_pow ha (by omega)
    simp only [inP, sumN]
    cases ht : tk a b
    · rw [stepP_not ht, ih]; simp
    · rw [stepP_yes ht, nth_set (by rw [hg.1]; exact hc)]
      by_cases hab : a ^^^ b = k
      · rw [if_pos hab, hab, ih]
        simp only [BEq.rfl, Bool.and_self, if_true]
        rw [Int.emod_add_emod, Int.add_assoc]
      · rw [if_neg hab, ih]
        simp [hab]
theorem outP_nth {p : Int} {f : Nat → Nat → Int} {tk : Nat → Nat → Bool} {x y : List Int} {d : Nat} (hp : 1 ≤ p) {k : Nat} (hk : k < 2 ^ d) :
    ∀ a, a ≤ 2 ^ d → nth (outP p f tk x y (2 ^ d) a) k = (sumN a fun i => sumN (2 ^ d) fun j => if (tk i j && (i ^^^ j == k)) = true then nth x i * nth y j * f i j else 0) % p
  | 0, _ => by simp [outP, sumN, nth_replicate hk]
  | a + 1, ha => by
    have ih := outP_nth (f := f) (tk := tk) (x := x) (y := y) hp hk a (by omega)
    simp only [outP, sumN]
    rw [inP_nth hp (by omega) (outP_good hp a) hk _ (Nat.le_refl _), ih, Int.emod_add_emod]
theorem prod_nth {p : Int} {qs : List Int} {tk : Nat → Nat → Bool} {x y : List Int} (hp : 1 ≤ p) {k : Nat} (hk : k < 2 ^ qs.length) :
    nth (prodL p qs tk x y) k = (sumN (2 ^ qs.length) fun i => sumN (2 ^ qs.length) fun j => if (tk i j && (i ^^^ j == k)) = true then nth x i * nth y j * fac p qs i j else 0) % p :=
  outP_nth hp hk _ (Nat.le_refl _)
theorem xor_eq_iff {a b k : Nat} : a ^^^ b = k ↔ b = a ^^^ k := by
  constructor
  · rintro rfl; rw [← Nat.xor_assoc, Nat.xor_self, Nat.zero_xor]
  · rintro rfl; rw [← Nat.xor_assoc, Nat.xor_self, Nat.zero_xor]
/-- One sum: the pairs of a blade i and the blade that leads to k. -/
theorem prod_nth1 {p : Int} {qs : List Int} {tk : Nat → Nat → Bool} {x y : List Int} (hp : 1 ≤ p) {k : Nat} (hk : k < 2 ^ qs.length) :
    nth (prodL p qs tk x y) k = (sumN (2 ^ qs.length) fun i => if tk i (i ^^^ k) = true then nth x i * nth y (i ^^^ k) * fac p qs i (i ^^^ k) else 0) % p := by
  rw [prod_nth hp hk]
  congr 1
  refine sumN_congr fun i hi => ?_
  rw [sumN_single (k := i ^^^ k) (Nat.xor_lt_two_pow hi hk) (fun j _ hne => by
    have : ¬ i ^^^ j = k := fun h => hne (xor_eq_iff.1 h)
    simp [this])]
  have : i ^^^ (i ^^^ k) = k := by rw [← Nat.xor_assoc, Nat.xor_self, Nat.zero_xor]
  simp [this]

/-! ### The factor over the integers -/
def sgZ (a k : Nat) : Int := if popc (a >>> (k + 1)) % 2 = 1 then -1 else 1
def stZ (qs : List Int) (a b k : Nat) : Int := if b.testBit k then (if a.testBit k then sgZ a k * nth qs k else sgZ a k) else 1
def facZ (qs : List Int) (a b : Nat) : Nat → Int
  | 0 => 1
  | k + 1 => facZ qs a b k * stZ qs a b k
theorem sgn_emod {p o o' : Int} {s : Nat} (h : o % p = o' % p) : sgn p s o % p = ((if s % 2 = 1 then -1 else 1) * o') % p := by
  unfold sgn
  split
  · rw [Int.emod_emod, show -o = -1 * o by omega]
    exact mul_emod_congr rfl h
  · rw [Int.one_mul]; exact h
theorem fac_emod_k {p : Int} {qs : List Int} {a b : Nat} (k : Nat) : sgn p (facS p qs a b k).1 (facS p qs a b k).2 % p = facZ qs a b k % p := by
  induction k with
  | zero => simp [facS, facZ, sgn]
  | succ k ih =>
    have h1 := sgn_emod (p := p) (s := (facS p qs a b k).1) (o := (facS p qs a b k).2) rfl
    rw [h1] at ih
    cases hb : b.testBit k
    · rw [facS_no hb]
      simp only [facZ, stZ, hb]
      rw [h1, ih]; simp
    · have hsg : ∀ s t : Nat, (if (s + t) % 2 = 1 then (-1 : Int) else 1) = (if s % 2 = 1 then -1 else 1) * (if t % 2 = 1 then -1 else 1) := by
        intro s t
        have : s % 2 = 0 ∨ s % 2 = 1 := by omega
        have : t % 2 = 0 ∨ t % 2 = 1 := by omega
        rcases ‹s % 2 = 0 ∨ s % 2 = 1› with h | h <;> rcases ‹t % 2 = 0 ∨ t % 2 = 1› with h' | h'
        · have : (s + t) % 2 = 0 := by omega
          simp [h, h', this]
        · have : (s + t) % 2 = 1 := by omega
          simp [h, h', this]
        · have : (s + t) % 2 = 1 := by omega
          simp [h, h', this]
        · have : (s + t) % 2 = 0 := by omega
          simp [h, h', this]
      cases ha : a.testBit k
      · rw [facS_one hb ha]
        simp only [facZ, stZ, hb, ha, if_true, sgZ]
        rw [sgn_emod rfl, hsg, Int.mul_right_comm]
        exact mul_emod_congr ih rfl
      · rw [facS_two hb ha]
        simp only [facZ, stZ, hb, ha, if_true, sgZ]
        rw [sgn_emod (o' := (facS p qs a b k).2 * nth qs k) (by rw [Int.emod_emod]), hsg, show ∀ u v x y : Int, (u * v) * (x * y) = (u * x) * (v * y) from fun u v x y => by ac_rfl]
        exact mul_emod_congr ih rfl
theorem fac_emod {p : Int} {qs : List Int} {a b : Nat} : fac p qs a b % p = facZ qs a b qs.length % p := fac_emod_k _

theorem sgZ_xor (a b k : Nat) (ha : a < 64) (hb : b < 64) (hk : k < 6) : sgZ (a ^^^ b) k = sgZ a k * sgZ b k := by
  have : ∀ k : Nat, k < 6 → ∀ a : Nat, a < 64 → ∀ b : Nat, b < 64 → sgZ (a ^^^ b) k = sgZ a k * sgZ b k := by decide +kernel
  exact this k hk a ha b hb
theorem sgZ_sq (a k : Nat) : sgZ a k * sgZ a k = 1 := by unfold sgZ; split <;> rfl
theorem stZ_cocycle {qs : List Int} {a b c k : Nat} (ha : a < 64) (hb : b < 64) (hk : k < 6) : stZ qs a b k * stZ qs (a ^^^ b) c k = stZ qs b c k * stZ qs a (b ^^^ c) k := by
  have hs := sgZ_xor a b k ha hb hk
  have h2 := sgZ_sq a k
  unfold stZ
  rw [hs]
  simp only [Nat.testBit_xor]
  cases a.testBit k <;> cases b.testBit k <;> cases c.testBit k <;> simp
  · exact Int.mul_comm _ _
  · rw [show sgZ a k * (sgZ a k * sgZ b k * nth qs k) = (sgZ a k * sgZ a k) * (sgZ b k * nth qs k) by ac_rfl, h2, Int.one_mul]
  · ac_rfl
  · rw [show sgZ a k * nth qs k * (sgZ a k * sgZ b k) = (sgZ a k * sgZ a k) * (sgZ b k * nth qs k) by ac_rfl, h2, Int.one_mul]
theorem facZ_cocycle {qs : List Int} {a b c : Nat} (ha : a < 64) (hb : b < 64) : ∀ k, k ≤ 6 → facZ qs a b k * facZ qs (a ^^^ b) c k = facZ qs b c k * facZ qs a (b ^^^ c) k
  | 0, _ => rfl
  | k + 1, hk => by
    have ih := facZ_cocycle (qs := qs) (c := c) ha hb k (by omega)
    have hs := stZ_cocycle (qs := qs) (c := c) ha hb (show k < 6 by omega)
    simp only [facZ]
    rw [show facZ qs a b k * stZ qs a b k * (facZ qs (a ^^^ b) c k * stZ qs (a ^^^ b) c k) = (facZ qs a b k * facZ qs (a ^^^ b) c k) * (stZ qs a b k * stZ qs (a ^^^ b) c k) by ac_rfl, ih, hs]
    ac_rfl

/-! ### The geometric product -/
/-- The coefficient with the factor over the integers. -/
theorem prodA_nth {p : Int} {qs x y : List Int} (hp : 1 ≤ p) {k : Nat} (hk : k < 2 ^ qs.length) :
    nth (prodL p qs tkA x y) k = (sumN (2 ^ qs.length) fun i => nth x i * nth y (i ^^^ k) * facZ qs i (i ^^^ k) qs.length) % p := by
  rw [prod_nth1 hp hk]
  refine sumN_emod fun i hi => ?_
  simp only [tkA, if_true]
  exact mul_emod_congr rfl fac_emod
theorem xor_cancel (a m k : Nat) : a ^^^ m ^^^ (a ^^^ k) = m ^^^ k := by
  rw [Nat.xor_comm a m, Nat.xor_assoc, ← Nat.xor_assoc a a k, Nat.xor_self, Nat.zero_xor]
theorem prod_assoc {p : Int} {qs x y z : List Int} (hp : 1 ≤ p) (hd : qs.length ≤ 6) : prodL p qs tkA (prodL p qs tkA x y) z = prodL p qs tkA x (prodL p qs tkA y z) := by
  have hN := pow_le64 hd
  refine ext_nth (by rw [(prod_good hp).1, (prod_good hp).1]) fun k hk => ?_
  rw [(prod_good hp).1] at hk
  rw [prodA_nth hp hk, prodA_nth hp hk]
  have e1 : ∀ m, m < 2 ^ qs.length → (nth (prodL p qs tkA x y) m * nth z (m ^^^ k) * facZ qs m (m ^^^ k) qs.length) % p =
      (sumN (2 ^ qs.length) fun a => nth x a * nth y (a ^^^ m) * facZ qs a (a ^^^ m) qs.length * (nth z (m ^^^ k) * facZ qs m (m ^^^ k) qs.length)) % p := fun m hm => by
    rw [prodA_nth hp hm, sumN_mulr, Int.mul_assoc]
    exact mul_emod_congr (Int.emod_emod _ _) rfl
  have e2 : ∀ a, a < 2 ^ qs.length → (nth x a * nth (prodL p qs tkA y z) (a ^^^ k) * facZ qs a (a ^^^ k) qs.length) % p =
      (sumN (2 ^ qs.length) fun m => nth x a * nth y (a ^^^ m) * facZ qs a (a ^^^ m) qs.length * (nth z (m ^^^ k) * facZ qs m (m ^^^ k) qs.length)) % p := fun a ha => by
    rw [prodA_nth hp (Nat.xor_lt_two_pow ha hk), ← sumN_xor hd ha]
    have : (nth x a * ((sumN (2 ^ qs.length) fun m => nth y (a ^^^ m) * nth z (a ^^^ m ^^^ (a ^^^ k)) * facZ qs (a ^^^ m) (a ^^^ m ^^^ (a ^^^ k)) qs.length) % p) * facZ qs a (a ^^^ k) qs.length) % p =
        (nth x a * (sumN (2 ^ qs.length) fun m => nth y (a ^^^ m) * nth z (a ^^^ m ^^^ (a ^^^ k)) * facZ qs (a ^^^ m) (a ^^^ m ^^^ (a ^^^ k)) qs.length) * facZ qs a (a ^^^ k) qs.length) % p :=
      mul_emod_congr (mul_emod_congr rfl (Int.emod_emod _ _)) rfl
    rw [this, ← sumN_mul, ← sumN_mulr]
    congr 1
    refine sumN_congr fun m hm => ?_
    rw [xor_cancel]
    have hc := facZ_cocycle (qs := qs) (a := a) (b := a ^^^ m) (c := m ^^^ k) (by omega) (Nat.lt_of_lt_of_le (Nat.xor_lt_two_pow ha hm) hN) qs.length hd
    rw [show a ^^^ (a ^^^ m) = m by rw [← Nat.xor_assoc, Nat.xor_self, Nat.zero_xor], show a ^^^ m ^^^ (m ^^^ k) = a ^^^ k by rw [Nat.xor_assoc, ← Nat.xor_assoc m m k, Nat.xor_self, Nat.zero_xor]] at hc
    rw [show nth x a * nth y (a ^^^ m) * facZ qs a (a ^^^ m) qs.length * (nth z (m ^^^ k) * facZ qs m (m ^^^ k) qs.length) = nth x a * nth y (a ^^^ m) * nth z (m ^^^ k) * (facZ qs a (a ^^^ m) qs.length * facZ qs m (m ^^^ k) qs.length) by ac_rfl, hc]
    ac_rfl
  rw [sumN_emod e1, sumN_emod e2, sumN_swap]

theorem fac_right {p : Int} {qs : List Int} {a : Nat} : fac p qs a 0 = 1 := by
  have : ∀ k, facS p qs a 0 k = (0, 1) := fun k => by
    induction k with
    | zero => rfl
    | succ k ih => rw [facS_no (by simp), ih]
  simp [fac, this, sgn]
theorem times_one {p : Int} {qs x : List Int} (hp : 1 ≤ p) (hx : Good p (2 ^ qs.length) x) : prodL p qs tkA x (bladeL (2 ^ qs.length) 0) = x := by
  have hN : 0 < 2 ^ qs.length := Nat.pos_of_ne_zero (by simp)
  refine ext_nth (by rw [(prod_good hp).1, hx.1]) fun k hk => ?_
  rw [(prod_good hp).1] at hk
  rw [prod_nth1 hp hk, sumN_single hk (fun i hi hne => by
    have : ¬ 0 = i ^^^ k := fun h => hne (by have := xor_eq_iff.1 h.symm; simpa using this.symm)
    simp [tkA, bladeL_nth hN (Nat.xor_lt_two_pow hi hk), this])]
  rw [Nat.xor_self, fac_right, bladeL_nth hN hN]
  simp only [tkA, if_true, Int.mul_one]
  have := hx.2 k hk
  exact Int.emod_eq_of_lt this.1 this.2

/-! ### Powers -/
def powL (p : Int) (qs x : List Int) : Nat → List Int
  | 0 => bladeL (2 ^ qs.length) 0
  | k + 1 => prodL p qs tkA (powL p qs x k) x
theorem pow_good {p : Int} {qs x : List Int} (hp : 3 ≤ p) : ∀ k, Good p (2 ^ qs.length) (powL p qs x k)
  | 0 => blade_good hp
  | k + 1 => prod_good (by omega)
theorem pow_one {p : Int} {qs x : List Int} (hp : 3 ≤ p) (hx : Good p (2 ^ qs.length) x) : powL p qs x 1 = x := one_times hp hx
theorem pow_add {p : Int} {qs x : List Int} (hp : 3 ≤ p) (hd : qs.length ≤ 6) (m : Nat) : ∀ n, prodL p qs tkA (powL p qs x m) (powL p qs x n) = powL p qs x (m + n)
  | 0 => times_one (by omega) (pow_good hp m)
  | n + 1 => by
    show prodL p qs tkA (powL p qs x m) (prodL p qs tkA (powL p qs x n) x) = prodL p qs tkA (powL p qs x (m + n)) x
    rw [← prod_assoc (by omega) hd, pow_add hp hd m n]
end Go.Proofs.Ytnabpmafcflljaa

/-
  Contracts of the listed products: the code, and where it is 0 the product.
  No condition.
-/
namespace Go.Proofs.Ytnabpmafcflljaa
set_option maxRecDepth 100000
open Go.RowKit

theorem good_two {p : Int} {N : Nat} {xs ys : List Int} (h : Good p N xs) (h' : Good p N ys) : ∀ i, i < 2 → Good p N (nthR [xs, ys] i) := fun i hi => by
  have : i = 0 ∨ i = 1 := by omega
  rcases this with rfl | rfl
  · exact h
  · exact h'











end Go.Proofs.Ytnabpmafcflljaa

/-
  The pseudoscalar, its square; 0 and 1 in the reference.
  No condition.
-/
namespace Go.Proofs.Ytnabpmafcflljaa
set_option maxRecDepth 100000
open Go.RowKit

/-- A row of numbers of the call's own, that begins a block. -/
def SPred.ownG (B n : Nat) (xs : List Int) : SPred := ⟨fun v w => ∃ g, v = .slice (some ⟨g, 0, none⟩) n n ∧ OwnC B w (some ⟨g, 0, none⟩) n n xs, fun _ _ _ ⟨g, hv, h⟩ he => ⟨g, hv, h.ext he⟩⟩
/-- A row of numbers of the call's own, that begins a block, with room behind it. -/
def SPred.ownS (B n : Nat) (xs : List Int) : SPred := ⟨fun v w => ∃ g cap, v = .slice (some ⟨g, 0, none⟩) n cap ∧ OwnC B w (some ⟨g, 0, none⟩) n cap xs, fun _ _ _ ⟨g, cap, hv, h⟩ he => ⟨g, cap, hv, h.ext he⟩⟩
/-- A row of rows. -/
def SPred.rows (n : Nat) (rows : List (List Int)) : SPred := ⟨fun v w => ∃ g, v = .slice (some ⟨g, 0, none⟩) n n ∧ RdR w (some ⟨g, 0, none⟩) n rows, fun _ _ _ ⟨g, hv, h⟩ he => ⟨g, hv, h.ext he⟩⟩
/-- A cell with a number. -/
def SPred.cell (x : Int) : SPred := ⟨fun v w => ∃ b off, v = .pointer (some ⟨b, off, none⟩) ∧ w.cell? ⟨b, off, none⟩ = some (.int .i64 x), fun _ _ _ ⟨b, off, hv, h⟩ he => ⟨b, off, hv, he.cell h⟩⟩

/-- Any other operation whose value is known. -/
theorem LexW.relV {P : Program} {ops : Array Oper} {w0 : World} {sp : Nat → Option SPred} {Q : Act → World → Prop} {o : Oper} {l : List Oper} {k : Nat} {a : Act} {env : List (Nat × Value)} {v : Value} (hsp : sp k = some (SPred.val v)) (hw : Region.wanted o (yielded ops a.tmps) = true)
    (hr : ∀ w, Ext w0 w → Dep sp (depsOf ops k) a w → ∃ w', (execOp a.eval o).run P w = .ok (.value v) w' ∧ Ext w w')
    (h : LexW P ops w0 sp Q l (k + 1) (a.put o.dst v) ((k, v) :: env)) : LexW P ops w0 sp Q (o :: l) k a env :=
  LexW.rel hsp hw (fun w he hd => let ⟨w', h1, h2⟩ := hr w he hd; ⟨v, w', h1, h2, rfl⟩) fun v' ⟨_, hv⟩ => by
    have hv' : v' = v := hv
    subst hv'
    exact h

def fullL (d : Nat) : List Int := bladeL (2 ^ d) (2 ^ d - 1)
def topL (d : Nat) (k : Int) : List Int := (List.replicate (2 ^ d) 0).set (2 ^ d - 1) k
theorem topL_one (d : Nat) : topL d 1 = fullL d := rfl
theorem pow_pos' (d : Nat) : 1 ≤ 2 ^ d := Nat.pos_of_ne_zero (by simp)
theorem full_good {p : Int} {d : Nat} (hp : 3 ≤ p) : Good p (2 ^ d) (fullL d) := blade_good hp
theorem top_good {p : Int} {d : Nat} {k : Int} (hp : 3 ≤ p) (h0 : 0 ≤ k) (h1 : k < p) : Good p (2 ^ d) (topL d k) := good_set (good_zero (by omega)) h0 h1

theorem pow_wrapI {d : Nat} (h : d ≤ 6) : IntKind.i64.wrap (2 ^ d) = ((2 ^ d : Nat) : Int) := by
  have : d = 0 ∨ d = 1 ∨ d = 2 ∨ d = 3 ∨ d = 4 ∨ d = 5 ∨ d = 6 := by omega
  rcases this with rfl | rfl | rfl | rfl | rfl | rfl | rfl <;> decide +kernel


set_option maxHeartbeats 400000 in
theorem s_zero (p : Int) (a : Option Addr) (d cap : Nat) (w : World) (hd : d ≤ 6) :
    Calls Try.prog 134 #[.agg #[.int .i64 p, .slice a d cap]] w fun e w' => ∃ g, e = .returned (.slice (some ⟨g, 0, none⟩) (2 ^ d) (2 ^ d)) ∧ OwnC w.heap.size w' (some ⟨g, 0, none⟩) (2 ^ d) (2 ^ d) (List.replicate (2 ^ d) 0) ∧ Ext w w' := by
  have hN := pow_le64 hd
  obtain ⟨N, hN'⟩ : ∃ N, N = 2 ^ d := ⟨_, rfl⟩
  have HN := Lib.hid hN'
  rw [← hN'] at hN ⊢
  clear hN'
  go_enter Try.func134, Try.ntmps134
  go_wp2_with (go_at_call 152; refine (s_size _ _ _ _ _ hd).mono ?_; rintro e w1 ⟨rfl, g1⟩; rw [← HN.out])
  obtain ⟨w2, hmk, ho, he⟩ := make_ints w1 N (by omega)
  have HO := Lib.hid ho
  have HE := Lib.hid ((ext_alloc _ _).trans (g1.trans he))
  have hz := g1.size'
  simp only [World.size_alloc] at hz
  clear ho he g1
  rw [hmk]
  go_wp2_with (fail)
  go_ret
  exact ⟨w1.heap.size, rfl, HO.out.mono (by omega), HE.out⟩

set_option maxHeartbeats 400000 in
theorem s_one (p : Int) (a : Option Addr) (d cap : Nat) (w : World) (hd : d ≤ 6) :
    Calls Try.prog 103 #[.agg #[.int .i64 p, .slice a d cap]] w fun e w' => ∃ g, e = .returned (.slice (some ⟨g, 0, none⟩) (2 ^ d) (2 ^ d)) ∧ OwnC w.heap.size w' (some ⟨g, 0, none⟩) (2 ^ d) (2 ^ d) (bladeL (2 ^ d) 0) ∧ Ext w w' := by
  have hN1 := pow_pos' d
  obtain ⟨N, hN'⟩ : ∃ N, N = 2 ^ d := ⟨_, rfl⟩
  have HN := Lib.hid hN'
  rw [← hN'] at hN1 ⊢
  clear hN'
  go_enter Try.func103, Try.ntmps103
  go_wp2_with (fail)
  have Hno := s_zero p a d cap (w.alloc (.cells #[.int .i64 p, .slice a d cap] 30)) hd
  rw [← HN.out] at Hno
  refine Hno.mono ?_
  rintro e w1 ⟨g, rfl, ho, g1⟩
  have HO := Lib.hid ho
  have G1 := Lib.hid g1
  have ec := ho.cell hN1
  have ef := ho.frozen 0
  have hg := ho.base_le
  simp only [World.size_alloc] at hg
  clear Hno ho g1
  go_wp2_with (fail)
  go_ret
  exact ⟨g, rfl, (HO.out.store hN1 _).mono (by simp), ((ext_alloc _ _).trans G1.out).setCell (by simp; omega) _⟩


theorem nth_bd {p : Int} {N : Nat} {xs : List Int} (h : Good p N xs) {i : Nat} (hi : i < N) : 0 ≤ nth xs i ∧ nth xs i < p := h.2 i hi
def sqFull (p : Int) (qs : List Int) : Int := nth (prodL p qs tkA (fullL qs.length) (fullL qs.length)) 0
theorem sqFull_bd {p : Int} {qs : List Int} (hp : 3 ≤ p) : 0 ≤ sqFull p qs ∧ sqFull p qs < p := (prod_good (by omega)).2 0 (pow_pos' _)
theorem own_cell0 {B : Nat} {w : World} {g n cap : Nat} {xs : List Int} (h : OwnC B w (some ⟨g, 0, none⟩) n cap xs) (hn : 0 < n) : w.cell? ⟨g, 0, none⟩ = some (.int .i64 (nth xs 0)) := h.cell hn

theorem good_pair {p : Int} {N : Nat} {xs ys : List Int} (h : Good p N xs) (h' : Good p N ys) : ∀ i, i < 2 → Good p N (nthR [xs, ys] i) := fun i hi => by
  have : i = 0 ∨ i = 1 := by omega
  rcases this with rfl | rfl
  · exact h
  · exact h'


end Go.Proofs.Ytnabpmafcflljaa

/-
  Sums of lists, in the program and in the reference.
  No condition.
-/
namespace Go.Proofs.Ytnabpmafcflljaa
set_option maxRecDepth 100000
open Go.RowKit

def plusN (p : Int) (x y : List Int) (k : Int) (i : Nat) : Int := (nth x i + k * nth y i) % p
def plusL (p : Int) (x y : List Int) (k : Int) (n : Nat) : List Int := (List.range n).map (plusN p x y k)
theorem plusL_len (p : Int) (x y : List Int) (k : Int) (n : Nat) : (plusL p x y k n).length = n := by simp [plusL]
theorem plusL_succ (p : Int) (x y : List Int) (k : Int) (n : Nat) : plusL p x y k (n + 1) = plusL p x y k n ++ [plusN p x y k n] := by simp [plusL, List.range_succ]
theorem plusL_nth {p : Int} {x y : List Int} {k : Int} {n i : Nat} (h : i < n) : nth (plusL p x y k n) i = plusN p x y k i := by
  unfold plusL; rw [nth_map (by simpa using h)]; simp
theorem plus_good {p : Int} {x y : List Int} {k : Int} {n : Nat} (hp : 1 ≤ p) : Good p n (plusL p x y k n) := ⟨plusL_len _ _ _ _ _, fun i hi => by
  rw [plusL_nth hi]; exact ⟨Int.emod_nonneg _ (by omega), Int.emod_lt_of_pos _ (by omega)⟩⟩
theorem plus_minus {p : Int} {x y : List Int} {n : Nat} : plusL p x y (p - 1) n = plusL p x y (-1) n := by
  unfold plusL
  refine List.map_congr_left fun i _ => ?_
  unfold plusN
  rw [show nth x i + (p - 1) * nth y i = (nth x i + -1 * nth y i) + p * nth y i by rw [Int.sub_mul]; omega, Int.add_mul_emod_self_left]

/-- A row of one number. -/
def SPred.one (x : Int) : SPred := ⟨fun v w => ∃ g, v = .slice (some ⟨g, 0, none⟩) 1 1 ∧ w.cell? ⟨g, 0, none⟩ = some (.int .i64 x), fun _ _ _ ⟨g, hv, h⟩ he => ⟨g, hv, he.cell h⟩⟩
theorem kmul_bd {k y : Int} (hk : -1000 ≤ k ∧ k ≤ 1000) (hy0 : 0 ≤ y) (hy : y ≤ 1000) : -1000000 ≤ k * y ∧ k * y ≤ 1000000 := by
  constructor
  · have : -1000 * y ≤ k * y := Int.mul_le_mul_of_nonneg_right hk.1 hy0
    omega
  · have : k * y ≤ 1000 * y := Int.mul_le_mul_of_nonneg_right hk.2 hy0
    omega

set_option maxHeartbeats 1000000 in
theorem c_plus (p : Int) (ax ay : Option Addr) (n cx cy : Nat) (x y : List Int) (k : Int) (w : World) (hp1 : 3 ≤ p) (hp2 : p ≤ 1000) (hk : -1000 ≤ k ∧ k ≤ 1000) (hn : n ≤ 4194303) (hx : RdC w ax n x) (hy : RdC w ay n y) (hgx : Good p n x) (hgy : Good p n y) :
    Calls Try.prog 74 #[.int .i64 p, .slice ax n cx, .slice ay n cy, .int .i64 k] w fun e w' => ∃ g rc, e = .returned (.slice (some ⟨g, 0, none⟩) n rc) ∧ OwnC w.heap.size w' (some ⟨g, 0, none⟩) n rc (plusL p x y k n) ∧ Ext w w' := by
  have HX := Lib.hid hx
  have HY := Lib.hid hy
  have HGX := Lib.hid hgx
  have HGY := Lib.hid hgy
  clear hx hy hgx hgy
  go_enter Try.func74, Try.ntmps74
  go_wp2_with (fail)
  go_loopw [9, 15] (fun v i wr => ∃ (j g rc : Nat), j ≤ n ∧ i = .int .i64 j ∧ v = .slice (some ⟨g, 0, none⟩) j rc ∧ OwnC w.heap.size wr (some ⟨g, 0, none⟩) j rc (plusL p x y k j) ∧ Ext w wr) (fun _ i _ => n - (intOf i).toNat)
  case atStart => exact ⟨0, _, _, Nat.zero_le _, rfl, rfl, own_empty w, ext_alloc _ _⟩
  case round =>
    obtain ⟨j, g, rc, hj, rfl, rfl, hown, hext⟩ := hrel
    have HOwn := Lib.hid hown
    have HExt := Lib.hid hext
    clear hown hext
    by_cases hlt : j < n
    · obtain ⟨bx, ox, rfl, hcx⟩ := HX.out.2 j hlt
      obtain ⟨by', oy, rfl, hcy⟩ := HY.out.2 j hlt
      have hcx' := HExt.out.cell hcx
      have hcy' := HExt.out.cell hcy
      have hbx := HGX.out.2 j hlt
      have hby := HGY.out.2 j hlt
      have hkb := kmul_bd hk hby.1 (show nth y j ≤ 1000 by omega)
      have hw1 : IntKind.i64.wrap (k * nth y j) = k * nth y j := IntWalk.i64_in _ (by omega)
      have hw2 : IntKind.i64.wrap (nth x j + k * nth y j) = nth x j + k * nth y j := IntWalk.i64_in _ (by omega)
      have HP := Lib.hid (show (nth x j + k * nth y j) % p = plusN p x y k j from rfl)
      clear hcx hcy
      go_wp2_with (first | (go_at_call 86; refine (c_num _ _ _ (by omega) hp2).mono ?_; rintro e w2 ⟨rfl, g2⟩; rw [HP.out]; have G2 := Lib.hid g2; clear g2) | (at_builtin; refine wpList_push rfl (.tmp 20) (.tmp 31) rfl rfl rfl (v := plusN p x y k j) (HOwn.out.ext (G2.out.trans (ext_alloc _ _))) ?hc ?hn ?hB ?hk))
      case hc => simp
      case hn => omega
      case hB => have hz := (HExt.out.trans G2.out).size'; simp; omega
      case hk =>
        intro g' cap' w3 ho3 hg3 he3
        have HO3 := Lib.hid ho3
        have HE3 := Lib.hid (he3 w (Nat.le_refl _) ((HExt.out.trans G2.out).alloc _))
        clear ho3 hg3 he3
        go_wp2_with (fail)
        go_roundw
        case rel => exact ⟨j + 1, g', cap', by omega, by go_num, rfl, by rw [plusL_succ]; exact HO3.out, HE3.out⟩
        case measure => simp [intOf]; omega
    · go_wp2_with (fail)
      go_ret
      obtain rfl : j = n := by omega
      exact ⟨g, rc, rfl, HOwn.out, HExt.out⟩

set_option maxHeartbeats 1000000 in
set_option maxRecDepth 100000 in
theorem s_plus (p : Int) (ax ay : Option Addr) (n cx cy : Nat) (x y : List Int) (k : Int) (w : World) (hp1 : 3 ≤ p) (hp2 : p ≤ 1000) (hk : 0 ≤ k ∧ k ≤ 1000) (hn : n ≤ 4194303) (hx : RdC w ax n x) (hy : RdC w ay n y) (hgx : Good p n x) (hgy : Good p n y) :
    Calls Try.prog 91 #[.int .i64 p, .slice ax n cx, .slice ay n cy, .int .i64 k] w fun e w' => ∃ g rc, e = .returned (.slice (some ⟨g, 0, none⟩) n rc) ∧ OwnC w.heap.size w' (some ⟨g, 0, none⟩) n rc (plusL p x y k n) ∧ Ext w w' := by
  have hpz : ¬ p = 0 := by omega
  have HX := Lib.hid hx
  have HY := Lib.hid hy
  have HGX := Lib.hid hgx
  have HGY := Lib.hid hgy
  clear hx hy hgx hgy
  go_enter Try.func91, Try.ntmps91
  go_wp2_with (fail)
  go_loopw [9, 10] (fun v i wr => ∃ (j g rc : Nat), j ≤ n ∧ i = .int .i64 j ∧ v = .slice (some ⟨g, 0, none⟩) j rc ∧ OwnC w.heap.size wr (some ⟨g, 0, none⟩) j rc (plusL p x y k j) ∧ Ext w wr) (fun _ i _ => n - (intOf i).toNat)
  case atStart => exact ⟨0, _, _, Nat.zero_le _, rfl, rfl, own_empty w, ext_alloc _ _⟩
  case round =>
    obtain ⟨j, g, rc, hj, rfl, rfl, hown, hext⟩ := hrel
    have HOwn := Lib.hid hown
    have HExt := Lib.hid hext
    clear hown hext
    by_cases hlt : j < n
    · obtain ⟨bx, ox, rfl, hcx⟩ := HX.out.2 j hlt
      obtain ⟨by', oy, rfl, hcy⟩ := HY.out.2 j hlt
      have Hcx := Lib.hid ((HExt.out.trans (ext_drew _)).cell hcx)
      have Hcy := Lib.hid ((HExt.out.trans (ext_drew _)).cell hcy)
      have hbx := HGX.out.2 j hlt
      have hby := HGY.out.2 j hlt
      have hkb := kmul_bd ⟨by omega, hk.2⟩ hby.1 (show nth y j ≤ 1000 by omega)
      have hkn : 0 ≤ k * nth y j := Int.mul_nonneg hk.1 hby.1
      have hw1 : IntKind.i64.wrap (k * nth y j) = k * nth y j := IntWalk.i64_in _ (by omega)
      have hw2 : IntKind.i64.wrap (nth x j + k * nth y j) = nth x j + k * nth y j := IntWalk.i64_in _ (by omega)
      have hw3 : (nth x j + k * nth y j).tmod p = plusN p x y k j := Int.tmod_eq_emod_of_nonneg (by omega)
      clear hcx hcy
      go_wp2_with (fail)
      refine wp_region_lex_tail 15 [(14, .one (plusN p x y k j))] (by kernel_rfl) (by kernel_rfl) ?_
      simp only [List.take, List.drop]
      repeat' first | (refine LexW.pure (v := ?_) rfl rfl (fun w1 he => ?_) ?_; rotate_left; ( have e3 := he.cell Hcx.out; have e4 := he.cell Hcy.out; go_simp; rfl); simp only [Act.put, List.setIfInBounds_toArray, List.set_cons_zero, List.set_cons_succ]) | ((refine LexW.rel rfl rfl (fun w1 he hdep => ?_) (fun v hv => ?_); ( exact ⟨.slice (some ⟨w1.heap.size, 0, none⟩) 1 1, w1.alloc (.cells #[.int .i64 (plusN p x y k j)] 2), (by go_simp), ext_alloc _ _, _, rfl, (by simp)⟩); simp only [Act.put, List.setIfInBounds_toArray, List.set_cons_zero, List.set_cons_succ]); obtain ⟨_, g9, rfl, _⟩ := hv)
      refine LexW.nil (fun w2 he hkn => ?_)
      obtain ⟨_, q9, r9⟩ : (SPred.one (plusN p x y k j)).holds (.slice (some ⟨g9, 0, none⟩) 1 1) w2 := hkn (14, _) (by simp)
      cases q9
      have G2 := Lib.hid ((ext_drew _).trans he)
      have R9 := Lib.hid r9
      clear he hkn r9
      go_wp2_with (at_builtin; refine wpList_push rfl (.tmp 18) (.tmp 32) rfl rfl rfl (v := plusN p x y k j) (HOwn.out.ext G2.out) ?hc ?hn ?hB ?hk)
      case hc => exact R9.out
      case hn => omega
      case hB => exact (HExt.out.trans G2.out).size'
      case hk =>
        intro g' cap' w3 ho3 hg3 he3
        have HO3 := Lib.hid ho3
        have HE3 := Lib.hid (he3 w (Nat.le_refl _) (HExt.out.trans G2.out))
        clear ho3 hg3 he3
        go_wp2_with (fail)
        go_roundw
        case rel => exact ⟨j + 1, g', cap', by omega, by go_num, rfl, by rw [plusL_succ]; exact HO3.out, HE3.out⟩
        case measure => simp [intOf]; omega
    · go_wp2_with (fail)
      go_ret
      obtain rfl : j = n := by omega
      exact ⟨g, rc, rfl, HOwn.out, HExt.out⟩
end Go.Proofs.Ytnabpmafcflljaa

/-
  Contracts of products and blades, with the number of coefficients as a letter.
  No condition.
-/
namespace Go.Proofs.Ytnabpmafcflljaa
set_option maxRecDepth 100000
open Go.RowKit

theorem c_nothingN {N : Nat} {d : Nat} (hN : N = 2 ^ d) (p : Int) (a : Option Addr) (cap : Nat) (w : World) (hd : d ≤ 6) :
    Calls Try.prog 140 #[.agg #[.int .i64 p, .slice a d cap]] w fun e w' => ∃ g, e = .returned (.slice (some ⟨g, 0, none⟩) N N) ∧ OwnC w.heap.size w' (some ⟨g, 0, none⟩) N N (List.replicate N 0) ∧ Ext w w' := by
  subst hN
  exact c_nothing p a d cap w hd
theorem c_productN {N : Nat} {d : Nat} (hN : N = 2 ^ d) (p : Int) (a : Option Addr) (cap : Nat) (qs : List Int) (ax ay : Option Addr) (cx cy : Nat) (x y : List Int) (F : Nat) (tk : Nat → Nat → Bool) (w : World) (hd : d ≤ 6) (hp1 : 3 ≤ p) (hp2 : p ≤ 1000) (hq : RdC w a d qs) (hqb : isB p qs = true)
    (hx : RdC w ax N x) (hy : RdC w ay N y) (hxb : isB p x = true) (hyb : isB p y = true)
    (hcf : ∀ args w, (callFunc F args).run Try.prog w = .ok (.enter F args) w)
    (htk : ∀ (i j : Nat) (w : World), i < 64 → j < 64 → Calls Try.prog F #[.int .i64 i, .int .i64 j] w fun e w' => e = .returned (.bool (tk i j)) ∧ Ext w w') :
    Calls Try.prog 138 #[.agg #[.int .i64 p, .slice a d cap], .slice ax N cx, .slice ay N cy, .func (.func F) #[] #[]] w fun e w' =>
      ∃ g, e = .returned (.slice (some ⟨g, 0, none⟩) N N) ∧ OwnC w.heap.size w' (some ⟨g, 0, none⟩) N N (prodL p qs tk x y) ∧ Ext w w' := by
  subst hN
  exact c_product p a d cap qs ax ay cx cy x y F tk w hd hp1 hp2 hq hqb hx hy hxb hyb hcf htk
theorem s_timesN {N : Nat} {d : Nat} (hN : N = 2 ^ d) (p : Int) (a : Option Addr) (cap : Nat) (qs : List Int) (ax ay : Option Addr) (cx cy : Nat) (x y : List Int) (w : World) (hd : d ≤ 6) (hp1 : 3 ≤ p) (hp2 : p ≤ 1000) (hq : RdC w a d qs) (hqb : isB p qs = true)
    (hx : RdC w ax N x) (hy : RdC w ay N y) (hxb : isB p x = true) (hyb : isB p y = true) :
    Calls Try.prog 104 #[.agg #[.int .i64 p, .slice a d cap], .slice ax N cx, .slice ay N cy] w fun e w' =>
      ∃ g, e = .returned (.slice (some ⟨g, 0, none⟩) N N) ∧ OwnC w.heap.size w' (some ⟨g, 0, none⟩) N N (prodL p qs tkA x y) ∧ Ext w w' := by
  subst hN
  exact s_times p a d cap qs ax ay cx cy x y w hd hp1 hp2 hq hqb hx hy hxb hyb
theorem c_bladeN {N : Nat} {d : Nat} (hN : N = 2 ^ d) (p : Int) (a : Option Addr) (cap : Nat) (m : Nat) (w : World) (hd : d ≤ 6) (hm : m < N) :
    Calls Try.prog 137 #[.agg #[.int .i64 p, .slice a d cap], .int .i64 m] w fun e w' => ∃ g, e = .returned (.slice (some ⟨g, 0, none⟩) N N) ∧ OwnC w.heap.size w' (some ⟨g, 0, none⟩) N N (bladeL N m) ∧ Ext w w' := by
  subst hN
  exact c_blade p a d cap m w hd hm
theorem c_oneN {N : Nat} {d : Nat} (hN : N = 2 ^ d) (p : Int) (a : Option Addr) (cap : Nat) (w : World) (hd : d ≤ 6) :
    Calls Try.prog 109 #[.agg #[.int .i64 p, .slice a d cap]] w fun e w' => ∃ g, e = .returned (.slice (some ⟨g, 0, none⟩) N N) ∧ OwnC w.heap.size w' (some ⟨g, 0, none⟩) N N (bladeL N 0) ∧ Ext w w' := by
  subst hN
  exact c_one p a d cap w hd
theorem c_timesN {N : Nat} {d : Nat} (hN : N = 2 ^ d) (p : Int) (a : Option Addr) (cap : Nat) (qs : List Int) (al : Option Addr) (n cl : Nat) (rows : List (List Int)) (w : World) (hd : d ≤ 6) (hp1 : 3 ≤ p) (hp2 : p ≤ 1000) (hl : n ≤ 4194304) (hq : RdC w a d qs) (hqb : isB p qs = true)
    (hx : RdR w al n rows) (hr : ∀ i, i < n → Good p N (nthR rows i)) :
    Calls Try.prog 110 #[.agg #[.int .i64 p, .slice a d cap], .slice al n cl] w fun e w' => ∃ g, e = .returned (.slice (some ⟨g, 0, none⟩) N N) ∧ OwnC w.heap.size w' (some ⟨g, 0, none⟩) N N (timesL p qs rows) ∧ Ext w w' := by
  subst hN
  exact c_times p a d cap qs al n cl rows w hd hp1 hp2 hl hq hqb hx hr
theorem s_zeroN {N : Nat} {d : Nat} (hN : N = 2 ^ d) (p : Int) (a : Option Addr) (cap : Nat) (w : World) (hd : d ≤ 6) :
    Calls Try.prog 134 #[.agg #[.int .i64 p, .slice a d cap]] w fun e w' => ∃ g, e = .returned (.slice (some ⟨g, 0, none⟩) N N) ∧ OwnC w.heap.size w' (some ⟨g, 0, none⟩) N N (List.replicate N 0) ∧ Ext w w' := by
  subst hN
  exact s_zero p a d cap w hd
theorem s_oneN {N : Nat} {d : Nat} (hN : N = 2 ^ d) (p : Int) (a : Option Addr) (cap : Nat) (w : World) (hd : d ≤ 6) :
    Calls Try.prog 103 #[.agg #[.int .i64 p, .slice a d cap]] w fun e w' => ∃ g, e = .returned (.slice (some ⟨g, 0, none⟩) N N) ∧ OwnC w.heap.size w' (some ⟨g, 0, none⟩) N N (bladeL N 0) ∧ Ext w w' := by
  subst hN
  exact s_one p a d cap w hd
end Go.Proofs.Ytnabpmafcflljaa

/-
  Regular spaces: the library's search for a number, the discriminant, the codes of regular spaces.
  No condition.
-/
namespace Go.Proofs.Ytnabpmafcflljaa
set_option maxRecDepth 100000
open Go.RowKit

set_option maxHeartbeats 400000 in
set_option maxRecDepth 20000 in
theorem c_index (a : Option Addr) (n cap : Nat) (xs : List Int) (v : Int) (w : World) (hl : n ≤ 4194304) (hx : RdC w a n xs) :
    Calls Try.prog 150 #[.slice a n cap, .int .i64 v] w fun e w' => e = .returned (.int .i64 (firstIx (fun i => v == nth xs i) n)) ∧ Ext w w' := by
  have HX := Lib.hid hx
  clear hx
  go_enter Try.func150, Try.ntmps150
  go_wp2_with (fail)
  go_loopw [5, 8] (fun _ i wr => ∃ k : Nat, k ≤ n ∧ i = .int .i64 k ∧ Hid (∀ j, j < k → (v == nth xs j) = false) ∧ Ext w wr) (fun _ i _ => n - (intOf i).toNat)
  case atStart => exact ⟨0, Nat.zero_le _, rfl, Lib.hid (fun j hj => by omega), Ext.refl _⟩
  case round =>
    obtain ⟨k, hk, rfl, HT, hext⟩ := hrel
    by_cases hlt : k < n
    · obtain ⟨b, off, rfl, hc⟩ := HX.out.2 k hlt
      have hc' := hext.cell hc
      clear hc
      cases hb : (v == nth xs k)
      · have HB := Lib.hid hb
        go_wp2_with (fail)
        go_roundw
        case rel => exact ⟨k + 1, by omega, by go_num, Lib.hid (fun j hj => by
          by_cases hjk : j = k
          · subst hjk; exact HB.out
          · exact HT.out j (by omega)), hext⟩
        case measure => simp [intOf]; omega
      · have HB := Lib.hid hb
        go_wp2_with (fail)
        go_ret
        exact ⟨ret_int (firstIx_hit (f := fun i => v == nth xs i) hlt HB.out HT.out).symm, hext⟩
    · go_wp2_with (fail)
      go_ret
      exact ⟨ret_int (firstIx_none (f := fun i => v == nth xs i) (fun j hj => HT.out j (by omega))).symm, hext⟩

def hasB (xs : List Int) (v : Int) : Bool := (List.range xs.length).any fun i => v == nth xs i
set_option maxHeartbeats 400000 in
theorem c_contains (a : Option Addr) (n cap : Nat) (xs : List Int) (v : Int) (w : World) (hl : n ≤ 4194304) (hx : RdC w a n xs) :
    Calls Try.prog 124 #[.slice a n cap, .int .i64 v] w fun e w' => e = .returned (.bool (hasB xs v)) ∧ Ext w w' := by
  have HA := Lib.hid (show decide (0 ≤ firstIx (fun i => v == nth xs i) n) = hasB xs v by rw [firstIx_any]; unfold hasB; rw [hx.1])
  have hbd := firstIx_bd (fun i => v == nth xs i) n
  go_enter Try.func124, Try.ntmps124
  go_wp2_with (go_at_call 150; refine (c_index _ _ _ _ _ _ hl hx).mono ?_; rintro e w1 ⟨rfl, h1⟩)
  go_ret
  exact ⟨ret_bool HA.out, h1⟩

def regB (qs : List Int) : Bool := !hasB qs 0
set_option maxHeartbeats 400000 in
theorem c_regular (p : Int) (a : Option Addr) (d cap : Nat) (qs : List Int) (w : World) (hl : d ≤ 4194304) (hq : RdC w a d qs) :
    Calls Try.prog 83 #[.agg #[.int .i64 p, .slice a d cap]] w fun e w' => e = .returned (.bool (regB qs)) ∧ Ext w w' := by
  go_enter Try.func83, Try.ntmps83
  go_wp2_with (go_at_call 124; refine (c_contains _ _ _ _ _ _ hl (hq.ext (ext_alloc _ _))).mono ?_; rintro e w1 ⟨rfl, h1⟩)
  go_ret
  exact ⟨rfl, (ext_alloc _ _).trans h1⟩

/-! ### The discriminant -/
def discS (p : Int) (qs : List Int) : Nat → Int
  | 0 => 1
  | k + 1 => discS p qs k * nth qs k % p
theorem discS_bd {p : Int} {qs : List Int} (hp : 3 ≤ p) : ∀ k, 0 ≤ discS p qs k ∧ discS p qs k < p
  | 0 => by simp [discS]; omega
  | k + 1 => ⟨Int.emod_nonneg _ (by omega), Int.emod_lt_of_pos _ (by omega)⟩
theorem mul_zero_of {p : Int} (hp : primeB p = true) {x y : Int} (hx0 : 0 ≤ x) (hx : x < p) (hy0 : 0 ≤ y) (hy : y < p) : x * y % p = 0 ↔ x = 0 ∨ y = 0 := by
  have key : ∀ q : Nat, (q = 3 ∨ q = 5 ∨ q = 7 ∨ q = 11 ∨ q = 13) → ∀ x : Nat, x < q → ∀ y : Nat, y < q → ((x * y) % q = 0 ↔ x = 0 ∨ y = 0) := by
    rintro q (rfl | rfl | rfl | rfl | rfl) <;> decide +kernel
  have hb := prime_bd hp
  obtain ⟨q, rfl⟩ := Int.eq_ofNat_of_zero_le (show 0 ≤ p by omega)
  obtain ⟨x, rfl⟩ := Int.eq_ofNat_of_zero_le hx0
  obtain ⟨y, rfl⟩ := Int.eq_ofNat_of_zero_le hy0
  have := key q (by simp [primeB] at hp; omega) x (by omega) y (by omega)
  rw [show ((x : Int) * (y : Int)) % (q : Int) = ((x * y % q : Nat) : Int) by simp]
  simp only [Int.natCast_eq_zero]
  exact this
theorem discS_zero {p : Int} {qs : List Int} (hp : primeB p = true) (hq : isB p qs = true) : ∀ k, k ≤ qs.length → ((discS p qs k == 0) = (List.range k).any fun i => (0 : Int) == nth qs i)
  | 0, _ => by simp [discS]
  | k + 1, h => by
    have hb := prime_bd hp
    have ih := discS_zero hp hq k (by omega)
    have hk := isB_nth hq (i := k) (by omega)
    have hd := discS_bd (qs := qs) (show 3 ≤ p by omega) k
    rw [List.range_succ, List.any_append, ← ih]
    rw [Bool.eq_iff_iff]
    simp only [discS, beq_iff_eq, Bool.or_eq_true, List.any_cons, List.any_nil, Bool.or_false]
    rw [mul_zero_of hp hd.1 hd.2 hk.1 hk.2]
    constructor
    · rintro (h | h)
      · exact .inl h
      · exact .inr h.symm
    · rintro (h | h)
      · exact .inl h
      · exact .inr h.symm
def discL (p : Int) (qs : List Int) : Int := discS p qs qs.length
theorem disc_reg {p : Int} {qs : List Int} (hp : primeB p = true) (hq : isB p qs = true) : (discL p qs == 0) = !regB qs := by
  rw [discL, discS_zero hp hq _ (Nat.le_refl _), regB, Bool.not_not]; rfl

set_option maxHeartbeats 1000000 in
set_option maxRecDepth 20000 in
theorem s_disc (p : Int) (a : Option Addr) (d cap : Nat) (qs : List Int) (w : World) (hd : d ≤ 64) (hp1 : 3 ≤ p) (hp2 : p ≤ 1000) (hq : RdC w a d qs) (hqb : isB p qs = true) :
    Calls Try.prog 89 #[.agg #[.int .i64 p, .slice a d cap]] w fun e w' => e = .returned (.int .i64 (discL p qs)) ∧ Ext w w' := by
  have hpz : ¬ p = 0 := by omega
  have HD := Lib.hid (show discL p qs = discS p qs d by unfold discL; rw [hq.1])
  have HQ := Lib.hid hq
  have HQB := Lib.hid hqb
  clear hq hqb
  obtain ⟨W, hW⟩ : ∃ W, W = w.alloc (.cells #[.int .i64 p, .slice a d cap] 30) := ⟨_, rfl⟩
  have gW : Ext w W := by rw [hW]; exact ext_alloc _ _
  have hs0 : W.cell? ⟨w.heap.size, 0, none⟩ = some (.int .i64 p) := by rw [hW]; simp
  have hs1 : W.cell? ⟨w.heap.size, 1, none⟩ = some (.slice a d cap) := by rw [hW]; simp
  have HS0 := Lib.hid (hs0)
  have HS1 := Lib.hid (hs1)
  have GW := Lib.hid (gW)
  have HW := Lib.hid hW
  clear hs0 hs1 gW hW
  go_enter Try.func89, Try.ntmps89
  go_wp2_with (fail)
  rw [← HW.out]
  go_loopw [3, 4] (fun v i wr => ∃ k : Nat, k ≤ d ∧ i = .int .i64 k ∧ v = .int .i64 (discS p qs k) ∧ Ext W wr) (fun _ i _ => d - (intOf i).toNat)
  case atStart => exact ⟨0, Nat.zero_le _, rfl, rfl, Ext.refl _⟩
  case round =>
    obtain ⟨k, hk, rfl, rfl, hext⟩ := hrel
    have HExt := Lib.hid hext
    clear hext
    have hq0 := HExt.out.cell HS0.out
    have hq1 := HExt.out.cell HS1.out
    by_cases hlt : k < d
    · obtain ⟨b, off, rfl, hc⟩ := HQ.out.2 k hlt
      have hc' := (GW.out.trans HExt.out).cell hc
      have hqk := isB_nth HQB.out (i := k) (by rw [HQ.out.1]; exact hlt)
      have hds := discS_bd (qs := qs) hp1 k
      obtain ⟨D, hD⟩ : ∃ D, D = discS p qs k := ⟨_, rfl⟩
      have HDk := Lib.hid (show discS p qs (k + 1) = D * nth qs k % p by rw [hD]; rfl)
      rw [← hD] at hds
      obtain ⟨hm1, hm2⟩ := mul_bd hp2 hds.1 hds.2 hqk.1 hqk.2
      have hw1 : IntKind.i64.wrap (D * nth qs k) = D * nth qs k := IntWalk.i64_in _ (by omega)
      have hw2 : (D * nth qs k).tmod p = D * nth qs k % p := Int.tmod_eq_emod_of_nonneg hm1
      have Hc0 := Lib.hid ((ext_drew _).cell hq0)
      have Hc1 := Lib.hid ((ext_drew _).cell hq1)
      have Hc2 := Lib.hid ((ext_drew _).cell hc')
      rw [← hD]
      clear hc
      go_wp2_with (fail)
      clear hq0 hq1 hc' hD
      refine wp_region_lex [] (by kernel_rfl) (by kernel_rfl) ?_
      repeat' first | (refine LexW.pure (v := ?_) rfl rfl (fun w1 he => ?_) ?_; rotate_left; ( have e0 := he.cell Hc0.out; have e1 := he.cell Hc1.out; have e2 := he.cell Hc2.out; go_simp; rfl); simp only [Act.put, List.setIfInBounds_toArray, List.set_cons_zero, List.set_cons_succ])
      refine LexW.nil (fun w3 he hk => ?_)
      have HE3 := Lib.hid (HExt.out.trans ((ext_drew _).trans he))
      clear he hk
      go_wp2_with (fail)
      go_roundw
      case rel => exact ⟨k + 1, by omega, by go_num, by rw [HDk.out], HE3.out⟩
      case measure => simp [intOf]; omega
    · go_wp2_with (fail)
      go_ret
      obtain rfl : k = d := by omega
      exact ⟨ret_int HD.out.symm, GW.out.trans HExt.out⟩

def codeR (p : Int) (qs : List Int) (rows : List (List Int)) : Int := if codeM p qs rows = 0 then (if regB qs = true then 0 else 5) else codeM p qs rows
theorem codeR_zero {p : Int} {qs : List Int} {rows : List (List Int)} (h : codeR p qs rows = 0) : codeM p qs rows = 0 ∧ regB qs = true := by
  unfold codeR at h
  split at h
  · rename_i hm
    split at h
    · rename_i hr; exact ⟨hm, hr⟩
    · omega
  · rename_i hm; exact absurd h hm


end Go.Proofs.Ytnabpmafcflljaa

/-
  Powers and inverses of numbers, multiples of lists: walks; the square of the pseudoscalar of a regular space is not 0.
  No condition.
-/
namespace Go.Proofs.Ytnabpmafcflljaa
set_option maxRecDepth 100000
open Go.RowKit

def powS (p a : Int) : Nat → Int
  | 0 => 1
  | k + 1 => powS p a k * a % p
theorem powS_bd {p a : Int} (hp : 3 ≤ p) : ∀ k, 0 ≤ powS p a k ∧ powS p a k < p
  | 0 => by simp [powS]; omega
  | k + 1 => ⟨Int.emod_nonneg _ (by omega), Int.emod_lt_of_pos _ (by omega)⟩
def invN (p a : Int) : Int := powS p a (p - 2).toNat
theorem invN_bd {p a : Int} (hp : 3 ≤ p) : 0 ≤ invN p a ∧ invN p a < p := powS_bd hp _

def powT (q a : Nat) : Nat → Nat
  | 0 => 1
  | k + 1 => powT q a k * a % q
theorem powT_eq (q a k : Nat) : powS (q : Int) (a : Int) k = (powT q a k : Int) := by
  induction k with
  | zero => rfl
  | succ k ih => simp only [powS, powT]; rw [ih]; simp
theorem inv_spec {p a : Int} (hp : primeB p = true) (h0 : 0 < a) (h1 : a < p) :
    1 ≤ invN p a ∧ a * invN p a % p = 1 ∧ ∀ j : Nat, 1 ≤ j → (j : Int) < invN p a → ¬ a * j % p = 1 := by
  have key : ∀ q : Nat, (q = 3 ∨ q = 5 ∨ q = 7 ∨ q = 11 ∨ q = 13) → ∀ a : Nat, a < q → 0 < a → 1 ≤ powT q a (q - 2) ∧ a * powT q a (q - 2) % q = 1 ∧ ∀ j : Nat, j < powT q a (q - 2) → 1 ≤ j → ¬ a * j % q = 1 := by
    rintro q (rfl | rfl | rfl | rfl | rfl) <;> decide +kernel
  have hb := prime_bd hp
  obtain ⟨q, rfl⟩ := Int.eq_ofNat_of_zero_le (show 0 ≤ p by omega)
  obtain ⟨a, rfl⟩ := Int.eq_ofNat_of_zero_le (show 0 ≤ a by omega)
  obtain ⟨k1, k2, k3⟩ := key q (by simp [primeB] at hp; omega) a (by omega) (by omega)
  have e : invN (q : Int) (a : Int) = (powT q a (q - 2) : Int) := by
    unfold invN
    rw [show ((q : Int) - 2).toNat = q - 2 by omega, powT_eq]
  rw [e]
  refine ⟨by omega, ?_, fun j hj1 hj2 hj => ?_⟩
  · rw [show ((a : Int) * (powT q a (q - 2) : Int)) % (q : Int) = ((a * powT q a (q - 2) % q : Nat) : Int) by simp, k2]; rfl
  · refine k3 j (by omega) hj1 ?_
    rw [show ((a : Int) * (j : Int)) % (q : Int) = ((a * j % q : Nat) : Int) by simp] at hj
    omega

set_option maxHeartbeats 400000 in
theorem c_pow (p a : Int) (k : Nat) (w : World) (hp1 : 3 ≤ p) (hp2 : p ≤ 1000) (ha : 0 ≤ a) (ha2 : a < p) (hk : k ≤ 1000) :
    Calls Try.prog 149 #[.int .i64 p, .int .i64 a, .int .i64 k] w fun e w' => e = .returned (.int .i64 (powS p a k)) ∧ Ext w w' := by
  go_enter Try.func149, Try.ntmps149
  go_wp2_with (fail)
  go_loopw [7, 9] (fun v i wr => ∃ j : Nat, j ≤ k ∧ i = .int .i64 j ∧ v = .int .i64 (powS p a j) ∧ Ext w wr) (fun _ i _ => k - (intOf i).toNat)
  case atStart => exact ⟨0, Nat.zero_le _, rfl, rfl, Ext.refl _⟩
  case round =>
    obtain ⟨j, hj, rfl, rfl, hext⟩ := hrel
    by_cases hlt : j < k
    · have hb := powS_bd (a := a) hp1 j
      obtain ⟨D, hD⟩ : ∃ D, D = powS p a j := ⟨_, rfl⟩
      have HDk := Lib.hid (show D * a % p = powS p a (j + 1) by rw [hD]; rfl)
      rw [← hD] at hb ⊢
      clear hD
      obtain ⟨hm1, hm2⟩ := mul_bd hp2 hb.1 hb.2 ha ha2
      have hw1 : IntKind.i64.wrap (D * a) = D * a := IntWalk.i64_in _ (by omega)
      go_wp2_with (go_at_call 86; refine (c_num _ _ _ (by omega) hp2).mono ?_; rintro e w2 ⟨rfl, g2⟩; rw [HDk.out])
      go_roundw
      case rel => exact ⟨j + 1, by omega, by go_num, rfl, hext.trans g2⟩
      case measure => simp [intOf]; omega
    · go_wp2_with (fail)
      go_ret
      obtain rfl : j = k := by omega
      exact ⟨rfl, hext⟩
set_option maxHeartbeats 400000 in
theorem c_inv (p a : Int) (w : World) (hp1 : 3 ≤ p) (hp2 : p ≤ 1000) (ha : 0 ≤ a) (ha2 : a < p) :
    Calls Try.prog 118 #[.int .i64 p, .int .i64 a] w fun e w' => e = .returned (.int .i64 (invN p a)) ∧ Ext w w' := by
  obtain ⟨k, hk⟩ := Int.eq_ofNat_of_zero_le (show 0 ≤ p - 2 by omega)
  have HI := Lib.hid (show powS p a k = invN p a by unfold invN; rw [hk]; rfl)
  have hw1 : IntKind.i64.wrap (p - 2) = (k : Int) := by rw [IntWalk.i64_in _ (by omega)]; exact hk
  have hkl : k ≤ 1000 := by omega
  have hk2 : p - 2 = (k : Int) := hk
  clear hk
  go_enter Try.func118, Try.ntmps118
  go_wp2_with (go_at_call 149; refine (c_pow _ _ _ _ hp1 hp2 ha ha2 hkl).mono ?_; rintro e w2 ⟨rfl, g2⟩; rw [HI.out])
  go_ret
  exact ⟨rfl, g2⟩

set_option maxHeartbeats 400000 in
theorem s_inv (p a : Int) (w : World) (hpr : primeB p = true) (ha : 0 < a) (ha2 : a < p) :
    Calls Try.prog 63 #[.int .i64 p, .int .i64 a] w fun e w' => e = .returned (.int .i64 (invN p a)) ∧ Ext w w' := by
  have hpb := prime_bd hpr
  have hpz : ¬ p = 0 := by omega
  obtain ⟨hi1, hi2, hi3⟩ := inv_spec hpr ha ha2
  have hib := invN_bd (a := a) (show 3 ≤ p by omega)
  obtain ⟨I, hI⟩ := Int.eq_ofNat_of_zero_le hib.1
  rw [hI] at hi1 hi2 hi3 hib ⊢
  have H2 := Lib.hid hi2
  have H3 := Lib.hid hi3
  clear hi2 hi3 hI hpr
  go_enter Try.func63, Try.ntmps63
  go_wp2_with (fail)
  go_loopw [5] (fun v wr => ∃ j : Nat, 1 ≤ j ∧ j ≤ I ∧ v = .int .i64 j ∧ Ext w wr) (fun v _ => I - (intOf v).toNat)
  case atStart => exact ⟨1, Nat.le_refl _, by omega, rfl, Ext.refl _⟩
  case round =>
    obtain ⟨j, hj1, hj, rfl, hext⟩ := hrel
    obtain ⟨hm1, hm2⟩ := mul_bd (show p ≤ 1000 by omega) (show 0 ≤ a by omega) ha2 (show 0 ≤ (j : Int) by omega) (show (j : Int) < p by omega)
    obtain ⟨R, hR⟩ : ∃ R, R = a * (j : Int) % p := ⟨_, rfl⟩
    have hw1 : IntKind.i64.wrap (a * (j : Int)) = a * (j : Int) := IntWalk.i64_in _ (by omega)
    have hw2 : (a * (j : Int)).tmod p = R := by rw [hR]; exact Int.tmod_eq_emod_of_nonneg hm1
    by_cases hlt : j < I
    · have hne := H3.out j hj1 (by omega)
      have hb : (R != 1) = true := by rw [hR]; simpa using hne
      clear hR hne
      go_wp2_with (fail)
      go_roundw
      case rel => exact ⟨j + 1, by omega, by omega, by go_num, hext⟩
      case measure => simp [intOf]; omega
    · obtain rfl : j = I := by omega
      have hb : (R != 1) = false := by rw [hR, H2.out]; rfl
      clear hR
      go_wp2_with (fail)
      go_ret
      exact ⟨rfl, hext⟩

/-! ### Multiples of lists -/
def scaleN (p : Int) (x : List Int) (k : Int) (i : Nat) : Int := (nth x i * k) % p
def scaleL (p : Int) (x : List Int) (k : Int) (n : Nat) : List Int := (List.range n).map (scaleN p x k)
theorem scaleL_len (p : Int) (x : List Int) (k : Int) (n : Nat) : (scaleL p x k n).length = n := by simp [scaleL]
theorem scaleL_succ (p : Int) (x : List Int) (k : Int) (n : Nat) : scaleL p x k (n + 1) = scaleL p x k n ++ [scaleN p x k n] := by simp [scaleL, List.range_succ]
theorem scaleL_nth {p : Int} {x : List Int} {k : Int} {n i : Nat} (h : i < n) : nth (scaleL p x k n) i = scaleN p x k i := by
  unfold scaleL; rw [nth_map (by simpa using h)]; simp
theorem scale_good {p : Int} {x : List Int} {k : Int} {n : Nat} (hp : 1 ≤ p) : Good p n (scaleL p x k n) := ⟨scaleL_len _ _ _ _, fun i hi => by
  rw [scaleL_nth hi]; exact ⟨Int.emod_nonneg _ (by omega), Int.emod_lt_of_pos _ (by omega)⟩⟩

set_option maxHeartbeats 1000000 in
theorem c_scaled (p : Int) (ax : Option Addr) (n cx : Nat) (x : List Int) (k : Int) (w : World) (hp1 : 3 ≤ p) (hp2 : p ≤ 1000) (hk : -1000 ≤ k ∧ k ≤ 1000) (hn : n ≤ 4194303) (hx : RdC w ax n x) (hgx : Good p n x) :
    Calls Try.prog 126 #[.int .i64 p, .slice ax n cx, .int .i64 k] w fun e w' => ∃ g rc, e = .returned (.slice (some ⟨g, 0, none⟩) n rc) ∧ OwnC w.heap.size w' (some ⟨g, 0, none⟩) n rc (scaleL p x k n) ∧ Ext w w' := by
  have HX := Lib.hid hx
  have HGX := Lib.hid hgx
  clear hx hgx
  go_enter Try.func126, Try.ntmps126
  go_wp2_with (fail)
  go_loopw [7, 13] (fun v i wr => ∃ (j g rc : Nat), j ≤ n ∧ i = .int .i64 j ∧ v = .slice (some ⟨g, 0, none⟩) j rc ∧ OwnC w.heap.size wr (some ⟨g, 0, none⟩) j rc (scaleL p x k j) ∧ Ext w wr) (fun _ i _ => n - (intOf i).toNat)
  case atStart => exact ⟨0, _, _, Nat.zero_le _, rfl, rfl, own_empty w, ext_alloc _ _⟩
  case round =>
    obtain ⟨j, g, rc, hj, rfl, rfl, hown, hext⟩ := hrel
    have HOwn := Lib.hid hown
    have HExt := Lib.hid hext
    clear hown hext
    by_cases hlt : j < n
    · obtain ⟨bx, ox, rfl, hcx⟩ := HX.out.2 j hlt
      have hcx' := HExt.out.cell hcx
      have hbx := HGX.out.2 j hlt
      have hkb := kmul_bd hk hbx.1 (show nth x j ≤ 1000 by omega)
      rw [Int.mul_comm] at hkb
      have hw1 : IntKind.i64.wrap (nth x j * k) = nth x j * k := IntWalk.i64_in _ (by omega)
      have HP := Lib.hid (show (nth x j * k) % p = scaleN p x k j from rfl)
      clear hcx
      go_wp2_with (first | (go_at_call 86; refine (c_num _ _ _ (by omega) hp2).mono ?_; rintro e w2 ⟨rfl, g2⟩; rw [HP.out]; have G2 := Lib.hid g2; clear g2) | (at_builtin; refine wpList_push rfl (.tmp 17) (.tmp 23) rfl rfl rfl (v := scaleN p x k j) (HOwn.out.ext (G2.out.trans (ext_alloc _ _))) ?hc ?hn ?hB ?hk))
      case hc => simp
      case hn => omega
      case hB => have hz := (HExt.out.trans G2.out).size'; simp; omega
      case hk =>
        intro g' cap' w3 ho3 hg3 he3
        have HO3 := Lib.hid ho3
        have HE3 := Lib.hid (he3 w (Nat.le_refl _) ((HExt.out.trans G2.out).alloc _))
        clear ho3 hg3 he3
        go_wp2_with (fail)
        go_roundw
        case rel => exact ⟨j + 1, g', cap', by omega, by go_num, rfl, by rw [scaleL_succ]; exact HO3.out, HE3.out⟩
        case measure => simp [intOf]; omega
    · go_wp2_with (fail)
      go_ret
      obtain rfl : j = n := by omega
      exact ⟨g, rc, rfl, HOwn.out, HExt.out⟩

theorem scale_full {p k : Int} {d : Nat} (h0 : 0 ≤ k) (h1 : k < p) : scaleL p (fullL d) k (2 ^ d) = topL d k := by
  have hN := pow_pos' d
  refine ext_nth (by rw [scaleL_len]; simp [topL]) fun i hi => ?_
  rw [scaleL_len] at hi
  rw [scaleL_nth hi]
  unfold scaleN fullL topL
  rw [bladeL_nth (by omega) hi, nth_set (by simp; omega), nth_replicate hi]
  split
  · rw [Int.one_mul, Int.emod_eq_of_lt h0 h1]
  · simp

/-! ### The square of the pseudoscalar -/
theorem facS_full {p : Int} {qs : List Int} {d : Nat} : ∀ k, k ≤ d → (facS p qs (2 ^ d - 1) (2 ^ d - 1) k).2 = discS p qs k
  | 0, _ => rfl
  | k + 1, hk => by
    have ht : (2 ^ d - 1).testBit k = true := by rw [Nat.testBit_two_pow_sub_one]; simp; omega
    rw [facS_two ht ht]
    simp only [discS]
    rw [facS_full k (by omega)]
theorem sqFull_eq {p : Int} {qs : List Int} (hp : 3 ≤ p) (hd : qs.length ≤ 6) : sqFull p qs = fac p qs (2 ^ qs.length - 1) (2 ^ qs.length - 1) := by
  have hN := pow_pos' qs.length
  have h64 := pow_le64 hd
  unfold sqFull
  rw [prod_nth1 (by omega) (by omega), sumN_single (k := 2 ^ qs.length - 1) (by omega) (fun i hi hne => by
    have hz : nth (fullL qs.length) i = 0 := by
      unfold fullL
      rw [bladeL_nth (by omega) hi, if_neg (fun h => hne h.symm)]
    rw [hz]; simp)]
  rw [Nat.xor_zero]
  unfold fullL
  rw [bladeL_nth (by omega) (by omega), if_pos rfl]
  simp only [tkA, if_true, Int.one_mul]
  have hb := fac_bd (p := p) (qs := qs) (a := 2 ^ qs.length - 1) (b := 2 ^ qs.length - 1) hp (by omega)
  exact Int.emod_eq_of_lt hb.1 hb.2
theorem sqFull_ne {p : Int} {qs : List Int} (hp : primeB p = true) (hq : isB p qs = true) (hd : qs.length ≤ 6) (hr : regB qs = true) : sqFull p qs ≠ 0 := by
  have hpb := prime_bd hp
  have hN := pow_pos' qs.length
  rw [sqFull_eq (by omega) hd]
  have hdz := disc_reg hp hq
  rw [hr] at hdz
  have hdne : discS p qs qs.length ≠ 0 := by simpa [discL] using hdz
  have hdb := discS_bd (p := p) (qs := qs) (by omega) qs.length
  unfold fac sgn
  rw [facS_full qs.length (Nat.le_refl _)]
  split
  · intro h
    obtain ⟨c, hc⟩ := Int.dvd_of_emod_eq_zero h
    have hc0 : c = 0 := by
      rcases Int.lt_trichotomy c 0 with h | h | h
      · have : p * c ≤ p * -1 := Int.mul_le_mul_of_nonneg_left (by omega) (by omega)
        omega
      · exact h
      · have : p * 1 ≤ p * c := Int.mul_le_mul_of_nonneg_left (by omega) (by omega)
        omega
    rw [hc0] at hc; omega
  · exact hdne
def dualL (p : Int) (qs x : List Int) : List Int := prodL p qs tkL x (topL qs.length (invN p (sqFull p qs)))
end Go.Proofs.Ytnabpmafcflljaa

/-
  Reduced bases of lists of numbers, in plain words: columns one after another, a row with a number other than 0 there is brought up, divided, and taken from all others.
  No condition.
-/
namespace Go.Proofs.Ytnabpmafcflljaa
set_option maxRecDepth 100000
open Go.RowKit

/-- All rows have m numbers. -/
def RowsG (p : Int) (m : Nat) (rows : List (List Int)) : Prop := ∀ i, i < rows.length → Good p m (nthR rows i)
theorem RowsG.set {p : Int} {m : Nat} {rows : List (List Int)} (h : RowsG p m rows) {j : Nat} {v : List Int} (hv : Good p m v) : RowsG p m (rows.set j v) := by
  intro i hi
  rw [List.length_set] at hi
  by_cases hj : j < rows.length
  · rw [nthR_set hj]
    split
    · exact hv
    · exact h i hi
  · rw [List.set_eq_of_length_le (by omega)]; exact h i hi
theorem plus_zero {p : Int} {m : Nat} {x y : List Int} (hx : Good p m x) : plusL p x y 0 m = x := by
  refine ext_nth (by rw [plusL_len, hx.1]) fun i hi => ?_
  rw [plusL_len] at hi
  rw [plusL_nth hi]
  unfold plusN
  rw [Int.zero_mul, Int.add_zero, Int.emod_eq_of_lt (hx.2 i hi).1 (hx.2 i hi).2]
theorem plus_mod {p k k' : Int} {m : Nat} {x y : List Int} (h : k % p = k' % p) : plusL p x y k m = plusL p x y k' m := by
  unfold plusL
  refine List.map_congr_left fun i _ => ?_
  unfold plusN
  rw [Int.add_emod, Int.mul_emod, h, ← Int.mul_emod, ← Int.add_emod]

/-- The first row from number d on whose number k is not 0, or the number of rows. -/
def pivG (rows : List (List Int)) (k d : Nat) : Nat := match (List.range rows.length).find? (fun i => decide (d ≤ i) && nth (nthR rows i) k != 0) with | some i => i | none => rows.length
theorem pivG_eq {rows : List (List Int)} {k d i : Nat} (hdi : d ≤ i) (hi : i ≤ rows.length) (hz : ∀ j, d ≤ j → j < i → nth (nthR rows j) k = 0) (he : i = rows.length ∨ nth (nthR rows i) k ≠ 0) : pivG rows k d = i := by
  unfold pivG
  by_cases hl : i < rows.length
  · have hne : nth (nthR rows i) k ≠ 0 := by rcases he with h | h; omega; exact h
    have : (List.range rows.length).find? (fun i => decide (d ≤ i) && nth (nthR rows i) k != 0) = some i := by
      rw [List.find?_range_eq_some]
      refine ⟨by simp [hdi, hne], by simpa using hl, fun j hj => ?_⟩
      by_cases hd : d ≤ j
      · simp [hz j hd hj]
      · simp [hd]
    rw [this]
  · have : (List.range rows.length).find? (fun i => decide (d ≤ i) && nth (nthR rows i) k != 0) = none := by
      rw [List.find?_range_eq_none]
      intro j hj
      by_cases hd : d ≤ j
      · simp [hz j hd (by omega)]
      · simp [hd]
    rw [this]
    show rows.length = i
    omega
theorem pivG_spec (rows : List (List Int)) (k d : Nat) (hd : d ≤ rows.length) : d ≤ pivG rows k d ∧ pivG rows k d ≤ rows.length ∧ (∀ j, d ≤ j → j < pivG rows k d → nth (nthR rows j) k = 0) ∧ (pivG rows k d = rows.length ∨ nth (nthR rows (pivG rows k d)) k ≠ 0) := by
  unfold pivG
  split
  · rename_i i h
    rw [List.find?_range_eq_some] at h
    obtain ⟨h1, h2, h3⟩ := h
    simp only [Bool.and_eq_true, decide_eq_true_eq, bne_iff_ne, ne_eq] at h1
    have h2' : i < rows.length := by simpa using h2
    refine ⟨h1.1, by omega, fun j hj hji => ?_, .inr h1.2⟩
    have := h3 j hji
    simpa [hj] using this
  · rename_i h
    rw [List.find?_range_eq_none] at h
    refine ⟨hd, Nat.le_refl _, fun j hj hjl => ?_, .inl rfl⟩
    have := h j hjl
    simpa [hj] using this

/-- Row d, times a number, is added to the first rows, such that their numbers k become 0. -/
def clrS (p : Int) (k m d : Nat) (rows : List (List Int)) : Nat → List (List Int)
  | 0 => rows
  | r + 1 => if r = d then clrS p k m d rows r else (clrS p k m d rows r).set r (plusL p (nthR (clrS p k m d rows r) r) (nthR (clrS p k m d rows r) d) (-(nth (nthR (clrS p k m d rows r) r) k)) m)
theorem clrS_len {p : Int} {k m d : Nat} {rows : List (List Int)} : ∀ r, (clrS p k m d rows r).length = rows.length
  | 0 => rfl
  | r + 1 => by unfold clrS; split; exact clrS_len r; rw [List.length_set]; exact clrS_len r
theorem clrS_good {p : Int} {k m d : Nat} {rows : List (List Int)} (hp : 1 ≤ p) (h : RowsG p m rows) : ∀ r, RowsG p m (clrS p k m d rows r)
  | 0 => h
  | r + 1 => by unfold clrS; split; exact clrS_good hp h r; exact (clrS_good hp h r).set (plus_good hp)
theorem clrS_nth {p : Int} {k m d : Nat} {rows : List (List Int)} : ∀ r, r ≤ rows.length → ∀ j, nthR (clrS p k m d rows r) j = if j < r ∧ j ≠ d then plusL p (nthR rows j) (nthR rows d) (-(nth (nthR rows j) k)) m else nthR rows j
  | 0, _, j => by rw [if_neg (by omega)]; rfl
  | r + 1, hr, j => by
    have ih := clrS_nth r (by omega) (p := p) (k := k) (m := m) (d := d) (rows := rows)
    unfold clrS
    by_cases hd : r = d
    · rw [if_pos hd, ih j]
      by_cases hj : j < r ∧ j ≠ d
      · rw [if_pos hj, if_pos (by omega)]
      · rw [if_neg hj, if_neg (by omega)]
    · have e1 : nthR (clrS p k m d rows r) r = nthR rows r := by rw [ih r, if_neg (by omega)]
      have e2 : nthR (clrS p k m d rows r) d = nthR rows d := by rw [ih d, if_neg (by omega)]
      rw [if_neg hd, nthR_set (by rw [clrS_len]; omega), e1, e2]
      by_cases hj : r = j
      · subst hj; rw [if_pos rfl, if_pos (by omega)]
      · rw [if_neg hj, ih j]
        by_cases hj' : j < r ∧ j ≠ d
        · rw [if_pos hj', if_pos (by omega)]
        · rw [if_neg hj', if_neg (by omega)]
theorem clrS_self {p : Int} {k m d : Nat} {rows : List (List Int)} {r : Nat} (h : r = d) : clrS p k m d rows (r + 1) = clrS p k m d rows r := by rw [clrS, if_pos h]
theorem clrS_ne {p : Int} {k m d : Nat} {rows : List (List Int)} {r : Nat} (h : ¬ r = d) : clrS p k m d rows (r + 1) = (clrS p k m d rows r).set r (plusL p (nthR (clrS p k m d rows r) r) (nthR (clrS p k m d rows r) d) (-(nth (nthR (clrS p k m d rows r) r) k)) m) := by rw [clrS, if_neg h]
theorem clrS_zero {p : Int} {k m d : Nat} {rows : List (List Int)} {r : Nat} (hp : 1 ≤ p) (h : RowsG p m rows) (hr : r < rows.length) (hz : nth (nthR (clrS p k m d rows r) r) k = 0) : clrS p k m d rows (r + 1) = clrS p k m d rows r := by
  by_cases hd : r = d
  · exact clrS_self hd
  · rw [clrS_ne hd, hz, Int.neg_zero, plus_zero (clrS_good hp h r r (by rw [clrS_len]; exact hr)), set_self]

def swapL (rows : List (List Int)) (i j : Nat) : List (List Int) := (rows.set i (nthR rows j)).set j (nthR rows i)
theorem swapL_len {rows : List (List Int)} {i j : Nat} : (swapL rows i j).length = rows.length := by simp [swapL]
theorem swapL_nth {rows : List (List Int)} {i j k : Nat} (hi : i < rows.length) (hj : j < rows.length) : nthR (swapL rows i j) k = if k = j then nthR rows i else if k = i then nthR rows j else nthR rows k := by
  unfold swapL
  rw [nthR_set (by simpa using hj)]
  by_cases hkj : j = k
  · subst hkj; simp
  · rw [if_neg hkj, if_neg (Ne.symm hkj), nthR_set hi]
    by_cases hki : i = k
    · subst hki; simp
    · rw [if_neg hki, if_neg (Ne.symm hki)]
theorem swapL_good {p : Int} {m : Nat} {rows : List (List Int)} (h : RowsG p m rows) {i j : Nat} (hi : i < rows.length) (hj : j < rows.length) : RowsG p m (swapL rows i j) := by
  intro k hk
  rw [swapL_len] at hk
  rw [swapL_nth hi hj]
  split
  · exact h i hi
  · split
    · exact h j hj
    · exact h k hk

/-- The rows with row i brought up to place d and divided by its number k. -/
def upG (p : Int) (m : Nat) (rows : List (List Int)) (d k i : Nat) : List (List Int) := (swapL rows d i).set d (scaleL p (nthR rows i) (invN p (nth (nthR rows i) k)) m)
theorem upG_len {p : Int} {m : Nat} {rows : List (List Int)} {d k i : Nat} : (upG p m rows d k i).length = rows.length := by simp [upG, swapL_len]
theorem upG_good {p : Int} {m : Nat} {rows : List (List Int)} {d k i : Nat} (hp : 1 ≤ p) (h : RowsG p m rows) (hd : d < rows.length) (hi : i < rows.length) : RowsG p m (upG p m rows d k i) := (swapL_good h hd hi).set (scale_good hp)
theorem upG_nth {p : Int} {m : Nat} {rows : List (List Int)} {d k i j : Nat} (hd : d < rows.length) (hi : i < rows.length) : nthR (upG p m rows d k i) j = if j = d then scaleL p (nthR rows i) (invN p (nth (nthR rows i) k)) m else if j = i then nthR rows d else nthR rows j := by
  unfold upG
  rw [nthR_set (by rw [swapL_len]; exact hd)]
  by_cases hj : d = j
  · subst hj; simp
  · rw [if_neg hj, if_neg (Ne.symm hj), swapL_nth hd hi]
    by_cases hji : j = i
    · rw [if_pos hji, if_pos hji]
    · rw [if_neg hji, if_neg hji, if_neg (Ne.symm hj)]
def stepG (p : Int) (m : Nat) (s : List (List Int) × Nat) (k : Nat) : List (List Int) × Nat :=
  if pivG s.1 k s.2 = s.1.length then s else (clrS p k m s.2 (upG p m s.1 s.2 k (pivG s.1 k s.2)) s.1.length, s.2 + 1)
def gaussS (p : Int) (m : Nat) (rows : List (List Int)) : Nat → List (List Int) × Nat
  | 0 => (rows, 0)
  | k + 1 => stepG p m (gaussS p m rows k) k
def basisL (p : Int) (m : Nat) (rows : List (List Int)) : List (List Int) := (gaussS p m rows m).1.take (gaussS p m rows m).2

theorem stepG_no {p : Int} {m : Nat} {s : List (List Int) × Nat} {k : Nat} (h : pivG s.1 k s.2 = s.1.length) : stepG p m s k = s := by rw [stepG, if_pos h]
theorem stepG_yes {p : Int} {m : Nat} {s : List (List Int) × Nat} {k i : Nat} (h : pivG s.1 k s.2 = i) (hi : i < s.1.length) : stepG p m s k = (clrS p k m s.2 (upG p m s.1 s.2 k i) s.1.length, s.2 + 1) := by
  rw [stepG, h, if_neg (by omega)]

/-- What holds of the rows when k columns are done: d rows have a 1 at a place of their own, where all other rows have 0. -/
structure Red (rows : List (List Int)) (d k : Nat) (c : Nat → Nat) : Prop where
  dle : d ≤ rows.length
  dk : d ≤ k
  clt : ∀ i, i < d → c i < k
  mono : ∀ i j, i < j → j < d → c i < c j
  one : ∀ i, i < d → ∀ j, j < rows.length → nth (nthR rows j) (c i) = if j = i then 1 else 0
  lead : ∀ i, i < d → ∀ t, t < c i → nth (nthR rows i) t = 0
  rest : ∀ i, d ≤ i → i < rows.length → ∀ t, t < k → nth (nthR rows i) t = 0

theorem Red.step {p : Int} {m : Nat} {rows : List (List Int)} {d k : Nat} {c : Nat → Nat} (hp : primeB p = true) (hk : k < m) (hg : RowsG p m rows) (h : Red rows d k c) :
    ∃ c', Red (stepG p m (rows, d) k).1 (stepG p m (rows, d) k).2 (k + 1) c' := by
  have hpb := prime_bd hp
  obtain ⟨h1, h2, h3, h4⟩ := pivG_spec rows k d h.dle
  by_cases hn : pivG rows k d = rows.length
  · rw [stepG_no (s := (rows, d)) hn]
    refine ⟨c, h.dle, Nat.le_succ_of_le h.dk, fun i hi => Nat.lt_succ_of_lt (h.clt i hi), h.mono, h.one, h.lead, fun i hdi hi t ht => ?_⟩
    rcases Nat.lt_or_eq_of_le (Nat.le_of_lt_succ ht) with ht | ht
    · exact h.rest i hdi hi t ht
    · subst ht; exact h3 i hdi (by rw [hn]; exact hi)
  · obtain ⟨i0, hi0⟩ : ∃ i0, i0 = pivG rows k d := ⟨_, rfl⟩
    rw [← hi0] at h1 h2 h3 h4 hn
    have hi : i0 < rows.length := by omega
    have hne : nth (nthR rows i0) k ≠ 0 := by rcases h4 with h | h; omega; exact h
    rw [stepG_yes (s := (rows, d)) hi0.symm hi]
    have hd : d < rows.length := by omega
    obtain ⟨R, hR⟩ : ∃ R, R = upG p m rows d k i0 := ⟨_, rfl⟩
    have Rl : R.length = rows.length := by rw [hR, upG_len]
    have Rg : RowsG p m R := by rw [hR]; exact upG_good (by omega) hg hd hi
    have Rn : ∀ j, nthR R j = if j = d then scaleL p (nthR rows i0) (invN p (nth (nthR rows i0) k)) m else if j = i0 then nthR rows d else nthR rows j := fun j => by rw [hR]; exact upG_nth hd hi
    have gi := hg i0 hi
    -- the row that is brought up
    have Dz : ∀ t, t < k → nth (nthR R d) t = 0 := fun t ht => by
      rw [Rn d, if_pos rfl, scaleL_nth (by omega), scaleN, h.rest i0 h1 hi t ht]; simp
    have D1 : nth (nthR R d) k = 1 := by
      rw [Rn d, if_pos rfl, scaleL_nth hk, scaleN]
      have hb := gi.2 k hk
      exact (inv_spec hp (by omega) hb.2).2.1
    -- zeros of the others
    have Rz : ∀ j, d ≤ j → j < rows.length → ∀ t, t < k → nth (nthR R j) t = 0 := fun j hj hjl t ht => by
      by_cases hjd : j = d
      · subst hjd; exact Dz t ht
      · rw [Rn j, if_neg hjd]
        split
        · exact h.rest d (Nat.le_refl _) hd t ht
        · exact h.rest j hj hjl t ht
    have Ro : ∀ j, j < d → nthR R j = nthR rows j := fun j hj => by rw [Rn j, if_neg (by omega), if_neg (by omega)]
    rw [← hR]
    have Cn : ∀ j, j < rows.length → nthR (clrS p k m d R rows.length) j = if j ≠ d then plusL p (nthR R j) (nthR R d) (-(nth (nthR R j) k)) m else nthR R j := fun j hj => by
      rw [clrS_nth _ (by omega)]
      by_cases hjd : j ≠ d
      · rw [if_pos ⟨hj, hjd⟩, if_pos hjd]
      · rw [if_neg (by omega), if_neg hjd]
    -- places ahead of k do not change
    have Ct : ∀ j, j < rows.length → ∀ t, t < k → nth (nthR (clrS p k m d R rows.length) j) t = nth (nthR R j) t := fun j hj t ht => by
      rw [Cn j hj]
      by_cases hjd : j ≠ d
      · rw [if_pos hjd, plusL_nth (by omega)]
        unfold plusN
        have gj := (Rg j (by omega)).2 t (by omega)
        rw [Dz t ht, Int.mul_zero, Int.add_zero, Int.emod_eq_of_lt gj.1 gj.2]
      · rw [if_neg hjd]
    have Ck : ∀ j, j < rows.length → nth (nthR (clrS p k m d R rows.length) j) k = if j = d then 1 else 0 := fun j hj => by
      rw [Cn j hj]
      by_cases hjd : j ≠ d
      · rw [if_pos hjd, plusL_nth hk, if_neg hjd]
        unfold plusN
        rw [D1, Int.mul_one]
        rw [show nth (nthR R j) k + -nth (nthR R j) k = 0 by omega]; simp
      · rw [if_neg hjd, if_pos (by omega), show j = d by omega, D1]
    refine ⟨fun i => if i = d then k else c i, ?_⟩
    constructor
    · show d + 1 ≤ _; rw [clrS_len, Rl]; omega
    · show d + 1 ≤ k + 1; have := h.dk; omega
    · intro i hid
      have hid' : i < d + 1 := hid
      by_cases hi' : i = d
      · simp [hi']
      · simp only [hi', if_false]; have := h.clt i (by omega); omega
    · intro i j hij hj
      have hj' : j < d + 1 := hj
      have e1 : i ≠ d := by omega
      simp only [e1, if_false]
      by_cases hjd : j = d
      · simp only [hjd, if_true]; exact h.clt i (by omega)
      · simp only [hjd, if_false]; exact h.mono i j hij (by omega)
    · intro i hid j hj
      have hid' : i < d + 1 := hid
      rw [clrS_len, Rl] at hj
      by_cases hi' : i = d
      · simp only [hi', if_true]; exact Ck j hj
      · simp only [hi', if_false]
        have hid2 : i < d := by omega
        have hc := h.clt i hid2
        rw [Ct j hj _ hc]
        by_cases hjd : j < d
        · rw [Ro j hjd]; exact h.one i hid2 j hj
        · rw [Rz j (by omega) hj _ hc, if_neg (by omega)]
    · intro i hid t ht
      have hid' : i < d + 1 := hid
      by_cases hi' : i = d
      · simp only [hi', if_true] at ht
        rw [hi', Ct d hd t ht]; exact Dz t ht
      · simp only [hi', if_false] at ht
        have hid2 : i < d := by omega
        have hc := h.clt i hid2
        rw [Ct i (by omega) t (by omega), Ro i hid2]
        exact h.lead i hid2 t ht
    · intro i hdi hil t ht
      have hdi' : d + 1 ≤ i := hdi
      rw [clrS_len, Rl] at hil
      rcases Nat.lt_or_eq_of_le (Nat.le_of_lt_succ ht) with ht | ht
      · rw [Ct i hil t ht]; exact Rz i (by omega) hil t ht
      · rw [ht, Ck i hil, if_neg (by omega)]

theorem gaussS_len {p : Int} {m : Nat} {rows : List (List Int)} : ∀ k, (gaussS p m rows k).1.length = rows.length
  | 0 => rfl
  | k + 1 => by
    have ih := gaussS_len (p := p) (m := m) (rows := rows) k
    show (stepG p m (gaussS p m rows k) k).1.length = _
    unfold stepG
    split
    · exact ih
    · simp only [clrS_len, upG_len]; exact ih
theorem gaussS_red {p : Int} {m : Nat} {rows : List (List Int)} (hp : primeB p = true) (hg : RowsG p m rows) : ∀ k, k ≤ m → RowsG p m (gaussS p m rows k).1 ∧ ∃ c, Red (gaussS p m rows k).1 (gaussS p m rows k).2 k c
  | 0, _ => ⟨hg, fun _ => 0, Nat.zero_le _, Nat.le_refl _, fun i hi => absurd hi (Nat.not_lt_zero _), fun i j _ hj => absurd hj (Nat.not_lt_zero _), fun i hi => absurd hi (Nat.not_lt_zero _), fun i hi => absurd hi (Nat.not_lt_zero _), fun i _ _ t ht => absurd ht (Nat.not_lt_zero _)⟩
  | k + 1, hk => by
    obtain ⟨h1, c, h2⟩ := gaussS_red hp hg k (by omega)
    refine ⟨?_, h2.step hp (by omega) h1⟩
    show RowsG p m (stepG p m (gaussS p m rows k) k).1
    have hpb := prime_bd hp
    obtain ⟨p1, p2, p3, p4⟩ := pivG_spec _ k _ h2.dle
    by_cases hn : pivG (gaussS p m rows k).1 k (gaussS p m rows k).2 = (gaussS p m rows k).1.length
    · rw [stepG_no hn]; exact h1
    · rw [stepG_yes rfl (by omega)]
      exact clrS_good (by omega) (upG_good (by omega) h1 (by omega) (by omega)) _
theorem gaussS_stop {p : Int} {m : Nat} {rows : List (List Int)} {k : Nat} (h : (gaussS p m rows k).2 = rows.length) : ∀ j, gaussS p m rows (k + j) = gaussS p m rows k
  | 0 => rfl
  | j + 1 => by
    show stepG p m (gaussS p m rows (k + j)) (k + j) = _
    rw [gaussS_stop h j]
    apply stepG_no
    have hl := gaussS_len (p := p) (m := m) (rows := rows) k
    obtain ⟨p1, p2, _, _⟩ := pivG_spec (gaussS p m rows k).1 (k + j) (gaussS p m rows k).2 (by omega)
    omega
theorem gauss_rank {p : Int} {m : Nat} {rows : List (List Int)} (hp : primeB p = true) (hg : RowsG p m rows) : (gaussS p m rows m).2 ≤ rows.length ∧ (gaussS p m rows m).2 ≤ m := by
  obtain ⟨_, c, h⟩ := gaussS_red hp hg m (Nat.le_refl _)
  have := gaussS_len (p := p) (m := m) (rows := rows) m
  exact ⟨by have := h.dle; omega, h.dk⟩
/-- A reduced basis: each row has its first number other than 0, a 1, at a place of its own; all others have 0 there. -/
structure Basis (p : Int) (m : Nat) (rows : List (List Int)) (c : Nat → Nat) : Prop where
  good : RowsG p m rows
  len : rows.length ≤ m
  clt : ∀ i, i < rows.length → c i < m
  mono : ∀ i j, i < j → j < rows.length → c i < c j
  one : ∀ i, i < rows.length → ∀ j, j < rows.length → nth (nthR rows j) (c i) = if j = i then 1 else 0
  lead : ∀ i, i < rows.length → ∀ t, t < c i → nth (nthR rows i) t = 0
theorem basis_red {p : Int} {m : Nat} {rows : List (List Int)} (hp : primeB p = true) (hg : RowsG p m rows) : ∃ c, Basis p m (basisL p m rows) c := by
  obtain ⟨h1, c, h2⟩ := gaussS_red hp hg m (Nat.le_refl _)
  have hl : (basisL p m rows).length = (gaussS p m rows m).2 := by unfold basisL; rw [List.length_take, Nat.min_eq_left h2.dle]
  have hn : ∀ i, i < (gaussS p m rows m).2 → nthR (basisL p m rows) i = nthR (gaussS p m rows m).1 i := fun i hi => by unfold basisL; exact nthR_take hi
  have hd := h2.dle
  refine ⟨c, fun i hi => ?_, by rw [hl]; exact h2.dk, fun i hi => h2.clt i (by omega), fun i j hij hj => h2.mono i j hij (by omega), fun i hi j hj => ?_, fun i hi t ht => ?_⟩
  · rw [hn i (by omega)]; exact h1 i (by omega)
  · rw [hn j (by omega)]; exact h2.one i (by omega) j (by omega)
  · rw [hn i (by omega)]; exact h2.lead i (by omega) t ht

end Go.Proofs.Ytnabpmafcflljaa

/-
  Codes of small algebras; lists of zeros; equal lists; idempotents: walks.
  No condition.
-/
namespace Go.Proofs.Ytnabpmafcflljaa
set_option maxRecDepth 100000
open Go.RowKit

def codeA (p : Int) (qs : List Int) (rows : List (List Int)) : Int := if codeM p qs rows = 0 then (if qs.length ≤ 4 then 0 else 3) else codeM p qs rows
theorem codeA_zero {p : Int} {qs : List Int} {rows : List (List Int)} (h : codeA p qs rows = 0) : codeM p qs rows = 0 ∧ qs.length ≤ 4 := by
  unfold codeA at h
  split at h
  · rename_i hm
    split at h
    · rename_i hr; exact ⟨hm, hr⟩
    · omega
  · rename_i hm; exact absurd h hm



/-! ### The first number other than 0 -/
def leadN (xs : List Int) : Nat := match (List.range xs.length).find? (fun i => nth xs i != 0) with | some i => i | none => xs.length
theorem leadN_eq {xs : List Int} {k : Nat} (hk : k ≤ xs.length) (hz : ∀ j, j < k → nth xs j = 0) (he : k = xs.length ∨ nth xs k ≠ 0) : leadN xs = k := by
  unfold leadN
  rcases Nat.lt_or_ge k xs.length with h | h
  · have hne : nth xs k ≠ 0 := by rcases he with he | he; omega; exact he
    have : (List.range xs.length).find? (fun i => nth xs i != 0) = some k := by
      rw [List.find?_range_eq_some]
      exact ⟨by simpa using hne, by simpa using h, fun j hj => by simp [hz j hj]⟩
    rw [this]
  · have : (List.range xs.length).find? (fun i => nth xs i != 0) = none := by
      rw [List.find?_range_eq_none]
      exact fun j hj => by simp [hz j (by omega)]
    rw [this]; simp only; omega
theorem leadN_le (xs : List Int) : leadN xs ≤ xs.length := by
  unfold leadN
  split
  · rename_i i h
    have := List.mem_of_find?_eq_some h
    simp at this; omega
  · exact Nat.le_refl _
theorem leadN_zero {xs : List Int} {j : Nat} (h : j < leadN xs) : nth xs j = 0 := by
  unfold leadN at h
  split at h
  · rename_i i hf
    rw [List.find?_range_eq_some] at hf
    simpa using hf.2.2 j h
  · rename_i hf
    rw [List.find?_range_eq_none] at hf
    simpa using hf j h
theorem leadN_ne {xs : List Int} (h : leadN xs < xs.length) : nth xs (leadN xs) ≠ 0 := by
  have h0 := h
  unfold leadN at h0 ⊢
  split at h0
  · rename_i i hf
    have := List.find?_some hf
    simpa using this
  · omega
def zeroB (xs : List Int) : Bool := decide (leadN xs = xs.length)
theorem zeroB_iff {xs : List Int} : zeroB xs = true ↔ ∀ j, j < xs.length → nth xs j = 0 := by
  simp only [zeroB, decide_eq_true_eq]
  constructor
  · intro h j hj; exact leadN_zero (by omega)
  · intro h; exact leadN_eq (Nat.le_refl _) (fun j hj => h j hj) (.inl rfl)
theorem zero_minus {p : Int} {x y : List Int} {n : Nat} (hp : 1 ≤ p) (hx : Good p n x) (hy : Good p n y) : zeroB (plusL p x y (-1) n) = eqB x y := by
  rw [Bool.eq_iff_iff, zeroB_iff, plusL_len]
  simp only [eqB, decide_eq_true_eq]
  constructor
  · intro h
    refine ext_nth (by rw [hx.1, hy.1]) (fun i hi => ?_)
    rw [hx.1] at hi
    have hi' := h i hi
    rw [plusL_nth hi] at hi'
    unfold plusN at hi'
    have h1 := hx.2 i hi
    have h2 := hy.2 i hi
    obtain ⟨c, hc⟩ := Int.dvd_of_emod_eq_zero hi'
    have hc0 : c = 0 := by
      rcases Int.lt_trichotomy c 0 with h | h | h
      · have : p * c ≤ p * -1 := Int.mul_le_mul_of_nonneg_left (by omega) (by omega)
        omega
      · exact h
      · have : p * 1 ≤ p * c := Int.mul_le_mul_of_nonneg_left (by omega) (by omega)
        omega
    rw [hc0] at hc; omega
  · rintro rfl i hi
    rw [plusL_nth hi]; unfold plusN
    rw [show nth x i + -1 * nth x i = 0 by omega]; simp

set_option maxHeartbeats 400000 in
theorem c_lead (a : Option Addr) (n cap : Nat) (xs : List Int) (w : World) (hl : n ≤ 4194303) (hx : RdC w a n xs) :
    Calls Try.prog 85 #[.slice a n cap] w fun e w' => e = .returned (.int .i64 (leadN xs)) ∧ Ext w w' := by
  have HX := Lib.hid hx
  clear hx
  go_enter Try.func85, Try.ntmps85
  go_wp2_with (fail)
  go_loopw [3] (fun i wr => ∃ k : Nat, k ≤ n ∧ i = .int .i64 k ∧ Hid (∀ j, j < k → nth xs j = 0) ∧ Ext w wr) (fun i _ => n - (intOf i).toNat)
  case atStart => exact ⟨0, Nat.zero_le _, rfl, Lib.hid (fun j hj => by omega), Ext.refl _⟩
  case round =>
    obtain ⟨k, hk, rfl, HT, hext⟩ := hrel
    by_cases hlt : k < n
    · obtain ⟨b, off, rfl, hc⟩ := HX.out.2 k hlt
      have hc' := hext.cell hc
      clear hc
      by_cases hz : nth xs k = 0
      · have HZ := Lib.hid hz
        have hzb : (nth xs k == 0) = true := by simp [hz]
        clear hz
        go_wp2_with (fail)
        go_roundw
        case rel => exact ⟨k + 1, by omega, by go_num, Lib.hid (fun j hj => by
          by_cases hjk : j = k
          · subst hjk; exact HZ.out
          · exact HT.out j (by omega)), hext⟩
        case measure => simp [intOf]; omega
      · have HZ := Lib.hid hz
        have hzb : (nth xs k == 0) = false := by simp [hz]
        clear hz
        go_wp2_with (fail)
        go_ret
        exact ⟨ret_int (by rw [leadN_eq (by rw [HX.out.1]; omega) HT.out (.inr HZ.out)]), hext⟩
    · go_wp2_with (fail)
      go_ret
      exact ⟨ret_int (by rw [leadN_eq (by rw [HX.out.1]; omega) HT.out (.inl (by rw [HX.out.1]; omega))]), hext⟩
set_option maxHeartbeats 400000 in
theorem c_isZero (a : Option Addr) (n cap : Nat) (xs : List Int) (w : World) (hl : n ≤ 4194303) (hx : RdC w a n xs) :
    Calls Try.prog 112 #[.slice a n cap] w fun e w' => e = .returned (.bool (zeroB xs)) ∧ Ext w w' := by
  have HZ := Lib.hid (show (((leadN xs : Nat) : Int) == (n : Int)) = zeroB xs by rw [← hx.1, Bool.eq_iff_iff]; simp [zeroB]; omega)
  go_enter Try.func112, Try.ntmps112
  go_wp2_with (go_at_call 85; refine (c_lead _ _ _ _ _ hl hx).mono ?_; rintro e w1 ⟨rfl, h1⟩)
  go_ret
  exact ⟨ret_bool HZ.out, h1⟩

set_option maxHeartbeats 1000000 in
set_option maxRecDepth 100000 in
theorem s_same (a b : Option Addr) (n m ca cb : Nat) (xs ys : List Int) (w : World) (hl : n ≤ 4194303) (hm : m ≤ 4194303) (hx : RdC w a n xs) (hy : RdC w b m ys) :
    Calls Try.prog 107 #[.slice a n ca, .slice b m cb] w fun e w' => e = .returned (.bool (eqB xs ys)) ∧ Ext w w' := by
  by_cases hnm : n = m
  · subst hnm
    have HX := Lib.hid hx
    have HY := Lib.hid hy
    have hnb : ((n : Int) != (n : Int)) = false := by simp
    clear hx hy
    go_enter Try.func107, Try.ntmps107
    go_wp2_with (fail)
    go_loopw [5] (fun i wr => ∃ k : Nat, k ≤ n ∧ i = .int .i64 k ∧ Hid (∀ j, j < k → nth xs j = nth ys j) ∧ Ext w wr) (fun i _ => n - (intOf i).toNat)
    case atStart => exact ⟨0, Nat.zero_le _, rfl, Lib.hid (fun j hj => by omega), Ext.refl _⟩
    case round =>
      obtain ⟨k, hk, rfl, HT, hext⟩ := hrel
      by_cases hlt : k < n
      · obtain ⟨bx, ox, rfl, hcx⟩ := HX.out.2 k hlt
        obtain ⟨by', oy, rfl, hcy⟩ := HY.out.2 k hlt
        have Hcx := Lib.hid ((hext.trans (ext_drew _)).cell hcx)
        have Hcy := Lib.hid ((hext.trans (ext_drew _)).cell hcy)
        clear hcx hcy
        obtain ⟨u, hu⟩ : ∃ u, u = nth xs k := ⟨_, rfl⟩
        obtain ⟨v, hv⟩ : ∃ v, v = nth ys k := ⟨_, rfl⟩
        rw [← hu] at Hcx
        rw [← hv] at Hcy
        have HU := Lib.hid hu
        have HV := Lib.hid hv
        clear hu hv
        by_cases huv : u = v
        · have HE := Lib.hid huv
          have hub : (u != v) = false := by simp [huv]
          clear huv
          go_wp2_with (fail)
          refine wp_region_lex [] (by kernel_rfl) (by kernel_rfl) ?_
          repeat' first | (refine LexW.pure (v := ?_) rfl rfl (fun w1 he => ?_) ?_; rotate_left; ( have e3 := he.cell Hcx.out; have e4 := he.cell Hcy.out; go_simp; rfl); simp only [Act.put, List.setIfInBounds_toArray, List.set_cons_zero, List.set_cons_succ])
          refine LexW.nil (fun w2 he hkn => ?_)
          have G2 := Lib.hid (hext.trans ((ext_drew _).trans he))
          clear he hkn
          go_wp2_with (fail)
          go_roundw
          case rel => exact ⟨k + 1, by omega, by go_num, Lib.hid (fun j hj => by
            by_cases hjk : j = k
            · subst hjk; rw [← HU.out, ← HV.out]; exact HE.out
            · exact HT.out j (by omega)), G2.out⟩
          case measure => simp [intOf]; omega
        · have HE := Lib.hid huv
          have hub : (u != v) = true := by simp [huv]
          clear huv
          go_wp2_with (fail)
          refine wp_region_lex [] (by kernel_rfl) (by kernel_rfl) ?_
          repeat' first | (refine LexW.pure (v := ?_) rfl rfl (fun w1 he => ?_) ?_; rotate_left; ( have e3 := he.cell Hcx.out; have e4 := he.cell Hcy.out; go_simp; rfl); simp only [Act.put, List.setIfInBounds_toArray, List.set_cons_zero, List.set_cons_succ])
          refine LexW.nil (fun w2 he hkn => ?_)
          have G2 := Lib.hid (hext.trans ((ext_drew _).trans he))
          clear he hkn
          go_wp2_with (fail)
          go_ret
          exact ⟨ret_bool (eqB_nth (by rw [← HU.out, ← HV.out]; exact HE.out)).symm, G2.out⟩
      · go_wp2_with (fail)
        go_ret
        exact ⟨ret_bool (eqB_all HX.out.1 HY.out.1 (fun j hj => HT.out j (by omega))).symm, hext⟩
  · have HE := Lib.hid (eqB_len (show xs.length ≠ ys.length by rw [hx.1, hy.1]; exact hnm))
    have hnb : ((n : Int) != (m : Int)) = true := by simp; omega
    go_enter Try.func107, Try.ntmps107
    go_wp2_with (fail)
    go_ret
    exact ⟨ret_bool HE.out.symm, Ext.refl _⟩
end Go.Proofs.Ytnabpmafcflljaa

/-
  Kernels, solutions and inverses from reduced bases, in plain words.
  No condition.
-/
namespace Go.Proofs.Ytnabpmafcflljaa
set_option maxRecDepth 100000
open Go.RowKit

/-- The row whose first number other than 0 is at place t. -/
def pivIx (red : List (List Int)) (t : Nat) : Option Nat := (List.range red.length).find? (fun i => leadN (nthR red i) == t)
theorem pivIx_some {red : List (List Int)} {t i : Nat} (h : pivIx red t = some i) : i < red.length ∧ leadN (nthR red i) = t := by
  unfold pivIx at h
  rw [List.find?_range_eq_some] at h
  exact ⟨by simpa using h.2.1, by simpa using h.1⟩
theorem pivIx_none {red : List (List Int)} {t : Nat} (h : pivIx red t = none) : ∀ i, i < red.length → leadN (nthR red i) ≠ t := by
  unfold pivIx at h
  rw [List.find?_range_eq_none] at h
  intro i hi
  simpa using h i hi

theorem Basis.leadN {p : Int} {m : Nat} {red : List (List Int)} {c : Nat → Nat} (h : Basis p m red c) {i : Nat} (hi : i < red.length) : leadN (nthR red i) = c i := by
  have hl := (h.good i hi).1
  have hc := h.clt i hi
  refine leadN_eq (by omega) (h.lead i hi) (.inr ?_)
  rw [h.one i hi i hi, if_pos rfl]
  omega
theorem Basis.inj {p : Int} {m : Nat} {red : List (List Int)} {c : Nat → Nat} (h : Basis p m red c) {i j : Nat} (hi : i < red.length) (hj : j < red.length) (he : c i = c j) : i = j := by
  rcases Nat.lt_trichotomy i j with hij | hij | hij
  · have := h.mono i j hij hj; omega
  · exact hij
  · have := h.mono j i hij hi; omega
theorem Basis.piv {p : Int} {m : Nat} {red : List (List Int)} {c : Nat → Nat} (h : Basis p m red c) {i : Nat} (hi : i < red.length) : pivIx red (c i) = some i := by
  cases hp : pivIx red (c i) with
  | none => exact absurd (h.leadN hi) (pivIx_none hp i hi)
  | some j =>
    obtain ⟨hj, hl⟩ := pivIx_some hp
    rw [h.leadN hj] at hl
    rw [h.inj hj hi hl]

/-- The vector of the kernel with 1 at a free place f. -/
def kerN (p : Int) (red : List (List Int)) (f t : Nat) : Int := if t = f then 1 else match pivIx red t with | some i => (-(nth (nthR red i) f)) % p | none => 0
def kerV (p : Int) (n : Nat) (red : List (List Int)) (f : Nat) : List Int := (List.range n).map (kerN p red f)
theorem kerV_len {p : Int} {n : Nat} {red : List (List Int)} {f : Nat} : (kerV p n red f).length = n := by simp [kerV]
theorem kerV_nth {p : Int} {n : Nat} {red : List (List Int)} {f t : Nat} (ht : t < n) : nth (kerV p n red f) t = kerN p red f t := by
  unfold kerV; rw [nth_map (by simpa using ht)]; simp
theorem kerV_good {p : Int} {n : Nat} {red : List (List Int)} {f : Nat} (hp : 3 ≤ p) : Good p n (kerV p n red f) := ⟨kerV_len, fun t ht => by
  rw [kerV_nth ht]
  unfold kerN
  split
  · omega
  · split
    · exact ⟨Int.emod_nonneg _ (by omega), Int.emod_lt_of_pos _ (by omega)⟩
    · omega⟩
/-- The free places ahead of k. -/
def freeL (red : List (List Int)) (k : Nat) : List Nat := (List.range k).filter fun t => (pivIx red t).isNone
theorem freeL_no {red : List (List Int)} {k i : Nat} (h : pivIx red k = some i) : freeL red (k + 1) = freeL red k := by simp [freeL, List.range_succ, List.filter_append, h]
theorem freeL_yes {red : List (List Int)} {k : Nat} (h : pivIx red k = none) : freeL red (k + 1) = freeL red k ++ [k] := by simp [freeL, List.range_succ, List.filter_append, h]
theorem freeL_len (red : List (List Int)) (k : Nat) : (freeL red k).length ≤ k := by
  unfold freeL
  have := List.length_filter_le (fun t => (pivIx red t).isNone) (List.range k)
  simpa using this
def kerR (p : Int) (n : Nat) (red : List (List Int)) (k : Nat) : List (List Int) := (freeL red k).map (kerV p n red)
theorem kerR_good {p : Int} {n : Nat} {red : List (List Int)} {k : Nat} (hp : 3 ≤ p) : RowsG p n (kerR p n red k) := fun i hi => by
  unfold kerR at hi ⊢
  rw [nthR_map (by simpa using hi)]
  exact kerV_good hp
/-- The reduced basis of the vectors with n numbers whose products with all rows are 0. -/
def kernL (p : Int) (n : Nat) (rows : List (List Int)) : List (List Int) := basisL p n (kerR p n (basisL p n rows) n)

/-- The solution that is 0 at all free places. -/
def wideL (rows : List (List Int)) (v : List Int) (k : Nat) : List (List Int) := (List.range k).map fun i => nthR rows i ++ [nth v i]
theorem wideL_succ (rows : List (List Int)) (v : List Int) (k : Nat) : wideL rows v (k + 1) = wideL rows v k ++ [nthR rows k ++ [nth v k]] := by simp [wideL, List.range_succ]
theorem wideL_len (rows : List (List Int)) (v : List Int) (k : Nat) : (wideL rows v k).length = k := by simp [wideL]
theorem good_snoc {p : Int} {n : Nat} {x : List Int} {v : Int} (hx : Good p n x) (h0 : 0 ≤ v) (h1 : v < p) : Good p (n + 1) (x ++ [v]) := by
  refine ⟨by simp [hx.1], fun i hi => ?_⟩
  by_cases h : i < n
  · rw [nth_append_left (by rw [hx.1]; exact h)]; exact hx.2 i h
  · have : i = x.length := by rw [hx.1]; omega
    rw [this, nth_append_len]; exact ⟨h0, h1⟩
theorem wideL_good {p : Int} {n : Nat} {rows : List (List Int)} {v : List Int} {k : Nat} (hg : RowsG p n rows) (hv : Good p k v) (hk : k ≤ rows.length) : RowsG p (n + 1) (wideL rows v k) := fun i hi => by
  rw [wideL_len] at hi
  unfold wideL
  rw [nthR_map (by simpa using hi)]
  simp only [List.getElem_range]
  exact good_snoc (hg i (by omega)) (hv.2 i hi).1 (hv.2 i hi).2
def solN (n : Nat) (red : List (List Int)) (t : Nat) : Int := match pivIx red t with | some i => nth (nthR red i) n | none => 0
def solL (n : Nat) (red : List (List Int)) : List Int := (List.range n).map (solN n red)
def okS (n : Nat) (red : List (List Int)) : Bool := (pivIx red n).isNone
/-- The solution as it stands when the first k rows have been gone through. -/
def solS (n : Nat) (red : List (List Int)) : Nat → List Int
  | 0 => List.replicate n 0
  | k + 1 => (solS n red k).set (leadN (nthR red k)) (nth (nthR red k) n)
theorem solS_len {n : Nat} {red : List (List Int)} : ∀ k, (solS n red k).length = n
  | 0 => by simp [solS]
  | k + 1 => by simp [solS, solS_len k]
theorem solS_nth {p : Int} {m n : Nat} {red : List (List Int)} {c : Nat → Nat} (h : Basis p m red c) : ∀ k, k ≤ red.length → ∀ t, t < n → nth (solS n red k) t = match pivIx red t with | some i => if i < k then nth (nthR red i) n else 0 | none => 0
  | 0, _, t, ht => by
    unfold solS
    rw [nth_replicate ht]
    split
    · rw [if_neg (by omega)]
    · rfl
  | k + 1, hk, t, ht => by
    have ih := solS_nth h k (by omega) t ht (n := n)
    show nth ((solS n red k).set (leadN (nthR red k)) (nth (nthR red k) n)) t = _
    by_cases hl : leadN (nthR red k) = t
    · have hkl : k < red.length := by omega
      rw [hl, nth_set (by rw [solS_len]; exact ht), if_pos rfl]
      have hp : pivIx red t = some k := by rw [← hl, h.leadN hkl]; exact h.piv hkl
      rw [hp]
      show _ = if k < k + 1 then _ else _
      rw [if_pos (by omega)]
    · have e : nth ((solS n red k).set (leadN (nthR red k)) (nth (nthR red k) n)) t = nth (solS n red k) t := by
        simp only [nth]
        rw [List.getD_eq_getElem?_getD, List.getElem?_set_ne hl, ← List.getD_eq_getElem?_getD]
      rw [e, ih]
      cases hp : pivIx red t with
      | none => rfl
      | some i =>
        show (if i < k then _ else _) = if i < k + 1 then _ else _
        have : i ≠ k := fun hik => by subst hik; exact hl (pivIx_some hp).2
        by_cases hi : i < k
        · rw [if_pos hi, if_pos (by omega)]
        · rw [if_neg hi, if_neg (by omega)]
theorem solS_all {p : Int} {m n : Nat} {red : List (List Int)} {c : Nat → Nat} (h : Basis p m red c) : solS n red red.length = solL n red := by
  refine ext_nth (by rw [solS_len]; simp [solL]) fun t ht => ?_
  rw [solS_len] at ht
  rw [solS_nth h _ (Nat.le_refl _) t ht]
  unfold solL
  rw [nth_map (by simpa using ht)]
  simp only [List.getElem_range]
  unfold solN
  cases hp : pivIx red t with
  | none => rfl
  | some i => show (if i < red.length then _ else _) = _; rw [if_pos (pivIx_some hp).1]
theorem nth_bd0 {p : Int} {m : Nat} {x : List Int} (hp : 1 ≤ p) (hx : Good p m x) (i : Nat) : 0 ≤ nth x i ∧ nth x i < p := by
  by_cases h : i < m
  · exact hx.2 i h
  · have : nth x i = 0 := by
      simp only [nth, List.getD_eq_getElem?_getD]
      rw [List.getElem?_eq_none (by rw [hx.1]; omega)]; rfl
    omega
theorem sol_good {p : Int} {m n : Nat} {red : List (List Int)} (hp : 1 ≤ p) (hg : RowsG p m red) : Good p n (solL n red) := ⟨by simp [solL], fun t ht => by
  unfold solL
  rw [nth_map (by simpa using ht)]
  simp only [List.getElem_range]
  unfold solN
  split
  · rename_i i h; exact nth_bd0 hp (hg i (pivIx_some h).1) n
  · omega⟩

end Go.Proofs.Ytnabpmafcflljaa
