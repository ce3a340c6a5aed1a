/-
  Contracts and plain laws, part 2: Times, Pseudo, Plus, Law5, TopProd, Alg.
  No condition.
-/
import Derived.Test.YtbgnfjckbjmgbaaPart1
import Derived.Test.YtbgnfjckbjmgbaaPart0
/-
  Contracts: choices of pairs, blades, products of lists of multivectors, in the program.
  No condition.
-/
namespace Go.Proofs.Ytbgnfjckbjmgbaa
set_option maxRecDepth 100000
open Go.RowKit

/-! ### The choices of pairs -/
set_option maxHeartbeats 400000 in
theorem c_anyPair (i j : Nat) (w : World) (_hi : i < 64) (_hj : j < 64) :
    Calls Try.prog 149 #[.int .i64 i, .int .i64 j] w fun e w' => e = .returned (.bool (tkA i j)) ∧ Ext w w' := by
  go_enter Try.func149, Try.ntmps149
  go_wp2
  go_ret
  exact ⟨rfl, Ext.refl _⟩
set_option maxHeartbeats 400000 in
theorem c_apart (i j : Nat) (w : World) (hi : i < 64) (hj : j < 64) :
    Calls Try.prog 158 #[.int .i64 i, .int .i64 j] w fun e w' => e = .returned (.bool (tkW i j)) ∧ Ext w w' := by
  have hand := and_ab i j hi hj
  have HT := Lib.hid (show (((i &&& j : Nat) : Int) == 0) = tkW i j by rw [Bool.eq_iff_iff]; simp [tkW])
  go_enter Try.func158, Try.ntmps158
  go_wp2
  go_ret
  exact ⟨ret_bool HT.out, Ext.refl _⟩
theorem andn_ab (a b : Nat) (ha : a < 64) (hb : b < 64) : (bits BinOp.andNot IntKind.i64 (a : Int) (b : Int) == 0) = tkL a b := by
  have : ∀ a : Nat, a < 64 → ∀ b : Nat, b < 64 → (bits BinOp.andNot IntKind.i64 (a : Int) (b : Int) == 0) = tkL a b := by decide +kernel
  exact this a ha b hb
theorem andn_ba (a b : Nat) (ha : a < 64) (hb : b < 64) : (bits BinOp.andNot IntKind.i64 (b : Int) (a : Int) == 0) = tkR a b := by
  have : ∀ a : Nat, a < 64 → ∀ b : Nat, b < 64 → (bits BinOp.andNot IntKind.i64 (b : Int) (a : Int) == 0) = tkR a b := by decide +kernel
  exact this a ha b hb
set_option maxHeartbeats 400000 in
theorem c_within (i j : Nat) (w : World) (hi : i < 64) (hj : j < 64) :
    Calls Try.prog 156 #[.int .i64 i, .int .i64 j] w fun e w' => e = .returned (.bool (tkL i j)) ∧ Ext w w' := by
  have HT := Lib.hid (andn_ab i j hi hj)
  go_enter Try.func156, Try.ntmps156
  go_wp2
  go_ret
  exact ⟨ret_bool HT.out, Ext.refl _⟩
set_option maxHeartbeats 400000 in
theorem c_around (i j : Nat) (w : World) (hi : i < 64) (hj : j < 64) :
    Calls Try.prog 98 #[.int .i64 i, .int .i64 j] w fun e w' => e = .returned (.bool (tkR i j)) ∧ Ext w w' := by
  have HT := Lib.hid (andn_ba i j hi hj)
  go_enter Try.func98, Try.ntmps98
  go_wp2
  go_ret
  exact ⟨ret_bool HT.out, Ext.refl _⟩

/-! ### Blades -/
def bladeL (N m : Nat) : List Int := (List.replicate N 0).set m 1
theorem bladeL_len (N m : Nat) : (bladeL N m).length = N := by simp [bladeL]
theorem bladeL_nth {N m i : Nat} (hm : m < N) (hi : i < N) : nth (bladeL N m) i = if m = i then 1 else 0 := by
  unfold bladeL
  rw [nth_set (by simpa using hm)]
  split
  · rfl
  · exact nth_replicate hi
theorem blade_good {p : Int} {N m : Nat} (hp : 3 ≤ p) : Good p N (bladeL N m) := good_set (good_zero (by omega)) (by omega) (by omega)

set_option maxHeartbeats 400000 in
theorem c_blade (p : Int) (a : Option Addr) (d cap : Nat) (m : Nat) (w : World) (hd : d ≤ 6) (hm : m < 2 ^ d) :
    Calls Try.prog 155 #[.agg #[.int .i64 p, .slice a d cap], .int .i64 m] w fun e w' => ∃ g, e = .returned (.slice (some ⟨g, 0, none⟩) (2 ^ d) (2 ^ d)) ∧ OwnC w.heap.size w' (some ⟨g, 0, none⟩) (2 ^ d) (2 ^ d) (bladeL (2 ^ d) m) ∧ Ext w w' := by
  have hN := pow_le64 hd
  obtain ⟨N, hN'⟩ : ∃ N, N = 2 ^ d := ⟨_, rfl⟩
  have HN := Lib.hid hN'
  rw [← hN'] at hN hm ⊢
  clear hN'
  go_enter Try.func155, Try.ntmps155
  go_wp2_with (fail)
  have Hno := c_nothing p a d cap (w.alloc (.cells #[.int .i64 p, .slice a d cap] 26)) hd
  rw [← HN.out] at Hno
  refine Hno.mono ?_
  rintro e w1 ⟨g, rfl, ho, g1⟩
  have HO := Lib.hid ho
  have G1 := Lib.hid g1
  have ec := ho.cell hm
  have ef := ho.frozen m
  have hg := ho.base_le
  simp only [World.size_alloc] at hg
  have hmN : (m : Int) < N := by omega
  clear Hno ho g1
  go_wp2_with (fail)
  go_ret
  exact ⟨g, rfl, (HO.out.store hm _).mono (by simp), ((ext_alloc _ _).trans G1.out).setCell (by simp; omega) _⟩

set_option maxHeartbeats 400000 in
theorem c_one (p : Int) (a : Option Addr) (d cap : Nat) (w : World) (hd : d ≤ 6) :
    Calls Try.prog 92 #[.agg #[.int .i64 p, .slice a d cap]] w fun e w' => ∃ g, e = .returned (.slice (some ⟨g, 0, none⟩) (2 ^ d) (2 ^ d)) ∧ OwnC w.heap.size w' (some ⟨g, 0, none⟩) (2 ^ d) (2 ^ d) (bladeL (2 ^ d) 0) ∧ Ext w w' := by
  go_enter Try.func92, Try.ntmps92
  go_wp2_with (go_at_call 155; refine (c_blade p a d cap 0 _ hd (Nat.pos_of_ne_zero (by simp))).mono ?_; rintro e w1 ⟨g, rfl, ho, g1⟩)
  go_ret
  exact ⟨g, rfl, ho.mono (by simp), (ext_alloc _ _).trans g1⟩

/-! ### 1 is neutral -/
theorem popc_zero : popc 0 = 0 := by decide
theorem facS_zero (p : Int) (qs : List Int) (b : Nat) (k : Nat) : facS p qs 0 b k = (0, 1) := by
  induction k with
  | zero => rfl
  | succ k ih =>
    cases hb : b.testBit k with
    | false => rw [facS_no hb, ih]
    | true => rw [facS_one hb (by simp), ih]; simp [popc_zero]
theorem fac_zero (p : Int) (qs : List Int) (b : Nat) : fac p qs 0 b = 1 := by simp [fac, facS_zero, sgn]

theorem inP_first {p : Int} {f : Nat → Nat → Int} {x y : List Int} {N : Nat} (hy : Good p N y) (hx : nth x 0 = 1) (hf : ∀ b, f 0 b = 1) : ∀ b, b ≤ N →
    (inP p f tkA x y 0 b (List.replicate N 0)).length = N ∧ ∀ i, i < N → nth (inP p f tkA x y 0 b (List.replicate N 0)) i = if i < b then nth y i else 0
  | 0, _ => ⟨by simp [inP], fun i hi => by simp [inP, nth_replicate hi]⟩
  | b + 1, hb => by
    obtain ⟨ih1, ih2⟩ := inP_first hy hx hf b (by omega)
    unfold inP
    rw [stepP_yes rfl, Nat.zero_xor, hx, hf, ih2 b (by omega), if_neg (by omega)]
    have hyb := hy.2 b (by omega)
    have e : (0 + 1 * nth y b * 1) % p = nth y b := by rw [Int.one_mul, Int.mul_one, Int.zero_add, Int.emod_eq_of_lt hyb.1 hyb.2]
    rw [e]
    refine ⟨by simpa using ih1, fun i hi => ?_⟩
    rw [nth_set (by omega)]
    by_cases h : b = i
    · subst h; simp
    · rw [if_neg h, ih2 i hi]
      by_cases h2 : i < b
      · rw [if_pos h2, if_pos (by omega)]
      · rw [if_neg h2, if_neg (by omega)]
theorem outP_rest {p : Int} {f : Nat → Nat → Int} {tk : Nat → Nat → Bool} {x y : List Int} {N d : Nat} (hp : 1 ≤ p) (hN : N = 2 ^ d) (hx : ∀ a, 0 < a → a < N → nth x a = 0) : ∀ a, 1 ≤ a → a ≤ N → outP p f tk x y N a = outP p f tk x y N 1
  | 0, h, _ => by omega
  | 1, _, _ => rfl
  | a + 2, _, ha => by
    have ih := outP_rest (f := f) (tk := tk) (y := y) hp hN hx (a + 1) (by omega) (by omega)
    rw [← ih]
    show inP p f tk x y (a + 1) N (outP p f tk x y N (a + 1)) = _
    exact inP_zero (d := d) hp hN (by omega) (outP_good hp (a + 1)) (hx (a + 1) (by omega) (by omega)) N (Nat.le_refl _)
theorem one_times {p : Int} {qs : List Int} {y : List Int} (hp : 3 ≤ p) (hy : Good p (2 ^ qs.length) y) : prodL p qs tkA (bladeL (2 ^ qs.length) 0) y = y := by
  have hN : 0 < 2 ^ qs.length := Nat.pos_of_ne_zero (by simp)
  unfold prodL
  rw [outP_rest (d := qs.length) (by omega) rfl (fun a h1 h2 => by rw [bladeL_nth hN h2, if_neg (by omega)]) _ hN (Nat.le_refl _)]
  show inP p (fac p qs) tkA _ y 0 (2 ^ qs.length) (List.replicate _ 0) = y
  obtain ⟨h1, h2⟩ := inP_first (f := fac p qs) (x := bladeL (2 ^ qs.length) 0) hy (by rw [bladeL_nth hN hN, if_pos rfl]) (fac_zero p qs) (2 ^ qs.length) (Nat.le_refl _)
  refine ext_nth (by rw [h1, hy.1]) (fun i hi => ?_)
  rw [h1] at hi
  rw [h2 i hi, if_pos hi]

theorem prod_good {p : Int} {qs x y : List Int} {tk : Nat → Nat → Bool} (hp : 1 ≤ p) : Good p (2 ^ qs.length) (prodL p qs tk x y) := outP_good hp _

/-! ### Products of lists -/
def timesL (p : Int) (qs : List Int) (rows : List (List Int)) : List Int := rows.foldl (fun o x => prodL p qs tkA o x) (bladeL (2 ^ qs.length) 0)
theorem timesL_good {p : Int} {qs : List Int} (hp : 3 ≤ p) (rows : List (List Int)) : Good p (2 ^ qs.length) (timesL p qs rows) := by
  rcases List.eq_nil_or_concat rows with rfl | ⟨l, x, rfl⟩
  · exact blade_good hp
  · unfold timesL
    rw [List.concat_eq_append, List.foldl_append]
    exact prod_good (by omega)
theorem timesL_snoc {p : Int} {qs : List Int} (rows : List (List Int)) (x : List Int) : timesL p qs (rows ++ [x]) = prodL p qs tkA (timesL p qs rows) x := by
  unfold timesL; rw [List.foldl_append]; rfl
theorem timesL_two {p : Int} {qs x y : List Int} (hp : 3 ≤ p) (hx : Good p (2 ^ qs.length) x) : timesL p qs [x, y] = prodL p qs tkA x y := by
  show prodL p qs tkA (prodL p qs tkA (bladeL (2 ^ qs.length) 0) x) y = _
  rw [one_times hp hx]
theorem take_snocR (rows : List (List Int)) (k : Nat) (h : k < rows.length) : rows.take (k + 1) = rows.take k ++ [nthR rows k] := by
  rw [List.take_succ_eq_append_getElem h, nthR_eq h]

set_option maxHeartbeats 1000000 in
theorem c_times (p : Int) (a : Option Addr) (d cap : Nat) (qs : List Int) (al : Option Addr) (n cl : Nat) (rows : List (List Int)) (w : World) (hd : d ≤ 6) (hp1 : 3 ≤ p) (hp2 : p ≤ 1000) (hl : n ≤ 4194304) (hq : RdC w a d qs) (hqb : isB p qs = true)
    (hx : RdR w al n rows) (hr : ∀ i, i < n → Good p (2 ^ d) (nthR rows i)) :
    Calls Try.prog 83 #[.agg #[.int .i64 p, .slice a d cap], .slice al n cl] w fun e w' => ∃ g, e = .returned (.slice (some ⟨g, 0, none⟩) (2 ^ d) (2 ^ d)) ∧ OwnC w.heap.size w' (some ⟨g, 0, none⟩) (2 ^ d) (2 ^ d) (timesL p qs rows) ∧ Ext w w' := by
  have HL := Lib.hid hx.1
  have HR := Lib.hid hx.2
  have HG := Lib.hid hr
  have HQ := Lib.hid hq
  have HQB := Lib.hid hqb
  clear hx hr hq hqb
  obtain ⟨W, hW⟩ : ∃ W, W = w.alloc (.cells #[.int .i64 p, .slice a d cap] 26) := ⟨_, rfl⟩
  have gW : Ext w W := by rw [hW]; exact ext_alloc _ _
  have hs0 : W.cell? ⟨w.heap.size, 0, none⟩ = some (.int .i64 p) := by rw [hW]; simp
  have hs1 : W.cell? ⟨w.heap.size, 1, none⟩ = some (.slice a d cap) := by rw [hW]; simp
  have HS0 := Lib.hid hs0
  have HS1 := Lib.hid hs1
  have GW := Lib.hid gW
  have HW := Lib.hid hW
  clear hs0 hs1 gW hW
  go_enter Try.func83, Try.ntmps83
  go_wp2_with (fail)
  rw [← HW.out]
  refine (c_one p a d cap W hd).mono ?_
  rintro e w1 ⟨g, rfl, ho, g1⟩
  have HO := Lib.hid ho
  have G1 := Lib.hid g1
  clear ho g1
  go_wp2_with (fail)
  go_loopw [5, 12] (fun v i wr => ∃ (k g : Nat), k ≤ n ∧ i = .int .i64 k ∧ v = .slice (some ⟨g, 0, none⟩) (2 ^ d) (2 ^ d) ∧ OwnC W.heap.size wr (some ⟨g, 0, none⟩) (2 ^ d) (2 ^ d) (timesL p qs (rows.take k)) ∧ Ext W wr) (fun _ i _ => n - (intOf i).toNat)
  case atStart => exact ⟨0, g, Nat.zero_le _, rfl, rfl, by have := HO.out; rw [← HQ.out.1] at this ⊢; exact this, G1.out⟩
  case round =>
    obtain ⟨k, g', hk, rfl, rfl, hown, hext⟩ := hrel
    have HOwn := Lib.hid hown
    have HExt := Lib.hid hext
    clear hown hext
    by_cases hlt : k < n
    · obtain ⟨b, off, ai, ci, rfl, hc, hrow⟩ := HR.out k hlt
      have hgk := HG.out k hlt
      rw [hgk.1] at hc hrow
      have hck := (GW.out.trans HExt.out).cell hc
      have Hrow := Lib.hid (hrow.ext (GW.out.trans HExt.out))
      have Hgk := Lib.hid hgk
      have hq0 := HExt.out.cell HS0.out
      have hq1 := HExt.out.cell HS1.out
      have Hgood := Lib.hid (timesL_good (qs := qs) hp1 (rows.take k))
      have HQd := Lib.hid HQ.out.1
      clear hc hrow hgk
      go_wp2_with (fail)
      refine (c_product p a d cap qs _ _ _ _ (timesL p qs (rows.take k)) (nthR rows k) 149 tkA wr hd hp1 hp2 (HQ.out.ext (GW.out.trans HExt.out)) HQB.out HOwn.out.rd Hrow.out (by have := Hgood.out; rw [HQd.out] at this; exact this.isB) Hgk.out.isB ?_ (fun i j w hi hj => c_anyPair i j w hi hj)).mono ?_
      · intro args w; go_simp
      rintro e w2 ⟨g2, rfl, ho2, x2⟩
      have HO2 := Lib.hid ho2
      have X2 := Lib.hid x2
      clear ho2 x2 hq0 hq1
      go_wp2_with (fail)
      go_roundw
      case rel => exact ⟨k + 1, g2, by omega, by go_num, rfl, by rw [take_snocR _ _ (by rw [HL.out]; exact hlt), timesL_snoc]; exact HO2.out.mono HExt.out.size, HExt.out.trans X2.out⟩
      case measure => simp [intOf]; omega
    · go_wp2_with (fail)
      go_ret
      refine ⟨g', rfl, ?_, GW.out.trans HExt.out⟩
      have := HOwn.out
      rw [List.take_of_length_le (by rw [HL.out]; omega)] at this
      exact this.mono GW.out.size

set_option maxHeartbeats 400000 in
theorem c_wedge (p : Int) (a : Option Addr) (d cap : Nat) (qs : List Int) (ax ay : Option Addr) (cx cy : Nat) (x y : List Int) (w : World) (hd : d ≤ 6) (hp1 : 3 ≤ p) (hp2 : p ≤ 1000) (hq : RdC w a d qs) (hqb : isB p qs = true)
    (hx : RdC w ax (2 ^ d) x) (hy : RdC w ay (2 ^ d) y) (hxb : isB p x = true) (hyb : isB p y = true) :
    Calls Try.prog 95 #[.agg #[.int .i64 p, .slice a d cap], .slice ax (2 ^ d) cx, .slice ay (2 ^ d) cy] w fun e w' =>
      ∃ g, e = .returned (.slice (some ⟨g, 0, none⟩) (2 ^ d) (2 ^ d)) ∧ OwnC w.heap.size w' (some ⟨g, 0, none⟩) (2 ^ d) (2 ^ d) (prodL p qs tkW x y) ∧ Ext w w' := by
  go_enter Try.func95, Try.ntmps95
  go_wp2_with (fail)
  refine (c_product p a d cap qs _ _ _ _ x y 158 tkW _ hd hp1 hp2 (hq.ext (ext_alloc _ _)) hqb (hx.ext (ext_alloc _ _)) (hy.ext (ext_alloc _ _)) hxb hyb ?_ (fun i j w hi hj => c_apart i j w hi hj)).mono ?_
  · intro args w; go_simp
  rintro e w1 ⟨g, rfl, ho, g1⟩
  have HO := Lib.hid ho
  have G1 := Lib.hid g1
  clear ho g1
  go_wp2_with (fail)
  go_ret
  exact ⟨g, rfl, HO.out.mono (by simp), (ext_alloc _ _).trans G1.out⟩
set_option maxHeartbeats 400000 in
theorem c_contract (p : Int) (a : Option Addr) (d cap : Nat) (qs : List Int) (ax ay : Option Addr) (cx cy : Nat) (x y : List Int) (w : World) (hd : d ≤ 6) (hp1 : 3 ≤ p) (hp2 : p ≤ 1000) (hq : RdC w a d qs) (hqb : isB p qs = true)
    (hx : RdC w ax (2 ^ d) x) (hy : RdC w ay (2 ^ d) y) (hxb : isB p x = true) (hyb : isB p y = true) :
    Calls Try.prog 93 #[.agg #[.int .i64 p, .slice a d cap], .slice ax (2 ^ d) cx, .slice ay (2 ^ d) cy] w fun e w' =>
      ∃ g, e = .returned (.slice (some ⟨g, 0, none⟩) (2 ^ d) (2 ^ d)) ∧ OwnC w.heap.size w' (some ⟨g, 0, none⟩) (2 ^ d) (2 ^ d) (prodL p qs tkL x y) ∧ Ext w w' := by
  go_enter Try.func93, Try.ntmps93
  go_wp2_with (fail)
  refine (c_product p a d cap qs _ _ _ _ x y 156 tkL _ hd hp1 hp2 (hq.ext (ext_alloc _ _)) hqb (hx.ext (ext_alloc _ _)) (hy.ext (ext_alloc _ _)) hxb hyb ?_ (fun i j w hi hj => c_within i j w hi hj)).mono ?_
  · intro args w; go_simp
  rintro e w1 ⟨g, rfl, ho, g1⟩
  have HO := Lib.hid ho
  have G1 := Lib.hid g1
  clear ho g1
  go_wp2_with (fail)
  go_ret
  exact ⟨g, rfl, HO.out.mono (by simp), (ext_alloc _ _).trans G1.out⟩

end Go.Proofs.Ytbgnfjckbjmgbaa

/-
  The pseudoscalar, its square; 0 and 1 in the reference.
  No condition.
-/
namespace Go.Proofs.Ytbgnfjckbjmgbaa
set_option maxRecDepth 100000
open Go.RowKit

/-- A row of numbers of the call's own, that begins a block. -/
def SPred.ownG (B n : Nat) (xs : List Int) : SPred := ⟨fun v w => ∃ g, v = .slice (some ⟨g, 0, none⟩) n n ∧ OwnC B w (some ⟨g, 0, none⟩) n n xs, fun _ _ _ ⟨g, hv, h⟩ he => ⟨g, hv, h.ext he⟩⟩
/-- A row of numbers of the call's own, that begins a block, with room behind it. -/
def SPred.ownS (B n : Nat) (xs : List Int) : SPred := ⟨fun v w => ∃ g cap, v = .slice (some ⟨g, 0, none⟩) n cap ∧ OwnC B w (some ⟨g, 0, none⟩) n cap xs, fun _ _ _ ⟨g, cap, hv, h⟩ he => ⟨g, cap, hv, h.ext he⟩⟩
/-- A row of rows. -/
def SPred.rows (n : Nat) (rows : List (List Int)) : SPred := ⟨fun v w => ∃ g, v = .slice (some ⟨g, 0, none⟩) n n ∧ RdR w (some ⟨g, 0, none⟩) n rows, fun _ _ _ ⟨g, hv, h⟩ he => ⟨g, hv, h.ext he⟩⟩
/-- A cell with a number. -/
def SPred.cell (x : Int) : SPred := ⟨fun v w => ∃ b off, v = .pointer (some ⟨b, off, none⟩) ∧ w.cell? ⟨b, off, none⟩ = some (.int .i64 x), fun _ _ _ ⟨b, off, hv, h⟩ he => ⟨b, off, hv, he.cell h⟩⟩

/-- Any other operation whose value is known. -/
theorem LexW.relV {P : Program} {ops : Array Oper} {w0 : World} {sp : Nat → Option SPred} {Q : Act → World → Prop} {o : Oper} {l : List Oper} {k : Nat} {a : Act} {env : List (Nat × Value)} {v : Value} (hsp : sp k = some (SPred.val v)) (hw : Region.wanted o (yielded ops a.tmps) = true)
    (hr : ∀ w, Ext w0 w → Dep sp (depsOf ops k) a w → ∃ w', (execOp a.eval o).run P w = .ok (.value v) w' ∧ Ext w w')
    (h : LexW P ops w0 sp Q l (k + 1) (a.put o.dst v) ((k, v) :: env)) : LexW P ops w0 sp Q (o :: l) k a env :=
  LexW.rel hsp hw (fun w he hd => let ⟨w', h1, h2⟩ := hr w he hd; ⟨v, w', h1, h2, rfl⟩) fun v' ⟨_, hv⟩ => by
    have hv' : v' = v := hv
    subst hv'
    exact h

def fullL (d : Nat) : List Int := bladeL (2 ^ d) (2 ^ d - 1)
def topL (d : Nat) (k : Int) : List Int := (List.replicate (2 ^ d) 0).set (2 ^ d - 1) k
theorem topL_one (d : Nat) : topL d 1 = fullL d := rfl
theorem pow_pos' (d : Nat) : 1 ≤ 2 ^ d := Nat.pos_of_ne_zero (by simp)
theorem full_good {p : Int} {d : Nat} (hp : 3 ≤ p) : Good p (2 ^ d) (fullL d) := blade_good hp
theorem top_good {p : Int} {d : Nat} {k : Int} (hp : 3 ≤ p) (h0 : 0 ≤ k) (h1 : k < p) : Good p (2 ^ d) (topL d k) := good_set (good_zero (by omega)) h0 h1

theorem pow_wrapI {d : Nat} (h : d ≤ 6) : IntKind.i64.wrap (2 ^ d) = ((2 ^ d : Nat) : Int) := by
  have : d = 0 ∨ d = 1 ∨ d = 2 ∨ d = 3 ∨ d = 4 ∨ d = 5 ∨ d = 6 := by omega
  rcases this with rfl | rfl | rfl | rfl | rfl | rfl | rfl <;> decide +kernel

set_option maxHeartbeats 1000000 in
set_option maxRecDepth 100000 in
theorem c_full (p : Int) (a : Option Addr) (d cap : Nat) (w : World) (hd : d ≤ 6) :
    Calls Try.prog 118 #[.agg #[.int .i64 p, .slice a d cap]] w fun e w' => ∃ g, e = .returned (.slice (some ⟨g, 0, none⟩) (2 ^ d) (2 ^ d)) ∧ OwnC w.heap.size w' (some ⟨g, 0, none⟩) (2 ^ d) (2 ^ d) (fullL d) ∧ Ext w w' := by
  have hpw := pow_wrap hd
  have hN := pow_le64 hd
  have hN1 := pow_pos' d
  obtain ⟨N, hN'⟩ : ∃ N, N = 2 ^ d := ⟨_, rfl⟩
  have HN := Lib.hid hN'
  have HF := Lib.hid (show fullL d = bladeL N (N - 1) by rw [hN']; rfl)
  rw [← hN'] at hpw hN hN1 ⊢
  clear hN'
  have hpi : IntKind.i64.wrap (2 ^ d) = (N : Int) := by rw [HN.out]; exact pow_wrapI hd
  have hw1 : IntKind.i64.wrap ((N : Int) - 1) = ((N - 1 : Nat) : Int) := by rw [IntWalk.i64_in _ (by omega)]; omega
  obtain ⟨W, hW⟩ : ∃ W, W = w.alloc (.cells #[.int .i64 p, .slice a d cap] 26) := ⟨_, rfl⟩
  have gW : Ext w W := by rw [hW]; exact ext_alloc _ _
  have hs0 : W.cell? ⟨w.heap.size, 0, none⟩ = some (.int .i64 p) := by rw [hW]; simp
  have hs1 : W.cell? ⟨w.heap.size, 1, none⟩ = some (.slice a d cap) := by rw [hW]; simp
  have HS0 := Lib.hid ((ext_drew _).cell hs0)
  have HS1 := Lib.hid ((ext_drew _).cell hs1)
  have GW := Lib.hid (gW.trans (ext_drew _))
  have HW := Lib.hid hW
  clear hs0 hs1 gW hW
  go_enter Try.func118, Try.ntmps118
  go_wp2_with (fail)
  rw [← HW.out]
  refine wp_region_lex [(2, .val (.int .i64 d)), (5, .ownG w.heap.size N (fullL d))] (by kernel_rfl) (by kernel_rfl) ?_
  repeat' first | (refine LexW.pure (v := ?_) rfl rfl (fun w1 he => ?_) ?_; rotate_left; ( have e1 := he.cell HS0.out; have e2 := he.cell HS1.out; go_simp; rfl); simp only [Act.put, List.setIfInBounds_toArray, List.set_cons_zero, List.set_cons_succ]) | (refine LexW.call (f := ?_) (args := ?_) rfl rfl (fun w1 => ?_) (fun w1 he hdep => ?_) ?_; rotate_left 2; (go_simp; refine ⟨?_, ?_⟩ <;> rfl); ( exact c_dim _ _ _ _ _); simp only [Act.put, List.setIfInBounds_toArray, List.set_cons_zero, List.set_cons_succ]) | ((refine LexW.callR (f := ?_) (args := ?_) rfl rfl (fun w1 => ?_) (fun w1 he hdep => ?_) (fun v hv => ?_); rotate_left 2; (go_simp; refine ⟨?_, ?_⟩ <;> rfl); ( refine (c_blade p a d cap (N - 1) w1 hd (by rw [← HN.out]; omega)).mono ?_; rintro e w2 ⟨g, rfl, ho, g2⟩; rw [← HN.out, ← HF.out] at ho; rw [← HN.out]; exact ⟨_, rfl, g2, g, rfl, ho.mono (Nat.le_trans GW.out.size he.size)⟩); simp only [Act.put, List.setIfInBounds_toArray, List.set_cons_zero, List.set_cons_succ]); obtain ⟨_, g5, rfl, _⟩ := hv)
  refine LexW.nil (fun w3 he hk => ?_)
  obtain ⟨g', hv, ho⟩ : (SPred.ownG w.heap.size N (fullL d)).holds (.slice (some ⟨g5, 0, none⟩) N N) w3 := hk (5, _) (by simp)
  cases hv
  have HO := Lib.hid ho
  have HE := Lib.hid (GW.out.trans he)
  clear he hk ho
  go_wp2_with (fail)
  go_ret
  exact ⟨g5, rfl, HO.out, HE.out⟩

set_option maxHeartbeats 400000 in
theorem s_zero (p : Int) (a : Option Addr) (d cap : Nat) (w : World) (hd : d ≤ 6) :
    Calls Try.prog 181 #[.agg #[.int .i64 p, .slice a d cap]] w fun e w' => ∃ g, e = .returned (.slice (some ⟨g, 0, none⟩) (2 ^ d) (2 ^ d)) ∧ OwnC w.heap.size w' (some ⟨g, 0, none⟩) (2 ^ d) (2 ^ d) (List.replicate (2 ^ d) 0) ∧ Ext w w' := by
  have hN := pow_le64 hd
  obtain ⟨N, hN'⟩ : ∃ N, N = 2 ^ d := ⟨_, rfl⟩
  have HN := Lib.hid hN'
  rw [← hN'] at hN ⊢
  clear hN'
  go_enter Try.func181, Try.ntmps181
  go_wp2_with (go_at_call 153; refine (s_size _ _ _ _ _ hd).mono ?_; rintro e w1 ⟨rfl, g1⟩; rw [← HN.out])
  obtain ⟨w2, hmk, ho, he⟩ := make_ints w1 N (by omega)
  have HO := Lib.hid ho
  have HE := Lib.hid ((ext_alloc _ _).trans (g1.trans he))
  have hz := g1.size'
  simp only [World.size_alloc] at hz
  clear ho he g1
  rw [hmk]
  go_wp2_with (fail)
  go_ret
  exact ⟨w1.heap.size, rfl, HO.out.mono (by omega), HE.out⟩

set_option maxHeartbeats 400000 in
theorem s_one (p : Int) (a : Option Addr) (d cap : Nat) (w : World) (hd : d ≤ 6) :
    Calls Try.prog 168 #[.agg #[.int .i64 p, .slice a d cap]] w fun e w' => ∃ g, e = .returned (.slice (some ⟨g, 0, none⟩) (2 ^ d) (2 ^ d)) ∧ OwnC w.heap.size w' (some ⟨g, 0, none⟩) (2 ^ d) (2 ^ d) (bladeL (2 ^ d) 0) ∧ Ext w w' := by
  have hN1 := pow_pos' d
  obtain ⟨N, hN'⟩ : ∃ N, N = 2 ^ d := ⟨_, rfl⟩
  have HN := Lib.hid hN'
  rw [← hN'] at hN1 ⊢
  clear hN'
  go_enter Try.func168, Try.ntmps168
  go_wp2_with (fail)
  have Hno := s_zero p a d cap (w.alloc (.cells #[.int .i64 p, .slice a d cap] 26)) hd
  rw [← HN.out] at Hno
  refine Hno.mono ?_
  rintro e w1 ⟨g, rfl, ho, g1⟩
  have HO := Lib.hid ho
  have G1 := Lib.hid g1
  have ec := ho.cell hN1
  have ef := ho.frozen 0
  have hg := ho.base_le
  simp only [World.size_alloc] at hg
  clear Hno ho g1
  go_wp2_with (fail)
  go_ret
  exact ⟨g, rfl, (HO.out.store hN1 _).mono (by simp), ((ext_alloc _ _).trans G1.out).setCell (by simp; omega) _⟩

set_option maxHeartbeats 400000 in
theorem s_top (p : Int) (a : Option Addr) (d cap : Nat) (k : Int) (w : World) (hd : d ≤ 6) :
    Calls Try.prog 175 #[.agg #[.int .i64 p, .slice a d cap], .int .i64 k] w fun e w' => ∃ g, e = .returned (.slice (some ⟨g, 0, none⟩) (2 ^ d) (2 ^ d)) ∧ OwnC w.heap.size w' (some ⟨g, 0, none⟩) (2 ^ d) (2 ^ d) (topL d k) ∧ Ext w w' := by
  have hN1 := pow_pos' d
  have hN := pow_le64 hd
  have HT := Lib.hid (show topL d k = (List.replicate (2 ^ d) 0).set (2 ^ d - 1) k from rfl)
  obtain ⟨N, hN'⟩ : ∃ N, N = 2 ^ d := ⟨_, rfl⟩
  have HN := Lib.hid hN'
  rw [← hN'] at hN1 hN HT ⊢
  clear hN'
  have hw1 : IntKind.i64.wrap ((N : Int) - 1) = ((N - 1 : Nat) : Int) := by rw [IntWalk.i64_in _ (by omega)]; omega
  go_enter Try.func175, Try.ntmps175
  go_wp2_with (fail)
  have Hno := s_zero p a d cap (w.alloc (.cells #[.int .i64 p, .slice a d cap] 26)) hd
  rw [← HN.out] at Hno
  refine Hno.mono ?_
  rintro e w1 ⟨g, rfl, ho, g1⟩
  have HO := Lib.hid ho
  have G1 := Lib.hid g1
  have ec := ho.cell (show N - 1 < N by omega)
  have ef := ho.frozen (N - 1)
  have hg := ho.base_le
  simp only [World.size_alloc] at hg
  have hmN : ((N - 1 : Nat) : Int) < N := by omega
  clear Hno ho g1
  go_wp2_with (fail)
  go_ret
  exact ⟨g, rfl, by rw [HT.out]; exact (HO.out.store (show N - 1 < N by omega) _).mono (by simp), ((ext_alloc _ _).trans G1.out).setCell (by simp; omega) _⟩

theorem nth_bd {p : Int} {N : Nat} {xs : List Int} (h : Good p N xs) {i : Nat} (hi : i < N) : 0 ≤ nth xs i ∧ nth xs i < p := h.2 i hi
def sqFull (p : Int) (qs : List Int) : Int := nth (prodL p qs tkA (fullL qs.length) (fullL qs.length)) 0
theorem sqFull_bd {p : Int} {qs : List Int} (hp : 3 ≤ p) : 0 ≤ sqFull p qs ∧ sqFull p qs < p := (prod_good (by omega)).2 0 (pow_pos' _)
theorem own_cell0 {B : Nat} {w : World} {g n cap : Nat} {xs : List Int} (h : OwnC B w (some ⟨g, 0, none⟩) n cap xs) (hn : 0 < n) : w.cell? ⟨g, 0, none⟩ = some (.int .i64 (nth xs 0)) := h.cell hn

theorem good_pair {p : Int} {N : Nat} {xs ys : List Int} (h : Good p N xs) (h' : Good p N ys) : ∀ i, i < 2 → Good p N (nthR [xs, ys] i) := fun i hi => by
  have : i = 0 ∨ i = 1 := by omega
  rcases this with rfl | rfl
  · exact h
  · exact h'

set_option maxHeartbeats 4000000 in
set_option maxRecDepth 100000 in
theorem c_fullSquare (p : Int) (a : Option Addr) (d cap : Nat) (qs : List Int) (w : World) (hd : d ≤ 6) (hp1 : 3 ≤ p) (hp2 : p ≤ 1000) (hq : RdC w a d qs) (hqb : isB p qs = true) :
    Calls Try.prog 119 #[.agg #[.int .i64 p, .slice a d cap]] w fun e w' => e = .returned (.int .i64 (sqFull p qs)) ∧ Ext w w' := by
  have hN1 := pow_pos' d
  have HGd := Lib.hid (full_good (p := p) (d := d) hp1)
  have HT := Lib.hid (show nth (timesL p qs [fullL d, fullL d]) 0 = sqFull p qs by rw [timesL_two hp1 (by rw [hq.1]; exact full_good hp1)]; unfold sqFull; rw [hq.1])
  have HQ := Lib.hid hq
  have HQB := Lib.hid hqb
  clear hq hqb
  obtain ⟨N, hN'⟩ : ∃ N, N = 2 ^ d := ⟨_, rfl⟩
  have HN := Lib.hid hN'
  rw [← hN'] at hN1
  have HGd2 : Hid (Good p (2 ^ d) (fullL d)) := HGd
  clear hN' HGd
  have hN0 : ¬ N = 0 := by omega
  obtain ⟨X, hX⟩ : ∃ X, X = sqFull p qs := ⟨_, rfl⟩
  rw [← hX] at HT ⊢
  clear hX
  obtain ⟨W, hW⟩ : ∃ W, W = w.alloc (.cells #[.int .i64 p, .slice a d cap] 26) := ⟨_, rfl⟩
  have gW : Ext w W := by rw [hW]; exact ext_alloc _ _
  have hs0 : W.cell? ⟨w.heap.size, 0, none⟩ = some (.int .i64 p) := by rw [hW]; simp
  have hs1 : W.cell? ⟨w.heap.size, 1, none⟩ = some (.slice a d cap) := by rw [hW]; simp
  have HS0 := Lib.hid ((ext_drew _).cell hs0)
  have HS1 := Lib.hid ((ext_drew _).cell hs1)
  have GW := Lib.hid (gW.trans (ext_drew _))
  have HW := Lib.hid hW
  clear hs0 hs1 gW hW
  go_enter Try.func119, Try.ntmps119
  go_wp2_with (fail)
  rw [← HW.out]
  refine wp_region_lex [(2, .ownG w.heap.size N (fullL d)), (4, .ownG w.heap.size N (fullL d)), (5, .rows 2 [fullL d, fullL d]), (6, .ownG w.heap.size N (timesL p qs [fullL d, fullL d])), (7, .cell X), (8, .val (.int .i64 X))] (by kernel_rfl) (by kernel_rfl) ?_
  (refine LexW.pure (v := ?_) rfl rfl (fun w1 he => ?_) ?_; rotate_left; ( have e1 := he.cell HS0.out; have e2 := he.cell HS1.out; go_simp; rfl); simp only [Act.put, List.setIfInBounds_toArray, List.set_cons_zero, List.set_cons_succ])
  (refine LexW.pure (v := ?_) rfl rfl (fun w1 he => ?_) ?_; rotate_left; ( have e1 := he.cell HS0.out; have e2 := he.cell HS1.out; go_simp; rfl); simp only [Act.put, List.setIfInBounds_toArray, List.set_cons_zero, List.set_cons_succ])
  (refine LexW.callR (f := ?_) (args := ?_) rfl rfl (fun w1 => ?_) (fun w1 he hdep => ?_) (fun v hv => ?_); rotate_left 2; (go_simp; refine ⟨?_, ?_⟩ <;> rfl); ( refine (c_full p a d cap w1 hd).mono ?_; rintro e w2 ⟨g, rfl, ho, g2⟩; rw [← HN.out] at ho; rw [← HN.out]; exact ⟨_, rfl, g2, g, rfl, ho.mono (Nat.le_trans GW.out.size he.size)⟩); simp only [Act.put, List.setIfInBounds_toArray, List.set_cons_zero, List.set_cons_succ])
  obtain ⟨_, g5, rfl, _⟩ := hv
  (refine LexW.pure (v := ?_) rfl rfl (fun w1 he => ?_) ?_; rotate_left; ( have e1 := he.cell HS0.out; have e2 := he.cell HS1.out; go_simp; rfl); simp only [Act.put, List.setIfInBounds_toArray, List.set_cons_zero, List.set_cons_succ])
  (refine LexW.callR (f := ?_) (args := ?_) rfl rfl (fun w1 => ?_) (fun w1 he hdep => ?_) (fun v hv => ?_); rotate_left 2; (go_simp; refine ⟨?_, ?_⟩ <;> rfl); ( refine (c_full p a d cap w1 hd).mono ?_; rintro e w2 ⟨g, rfl, ho, g2⟩; rw [← HN.out] at ho; rw [← HN.out]; exact ⟨_, rfl, g2, g, rfl, ho.mono (Nat.le_trans GW.out.size he.size)⟩); simp only [Act.put, List.setIfInBounds_toArray, List.set_cons_zero, List.set_cons_succ])
  obtain ⟨_, g6, rfl, _⟩ := hv
  (refine LexW.rel rfl rfl (fun w1 he hdep => ?_) (fun v hv => ?_); ( obtain ⟨_, q1, r1⟩ : (SPred.ownG w.heap.size N (fullL d)).holds (.slice (some ⟨g5, 0, none⟩) N N) w1 := hdep (2, 5) (by decide +kernel); obtain ⟨_, q2, r2⟩ : (SPred.ownG w.heap.size N (fullL d)).holds (.slice (some ⟨g6, 0, none⟩) N N) w1 := hdep (4, 7) (by decide +kernel); cases q1; cases q2; exact ⟨.slice (some ⟨w1.heap.size, 0, none⟩) 2 2, w1.alloc (.cells #[.slice (some ⟨g5, 0, none⟩) N N, .slice (some ⟨g6, 0, none⟩) N N] 24), (by go_simp), ext_alloc _ _, _, rfl, rdR_two (a := some ⟨g5, 0, none⟩) (b := some ⟨g6, 0, none⟩) (n := N) (m := N) (ca := N) (cb := N) (by simp) (by simp) (r1.rd.ext (ext_alloc _ _)) (r2.rd.ext (ext_alloc _ _))⟩); simp only [Act.put, List.setIfInBounds_toArray, List.set_cons_zero, List.set_cons_succ])
  obtain ⟨_, g7, rfl, _⟩ := hv
  (refine LexW.callR (f := ?_) (args := ?_) rfl rfl (fun w1 => ?_) (fun w1 he hdep => ?_) (fun v hv => ?_); rotate_left 2; (go_simp; refine ⟨?_, ?_⟩ <;> rfl); ( obtain ⟨_, q1, r1⟩ : (SPred.rows 2 [fullL d, fullL d]).holds (.slice (some ⟨g7, 0, none⟩) 2 2) w1 := hdep (5, 8) (by decide +kernel); cases q1; refine (c_times p a d cap qs _ 2 2 [fullL d, fullL d] w1 hd hp1 hp2 (by omega) (HQ.out.ext (GW.out.trans he)) HQB.out r1 (good_pair HGd2.out HGd2.out)).mono ?_; rintro e w2 ⟨g, rfl, ho, g2⟩; rw [← HN.out] at ho; rw [← HN.out]; exact ⟨_, rfl, g2, g, rfl, ho.mono (Nat.le_trans GW.out.size he.size)⟩); simp only [Act.put, List.setIfInBounds_toArray, List.set_cons_zero, List.set_cons_succ])
  obtain ⟨_, g8, rfl, _⟩ := hv
  (refine LexW.rel rfl rfl (fun w1 he hdep => ?_) (fun v hv => ?_); ( obtain ⟨_, q1, r1⟩ : (SPred.ownG w.heap.size N (timesL p qs [fullL d, fullL d])).holds (.slice (some ⟨g8, 0, none⟩) N N) w1 := hdep (6, 9) (by decide +kernel); cases q1; exact ⟨.pointer (some ⟨g8, 0, none⟩), w1, (by go_simp), Ext.refl _, g8, 0, rfl, (r1.cell hN1).trans (by rw [HT.out])⟩); simp only [Act.put, List.setIfInBounds_toArray, List.set_cons_zero, List.set_cons_succ])
  obtain ⟨_, b9, o9, rfl, _⟩ := hv
  (refine LexW.relV rfl rfl (fun w1 he hdep => ?_) ?_; ( obtain ⟨_, _, q1, r1⟩ : (SPred.cell X).holds (.pointer (some ⟨b9, o9, none⟩)) w1 := hdep (7, 10) (by decide +kernel); cases q1; exact ⟨w1, (by go_simp), Ext.refl _⟩); simp only [Act.put, List.setIfInBounds_toArray, List.set_cons_zero, List.set_cons_succ])
  (refine LexW.pure (v := ?_) rfl rfl (fun w1 he => ?_) ?_; rotate_left; ( go_simp; rfl); simp only [Act.put, List.setIfInBounds_toArray, List.set_cons_zero, List.set_cons_succ])
  refine LexW.nil (fun w3 he hk => ?_)
  have HE := Lib.hid (GW.out.trans he)
  clear he hk
  go_wp2_with (fail)
  go_ret
  exact ⟨rfl, HE.out⟩

set_option maxHeartbeats 4000000 in
set_option maxRecDepth 100000 in
theorem s_square (p : Int) (a : Option Addr) (d cap : Nat) (qs : List Int) (w : World) (hd : d ≤ 6) (hp1 : 3 ≤ p) (hp2 : p ≤ 1000) (hq : RdC w a d qs) (hqb : isB p qs = true) :
    Calls Try.prog 177 #[.agg #[.int .i64 p, .slice a d cap]] w fun e w' => e = .returned (.int .i64 (sqFull p qs)) ∧ Ext w w' := by
  have hN1 := pow_pos' d
  have HGd := Lib.hid (full_good (p := p) (d := d) hp1)
  have HT := Lib.hid (show nth (prodL p qs tkA (fullL d) (fullL d)) 0 = sqFull p qs by unfold sqFull; rw [hq.1])
  have HQ := Lib.hid hq
  have HQB := Lib.hid hqb
  clear hq hqb
  obtain ⟨N, hN'⟩ : ∃ N, N = 2 ^ d := ⟨_, rfl⟩
  have HN := Lib.hid hN'
  rw [← hN'] at hN1
  have HGd2 : Hid (Good p (2 ^ d) (fullL d)) := HGd
  clear hN' HGd
  have hN0 : ¬ N = 0 := by omega
  obtain ⟨X, hX⟩ : ∃ X, X = sqFull p qs := ⟨_, rfl⟩
  rw [← hX] at HT ⊢
  clear hX
  obtain ⟨W, hW⟩ : ∃ W, W = w.alloc (.cells #[.int .i64 p, .slice a d cap] 26) := ⟨_, rfl⟩
  have gW : Ext w W := by rw [hW]; exact ext_alloc _ _
  have hs0 : W.cell? ⟨w.heap.size, 0, none⟩ = some (.int .i64 p) := by rw [hW]; simp
  have hs1 : W.cell? ⟨w.heap.size, 1, none⟩ = some (.slice a d cap) := by rw [hW]; simp
  have HS0 := Lib.hid ((ext_drew _).cell hs0)
  have HS1 := Lib.hid ((ext_drew _).cell hs1)
  have GW := Lib.hid (gW.trans (ext_drew _))
  have HW := Lib.hid hW
  clear hs0 hs1 gW hW
  go_enter Try.func177, Try.ntmps177
  go_wp2_with (fail)
  rw [← HW.out]
  refine wp_region_lex [(2, .ownG w.heap.size N (fullL d)), (4, .ownG w.heap.size N (fullL d)), (5, .ownG w.heap.size N (prodL p qs tkA (fullL d) (fullL d))), (6, .cell X), (7, .val (.int .i64 X))] (by kernel_rfl) (by kernel_rfl) ?_
  (refine LexW.pure (v := ?_) rfl rfl (fun w1 he => ?_) ?_; rotate_left; ( have e1 := he.cell HS0.out; have e2 := he.cell HS1.out; go_simp; rfl); simp only [Act.put, List.setIfInBounds_toArray, List.set_cons_zero, List.set_cons_succ])
  (refine LexW.pure (v := ?_) rfl rfl (fun w1 he => ?_) ?_; rotate_left; ( have e1 := he.cell HS0.out; have e2 := he.cell HS1.out; go_simp; rfl); simp only [Act.put, List.setIfInBounds_toArray, List.set_cons_zero, List.set_cons_succ])
  (refine LexW.callR (f := ?_) (args := ?_) rfl rfl (fun w1 => ?_) (fun w1 he hdep => ?_) (fun v hv => ?_); rotate_left 2; (go_simp; refine ⟨?_, ?_⟩ <;> rfl); ( refine (s_top p a d cap 1 w1 hd).mono ?_; rintro e w2 ⟨g, rfl, ho, g2⟩; rw [← HN.out, topL_one] at ho; rw [← HN.out]; exact ⟨_, rfl, g2, g, rfl, ho.mono (Nat.le_trans GW.out.size he.size)⟩); simp only [Act.put, List.setIfInBounds_toArray, List.set_cons_zero, List.set_cons_succ])
  obtain ⟨_, g5, rfl, _⟩ := hv
  (refine LexW.pure (v := ?_) rfl rfl (fun w1 he => ?_) ?_; rotate_left; ( have e1 := he.cell HS0.out; have e2 := he.cell HS1.out; go_simp; rfl); simp only [Act.put, List.setIfInBounds_toArray, List.set_cons_zero, List.set_cons_succ])
  (refine LexW.callR (f := ?_) (args := ?_) rfl rfl (fun w1 => ?_) (fun w1 he hdep => ?_) (fun v hv => ?_); rotate_left 2; (go_simp; refine ⟨?_, ?_⟩ <;> rfl); ( refine (s_top p a d cap 1 w1 hd).mono ?_; rintro e w2 ⟨g, rfl, ho, g2⟩; rw [← HN.out, topL_one] at ho; rw [← HN.out]; exact ⟨_, rfl, g2, g, rfl, ho.mono (Nat.le_trans GW.out.size he.size)⟩); simp only [Act.put, List.setIfInBounds_toArray, List.set_cons_zero, List.set_cons_succ])
  obtain ⟨_, g6, rfl, _⟩ := hv
  (refine LexW.callR (f := ?_) (args := ?_) rfl rfl (fun w1 => ?_) (fun w1 he hdep => ?_) (fun v hv => ?_); rotate_left 2; (go_simp; refine ⟨?_, ?_⟩ <;> rfl); ( obtain ⟨_, q1, r1⟩ : (SPred.ownG w.heap.size N (fullL d)).holds (.slice (some ⟨g5, 0, none⟩) N N) w1 := hdep (2, 5) (by decide +kernel); obtain ⟨_, q2, r2⟩ : (SPred.ownG w.heap.size N (fullL d)).holds (.slice (some ⟨g6, 0, none⟩) N N) w1 := hdep (4, 7) (by decide +kernel); cases q1; cases q2; have H := s_times p a d cap qs (some ⟨g5, 0, none⟩) (some ⟨g6, 0, none⟩) N N (fullL d) (fullL d) w1 hd hp1 hp2 (HQ.out.ext (GW.out.trans he)) HQB.out (by rw [← HN.out]; exact r1.rd) (by rw [← HN.out]; exact r2.rd) HGd2.out.isB HGd2.out.isB; rw [← HN.out] at H; refine H.mono ?_; rintro e w2 ⟨g, rfl, ho, g2⟩; exact ⟨_, rfl, g2, g, rfl, ho.mono (Nat.le_trans GW.out.size he.size)⟩); simp only [Act.put, List.setIfInBounds_toArray, List.set_cons_zero, List.set_cons_succ])
  obtain ⟨_, g8, rfl, _⟩ := hv
  (refine LexW.rel rfl rfl (fun w1 he hdep => ?_) (fun v hv => ?_); ( obtain ⟨_, q1, r1⟩ : (SPred.ownG w.heap.size N (prodL p qs tkA (fullL d) (fullL d))).holds (.slice (some ⟨g8, 0, none⟩) N N) w1 := hdep (5, 8) (by decide +kernel); cases q1; exact ⟨.pointer (some ⟨g8, 0, none⟩), w1, (by go_simp), Ext.refl _, g8, 0, rfl, (r1.cell hN1).trans (by rw [HT.out])⟩); simp only [Act.put, List.setIfInBounds_toArray, List.set_cons_zero, List.set_cons_succ])
  obtain ⟨_, b9, o9, rfl, _⟩ := hv
  (refine LexW.relV rfl rfl (fun w1 he hdep => ?_) ?_; ( obtain ⟨_, _, q1, r1⟩ : (SPred.cell X).holds (.pointer (some ⟨b9, o9, none⟩)) w1 := hdep (6, 9) (by decide +kernel); cases q1; exact ⟨w1, (by go_simp), Ext.refl _⟩); simp only [Act.put, List.setIfInBounds_toArray, List.set_cons_zero, List.set_cons_succ])
  (refine LexW.pure (v := ?_) rfl rfl (fun w1 he => ?_) ?_; rotate_left; ( go_simp; rfl); simp only [Act.put, List.setIfInBounds_toArray, List.set_cons_zero, List.set_cons_succ])
  refine LexW.nil (fun w3 he hk => ?_)
  have HE := Lib.hid (GW.out.trans he)
  clear he hk
  go_wp2_with (fail)
  go_ret
  exact ⟨rfl, HE.out⟩
end Go.Proofs.Ytbgnfjckbjmgbaa

/-
  Sums of lists, in the program and in the reference.
  No condition.
-/
namespace Go.Proofs.Ytbgnfjckbjmgbaa
set_option maxRecDepth 100000
open Go.RowKit

def plusN (p : Int) (x y : List Int) (k : Int) (i : Nat) : Int := (nth x i + k * nth y i) % p
def plusL (p : Int) (x y : List Int) (k : Int) (n : Nat) : List Int := (List.range n).map (plusN p x y k)
theorem plusL_len (p : Int) (x y : List Int) (k : Int) (n : Nat) : (plusL p x y k n).length = n := by simp [plusL]
theorem plusL_succ (p : Int) (x y : List Int) (k : Int) (n : Nat) : plusL p x y k (n + 1) = plusL p x y k n ++ [plusN p x y k n] := by simp [plusL, List.range_succ]
theorem plusL_nth {p : Int} {x y : List Int} {k : Int} {n i : Nat} (h : i < n) : nth (plusL p x y k n) i = plusN p x y k i := by
  unfold plusL; rw [nth_map (by simpa using h)]; simp
theorem plus_good {p : Int} {x y : List Int} {k : Int} {n : Nat} (hp : 1 ≤ p) : Good p n (plusL p x y k n) := ⟨plusL_len _ _ _ _ _, fun i hi => by
  rw [plusL_nth hi]; exact ⟨Int.emod_nonneg _ (by omega), Int.emod_lt_of_pos _ (by omega)⟩⟩
theorem plus_minus {p : Int} {x y : List Int} {n : Nat} : plusL p x y (p - 1) n = plusL p x y (-1) n := by
  unfold plusL
  refine List.map_congr_left fun i _ => ?_
  unfold plusN
  rw [show nth x i + (p - 1) * nth y i = (nth x i + -1 * nth y i) + p * nth y i by rw [Int.sub_mul]; omega, Int.add_mul_emod_self_left]

/-- A row of one number. -/
def SPred.one (x : Int) : SPred := ⟨fun v w => ∃ g, v = .slice (some ⟨g, 0, none⟩) 1 1 ∧ w.cell? ⟨g, 0, none⟩ = some (.int .i64 x), fun _ _ _ ⟨g, hv, h⟩ he => ⟨g, hv, he.cell h⟩⟩
theorem kmul_bd {k y : Int} (hk : -1000 ≤ k ∧ k ≤ 1000) (hy0 : 0 ≤ y) (hy : y ≤ 1000) : -1000000 ≤ k * y ∧ k * y ≤ 1000000 := by
  constructor
  · have : -1000 * y ≤ k * y := Int.mul_le_mul_of_nonneg_right hk.1 hy0
    omega
  · have : k * y ≤ 1000 * y := Int.mul_le_mul_of_nonneg_right hk.2 hy0
    omega

set_option maxHeartbeats 1000000 in
theorem c_plus (p : Int) (ax ay : Option Addr) (n cx cy : Nat) (x y : List Int) (k : Int) (w : World) (hp1 : 3 ≤ p) (hp2 : p ≤ 1000) (hk : -1000 ≤ k ∧ k ≤ 1000) (hn : n ≤ 4194303) (hx : RdC w ax n x) (hy : RdC w ay n y) (hgx : Good p n x) (hgy : Good p n y) :
    Calls Try.prog 90 #[.int .i64 p, .slice ax n cx, .slice ay n cy, .int .i64 k] w fun e w' => ∃ g rc, e = .returned (.slice (some ⟨g, 0, none⟩) n rc) ∧ OwnC w.heap.size w' (some ⟨g, 0, none⟩) n rc (plusL p x y k n) ∧ Ext w w' := by
  have HX := Lib.hid hx
  have HY := Lib.hid hy
  have HGX := Lib.hid hgx
  have HGY := Lib.hid hgy
  clear hx hy hgx hgy
  go_enter Try.func90, Try.ntmps90
  go_wp2_with (fail)
  go_loopw [9, 15] (fun v i wr => ∃ (j g rc : Nat), j ≤ n ∧ i = .int .i64 j ∧ v = .slice (some ⟨g, 0, none⟩) j rc ∧ OwnC w.heap.size wr (some ⟨g, 0, none⟩) j rc (plusL p x y k j) ∧ Ext w wr) (fun _ i _ => n - (intOf i).toNat)
  case atStart => exact ⟨0, _, _, Nat.zero_le _, rfl, rfl, own_empty w, ext_alloc _ _⟩
  case round =>
    obtain ⟨j, g, rc, hj, rfl, rfl, hown, hext⟩ := hrel
    have HOwn := Lib.hid hown
    have HExt := Lib.hid hext
    clear hown hext
    by_cases hlt : j < n
    · obtain ⟨bx, ox, rfl, hcx⟩ := HX.out.2 j hlt
      obtain ⟨by', oy, rfl, hcy⟩ := HY.out.2 j hlt
      have hcx' := HExt.out.cell hcx
      have hcy' := HExt.out.cell hcy
      have hbx := HGX.out.2 j hlt
      have hby := HGY.out.2 j hlt
      have hkb := kmul_bd hk hby.1 (show nth y j ≤ 1000 by omega)
      have hw1 : IntKind.i64.wrap (k * nth y j) = k * nth y j := IntWalk.i64_in _ (by omega)
      have hw2 : IntKind.i64.wrap (nth x j + k * nth y j) = nth x j + k * nth y j := IntWalk.i64_in _ (by omega)
      have HP := Lib.hid (show (nth x j + k * nth y j) % p = plusN p x y k j from rfl)
      clear hcx hcy
      go_wp2_with (first | (go_at_call 154; refine (c_num _ _ _ (by omega) hp2).mono ?_; rintro e w2 ⟨rfl, g2⟩; rw [HP.out]; have G2 := Lib.hid g2; clear g2) | (at_builtin; refine wpList_push rfl (.tmp 20) (.tmp 31) rfl rfl rfl (v := plusN p x y k j) (HOwn.out.ext (G2.out.trans (ext_alloc _ _))) ?hc ?hn ?hB ?hk))
      case hc => simp
      case hn => omega
      case hB => have hz := (HExt.out.trans G2.out).size'; simp; omega
      case hk =>
        intro g' cap' w3 ho3 hg3 he3
        have HO3 := Lib.hid ho3
        have HE3 := Lib.hid (he3 w (Nat.le_refl _) ((HExt.out.trans G2.out).alloc _))
        clear ho3 hg3 he3
        go_wp2_with (fail)
        go_roundw
        case rel => exact ⟨j + 1, g', cap', by omega, by go_num, rfl, by rw [plusL_succ]; exact HO3.out, HE3.out⟩
        case measure => simp [intOf]; omega
    · go_wp2_with (fail)
      go_ret
      obtain rfl : j = n := by omega
      exact ⟨g, rc, rfl, HOwn.out, HExt.out⟩

set_option maxHeartbeats 1000000 in
set_option maxRecDepth 100000 in
theorem s_plus (p : Int) (ax ay : Option Addr) (n cx cy : Nat) (x y : List Int) (k : Int) (w : World) (hp1 : 3 ≤ p) (hp2 : p ≤ 1000) (hk : 0 ≤ k ∧ k ≤ 1000) (hn : n ≤ 4194303) (hx : RdC w ax n x) (hy : RdC w ay n y) (hgx : Good p n x) (hgy : Good p n y) :
    Calls Try.prog 188 #[.int .i64 p, .slice ax n cx, .slice ay n cy, .int .i64 k] w fun e w' => ∃ g rc, e = .returned (.slice (some ⟨g, 0, none⟩) n rc) ∧ OwnC w.heap.size w' (some ⟨g, 0, none⟩) n rc (plusL p x y k n) ∧ Ext w w' := by
  have hpz : ¬ p = 0 := by omega
  have HX := Lib.hid hx
  have HY := Lib.hid hy
  have HGX := Lib.hid hgx
  have HGY := Lib.hid hgy
  clear hx hy hgx hgy
  go_enter Try.func188, Try.ntmps188
  go_wp2_with (fail)
  go_loopw [9, 10] (fun v i wr => ∃ (j g rc : Nat), j ≤ n ∧ i = .int .i64 j ∧ v = .slice (some ⟨g, 0, none⟩) j rc ∧ OwnC w.heap.size wr (some ⟨g, 0, none⟩) j rc (plusL p x y k j) ∧ Ext w wr) (fun _ i _ => n - (intOf i).toNat)
  case atStart => exact ⟨0, _, _, Nat.zero_le _, rfl, rfl, own_empty w, ext_alloc _ _⟩
  case round =>
    obtain ⟨j, g, rc, hj, rfl, rfl, hown, hext⟩ := hrel
    have HOwn := Lib.hid hown
    have HExt := Lib.hid hext
    clear hown hext
    by_cases hlt : j < n
    · obtain ⟨bx, ox, rfl, hcx⟩ := HX.out.2 j hlt
      obtain ⟨by', oy, rfl, hcy⟩ := HY.out.2 j hlt
      have Hcx := Lib.hid ((HExt.out.trans (ext_drew _)).cell hcx)
      have Hcy := Lib.hid ((HExt.out.trans (ext_drew _)).cell hcy)
      have hbx := HGX.out.2 j hlt
      have hby := HGY.out.2 j hlt
      have hkb := kmul_bd ⟨by omega, hk.2⟩ hby.1 (show nth y j ≤ 1000 by omega)
      have hkn : 0 ≤ k * nth y j := Int.mul_nonneg hk.1 hby.1
      have hw1 : IntKind.i64.wrap (k * nth y j) = k * nth y j := IntWalk.i64_in _ (by omega)
      have hw2 : IntKind.i64.wrap (nth x j + k * nth y j) = nth x j + k * nth y j := IntWalk.i64_in _ (by omega)
      have hw3 : (nth x j + k * nth y j).tmod p = plusN p x y k j := Int.tmod_eq_emod_of_nonneg (by omega)
      clear hcx hcy
      go_wp2_with (fail)
      refine wp_region_lex_tail 15 [(14, .one (plusN p x y k j))] (by kernel_rfl) (by kernel_rfl) ?_
      simp only [List.take, List.drop]
      repeat' first | (refine LexW.pure (v := ?_) rfl rfl (fun w1 he => ?_) ?_; rotate_left; ( have e3 := he.cell Hcx.out; have e4 := he.cell Hcy.out; go_simp; rfl); simp only [Act.put, List.setIfInBounds_toArray, List.set_cons_zero, List.set_cons_succ]) | ((refine LexW.rel rfl rfl (fun w1 he hdep => ?_) (fun v hv => ?_); ( exact ⟨.slice (some ⟨w1.heap.size, 0, none⟩) 1 1, w1.alloc (.cells #[.int .i64 (plusN p x y k j)] 2), (by go_simp), ext_alloc _ _, _, rfl, (by simp)⟩); simp only [Act.put, List.setIfInBounds_toArray, List.set_cons_zero, List.set_cons_succ]); obtain ⟨_, g9, rfl, _⟩ := hv)
      refine LexW.nil (fun w2 he hkn => ?_)
      obtain ⟨_, q9, r9⟩ : (SPred.one (plusN p x y k j)).holds (.slice (some ⟨g9, 0, none⟩) 1 1) w2 := hkn (14, _) (by simp)
      cases q9
      have G2 := Lib.hid ((ext_drew _).trans he)
      have R9 := Lib.hid r9
      clear he hkn r9
      go_wp2_with (at_builtin; refine wpList_push rfl (.tmp 18) (.tmp 32) rfl rfl rfl (v := plusN p x y k j) (HOwn.out.ext G2.out) ?hc ?hn ?hB ?hk)
      case hc => exact R9.out
      case hn => omega
      case hB => exact (HExt.out.trans G2.out).size'
      case hk =>
        intro g' cap' w3 ho3 hg3 he3
        have HO3 := Lib.hid ho3
        have HE3 := Lib.hid (he3 w (Nat.le_refl _) (HExt.out.trans G2.out))
        clear ho3 hg3 he3
        go_wp2_with (fail)
        go_roundw
        case rel => exact ⟨j + 1, g', cap', by omega, by go_num, rfl, by rw [plusL_succ]; exact HO3.out, HE3.out⟩
        case measure => simp [intOf]; omega
    · go_wp2_with (fail)
      go_ret
      obtain rfl : j = n := by omega
      exact ⟨g, rc, rfl, HOwn.out, HExt.out⟩
end Go.Proofs.Ytbgnfjckbjmgbaa

/-
  Contracts: the helpers of the laws of algebra.
  No condition.
-/
namespace Go.Proofs.Ytbgnfjckbjmgbaa
set_option maxRecDepth 100000
open Go.RowKit

set_option maxHeartbeats 400000 in
theorem l_big (a : Option Addr) (n cap : Nat) (w : World) :
    Calls Try.prog 10 #[.slice a n cap] w fun e w' => e = .returned (.bool (decide (4096 < n))) ∧ Ext w w' := by
  by_cases h : 4096 < n
  · have hg : (4096 : Int) < n := by omega
    have HD := Lib.hid (show decide (4096 < n) = true by simp [h])
    go_enter Try.func10, Try.ntmps10
    go_wp2_with (fail)
    go_ret
    first | exact ⟨rfl, Ext.refl _⟩ | exact ⟨ret_bool HD.out.symm, Ext.refl _⟩
  · have hg : ¬ (4096 : Int) < n := by omega
    have HD := Lib.hid (show decide (4096 < n) = false by simp [h])
    go_enter Try.func10, Try.ntmps10
    go_wp2_with (fail)
    go_ret
    first | exact ⟨rfl, Ext.refl _⟩ | exact ⟨ret_bool HD.out.symm, Ext.refl _⟩
set_option maxHeartbeats 400000 in
theorem l_like (a b : Option Addr) (n m ca cb : Nat) (xs ys : List Int) (w : World) (hl : n ≤ 4194304) (hm : m ≤ 4194304) (hx : RdC w a n xs) (hy : RdC w b m ys) :
    Calls Try.prog 20 #[.slice a n ca, .slice b m cb] w fun e w' => e = .returned (.bool (eqB xs ys)) ∧ Ext w w' := by
  by_cases hnm : n = m
  · subst hnm
    have hcb : ((n : Int) != (n : Int)) = false := by simp
    have HX := Lib.hid hx.2
    have HXN := Lib.hid hx.1
    have HY := Lib.hid hy.2
    have HYN := Lib.hid hy.1
    clear hx hy
    go_enter Try.func20, Try.ntmps20
    go_wp2_with (fail)
    go_loopw [5] (fun i wr => ∃ (k : Nat), k ≤ n ∧ i = .int .i64 k ∧ Hid (∀ j, j < k → nth xs j = nth ys j) ∧ Ext w wr) (fun i _ => n - (intOf i).toNat)
    case atStart => exact ⟨0, Nat.zero_le _, rfl, Lib.hid (fun j hj => by omega), Ext.refl _⟩
    case round =>
      obtain ⟨k, hk, rfl, HT, hext⟩ := hrel
      by_cases hlt : k < n
      · obtain ⟨b1, off1, rfl, hc1⟩ := HX.out k hlt
        obtain ⟨b2, off2, rfl, hc2⟩ := HY.out k hlt
        have Hc1 := Lib.hid ((hext.trans (ext_drew _)).cell hc1)
        have Hc2 := Lib.hid ((hext.trans (ext_drew _)).cell hc2)
        clear hc1 hc2
        by_cases hb : nth xs k = nth ys k
        · have HB := Lib.hid hb
          have hbb : (nth xs k != nth ys k) = false := by simp [hb]
          clear hb
          go_wp2_with (fail)
          refine wp_region_lex [] (by kernel_rfl) (by kernel_rfl) ?_
          repeat' first | (refine LexW.pure (v := ?_) rfl rfl (fun w1 he => ?_) ?_; rotate_left; ( have hc1 := he.cell Hc1.out; have hc2 := he.cell Hc2.out; go_simp; rfl); simp only [Act.put, List.setIfInBounds_toArray, List.set_cons_zero, List.set_cons_succ])
          refine LexW.nil (fun w2 he hk => ?_)
          go_wp2_with (fail)
          go_roundw
          case rel => exact ⟨k + 1, by omega, by go_num, Lib.hid (fun j hj => by
            by_cases hjk : j = k
            · subst hjk; exact HB.out
            · exact HT.out j (by omega)), hext.trans ((ext_drew _).trans he)⟩
          case measure => simp [intOf]; omega
        · have HB := Lib.hid hb
          have hbb : (nth xs k != nth ys k) = true := by simp [hb]
          clear hb
          go_wp2_with (fail)
          refine wp_region_lex [] (by kernel_rfl) (by kernel_rfl) ?_
          repeat' first | (refine LexW.pure (v := ?_) rfl rfl (fun w1 he => ?_) ?_; rotate_left; ( have hc1 := he.cell Hc1.out; have hc2 := he.cell Hc2.out; go_simp; rfl); simp only [Act.put, List.setIfInBounds_toArray, List.set_cons_zero, List.set_cons_succ])
          refine LexW.nil (fun w2 he hk => ?_)
          go_wp2_with (fail)
          go_ret
          exact ⟨ret_bool (eqB_nth HB.out).symm, hext.trans ((ext_drew _).trans he)⟩
      · go_wp2_with (fail)
        go_ret
        exact ⟨ret_bool (eqB_all HXN.out HYN.out (fun j hj => HT.out j (by omega))).symm, hext⟩
  · have HF := Lib.hid (eqB_len (xs := xs) (ys := ys) (by rw [hx.1, hy.1]; exact hnm))
    have hcb : ((n : Int) != (m : Int)) = true := by simp; omega
    go_enter Try.func20, Try.ntmps20
    go_wp2_with (fail)
    go_ret
    exact ⟨ret_bool HF.out.symm, Ext.refl _⟩
set_option maxHeartbeats 1000000 in
theorem l_likeRows (a b : Option Addr) (n m ca cb : Nat) (xs ys : List (List Int)) (w : World) (hl : n ≤ 4194304) (_hm : m ≤ 4194304) (hxl : ∀ i, i < n → (nthR xs i).length ≤ 4194304) (hyl : ∀ i, i < m → (nthR ys i).length ≤ 4194304) (hx : RdR w a n xs) (hy : RdR w b m ys) :
    Calls Try.prog 59 #[.slice a n ca, .slice b m cb] w fun e w' => e = .returned (.bool (eqR xs ys)) ∧ Ext w w' := by
  have HXL := Lib.hid hxl
  have HYL := Lib.hid hyl
  clear hxl hyl
  by_cases hnm : n = m
  · subst hnm
    have hcb : ((n : Int) != (n : Int)) = false := by simp
    have HX := Lib.hid hx.2
    have HXN := Lib.hid hx.1
    have HY := Lib.hid hy.2
    have HYN := Lib.hid hy.1
    clear hx hy
    go_enter Try.func59, Try.ntmps59
    go_wp2_with (fail)
    go_loopw [5] (fun i wr => ∃ (k : Nat), k ≤ n ∧ i = .int .i64 k ∧ Hid (∀ j, j < k → nthR xs j = nthR ys j) ∧ Ext w wr) (fun i _ => n - (intOf i).toNat)
    case atStart => exact ⟨0, Nat.zero_le _, rfl, Lib.hid (fun j hj => by omega), Ext.refl _⟩
    case round =>
      obtain ⟨k, hk, rfl, HT, hext⟩ := hrel
      have HExt := Lib.hid hext
      clear hext
      by_cases hlt : k < n
      · obtain ⟨b1, off1, a1, c1, rfl, hc1, hr1⟩ := HX.out k hlt
        obtain ⟨b2, off2, a2, c2, rfl, hc2, hr2⟩ := HY.out k hlt
        have Hc1 := Lib.hid ((HExt.out.trans (ext_drew _)).cell hc1)
        have Hc2 := Lib.hid ((HExt.out.trans (ext_drew _)).cell hc2)
        have Hr1 := Lib.hid (hr1.ext (HExt.out.trans (ext_drew _)))
        have Hr2 := Lib.hid (hr2.ext (HExt.out.trans (ext_drew _)))
        have hl1 := HXL.out k hlt
        have hl2 := HYL.out k hlt
        clear hc1 hc2 hr1 hr2
        by_cases hb : nthR xs k = nthR ys k
        · have HB := Lib.hid hb
          have HE := Lib.hid (show eqB (nthR xs k) (nthR ys k) = true by simp [eqB, hb])
          clear hb
          go_wp2_with (fail)
          refine wp_region_lex [(8, .val (.bool true))] (by kernel_rfl) (by kernel_rfl) ?_
          repeat' first | (refine LexW.pure (v := ?_) rfl rfl (fun w1 he => ?_) ?_; rotate_left; ( have hc1 := he.cell Hc1.out; have hc2 := he.cell Hc2.out; go_simp; rfl); simp only [Act.put, List.setIfInBounds_toArray, List.set_cons_zero, List.set_cons_succ]) | (refine LexW.call (f := ?_) (args := ?_) rfl rfl (fun w1 => ?_) (fun w1 he hdep => ?_) ?_; rotate_left 2; (go_simp; refine ⟨?_, ?_⟩ <;> rfl); ( have H := l_like a1 a2 _ _ c1 c2 _ _ w1 hl1 hl2 (Hr1.out.ext he) (Hr2.out.ext he); rw [HE.out] at H; exact H); simp only [Act.put, List.setIfInBounds_toArray, List.set_cons_zero, List.set_cons_succ])
          refine LexW.nil (fun w2 he hk => ?_)
          have G := Lib.hid (HExt.out.trans ((ext_drew _).trans he))
          clear he hk
          go_wp2_with (fail)
          go_roundw
          case rel => exact ⟨k + 1, by omega, by go_num, Lib.hid (fun j hj => by
            by_cases hjk : j = k
            · subst hjk; exact HB.out
            · exact HT.out j (by omega)), G.out⟩
          case measure => simp [intOf]; omega
        · have HB := Lib.hid (eqR_nth hb)
          have HE := Lib.hid (show eqB (nthR xs k) (nthR ys k) = false by simp [eqB, hb])
          clear hb
          go_wp2_with (fail)
          refine wp_region_lex [(8, .val (.bool false))] (by kernel_rfl) (by kernel_rfl) ?_
          repeat' first | (refine LexW.pure (v := ?_) rfl rfl (fun w1 he => ?_) ?_; rotate_left; ( have hc1 := he.cell Hc1.out; have hc2 := he.cell Hc2.out; go_simp; rfl); simp only [Act.put, List.setIfInBounds_toArray, List.set_cons_zero, List.set_cons_succ]) | (refine LexW.call (f := ?_) (args := ?_) rfl rfl (fun w1 => ?_) (fun w1 he hdep => ?_) ?_; rotate_left 2; (go_simp; refine ⟨?_, ?_⟩ <;> rfl); ( have H := l_like a1 a2 _ _ c1 c2 _ _ w1 hl1 hl2 (Hr1.out.ext he) (Hr2.out.ext he); rw [HE.out] at H; exact H); simp only [Act.put, List.setIfInBounds_toArray, List.set_cons_zero, List.set_cons_succ])
          refine LexW.nil (fun w2 he hk => ?_)
          have G := Lib.hid (HExt.out.trans ((ext_drew _).trans he))
          clear he hk
          go_wp2_with (fail)
          go_ret
          exact ⟨ret_bool HB.out.symm, G.out⟩
      · go_wp2_with (fail)
        go_ret
        exact ⟨ret_bool (eqR_all HXN.out HYN.out (fun j hj => HT.out j (by omega))).symm, HExt.out⟩
  · have HF := Lib.hid (eqR_len (xs := xs) (ys := ys) (by rw [hx.1, hy.1]; exact hnm))
    have hcb : ((n : Int) != (m : Int)) = true := by simp; omega
    go_enter Try.func59, Try.ntmps59
    go_wp2_with (fail)
    go_ret
    exact ⟨ret_bool HF.out.symm, Ext.refl _⟩
set_option maxHeartbeats 400000 in
theorem l_mod5 (p n : Int) (w : World) (h1 : 1 ≤ p) (h2 : p ≤ 1000) :
    Calls Try.prog 18 #[.int .i64 p, .int .i64 n] w fun e w' => e = .returned (.int .i64 (n % p)) ∧ Ext w w' := by
  have HE := Lib.hid (num_eq (n := n) h1 h2)
  have hpz : ¬ p = 0 := by omega
  go_enter Try.func18, Try.ntmps18
  go_wp2
  go_ret
  exact ⟨ret_int HE.out, Ext.refl _⟩
set_option maxHeartbeats 400000 in
theorem l_size5 {N : Nat} (p : Int) (a : Option Addr) (d cap : Nat) (w : World) (hd : d ≤ 6) (hN : N = 2 ^ d) :
    Calls Try.prog 17 #[.agg #[.int .i64 p, .slice a d cap]] w fun e w' => e = .returned (.int .i64 N) ∧ Ext w w' := by
  have hp := pow_wrap hd
  rw [← hN] at hp
  go_enter Try.func17, Try.ntmps17
  go_wp2_with (fail)
  go_ret
  exact ⟨ret_int hp, ext_alloc _ _⟩
set_option maxHeartbeats 2000000 in
theorem l_plus5 (p : Int) (ax ay : Option Addr) (n cx cy : Nat) (x y : List Int) (k : Int) (w : World) (hp1 : 3 ≤ p) (hp2 : p ≤ 1000) (hk : -1000 ≤ k ∧ k ≤ 1000) (hn : n ≤ 4194303) (hx : RdC w ax n x) (hy : RdC w ay n y) (hgx : Good p n x) (hgy : Good p n y) :
    Calls Try.prog 15 #[.int .i64 p, .slice ax n cx, .slice ay n cy, .int .i64 k] w fun e w' => ∃ g rc, e = .returned (.slice (some ⟨g, 0, none⟩) n rc) ∧ OwnC w.heap.size w' (some ⟨g, 0, none⟩) n rc (plusL p x y k n) ∧ Ext w w' := by
  have HX := Lib.hid hx
  have HY := Lib.hid hy
  have HGX := Lib.hid hgx
  have HGY := Lib.hid hgy
  have hnn : ((n : Int) != (n : Int)) = false := by simp
  clear hx hy hgx hgy
  go_enter Try.func15, Try.ntmps15
  go_wp2_with (fail)
  go_loopw [9, 10] (fun o i wr => ∃ (j g rc : Nat), j ≤ n ∧ i = .int .i64 j ∧ o = .slice (some ⟨g, 0, none⟩) j rc ∧ OwnC w.heap.size wr (some ⟨g, 0, none⟩) j rc (plusL p x y k j) ∧ Ext w wr) (fun _ i _ => n - (intOf i).toNat)
  case atStart => exact ⟨0, _, 0, Nat.zero_le _, rfl, rfl, own_empty w, ext_alloc _ _⟩
  case round =>
    obtain ⟨j, g, rc, hj, rfl, rfl, hown, hext⟩ := hrel
    have HOwn := Lib.hid hown
    have HExt := Lib.hid hext
    clear hown hext
    by_cases hlt : j < n
    · obtain ⟨bx, ox, rfl, hcx⟩ := HX.out.2 j hlt
      obtain ⟨by', oy, rfl, hcy⟩ := HY.out.2 j hlt
      have Hcx := Lib.hid ((HExt.out.trans (ext_drew _)).cell hcx)
      have Hcy := Lib.hid ((HExt.out.trans (ext_drew _)).cell hcy)
      have hbx := HGX.out.2 j hlt
      have hby := HGY.out.2 j hlt
      have hkb := kmul_bd hk hby.1 (show nth y j ≤ 1000 by omega)
      have hw1 : IntKind.i64.wrap (k * nth y j) = k * nth y j := IntWalk.i64_in _ (by omega)
      have hw2 : IntKind.i64.wrap (nth x j + k * nth y j) = nth x j + k * nth y j := IntWalk.i64_in _ (by omega)
      clear hcx hcy
      go_wp2_with (fail)
      refine wp_region_lex_tail 15 [(13, .val (.int .i64 (plusN p x y k j))), (14, .one (plusN p x y k j))] (by kernel_rfl) (by kernel_rfl) ?_
      simp only [List.take, List.drop]
      repeat' first | (refine LexW.pure (v := ?_) rfl rfl (fun w1 he => ?_) ?_; rotate_left; ( have e3 := he.cell Hcx.out; have e4 := he.cell Hcy.out; go_simp; rfl); simp only [Act.put, List.setIfInBounds_toArray, List.set_cons_zero, List.set_cons_succ]) | (refine LexW.call (f := ?_) (args := ?_) rfl rfl (fun w1 => ?_) (fun w1 he hdep => ?_) ?_; rotate_left 2; (go_simp; refine ⟨?_, ?_⟩ <;> rfl); ( exact l_mod5 _ _ _ (by omega) (by omega)); simp only [Act.put, List.setIfInBounds_toArray, List.set_cons_zero, List.set_cons_succ]) | ((refine LexW.rel rfl rfl (fun w1 he hdep => ?_) (fun v hv => ?_); ( exact ⟨.slice (some ⟨w1.heap.size, 0, none⟩) 1 1, w1.alloc (.cells #[.int .i64 (plusN p x y k j)] 2), (by go_simp), ext_alloc _ _, _, rfl, (by simp)⟩); simp only [Act.put, List.setIfInBounds_toArray, List.set_cons_zero, List.set_cons_succ]); obtain ⟨_, g9, rfl, _⟩ := hv)
      refine LexW.nil (fun w2 he hkn => ?_)
      obtain ⟨_, q9, r9⟩ : (SPred.one (plusN p x y k j)).holds (.slice (some ⟨g9, 0, none⟩) 1 1) w2 := hkn (14, _) (by simp)
      cases q9
      have G2 := Lib.hid ((ext_drew _).trans he)
      have R9 := Lib.hid r9
      clear he hkn r9
      go_wp2_with (at_builtin; refine wpList_push rfl (.tmp 23) (.tmp 37) rfl rfl rfl (v := plusN p x y k j) (HOwn.out.ext G2.out) ?hc ?hn ?hB ?hk)
      case hc => exact R9.out
      case hn => omega
      case hB => exact (HExt.out.trans G2.out).size'
      case hk =>
        intro g' cap' w3 ho3 hg3 he3
        have HO3 := Lib.hid ho3
        have HE3 := Lib.hid (he3 w (Nat.le_refl _) (HExt.out.trans G2.out))
        clear ho3 hg3 he3
        go_wp2_with (fail)
        go_roundw
        case rel => exact ⟨j + 1, g', cap', by omega, by go_num, rfl, by rw [plusL_succ]; exact HO3.out, HE3.out⟩
        case measure => simp [intOf]; omega
    · go_wp2_with (fail)
      go_ret
      obtain rfl : j = n := by omega
      exact ⟨g, rc, rfl, HOwn.out, HExt.out⟩
def zeroZ (xs : List Int) (n : Nat) : Bool := decide (∀ i, i < n → nth xs i = 0)
set_option maxHeartbeats 400000 in
theorem l_zero5 (a : Option Addr) (n cap : Nat) (xs : List Int) (w : World) (hl : n ≤ 4194304) (hx : RdC w a n xs) :
    Calls Try.prog 68 #[.slice a n cap] w fun e w' => e = .returned (.bool (zeroZ xs n)) ∧ Ext w w' := by
  have HX := Lib.hid hx
  clear hx
  go_enter Try.func68, Try.ntmps68
  go_wp2_with (fail)
  go_loopw [3] (fun i wr => ∃ (k : Nat), k ≤ n ∧ i = .int .i64 k ∧ Hid (∀ j, j < k → nth xs j = 0) ∧ Ext w wr) (fun i _ => n - (intOf i).toNat)
  case atStart => exact ⟨0, Nat.zero_le _, rfl, Lib.hid (fun j hj => by omega), Ext.refl _⟩
  case round =>
    obtain ⟨k, hk, rfl, HT, hext⟩ := hrel
    by_cases hlt : k < n
    · obtain ⟨b, off, rfl, hc⟩ := HX.out.2 k hlt
      have hc1 := hext.cell hc
      by_cases hb : nth xs k = 0
      · have hbb : (nth xs k != 0) = false := by simp [hb]
        have HB := Lib.hid hb
        clear hc hb
        go_wp2_with (fail)
        go_roundw
        case rel => exact ⟨k + 1, by omega, by go_num, Lib.hid (fun j hj => by
            by_cases hjk : j = k
            · subst hjk; exact HB.out
            · exact HT.out j (by omega)), hext⟩
        case measure => simp [intOf]; omega
      · have hbb : (nth xs k != 0) = true := by simp [hb]
        have HB := Lib.hid (show zeroZ xs n = false by simp only [zeroZ, decide_eq_false_iff_not]; intro h; exact hb (h k hlt))
        clear hc hb
        go_wp2_with (fail)
        go_ret
        exact ⟨ret_bool HB.out.symm, hext⟩
    · have HB := Lib.hid (show zeroZ xs n = true by simp only [zeroZ, decide_eq_true_eq]; intro i hi; exact HT.out i (by omega))
      go_wp2_with (fail)
      go_ret
      exact ⟨ret_bool HB.out.symm, hext⟩
end Go.Proofs.Ytbgnfjckbjmgbaa

/-
  Contracts of the listed products: the code, and where it is 0 the product.
  No condition.
-/
namespace Go.Proofs.Ytbgnfjckbjmgbaa
set_option maxRecDepth 100000
open Go.RowKit

theorem good_two {p : Int} {N : Nat} {xs ys : List Int} (h : Good p N xs) (h' : Good p N ys) : ∀ i, i < 2 → Good p N (nthR [xs, ys] i) := fun i hi => by
  have : i = 0 ∨ i = 1 := by omega
  rcases this with rfl | rfl
  · exact h
  · exact h'

set_option maxHeartbeats 400000 in
theorem s_wedge (p : Int) (a : Option Addr) (d cap : Nat) (qs : List Int) (ax ay : Option Addr) (cx cy : Nat) (x y : List Int) (w : World) (hd : d ≤ 6) (hp1 : 3 ≤ p) (hp2 : p ≤ 1000) (hq : RdC w a d qs) (hqb : isB p qs = true)
    (hx : RdC w ax (2 ^ d) x) (hy : RdC w ay (2 ^ d) y) (hxb : isB p x = true) (hyb : isB p y = true) :
    Calls Try.prog 116 #[.agg #[.int .i64 p, .slice a d cap], .slice ax (2 ^ d) cx, .slice ay (2 ^ d) cy] w fun e w' =>
      ∃ g, e = .returned (.slice (some ⟨g, 0, none⟩) (2 ^ d) (2 ^ d)) ∧ OwnC w.heap.size w' (some ⟨g, 0, none⟩) (2 ^ d) (2 ^ d) (prodL p qs tkW x y) ∧ Ext w w' := by
  go_enter Try.func116, Try.ntmps116
  go_wp2_with (fail)
  refine (s_kind0 p a d cap qs _ _ _ _ x y _ hd hp1 hp2 (hq.ext (ext_alloc _ _)) hqb (hx.ext (ext_alloc _ _)) (hy.ext (ext_alloc _ _)) hxb hyb).mono ?_
  rintro e w1 ⟨g, rfl, ho, g1⟩
  have HO := Lib.hid ho
  have G1 := Lib.hid g1
  clear ho g1
  go_wp2_with (fail)
  go_ret
  exact ⟨g, rfl, HO.out.mono (by simp), (ext_alloc _ _).trans G1.out⟩

set_option maxHeartbeats 400000 in
theorem s_left (p : Int) (a : Option Addr) (d cap : Nat) (qs : List Int) (ax ay : Option Addr) (cx cy : Nat) (x y : List Int) (w : World) (hd : d ≤ 6) (hp1 : 3 ≤ p) (hp2 : p ≤ 1000) (hq : RdC w a d qs) (hqb : isB p qs = true)
    (hx : RdC w ax (2 ^ d) x) (hy : RdC w ay (2 ^ d) y) (hxb : isB p x = true) (hyb : isB p y = true) :
    Calls Try.prog 94 #[.agg #[.int .i64 p, .slice a d cap], .slice ax (2 ^ d) cx, .slice ay (2 ^ d) cy] w fun e w' =>
      ∃ g, e = .returned (.slice (some ⟨g, 0, none⟩) (2 ^ d) (2 ^ d)) ∧ OwnC w.heap.size w' (some ⟨g, 0, none⟩) (2 ^ d) (2 ^ d) (prodL p qs tkL x y) ∧ Ext w w' := by
  go_enter Try.func94, Try.ntmps94
  go_wp2_with (fail)
  refine (s_kind1 p a d cap qs _ _ _ _ x y _ hd hp1 hp2 (hq.ext (ext_alloc _ _)) hqb (hx.ext (ext_alloc _ _)) (hy.ext (ext_alloc _ _)) hxb hyb).mono ?_
  rintro e w1 ⟨g, rfl, ho, g1⟩
  have HO := Lib.hid ho
  have G1 := Lib.hid g1
  clear ho g1
  go_wp2_with (fail)
  go_ret
  exact ⟨g, rfl, HO.out.mono (by simp), (ext_alloc _ _).trans G1.out⟩

set_option maxHeartbeats 400000 in
theorem s_WedgeProduct_bad (p : Int) (a : Option Addr) (d cap : Nat) (qs : List Int) (ax : Option Addr) (n cx : Nat) (xs : List Int) (ay : Option Addr) (m cy : Nat) (ys : List Int) (w : World) (hd : d ≤ 4194304) (hl : n ≤ 4194304) (hm : m ≤ 4194304) (hq : RdC w a d qs) (hx : RdC w ax n xs) (hy : RdC w ay m ys) (hc : codeM p qs [xs, ys] ≠ 0) :
    Calls Try.prog 63 #[.agg #[.int .i64 p, .slice a d cap], .slice ax n cx, .slice ay m cy] w fun e w' => ∃ ra rc, e = .returned (.tuple #[.slice ra 0 rc, .int .i64 (codeM p qs [xs, ys])]) ∧ OwnC w.heap.size w' ra 0 rc [] ∧ Ext w w' := by
  have hcb : (codeM p qs [xs, ys] != 0) = true := by simp [hc]
  clear hc
  go_enter Try.func63, Try.ntmps63
  go_wp2_with (go_at_call 84; refine (s_code p a d cap qs _ 2 _ [xs, ys] _ hd (by omega) (len_two (by rw [hx.1]; exact hl) (by rw [hy.1]; exact hm)) (hq.ext ((ext_alloc _ _).alloc _)) (rdR_two (a := ax) (b := ay) (n := _) (m := _) (ca := cx) (cb := cy) (by simp) (by simp) (hx.ext ((ext_alloc _ _).alloc _)) (hy.ext ((ext_alloc _ _).alloc _)))).mono ?_; rintro e w1 ⟨rfl, g1⟩)
  go_ret2
  exact ⟨none, 0, rfl, own_nil _ _, ((ext_alloc _ _).alloc _).trans g1⟩

set_option maxHeartbeats 400000 in
theorem s_WedgeProduct_ok (p : Int) (a : Option Addr) (d cap : Nat) (qs : List Int) (ax : Option Addr) (n cx : Nat) (xs : List Int) (ay : Option Addr) (m cy : Nat) (ys : List Int) (w : World) (hd : d ≤ 4194304) (hl : n ≤ 4194304) (hm : m ≤ 4194304) (hq : RdC w a d qs) (hx : RdC w ax n xs) (hy : RdC w ay m ys) (hc : codeM p qs [xs, ys] = 0) :
    Calls Try.prog 63 #[.agg #[.int .i64 p, .slice a d cap], .slice ax n cx, .slice ay m cy] w fun e w' => ∃ ra rc, e = .returned (.tuple #[.slice ra n rc, .int .i64 0]) ∧ OwnC w.heap.size w' ra n rc (prodL p qs tkW xs ys) ∧ Ext w w' := by
  obtain ⟨hs, hxm, hym⟩ := codeM_two hc
  obtain ⟨hpr, hd1, hd6, hqb⟩ := space_of hs
  have hpb := prime_bd hpr
  obtain ⟨hxl, hxb⟩ := multi_of hxm
  obtain ⟨hyl, hyb⟩ := multi_of hym
  rw [hq.1] at hxl hyl hd6
  obtain rfl : n = 2 ^ d := hx.1.symm.trans hxl
  obtain rfl : m = 2 ^ d := hy.1.symm.trans hyl
  have HC := Lib.hid hc
  have HQB := Lib.hid hqb
  have HXB := Lib.hid hxb
  have HYB := Lib.hid hyb
  have HXL := Lib.hid hxl
  have HYL := Lib.hid hyl
  have HQL := Lib.hid hq.1
  have hcb : ((0 : Int) != 0) = false := by simp
  clear hc hs hxm hym hqb hxb hyb hxl hyl hpr hd1
  go_enter Try.func63, Try.ntmps63
  go_wp2_with (go_at_call 84; refine (s_code p a d cap qs _ 2 _ [xs, ys] _ hd (by omega) (len_two (by rw [hx.1]; exact hl) (by rw [hy.1]; exact hm)) (hq.ext ((ext_alloc _ _).alloc _)) (rdR_two (a := ax) (b := ay) (n := _) (m := _) (ca := cx) (cb := cy) (by simp) (by simp) (hx.ext ((ext_alloc _ _).alloc _)) (hy.ext ((ext_alloc _ _).alloc _)))).mono ?_; rintro e w1 ⟨rfl, g1⟩; rw [HC.out]; have hq0 : w1.cell? ⟨w.heap.size, 0, none⟩ = some (.int .i64 p) := g1.cell (by simp); have hq1 : w1.cell? ⟨w.heap.size, 1, none⟩ = some (.slice a d cap) := g1.cell (by simp))
  have G1 := Lib.hid (((ext_alloc w (.cells #[.int .i64 p, .slice a d cap] 26)).alloc (.cells #[.slice ax (2 ^ d) cx, .slice ay (2 ^ d) cy] 24)).trans g1)
  clear g1 hq0 hq1
  refine (s_wedge p a d cap qs _ _ _ _ xs ys w1 (by omega) (by omega) (by omega) (hq.ext G1.out) HQB.out (hx.ext G1.out) (hy.ext G1.out) HXB.out HYB.out).mono ?_
  rintro e w2 ⟨g, rfl, ho, g2⟩
  have HO := Lib.hid ho
  have G2 := Lib.hid g2
  clear ho g2
  go_wp2_with (fail)
  go_ret2
  exact ⟨some ⟨g, 0, none⟩, 2 ^ d, rfl, HO.out.mono G1.out.size, G1.out.trans G2.out⟩

set_option maxHeartbeats 400000 in
theorem s_LeftContraction_bad (p : Int) (a : Option Addr) (d cap : Nat) (qs : List Int) (ax : Option Addr) (n cx : Nat) (xs : List Int) (ay : Option Addr) (m cy : Nat) (ys : List Int) (w : World) (hd : d ≤ 4194304) (hl : n ≤ 4194304) (hm : m ≤ 4194304) (hq : RdC w a d qs) (hx : RdC w ax n xs) (hy : RdC w ay m ys) (hc : codeM p qs [xs, ys] ≠ 0) :
    Calls Try.prog 35 #[.agg #[.int .i64 p, .slice a d cap], .slice ax n cx, .slice ay m cy] w fun e w' => ∃ ra rc, e = .returned (.tuple #[.slice ra 0 rc, .int .i64 (codeM p qs [xs, ys])]) ∧ OwnC w.heap.size w' ra 0 rc [] ∧ Ext w w' := by
  have hcb : (codeM p qs [xs, ys] != 0) = true := by simp [hc]
  clear hc
  go_enter Try.func35, Try.ntmps35
  go_wp2_with (go_at_call 84; refine (s_code p a d cap qs _ 2 _ [xs, ys] _ hd (by omega) (len_two (by rw [hx.1]; exact hl) (by rw [hy.1]; exact hm)) (hq.ext ((ext_alloc _ _).alloc _)) (rdR_two (a := ax) (b := ay) (n := _) (m := _) (ca := cx) (cb := cy) (by simp) (by simp) (hx.ext ((ext_alloc _ _).alloc _)) (hy.ext ((ext_alloc _ _).alloc _)))).mono ?_; rintro e w1 ⟨rfl, g1⟩)
  go_ret2
  exact ⟨none, 0, rfl, own_nil _ _, ((ext_alloc _ _).alloc _).trans g1⟩

set_option maxHeartbeats 400000 in
theorem s_LeftContraction_ok (p : Int) (a : Option Addr) (d cap : Nat) (qs : List Int) (ax : Option Addr) (n cx : Nat) (xs : List Int) (ay : Option Addr) (m cy : Nat) (ys : List Int) (w : World) (hd : d ≤ 4194304) (hl : n ≤ 4194304) (hm : m ≤ 4194304) (hq : RdC w a d qs) (hx : RdC w ax n xs) (hy : RdC w ay m ys) (hc : codeM p qs [xs, ys] = 0) :
    Calls Try.prog 35 #[.agg #[.int .i64 p, .slice a d cap], .slice ax n cx, .slice ay m cy] w fun e w' => ∃ ra rc, e = .returned (.tuple #[.slice ra n rc, .int .i64 0]) ∧ OwnC w.heap.size w' ra n rc (prodL p qs tkL xs ys) ∧ Ext w w' := by
  obtain ⟨hs, hxm, hym⟩ := codeM_two hc
  obtain ⟨hpr, hd1, hd6, hqb⟩ := space_of hs
  have hpb := prime_bd hpr
  obtain ⟨hxl, hxb⟩ := multi_of hxm
  obtain ⟨hyl, hyb⟩ := multi_of hym
  rw [hq.1] at hxl hyl hd6
  obtain rfl : n = 2 ^ d := hx.1.symm.trans hxl
  obtain rfl : m = 2 ^ d := hy.1.symm.trans hyl
  have HC := Lib.hid hc
  have HQB := Lib.hid hqb
  have HXB := Lib.hid hxb
  have HYB := Lib.hid hyb
  have HXL := Lib.hid hxl
  have HYL := Lib.hid hyl
  have HQL := Lib.hid hq.1
  have hcb : ((0 : Int) != 0) = false := by simp
  clear hc hs hxm hym hqb hxb hyb hxl hyl hpr hd1
  go_enter Try.func35, Try.ntmps35
  go_wp2_with (go_at_call 84; refine (s_code p a d cap qs _ 2 _ [xs, ys] _ hd (by omega) (len_two (by rw [hx.1]; exact hl) (by rw [hy.1]; exact hm)) (hq.ext ((ext_alloc _ _).alloc _)) (rdR_two (a := ax) (b := ay) (n := _) (m := _) (ca := cx) (cb := cy) (by simp) (by simp) (hx.ext ((ext_alloc _ _).alloc _)) (hy.ext ((ext_alloc _ _).alloc _)))).mono ?_; rintro e w1 ⟨rfl, g1⟩; rw [HC.out]; have hq0 : w1.cell? ⟨w.heap.size, 0, none⟩ = some (.int .i64 p) := g1.cell (by simp); have hq1 : w1.cell? ⟨w.heap.size, 1, none⟩ = some (.slice a d cap) := g1.cell (by simp))
  have G1 := Lib.hid (((ext_alloc w (.cells #[.int .i64 p, .slice a d cap] 26)).alloc (.cells #[.slice ax (2 ^ d) cx, .slice ay (2 ^ d) cy] 24)).trans g1)
  clear g1 hq0 hq1
  refine (s_left p a d cap qs _ _ _ _ xs ys w1 (by omega) (by omega) (by omega) (hq.ext G1.out) HQB.out (hx.ext G1.out) (hy.ext G1.out) HXB.out HYB.out).mono ?_
  rintro e w2 ⟨g, rfl, ho, g2⟩
  have HO := Lib.hid ho
  have G2 := Lib.hid g2
  clear ho g2
  go_wp2_with (fail)
  go_ret2
  exact ⟨some ⟨g, 0, none⟩, 2 ^ d, rfl, HO.out.mono G1.out.size, G1.out.trans G2.out⟩


set_option maxHeartbeats 400000 in
theorem s_GeometricProduct_bad (p : Int) (a : Option Addr) (d cap : Nat) (qs : List Int) (ax : Option Addr) (n cx : Nat) (xs : List Int) (ay : Option Addr) (m cy : Nat) (ys : List Int) (w : World) (hd : d ≤ 4194304) (hl : n ≤ 4194304) (hm : m ≤ 4194304) (hq : RdC w a d qs) (hx : RdC w ax n xs) (hy : RdC w ay m ys) (hc : codeM p qs [xs, ys] ≠ 0) :
    Calls Try.prog 24 #[.agg #[.int .i64 p, .slice a d cap], .slice ax n cx, .slice ay m cy] w fun e w' => ∃ ra rc, e = .returned (.tuple #[.slice ra 0 rc, .int .i64 (codeM p qs [xs, ys])]) ∧ OwnC w.heap.size w' ra 0 rc [] ∧ Ext w w' := by
  have hcb : (codeM p qs [xs, ys] != 0) = true := by simp [hc]
  clear hc
  go_enter Try.func24, Try.ntmps24
  go_wp2_with (go_at_call 84; refine (s_code p a d cap qs _ 2 _ [xs, ys] _ hd (by omega) (len_two (by rw [hx.1]; exact hl) (by rw [hy.1]; exact hm)) (hq.ext ((ext_alloc _ _).alloc _)) (rdR_two (a := ax) (b := ay) (n := _) (m := _) (ca := cx) (cb := cy) (by simp) (by simp) (hx.ext ((ext_alloc _ _).alloc _)) (hy.ext ((ext_alloc _ _).alloc _)))).mono ?_; rintro e w1 ⟨rfl, g1⟩)
  go_ret2
  exact ⟨none, 0, rfl, own_nil _ _, ((ext_alloc _ _).alloc _).trans g1⟩

set_option maxHeartbeats 400000 in
theorem s_GeometricProduct_ok (p : Int) (a : Option Addr) (d cap : Nat) (qs : List Int) (ax : Option Addr) (n cx : Nat) (xs : List Int) (ay : Option Addr) (m cy : Nat) (ys : List Int) (w : World) (hd : d ≤ 4194304) (hl : n ≤ 4194304) (hm : m ≤ 4194304) (hq : RdC w a d qs) (hx : RdC w ax n xs) (hy : RdC w ay m ys) (hc : codeM p qs [xs, ys] = 0) :
    Calls Try.prog 24 #[.agg #[.int .i64 p, .slice a d cap], .slice ax n cx, .slice ay m cy] w fun e w' => ∃ ra rc, e = .returned (.tuple #[.slice ra n rc, .int .i64 0]) ∧ OwnC w.heap.size w' ra n rc (prodL p qs tkA xs ys) ∧ Ext w w' := by
  obtain ⟨hs, hxm, hym⟩ := codeM_two hc
  obtain ⟨hpr, hd1, hd6, hqb⟩ := space_of hs
  have hpb := prime_bd hpr
  obtain ⟨hxl, hxb⟩ := multi_of hxm
  obtain ⟨hyl, hyb⟩ := multi_of hym
  rw [hq.1] at hxl hyl hd6
  obtain rfl : n = 2 ^ d := hx.1.symm.trans hxl
  obtain rfl : m = 2 ^ d := hy.1.symm.trans hyl
  have HC := Lib.hid hc
  have HQB := Lib.hid hqb
  have HXB := Lib.hid hxb
  have HYB := Lib.hid hyb
  have HXL := Lib.hid hxl
  have HYL := Lib.hid hyl
  have HQL := Lib.hid hq.1
  have hcb : ((0 : Int) != 0) = false := by simp
  clear hc hs hxm hym hqb hxb hyb hxl hyl hpr hd1
  go_enter Try.func24, Try.ntmps24
  go_wp2_with (go_at_call 84; refine (s_code p a d cap qs _ 2 _ [xs, ys] _ hd (by omega) (len_two (by rw [hx.1]; exact hl) (by rw [hy.1]; exact hm)) (hq.ext ((ext_alloc _ _).alloc _)) (rdR_two (a := ax) (b := ay) (n := _) (m := _) (ca := cx) (cb := cy) (by simp) (by simp) (hx.ext ((ext_alloc _ _).alloc _)) (hy.ext ((ext_alloc _ _).alloc _)))).mono ?_; rintro e w1 ⟨rfl, g1⟩; rw [HC.out]; have hq0 : w1.cell? ⟨w.heap.size, 0, none⟩ = some (.int .i64 p) := g1.cell (by simp); have hq1 : w1.cell? ⟨w.heap.size, 1, none⟩ = some (.slice a d cap) := g1.cell (by simp))
  have G1 := Lib.hid (((ext_alloc w (.cells #[.int .i64 p, .slice a d cap] 26)).alloc (.cells #[.slice ax (2 ^ d) cx, .slice ay (2 ^ d) cy] 24)).trans g1)
  clear g1 hq0 hq1
  refine (s_times p a d cap qs _ _ _ _ xs ys w1 (by omega) (by omega) (by omega) (hq.ext G1.out) HQB.out (hx.ext G1.out) (hy.ext G1.out) HXB.out HYB.out).mono ?_
  rintro e w2 ⟨g, rfl, ho, g2⟩
  have HO := Lib.hid ho
  have G2 := Lib.hid g2
  clear ho g2
  go_wp2_with (fail)
  go_ret2
  exact ⟨some ⟨g, 0, none⟩, 2 ^ d, rfl, HO.out.mono G1.out.size, G1.out.trans G2.out⟩

set_option maxHeartbeats 400000 in
theorem c_WedgeProduct_bad (p : Int) (a : Option Addr) (d cap : Nat) (qs : List Int) (ax : Option Addr) (n cx : Nat) (xs : List Int) (ay : Option Addr) (m cy : Nat) (ys : List Int) (w : World) (hd : d ≤ 4194304) (hl : n ≤ 4194304) (hm : m ≤ 4194304) (hq : RdC w a d qs) (hx : RdC w ax n xs) (hy : RdC w ay m ys) (hc : codeM p qs [xs, ys] ≠ 0) :
    Calls Try.prog 36 #[.agg #[.int .i64 p, .slice a d cap], .slice ax n cx, .slice ay m cy] w fun e w' => ∃ ra rc, e = .returned (.tuple #[.slice ra 0 rc, .int .i64 (codeM p qs [xs, ys])]) ∧ OwnC w.heap.size w' ra 0 rc [] ∧ Ext w w' := by
  have hcb : (codeM p qs [xs, ys] != 0) = true := by simp [hc]
  clear hc
  go_enter Try.func36, Try.ntmps36
  go_wp2_with (go_at_call 79; refine (c_checkMultis p a d cap qs _ 2 _ [xs, ys] _ hd (by omega) (len_two (by rw [hx.1]; exact hl) (by rw [hy.1]; exact hm)) (hq.ext ((ext_alloc _ _).alloc _)) (rdR_two (a := ax) (b := ay) (n := _) (m := _) (ca := cx) (cb := cy) (by simp) (by simp) (hx.ext ((ext_alloc _ _).alloc _)) (hy.ext ((ext_alloc _ _).alloc _)))).mono ?_; rintro e w1 ⟨rfl, g1⟩)
  go_ret2
  exact ⟨none, 0, rfl, own_nil _ _, ((ext_alloc _ _).alloc _).trans g1⟩

set_option maxHeartbeats 400000 in
theorem c_WedgeProduct_ok (p : Int) (a : Option Addr) (d cap : Nat) (qs : List Int) (ax : Option Addr) (n cx : Nat) (xs : List Int) (ay : Option Addr) (m cy : Nat) (ys : List Int) (w : World) (hd : d ≤ 4194304) (hl : n ≤ 4194304) (hm : m ≤ 4194304) (hq : RdC w a d qs) (hx : RdC w ax n xs) (hy : RdC w ay m ys) (hc : codeM p qs [xs, ys] = 0) :
    Calls Try.prog 36 #[.agg #[.int .i64 p, .slice a d cap], .slice ax n cx, .slice ay m cy] w fun e w' => ∃ ra rc, e = .returned (.tuple #[.slice ra n rc, .int .i64 0]) ∧ OwnC w.heap.size w' ra n rc (prodL p qs tkW xs ys) ∧ Ext w w' := by
  obtain ⟨hs, hxm, hym⟩ := codeM_two hc
  obtain ⟨hpr, hd1, hd6, hqb⟩ := space_of hs
  have hpb := prime_bd hpr
  obtain ⟨hxl, hxb⟩ := multi_of hxm
  obtain ⟨hyl, hyb⟩ := multi_of hym
  rw [hq.1] at hxl hyl hd6
  obtain rfl : n = 2 ^ d := hx.1.symm.trans hxl
  obtain rfl : m = 2 ^ d := hy.1.symm.trans hyl
  have HC := Lib.hid hc
  have HQB := Lib.hid hqb
  have HXB := Lib.hid hxb
  have HYB := Lib.hid hyb
  have HXL := Lib.hid hxl
  have HYL := Lib.hid hyl
  have HQL := Lib.hid hq.1
  have hcb : ((0 : Int) != 0) = false := by simp
  clear hc hs hxm hym hqb hxb hyb hxl hyl hpr hd1
  go_enter Try.func36, Try.ntmps36
  go_wp2_with (go_at_call 79; refine (c_checkMultis p a d cap qs _ 2 _ [xs, ys] _ hd (by omega) (len_two (by rw [hx.1]; exact hl) (by rw [hy.1]; exact hm)) (hq.ext ((ext_alloc _ _).alloc _)) (rdR_two (a := ax) (b := ay) (n := _) (m := _) (ca := cx) (cb := cy) (by simp) (by simp) (hx.ext ((ext_alloc _ _).alloc _)) (hy.ext ((ext_alloc _ _).alloc _)))).mono ?_; rintro e w1 ⟨rfl, g1⟩; rw [HC.out]; have hq0 : w1.cell? ⟨w.heap.size, 0, none⟩ = some (.int .i64 p) := g1.cell (by simp); have hq1 : w1.cell? ⟨w.heap.size, 1, none⟩ = some (.slice a d cap) := g1.cell (by simp))
  have G1 := Lib.hid (((ext_alloc w (.cells #[.int .i64 p, .slice a d cap] 26)).alloc (.cells #[.slice ax (2 ^ d) cx, .slice ay (2 ^ d) cy] 24)).trans g1)
  clear g1 hq0 hq1
  refine (c_wedge p a d cap qs _ _ _ _ xs ys w1 (by omega) (by omega) (by omega) (hq.ext G1.out) HQB.out (hx.ext G1.out) (hy.ext G1.out) HXB.out HYB.out).mono ?_
  rintro e w2 ⟨g, rfl, ho, g2⟩
  have HO := Lib.hid ho
  have G2 := Lib.hid g2
  clear ho g2
  go_wp2_with (fail)
  go_ret2
  exact ⟨some ⟨g, 0, none⟩, 2 ^ d, rfl, HO.out.mono G1.out.size, G1.out.trans G2.out⟩

set_option maxHeartbeats 400000 in
theorem c_LeftContraction_bad (p : Int) (a : Option Addr) (d cap : Nat) (qs : List Int) (ax : Option Addr) (n cx : Nat) (xs : List Int) (ay : Option Addr) (m cy : Nat) (ys : List Int) (w : World) (hd : d ≤ 4194304) (hl : n ≤ 4194304) (hm : m ≤ 4194304) (hq : RdC w a d qs) (hx : RdC w ax n xs) (hy : RdC w ay m ys) (hc : codeM p qs [xs, ys] ≠ 0) :
    Calls Try.prog 34 #[.agg #[.int .i64 p, .slice a d cap], .slice ax n cx, .slice ay m cy] w fun e w' => ∃ ra rc, e = .returned (.tuple #[.slice ra 0 rc, .int .i64 (codeM p qs [xs, ys])]) ∧ OwnC w.heap.size w' ra 0 rc [] ∧ Ext w w' := by
  have hcb : (codeM p qs [xs, ys] != 0) = true := by simp [hc]
  clear hc
  go_enter Try.func34, Try.ntmps34
  go_wp2_with (go_at_call 79; refine (c_checkMultis p a d cap qs _ 2 _ [xs, ys] _ hd (by omega) (len_two (by rw [hx.1]; exact hl) (by rw [hy.1]; exact hm)) (hq.ext ((ext_alloc _ _).alloc _)) (rdR_two (a := ax) (b := ay) (n := _) (m := _) (ca := cx) (cb := cy) (by simp) (by simp) (hx.ext ((ext_alloc _ _).alloc _)) (hy.ext ((ext_alloc _ _).alloc _)))).mono ?_; rintro e w1 ⟨rfl, g1⟩)
  go_ret2
  exact ⟨none, 0, rfl, own_nil _ _, ((ext_alloc _ _).alloc _).trans g1⟩

set_option maxHeartbeats 400000 in
theorem c_LeftContraction_ok (p : Int) (a : Option Addr) (d cap : Nat) (qs : List Int) (ax : Option Addr) (n cx : Nat) (xs : List Int) (ay : Option Addr) (m cy : Nat) (ys : List Int) (w : World) (hd : d ≤ 4194304) (hl : n ≤ 4194304) (hm : m ≤ 4194304) (hq : RdC w a d qs) (hx : RdC w ax n xs) (hy : RdC w ay m ys) (hc : codeM p qs [xs, ys] = 0) :
    Calls Try.prog 34 #[.agg #[.int .i64 p, .slice a d cap], .slice ax n cx, .slice ay m cy] w fun e w' => ∃ ra rc, e = .returned (.tuple #[.slice ra n rc, .int .i64 0]) ∧ OwnC w.heap.size w' ra n rc (prodL p qs tkL xs ys) ∧ Ext w w' := by
  obtain ⟨hs, hxm, hym⟩ := codeM_two hc
  obtain ⟨hpr, hd1, hd6, hqb⟩ := space_of hs
  have hpb := prime_bd hpr
  obtain ⟨hxl, hxb⟩ := multi_of hxm
  obtain ⟨hyl, hyb⟩ := multi_of hym
  rw [hq.1] at hxl hyl hd6
  obtain rfl : n = 2 ^ d := hx.1.symm.trans hxl
  obtain rfl : m = 2 ^ d := hy.1.symm.trans hyl
  have HC := Lib.hid hc
  have HQB := Lib.hid hqb
  have HXB := Lib.hid hxb
  have HYB := Lib.hid hyb
  have HXL := Lib.hid hxl
  have HYL := Lib.hid hyl
  have HQL := Lib.hid hq.1
  have hcb : ((0 : Int) != 0) = false := by simp
  clear hc hs hxm hym hqb hxb hyb hxl hyl hpr hd1
  go_enter Try.func34, Try.ntmps34
  go_wp2_with (go_at_call 79; refine (c_checkMultis p a d cap qs _ 2 _ [xs, ys] _ hd (by omega) (len_two (by rw [hx.1]; exact hl) (by rw [hy.1]; exact hm)) (hq.ext ((ext_alloc _ _).alloc _)) (rdR_two (a := ax) (b := ay) (n := _) (m := _) (ca := cx) (cb := cy) (by simp) (by simp) (hx.ext ((ext_alloc _ _).alloc _)) (hy.ext ((ext_alloc _ _).alloc _)))).mono ?_; rintro e w1 ⟨rfl, g1⟩; rw [HC.out]; have hq0 : w1.cell? ⟨w.heap.size, 0, none⟩ = some (.int .i64 p) := g1.cell (by simp); have hq1 : w1.cell? ⟨w.heap.size, 1, none⟩ = some (.slice a d cap) := g1.cell (by simp))
  have G1 := Lib.hid (((ext_alloc w (.cells #[.int .i64 p, .slice a d cap] 26)).alloc (.cells #[.slice ax (2 ^ d) cx, .slice ay (2 ^ d) cy] 24)).trans g1)
  clear g1 hq0 hq1
  refine (c_contract p a d cap qs _ _ _ _ xs ys w1 (by omega) (by omega) (by omega) (hq.ext G1.out) HQB.out (hx.ext G1.out) (hy.ext G1.out) HXB.out HYB.out).mono ?_
  rintro e w2 ⟨g, rfl, ho, g2⟩
  have HO := Lib.hid ho
  have G2 := Lib.hid g2
  clear ho g2
  go_wp2_with (fail)
  go_ret2
  exact ⟨some ⟨g, 0, none⟩, 2 ^ d, rfl, HO.out.mono G1.out.size, G1.out.trans G2.out⟩

set_option maxHeartbeats 400000 in
theorem c_RightContraction_bad (p : Int) (a : Option Addr) (d cap : Nat) (qs : List Int) (ax : Option Addr) (n cx : Nat) (xs : List Int) (ay : Option Addr) (m cy : Nat) (ys : List Int) (w : World) (hd : d ≤ 4194304) (hl : n ≤ 4194304) (hm : m ≤ 4194304) (hq : RdC w a d qs) (hx : RdC w ax n xs) (hy : RdC w ay m ys) (hc : codeM p qs [xs, ys] ≠ 0) :
    Calls Try.prog 38 #[.agg #[.int .i64 p, .slice a d cap], .slice ax n cx, .slice ay m cy] w fun e w' => ∃ ra rc, e = .returned (.tuple #[.slice ra 0 rc, .int .i64 (codeM p qs [xs, ys])]) ∧ OwnC w.heap.size w' ra 0 rc [] ∧ Ext w w' := by
  have hcb : (codeM p qs [xs, ys] != 0) = true := by simp [hc]
  clear hc
  go_enter Try.func38, Try.ntmps38
  go_wp2_with (go_at_call 79; refine (c_checkMultis p a d cap qs _ 2 _ [xs, ys] _ hd (by omega) (len_two (by rw [hx.1]; exact hl) (by rw [hy.1]; exact hm)) (hq.ext ((ext_alloc _ _).alloc _)) (rdR_two (a := ax) (b := ay) (n := _) (m := _) (ca := cx) (cb := cy) (by simp) (by simp) (hx.ext ((ext_alloc _ _).alloc _)) (hy.ext ((ext_alloc _ _).alloc _)))).mono ?_; rintro e w1 ⟨rfl, g1⟩)
  go_ret2
  exact ⟨none, 0, rfl, own_nil _ _, ((ext_alloc _ _).alloc _).trans g1⟩

set_option maxHeartbeats 400000 in
theorem c_RightContraction_ok (p : Int) (a : Option Addr) (d cap : Nat) (qs : List Int) (ax : Option Addr) (n cx : Nat) (xs : List Int) (ay : Option Addr) (m cy : Nat) (ys : List Int) (w : World) (hd : d ≤ 4194304) (hl : n ≤ 4194304) (hm : m ≤ 4194304) (hq : RdC w a d qs) (hx : RdC w ax n xs) (hy : RdC w ay m ys) (hc : codeM p qs [xs, ys] = 0) :
    Calls Try.prog 38 #[.agg #[.int .i64 p, .slice a d cap], .slice ax n cx, .slice ay m cy] w fun e w' => ∃ ra rc, e = .returned (.tuple #[.slice ra n rc, .int .i64 0]) ∧ OwnC w.heap.size w' ra n rc (prodL p qs tkR xs ys) ∧ Ext w w' := by
  obtain ⟨hs, hxm, hym⟩ := codeM_two hc
  obtain ⟨hpr, hd1, hd6, hqb⟩ := space_of hs
  have hpb := prime_bd hpr
  obtain ⟨hxl, hxb⟩ := multi_of hxm
  obtain ⟨hyl, hyb⟩ := multi_of hym
  rw [hq.1] at hxl hyl hd6
  obtain rfl : n = 2 ^ d := hx.1.symm.trans hxl
  obtain rfl : m = 2 ^ d := hy.1.symm.trans hyl
  have HC := Lib.hid hc
  have HQB := Lib.hid hqb
  have HXB := Lib.hid hxb
  have HYB := Lib.hid hyb
  have HXL := Lib.hid hxl
  have HYL := Lib.hid hyl
  have HQL := Lib.hid hq.1
  have hcb : ((0 : Int) != 0) = false := by simp
  clear hc hs hxm hym hqb hxb hyb hxl hyl hpr hd1
  go_enter Try.func38, Try.ntmps38
  go_wp2_with (go_at_call 79; refine (c_checkMultis p a d cap qs _ 2 _ [xs, ys] _ hd (by omega) (len_two (by rw [hx.1]; exact hl) (by rw [hy.1]; exact hm)) (hq.ext ((ext_alloc _ _).alloc _)) (rdR_two (a := ax) (b := ay) (n := _) (m := _) (ca := cx) (cb := cy) (by simp) (by simp) (hx.ext ((ext_alloc _ _).alloc _)) (hy.ext ((ext_alloc _ _).alloc _)))).mono ?_; rintro e w1 ⟨rfl, g1⟩; rw [HC.out]; have hq0 : w1.cell? ⟨w.heap.size, 0, none⟩ = some (.int .i64 p) := g1.cell (by simp); have hq1 : w1.cell? ⟨w.heap.size, 1, none⟩ = some (.slice a d cap) := g1.cell (by simp))
  have G1 := Lib.hid (((ext_alloc w (.cells #[.int .i64 p, .slice a d cap] 26)).alloc (.cells #[.slice ax (2 ^ d) cx, .slice ay (2 ^ d) cy] 24)).trans g1)
  clear g1 hq0 hq1
  refine (c_product p a d cap qs _ _ _ _ xs ys 98 tkR w1 (by omega) (by omega) (by omega) (hq.ext G1.out) HQB.out (hx.ext G1.out) (hy.ext G1.out) HXB.out HYB.out ?_ (fun i j w hi hj => c_around i j w hi hj)).mono ?_
  · intro args w; go_simp
  rintro e w2 ⟨g, rfl, ho, g2⟩
  have HO := Lib.hid ho
  have G2 := Lib.hid g2
  clear ho g2
  go_wp2_with (fail)
  go_ret2
  exact ⟨some ⟨g, 0, none⟩, 2 ^ d, rfl, HO.out.mono G1.out.size, G1.out.trans G2.out⟩

set_option maxHeartbeats 400000 in
theorem c_GeometricProduct_bad (p : Int) (a : Option Addr) (d cap : Nat) (qs : List Int) (ax : Option Addr) (n cx : Nat) (xs : List Int) (ay : Option Addr) (m cy : Nat) (ys : List Int) (w : World) (hd : d ≤ 4194304) (hl : n ≤ 4194304) (hm : m ≤ 4194304) (hq : RdC w a d qs) (hx : RdC w ax n xs) (hy : RdC w ay m ys) (hc : codeM p qs [xs, ys] ≠ 0) :
    Calls Try.prog 23 #[.agg #[.int .i64 p, .slice a d cap], .slice ax n cx, .slice ay m cy] w fun e w' => ∃ ra rc, e = .returned (.tuple #[.slice ra 0 rc, .int .i64 (codeM p qs [xs, ys])]) ∧ OwnC w.heap.size w' ra 0 rc [] ∧ Ext w w' := by
  have hcb : (codeM p qs [xs, ys] != 0) = true := by simp [hc]
  clear hc
  go_enter Try.func23, Try.ntmps23
  go_wp2_with (go_at_call 79; refine (c_checkMultis p a d cap qs _ 2 _ [xs, ys] _ hd (by omega) (len_two (by rw [hx.1]; exact hl) (by rw [hy.1]; exact hm)) (hq.ext ((ext_alloc _ _).alloc _)) (rdR_two (a := ax) (b := ay) (n := _) (m := _) (ca := cx) (cb := cy) (by simp) (by simp) (hx.ext ((ext_alloc _ _).alloc _)) (hy.ext ((ext_alloc _ _).alloc _)))).mono ?_; rintro e w1 ⟨rfl, g1⟩)
  go_ret2
  exact ⟨none, 0, rfl, own_nil _ _, ((ext_alloc _ _).alloc _).trans g1⟩

set_option maxHeartbeats 400000 in
theorem c_GeometricProduct_ok (p : Int) (a : Option Addr) (d cap : Nat) (qs : List Int) (ax : Option Addr) (n cx : Nat) (xs : List Int) (ay : Option Addr) (m cy : Nat) (ys : List Int) (w : World) (hd : d ≤ 4194304) (hl : n ≤ 4194304) (hm : m ≤ 4194304) (hq : RdC w a d qs) (hx : RdC w ax n xs) (hy : RdC w ay m ys) (hc : codeM p qs [xs, ys] = 0) :
    Calls Try.prog 23 #[.agg #[.int .i64 p, .slice a d cap], .slice ax n cx, .slice ay m cy] w fun e w' => ∃ ra rc, e = .returned (.tuple #[.slice ra n rc, .int .i64 0]) ∧ OwnC w.heap.size w' ra n rc (prodL p qs tkA xs ys) ∧ Ext w w' := by
  obtain ⟨hs, hxm, hym⟩ := codeM_two hc
  obtain ⟨hpr, hd1, hd6, hqb⟩ := space_of hs
  have hpb := prime_bd hpr
  obtain ⟨hxl, hxb⟩ := multi_of hxm
  obtain ⟨hyl, hyb⟩ := multi_of hym
  rw [hq.1] at hxl hyl hd6
  obtain rfl : n = 2 ^ d := hx.1.symm.trans hxl
  obtain rfl : m = 2 ^ d := hy.1.symm.trans hyl
  have HC := Lib.hid hc
  have HQB := Lib.hid hqb
  have HXB := Lib.hid hxb
  have HYB := Lib.hid hyb
  have HXL := Lib.hid hxl
  have HYL := Lib.hid hyl
  have HQL := Lib.hid hq.1
  have hcb : ((0 : Int) != 0) = false := by simp
  clear hc hs hxm hym hqb hxb hyb hxl hyl hpr hd1
  go_enter Try.func23, Try.ntmps23
  go_wp2_with (go_at_call 79; refine (c_checkMultis p a d cap qs _ 2 _ [xs, ys] _ hd (by omega) (len_two (by rw [hx.1]; exact hl) (by rw [hy.1]; exact hm)) (hq.ext ((ext_alloc _ _).alloc _)) (rdR_two (a := ax) (b := ay) (n := _) (m := _) (ca := cx) (cb := cy) (by simp) (by simp) (hx.ext ((ext_alloc _ _).alloc _)) (hy.ext ((ext_alloc _ _).alloc _)))).mono ?_; rintro e w1 ⟨rfl, g1⟩; rw [HC.out]; have hq0 : w1.cell? ⟨w.heap.size, 0, none⟩ = some (.int .i64 p) := g1.cell (by simp); have hq1 : w1.cell? ⟨w.heap.size, 1, none⟩ = some (.slice a d cap) := g1.cell (by simp))
  have G1 := Lib.hid (((ext_alloc w (.cells #[.int .i64 p, .slice a d cap] 26)).alloc (.cells #[.slice ax (2 ^ d) cx, .slice ay (2 ^ d) cy] 24)).trans g1)
  clear g1 hq0 hq1
  refine (c_times p a d cap qs _ 2 _ [xs, ys] (w1.alloc (.cells #[.slice ax (2 ^ d) cx, .slice ay (2 ^ d) cy] 24)) (by omega) (by omega) (by omega) (by omega) (hq.ext (G1.out.alloc _)) HQB.out (rdR_two (a := ax) (b := ay) (n := _) (m := _) (ca := cx) (cb := cy) (by simp) (by simp) (hx.ext (G1.out.alloc _)) (hy.ext (G1.out.alloc _))) (good_two (good_isB HXL.out HXB.out) (good_isB HYL.out HYB.out))).mono ?_
  rintro e w2 ⟨g, rfl, ho, g2⟩
  have HO := Lib.hid ho
  have G2 := Lib.hid g2
  clear ho g2
  go_wp2_with (fail)
  go_ret2
  rw [timesL_two (by omega) (by rw [HQL.out]; exact good_isB HXL.out HXB.out)] at HO
  exact ⟨some ⟨g, 0, none⟩, 2 ^ d, rfl, HO.out.mono (Nat.le_trans G1.out.size (by simp)), (G1.out.alloc _).trans G2.out⟩

end Go.Proofs.Ytbgnfjckbjmgbaa

/-
  The geometric product in plain numbers: a formula for its coefficients, associativity, sums, multiples.
  No condition. No program in sight.
-/
namespace Go.Proofs.Ytbgnfjckbjmgbaa
set_option maxRecDepth 100000
open Go.RowKit

/-! ### Sums -/
def sumN : Nat → (Nat → Int) → Int
  | 0, _ => 0
  | n + 1, g => sumN n g + g n
theorem sumN_congr {n : Nat} {f g : Nat → Int} (h : ∀ i, i < n → f i = g i) : sumN n f = sumN n g := by
  induction n with
  | zero => rfl
  | succ n ih => simp only [sumN]; rw [ih (fun i hi => h i (by omega)), h n (by omega)]
theorem sumN_zero {n : Nat} {f : Nat → Int} (h : ∀ i, i < n → f i = 0) : sumN n f = 0 := by
  induction n with
  | zero => rfl
  | succ n ih => simp only [sumN]; rw [ih (fun i hi => h i (by omega)), h n (by omega)]; rfl
theorem sumN_add (n : Nat) (f g : Nat → Int) : sumN n (fun i => f i + g i) = sumN n f + sumN n g := by
  induction n with
  | zero => rfl
  | succ n ih => simp only [sumN]; rw [ih]; omega
theorem sumN_mul (n : Nat) (c : Int) (f : Nat → Int) : sumN n (fun i => c * f i) = c * sumN n f := by
  induction n with
  | zero => simp [sumN]
  | succ n ih => simp only [sumN]; rw [ih, Int.mul_add]
theorem sumN_mulr (n : Nat) (c : Int) (f : Nat → Int) : sumN n (fun i => f i * c) = sumN n f * c := by
  induction n with
  | zero => simp [sumN]
  | succ n ih => simp only [sumN]; rw [ih, Int.add_mul]
theorem sumN_swap (n m : Nat) (f : Nat → Nat → Int) : sumN n (fun i => sumN m (fun j => f i j)) = sumN m (fun j => sumN n (fun i => f i j)) := by
  induction n with
  | zero => simp only [sumN]; exact (sumN_zero (fun _ _ => rfl)).symm
  | succ n ih => simp only [sumN]; rw [ih, ← sumN_add]
theorem sumN_single {n : Nat} {f : Nat → Int} {k : Nat} (hk : k < n) (h : ∀ i, i < n → i ≠ k → f i = 0) : sumN n f = f k := by
  induction n with
  | zero => omega
  | succ n ih =>
    simp only [sumN]
    by_cases hkn : k = n
    · subst hkn
      rw [sumN_zero (fun i hi => h i (by omega) (by omega))]; omega
    · rw [ih (by omega) (fun i hi hne => h i (by omega) hne), h n (by omega) (by omega)]; omega
theorem sumN_emod {p : Int} {n : Nat} {f g : Nat → Int} (h : ∀ i, i < n → f i % p = g i % p) : sumN n f % p = sumN n g % p := by
  induction n with
  | zero => rfl
  | succ n ih =>
    simp only [sumN]
    rw [Int.add_emod, ih (fun i hi => h i (by omega)), h n (by omega), ← Int.add_emod]
theorem mul_emod_congr {p a b c d : Int} (h : a % p = b % p) (h' : c % p = d % p) : (a * c) % p = (b * d) % p := by
  rw [Int.mul_emod, h, h', ← Int.mul_emod]

def sumL (l : List Nat) (g : Nat → Int) : Int := l.foldr (fun i s => g i + s) 0
theorem sumL_cons (a : Nat) (l : List Nat) (g : Nat → Int) : sumL (a :: l) g = g a + sumL l g := rfl
theorem sumL_snoc (l : List Nat) (i : Nat) (g : Nat → Int) : sumL (l ++ [i]) g = sumL l g + g i := by
  induction l with
  | nil => simp [sumL]
  | cons a l ih =>
    rw [List.cons_append, sumL_cons, ih, sumL_cons]; omega
theorem sumN_range (n : Nat) (g : Nat → Int) : sumN n g = sumL (List.range n) g := by
  induction n with
  | zero => rfl
  | succ n ih => rw [List.range_succ, sumL_snoc, ← ih]; rfl
theorem sumL_perm {l l' : List Nat} (h : l.Perm l') (g : Nat → Int) : sumL l g = sumL l' g := by
  induction h with
  | nil => rfl
  | cons x _ ih => rw [sumL_cons, sumL_cons, ih]
  | swap x y l => rw [sumL_cons, sumL_cons, sumL_cons, sumL_cons]; omega
  | trans _ _ ih1 ih2 => rw [ih1, ih2]
theorem sumL_map (l : List Nat) (f : Nat → Nat) (g : Nat → Int) : sumL (l.map f) g = sumL l (fun i => g (f i)) := by
  induction l with
  | nil => rfl
  | cons a l ih => rw [List.map_cons, sumL_cons, sumL_cons, ih]
theorem xor_perm : ∀ d : Nat, d < 7 → ∀ a : Nat, a < 2 ^ d → ((List.range (2 ^ d)).map (fun m => a ^^^ m)).isPerm (List.range (2 ^ d)) = true := by decide +kernel
theorem sumN_xor {d a : Nat} (hd : d ≤ 6) (ha : a < 2 ^ d) (g : Nat → Int) : sumN (2 ^ d) (fun m => g (a ^^^ m)) = sumN (2 ^ d) g := by
  have h := List.isPerm_iff.1 (xor_perm d (by omega) a ha)
  rw [sumN_range, sumN_range]
  exact (sumL_map _ _ _).symm.trans (sumL_perm h g)

/-! ### The coefficients of a product -/
theorem inP_nth {p : Int} {f : Nat → Nat → Int} {tk : Nat → Nat → Bool} {x y : List Int} {d a : Nat} {out : List Int} (hp : 1 ≤ p) (ha : a < 2 ^ d) (ho : Good p (2 ^ d) out) {k : Nat} (hk : k < 2 ^ d) :
    ∀ b, b ≤ 2 ^ d → nth (inP p f tk x y a b out) k = (nth out k + sumN b (fun j => if (tk a j && (a ^^^ j == k)) = true then nth x a * nth y j * f a j else 0)) % p
  | 0, _ => by
    have := ho.2 k hk
    simp only [inP, sumN, Int.add_zero]
    rw [Int.emod_eq_of_lt this.1 this.2]
  | b + 1, hb => by
    have ih := inP_nth (f := f) (tk := tk) (x := x) (y := y) hp ha ho hk b (by omega)
    have hg := inP_good (f := f) (tk := tk) (x := x) (y := y) (a := a) hp ho b
    have hc : a ^^^ b < 2 ^ d := Nat.xor_lt_two_pow ha (by omega)
    simp only [inP, sumN]
    cases ht : tk a b
    · rw [stepP_not ht, ih]; simp
    · rw [stepP_yes ht, nth_set (by rw [hg.1]; exact hc)]
      by_cases hab : a ^^^ b = k
      · rw [if_pos hab, hab, ih]
        simp only [BEq.rfl, Bool.and_self, if_true]
        rw [Int.emod_add_emod, Int.add_assoc]
      · rw [if_neg hab, ih]
        simp [hab]
theorem outP_nth {p : Int} {f : Nat → Nat → Int} {tk : Nat → Nat → Bool} {x y : List Int} {d : Nat} (hp : 1 ≤ p) {k : Nat} (hk : k < 2 ^ d) :
    ∀ a, a ≤ 2 ^ d → nth (outP p f tk x y (2 ^ d) a) k = (sumN a fun i => sumN (2 ^ d) fun j => if (tk i j && (i ^^^ j == k)) = true then nth x i * nth y j * f i j else 0) % p
  | 0, _ => by simp [outP, sumN, nth_replicate hk]
  | a + 1, ha => by
    have ih := outP_nth (f := f) (tk := tk) (x := x) (y := y) hp hk a (by omega)
    simp only [outP, sumN]
    rw [inP_nth hp (by omega) (outP_good hp a) hk _ (Nat.le_refl _), ih, Int.emod_add_emod]
theorem prod_nth {p : Int} {qs : List Int} {tk : Nat → Nat → Bool} {x y : List Int} (hp : 1 ≤ p) {k : Nat} (hk : k < 2 ^ qs.length) :
    nth (prodL p qs tk x y) k = (sumN (2 ^ qs.length) fun i => sumN (2 ^ qs.length) fun j => if (tk i j && (i ^^^ j == k)) = true then nth x i * nth y j * fac p qs i j else 0) % p :=
  outP_nth hp hk _ (Nat.le_refl _)
theorem xor_eq_iff {a b k : Nat} : a ^^^ b = k ↔ b = a ^^^ k := by
  constructor
  · rintro rfl; rw [← Nat.xor_assoc, Nat.xor_self, Nat.zero_xor]
  · rintro rfl; rw [← Nat.xor_assoc, Nat.xor_self, Nat.zero_xor]
/-- One sum: the pairs of a blade i and the blade that leads to k. -/
theorem prod_nth1 {p : Int} {qs : List Int} {tk : Nat → Nat → Bool} {x y : List Int} (hp : 1 ≤ p) {k : Nat} (hk : k < 2 ^ qs.length) :
    nth (prodL p qs tk x y) k = (sumN (2 ^ qs.length) fun i => if tk i (i ^^^ k) = true then nth x i * nth y (i ^^^ k) * fac p qs i (i ^^^ k) else 0) % p := by
  rw [prod_nth hp hk]
  congr 1
  refine sumN_congr fun i hi => ?_
  rw [sumN_single (k := i ^^^ k) (Nat.xor_lt_two_pow hi hk) (fun j _ hne => by
    have : ¬ i ^^^ j = k := fun h => hne (xor_eq_iff.1 h)
    simp [this])]
  have : i ^^^ (i ^^^ k) = k := by rw [← Nat.xor_assoc, Nat.xor_self, Nat.zero_xor]
  simp [this]

/-! ### The factor over the integers -/
def sgZ (a k : Nat) : Int := if popc (a >>> (k + 1)) % 2 = 1 then -1 else 1
def stZ (qs : List Int) (a b k : Nat) : Int := if b.testBit k then (if a.testBit k then sgZ a k * nth qs k else sgZ a k) else 1
def facZ (qs : List Int) (a b : Nat) : Nat → Int
  | 0 => 1
  | k + 1 => facZ qs a b k * stZ qs a b k
theorem sgn_emod {p o o' : Int} {s : Nat} (h : o % p = o' % p) : sgn p s o % p = ((if s % 2 = 1 then -1 else 1) * o') % p := by
  unfold sgn
  split
  · rw [Int.emod_emod, show -o = -1 * o by omega]
    exact mul_emod_congr rfl h
  · rw [Int.one_mul]; exact h
theorem fac_emod_k {p : Int} {qs : List Int} {a b : Nat} (k : Nat) : sgn p (facS p qs a b k).1 (facS p qs a b k).2 % p = facZ qs a b k % p := by
  induction k with
  | zero => simp [facS, facZ, sgn]
  | succ k ih =>
    have h1 := sgn_emod (p := p) (s := (facS p qs a b k).1) (o := (facS p qs a b k).2) rfl
    rw [h1] at ih
    cases hb : b.testBit k
    · rw [facS_no hb]
      simp only [facZ, stZ, hb]
      rw [h1, ih]; simp
    · have hsg : ∀ s t : Nat, (if (s + t) % 2 = 1 then (-1 : Int) else 1) = (if s % 2 = 1 then -1 else 1) * (if t % 2 = 1 then -1 else 1) := by
        intro s t
        have : s % 2 = 0 ∨ s % 2 = 1 := by omega
        have : t % 2 = 0 ∨ t % 2 = 1 := by omega
        rcases ‹s % 2 = 0 ∨ s % 2 = 1› with h | h <;> rcases ‹t % 2 = 0 ∨ t % 2 = 1› with h' | h'
        · have : (s + t) % 2 = 0 := by omega
          simp [h, h', this]
        · have : (s + t) % 2 = 1 := by omega
          simp [h, h', this]
        · have : (s + t) % 2 = 1 := by omega
          simp [h, h', this]
        · have : (s + t) % 2 = 0 := by omega
          simp [h, h', this]
      cases ha : a.testBit k
      · rw [facS_one hb ha]
        simp only [facZ, stZ, hb, ha, if_true, sgZ]
        rw [sgn_emod rfl, hsg, Int.mul_right_comm]
        exact mul_emod_congr ih rfl
      · rw [facS_two hb ha]
        simp only [facZ, stZ, hb, ha, if_true, sgZ]
        rw [sgn_emod (o' := (facS p qs a b k).2 * nth qs k) (by rw [Int.emod_emod]), hsg, show ∀ u v x y : Int, (u * v) * (x * y) = (u * x) * (v * y) from fun u v x y => by ac_rfl]
        exact mul_emod_congr ih rfl
theorem fac_emod {p : Int} {qs : List Int} {a b : Nat} : fac p qs a b % p = facZ qs a b qs.length % p := fac_emod_k _

theorem sgZ_xor (a b k : Nat) (ha : a < 64) (hb : b < 64) (hk : k < 6) : sgZ (a ^^^ b) k = sgZ a k * sgZ b k := by
  have : ∀ k : Nat, k < 6 → ∀ a : Nat, a < 64 → ∀ b : Nat, b < 64 → sgZ (a ^^^ b) k = sgZ a k * sgZ b k := by decide +kernel
  exact this k hk a ha b hb
theorem sgZ_sq (a k : Nat) : sgZ a k * sgZ a k = 1 := by unfold sgZ; split <;> rfl
theorem stZ_cocycle {qs : List Int} {a b c k : Nat} (ha : a < 64) (hb : b < 64) (hk : k < 6) : stZ qs a b k * stZ qs (a ^^^ b) c k = stZ qs b c k * stZ qs a (b ^^^ c) k := by
  have hs := sgZ_xor a b k ha hb hk
  have h2 := sgZ_sq a k
  unfold stZ
  rw [hs]
  simp only [Nat.testBit_xor]
  cases a.testBit k <;> cases b.testBit k <;> cases c.testBit k <;> simp
  · exact Int.mul_comm _ _
  · rw [show sgZ a k * (sgZ a k * sgZ b k * nth qs k) = (sgZ a k * sgZ a k) * (sgZ b k * nth qs k) by ac_rfl, h2, Int.one_mul]
  · ac_rfl
  · rw [show sgZ a k * nth qs k * (sgZ a k * sgZ b k) = (sgZ a k * sgZ a k) * (sgZ b k * nth qs k) by ac_rfl, h2, Int.one_mul]
theorem facZ_cocycle {qs : List Int} {a b c : Nat} (ha : a < 64) (hb : b < 64) : ∀ k, k ≤ 6 → facZ qs a b k * facZ qs (a ^^^ b) c k = facZ qs b c k * facZ qs a (b ^^^ c) k
  | 0, _ => rfl
  | k + 1, hk => by
    have ih := facZ_cocycle (qs := qs) (c := c) ha hb k (by omega)
    have hs := stZ_cocycle (qs := qs) (c := c) ha hb (show k < 6 by omega)
    simp only [facZ]
    rw [show facZ qs a b k * stZ qs a b k * (facZ qs (a ^^^ b) c k * stZ qs (a ^^^ b) c k) = (facZ qs a b k * facZ qs (a ^^^ b) c k) * (stZ qs a b k * stZ qs (a ^^^ b) c k) by ac_rfl, ih, hs]
    ac_rfl

/-! ### The geometric product -/
/-- The coefficient with the factor over the integers. -/
theorem prodA_nth {p : Int} {qs x y : List Int} (hp : 1 ≤ p) {k : Nat} (hk : k < 2 ^ qs.length) :
    nth (prodL p qs tkA x y) k = (sumN (2 ^ qs.length) fun i => nth x i * nth y (i ^^^ k) * facZ qs i (i ^^^ k) qs.length) % p := by
  rw [prod_nth1 hp hk]
  refine sumN_emod fun i hi => ?_
  simp only [tkA, if_true]
  exact mul_emod_congr rfl fac_emod
theorem xor_cancel (a m k : Nat) : a ^^^ m ^^^ (a ^^^ k) = m ^^^ k := by
  rw [Nat.xor_comm a m, Nat.xor_assoc, ← Nat.xor_assoc a a k, Nat.xor_self, Nat.zero_xor]
theorem prod_assoc {p : Int} {qs x y z : List Int} (hp : 1 ≤ p) (hd : qs.length ≤ 6) : prodL p qs tkA (prodL p qs tkA x y) z = prodL p qs tkA x (prodL p qs tkA y z) := by
  have hN := pow_le64 hd
  refine ext_nth (by rw [(prod_good hp).1, (prod_good hp).1]) fun k hk => ?_
  rw [(prod_good hp).1] at hk
  rw [prodA_nth hp hk, prodA_nth hp hk]
  have e1 : ∀ m, m < 2 ^ qs.length → (nth (prodL p qs tkA x y) m * nth z (m ^^^ k) * facZ qs m (m ^^^ k) qs.length) % p =
      (sumN (2 ^ qs.length) fun a => nth x a * nth y (a ^^^ m) * facZ qs a (a ^^^ m) qs.length * (nth z (m ^^^ k) * facZ qs m (m ^^^ k) qs.length)) % p := fun m hm => by
    rw [prodA_nth hp hm, sumN_mulr, Int.mul_assoc]
    exact mul_emod_congr (Int.emod_emod _ _) rfl
  have e2 : ∀ a, a < 2 ^ qs.length → (nth x a * nth (prodL p qs tkA y z) (a ^^^ k) * facZ qs a (a ^^^ k) qs.length) % p =
      (sumN (2 ^ qs.length) fun m => nth x a * nth y (a ^^^ m) * facZ qs a (a ^^^ m) qs.length * (nth z (m ^^^ k) * facZ qs m (m ^^^ k) qs.length)) % p := fun a ha => by
    rw [prodA_nth hp (Nat.xor_lt_two_pow ha hk), ← sumN_xor hd ha]
    have : (nth x a * ((sumN (2 ^ qs.length) fun m => nth y (a ^^^ m) * nth z (a ^^^ m ^^^ (a ^^^ k)) * facZ qs (a ^^^ m) (a ^^^ m ^^^ (a ^^^ k)) qs.length) % p) * facZ qs a (a ^^^ k) qs.length) % p =
        (nth x a * (sumN (2 ^ qs.length) fun m => nth y (a ^^^ m) * nth z (a ^^^ m ^^^ (a ^^^ k)) * facZ qs (a ^^^ m) (a ^^^ m ^^^ (a ^^^ k)) qs.length) * facZ qs a (a ^^^ k) qs.length) % p :=
      mul_emod_congr (mul_emod_congr rfl (Int.emod_emod _ _)) rfl
    rw [this, ← sumN_mul, ← sumN_mulr]
    congr 1
    refine sumN_congr fun m hm => ?_
    rw [xor_cancel]
    have hc := facZ_cocycle (qs := qs) (a := a) (b := a ^^^ m) (c := m ^^^ k) (by omega) (Nat.lt_of_lt_of_le (Nat.xor_lt_two_pow ha hm) hN) qs.length hd
    rw [show a ^^^ (a ^^^ m) = m by rw [← Nat.xor_assoc, Nat.xor_self, Nat.zero_xor], show a ^^^ m ^^^ (m ^^^ k) = a ^^^ k by rw [Nat.xor_assoc, ← Nat.xor_assoc m m k, Nat.xor_self, Nat.zero_xor]] at hc
    rw [show nth x a * nth y (a ^^^ m) * facZ qs a (a ^^^ m) qs.length * (nth z (m ^^^ k) * facZ qs m (m ^^^ k) qs.length) = nth x a * nth y (a ^^^ m) * nth z (m ^^^ k) * (facZ qs a (a ^^^ m) qs.length * facZ qs m (m ^^^ k) qs.length) by ac_rfl, hc]
    ac_rfl
  rw [sumN_emod e1, sumN_emod e2, sumN_swap]

theorem fac_right {p : Int} {qs : List Int} {a : Nat} : fac p qs a 0 = 1 := by
  have : ∀ k, facS p qs a 0 k = (0, 1) := fun k => by
    induction k with
    | zero => rfl
    | succ k ih => rw [facS_no (by simp), ih]
  simp [fac, this, sgn]
theorem times_one {p : Int} {qs x : List Int} (hp : 1 ≤ p) (hx : Good p (2 ^ qs.length) x) : prodL p qs tkA x (bladeL (2 ^ qs.length) 0) = x := by
  have hN : 0 < 2 ^ qs.length := Nat.pos_of_ne_zero (by simp)
  refine ext_nth (by rw [(prod_good hp).1, hx.1]) fun k hk => ?_
  rw [(prod_good hp).1] at hk
  rw [prod_nth1 hp hk, sumN_single hk (fun i hi hne => by
    have : ¬ 0 = i ^^^ k := fun h => hne (by have := xor_eq_iff.1 h.symm; simpa using this.symm)
    simp [tkA, bladeL_nth hN (Nat.xor_lt_two_pow hi hk), this])]
  rw [Nat.xor_self, fac_right, bladeL_nth hN hN]
  simp only [tkA, if_true, Int.mul_one]
  have := hx.2 k hk
  exact Int.emod_eq_of_lt this.1 this.2

/-! ### Powers -/
def powL (p : Int) (qs x : List Int) : Nat → List Int
  | 0 => bladeL (2 ^ qs.length) 0
  | k + 1 => prodL p qs tkA (powL p qs x k) x
theorem pow_good {p : Int} {qs x : List Int} (hp : 3 ≤ p) : ∀ k, Good p (2 ^ qs.length) (powL p qs x k)
  | 0 => blade_good hp
  | k + 1 => prod_good (by omega)
theorem pow_one {p : Int} {qs x : List Int} (hp : 3 ≤ p) (hx : Good p (2 ^ qs.length) x) : powL p qs x 1 = x := one_times hp hx
theorem pow_add {p : Int} {qs x : List Int} (hp : 3 ≤ p) (hd : qs.length ≤ 6) (m : Nat) : ∀ n, prodL p qs tkA (powL p qs x m) (powL p qs x n) = powL p qs x (m + n)
  | 0 => times_one (by omega) (pow_good hp m)
  | n + 1 => by
    show prodL p qs tkA (powL p qs x m) (prodL p qs tkA (powL p qs x n) x) = prodL p qs tkA (powL p qs x (m + n)) x
    rw [← prod_assoc (by omega) hd, pow_add hp hd m n]
end Go.Proofs.Ytbgnfjckbjmgbaa
