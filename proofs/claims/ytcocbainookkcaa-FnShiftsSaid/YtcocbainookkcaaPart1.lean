/-
  Contracts and plain laws, part 1: Prod, Blades, SProd, Times, Alg, Pseudo, Push, Plus, AlgB, TopProd, Kit, Regular.
  No condition.
-/
import Derived.Test.YtcocbainookkcaaPart0
import Derived.OwnWalk
/-
  The products of multivectors in plain numbers; the contract of the program's product with a choice of pairs.
  No condition.
-/
namespace Go.Proofs.Ytcocbainookkcaa
set_option maxRecDepth 100000
open Go.RowKit

/-- One pair of blades is taken into a product. -/
def stepP (p : Int) (f : Nat → Nat → Int) (tk : Nat → Nat → Bool) (x y : List Int) (a b : Nat) (out : List Int) : List Int :=
  if tk a b then out.set (a ^^^ b) ((nth out (a ^^^ b) + nth x a * nth y b * f a b) % p) else out
def inP (p : Int) (f : Nat → Nat → Int) (tk : Nat → Nat → Bool) (x y : List Int) (a : Nat) : Nat → List Int → List Int
  | 0, out => out
  | b + 1, out => stepP p f tk x y a b (inP p f tk x y a b out)
def outP (p : Int) (f : Nat → Nat → Int) (tk : Nat → Nat → Bool) (x y : List Int) (N : Nat) : Nat → List Int
  | 0 => List.replicate N 0
  | a + 1 => inP p f tk x y a N (outP p f tk x y N a)
/-- The product of two multivectors, of the pairs that are taken. -/
def prodL (p : Int) (qs : List Int) (tk : Nat → Nat → Bool) (x y : List Int) : List Int := outP p (fac p qs) tk x y (2 ^ qs.length) (2 ^ qs.length)

/-- N numbers from 0 to p - 1. -/
def Good (p : Int) (N : Nat) (xs : List Int) : Prop := xs.length = N ∧ ∀ i, i < N → 0 ≤ nth xs i ∧ nth xs i < p
theorem good_zero {p : Int} {N : Nat} (hp : 1 ≤ p) : Good p N (List.replicate N 0) := ⟨by simp, fun i hi => by rw [nth_replicate hi]; omega⟩
theorem good_set {p : Int} {N c : Nat} {xs : List Int} {v : Int} (h : Good p N xs) (h0 : 0 ≤ v) (h1 : v < p) : Good p N (xs.set c v) := by
  refine ⟨by simpa using h.1, fun i hi => ?_⟩
  by_cases hc : c < xs.length
  · rw [nth_set hc]
    split
    · exact ⟨h0, h1⟩
    · exact h.2 i hi
  · rw [List.set_eq_of_length_le (by omega)]; exact h.2 i hi
theorem good_isB {p : Int} {N : Nat} {xs : List Int} (h : xs.length = N) (hb : isB p xs = true) : Good p N xs := ⟨h, fun i hi => isB_nth hb (by omega)⟩
theorem Good.isB {p : Int} {N : Nat} {xs : List Int} (h : Good p N xs) : isB p xs = true := by
  unfold Go.Proofs.Ytcocbainookkcaa.isB
  rw [List.all_eq_true]
  intro v hv
  obtain ⟨i, hi, rfl⟩ := List.getElem_of_mem hv
  have := h.2 i (by rw [← h.1]; exact hi)
  rw [nth_eq hi] at this
  simp [inB]; omega

section
variable {p : Int} {f : Nat → Nat → Int} {tk : Nat → Nat → Bool} {x y : List Int} {a b N : Nat} {out : List Int}
theorem stepP_good (hp : 1 ≤ p) (h : Good p N out) : Good p N (stepP p f tk x y a b out) := by
  unfold stepP
  split
  · exact good_set h (Int.emod_nonneg _ (by omega)) (Int.emod_lt_of_pos _ (by omega))
  · exact h
theorem inP_good (hp : 1 ≤ p) (h : Good p N out) : ∀ b, Good p N (inP p f tk x y a b out)
  | 0 => h
  | b + 1 => stepP_good hp (inP_good hp h b)
theorem outP_good (hp : 1 ≤ p) : ∀ a, Good p N (outP p f tk x y N a)
  | 0 => good_zero hp
  | a + 1 => inP_good hp (outP_good hp a) N
theorem stepP_not (h : tk a b = false) : stepP p f tk x y a b out = out := by simp [stepP, h]
theorem stepP_zero (h : Good p N out) (hc : a ^^^ b < N) (hz : nth x a = 0 ∨ nth y b = 0) : stepP p f tk x y a b out = out := by
  unfold stepP
  split
  · have e : nth x a * nth y b * f a b = 0 := by rcases hz with hz | hz <;> simp [hz]
    have hb := h.2 _ hc
    rw [e, Int.add_zero, Int.emod_eq_of_lt hb.1 hb.2, nth_eq (by rw [h.1]; exact hc)]
    exact List.set_getElem_self _
  · rfl
theorem stepP_yes (h : tk a b = true) : stepP p f tk x y a b out = out.set (a ^^^ b) ((nth out (a ^^^ b) + nth x a * nth y b * f a b) % p) := by simp [stepP, h]
theorem inP_zero {d : Nat} (hp : 1 ≤ p) (hN : N = 2 ^ d) (ha : a < N) (h : Good p N out) (hz : nth x a = 0) : ∀ b, b ≤ N → inP p f tk x y a b out = out
  | 0, _ => rfl
  | b + 1, hb => by
    have ih := inP_zero (d := d) hp hN ha h hz b (by omega)
    unfold inP
    rw [ih]
    exact stepP_zero h (by subst hN; exact Nat.xor_lt_two_pow ha (by omega)) (.inl hz)
end

theorem xor_ab (a b : Nat) (ha : a < 64) (hb : b < 64) : bits BinOp.xor IntKind.i64 (a : Int) (b : Int) = ((a ^^^ b : Nat) : Int) := by
  have : ∀ a : Nat, a < 64 → ∀ b : Nat, b < 64 → bits BinOp.xor IntKind.i64 (a : Int) (b : Int) = ((a ^^^ b : Nat) : Int) := by decide +kernel
  exact this a ha b hb
theorem mul3_bd {p x y z : Int} (hp : p ≤ 1000) (hx0 : 0 ≤ x) (hx : x < p) (hy0 : 0 ≤ y) (hy : y < p) (hz0 : 0 ≤ z) (hz : z < p) : 0 ≤ x * y * z ∧ x * y * z ≤ 1000000000 := by
  obtain ⟨h1, h2⟩ := mul_bd hp hx0 hx hy0 hy
  refine ⟨Int.mul_nonneg h1 hz0, ?_⟩
  have h3 : x * y * z ≤ 1000000 * z := Int.mul_le_mul_of_nonneg_right h2 hz0
  omega

set_option maxHeartbeats 400000 in
theorem c_nothing (p : Int) (a : Option Addr) (d cap : Nat) (w : World) (hd : d ≤ 6) :
    Calls Try.prog 134 #[.agg #[.int .i64 p, .slice a d cap]] w fun e w' => ∃ g, e = .returned (.slice (some ⟨g, 0, none⟩) (2 ^ d) (2 ^ d)) ∧ OwnC w.heap.size w' (some ⟨g, 0, none⟩) (2 ^ d) (2 ^ d) (List.replicate (2 ^ d) 0) ∧ Ext w w' := by
  have hpw := pow_wrap hd
  have hN := pow_le64 hd
  obtain ⟨N, hN'⟩ : ∃ N, N = 2 ^ d := ⟨_, rfl⟩
  rw [← hN'] at hpw hN ⊢
  clear hN'
  go_enter Try.func134, Try.ntmps134
  go_wp2_with (go_at_call 50; refine (c_dim _ _ _ _ _).mono ?_; rintro e w1 ⟨rfl, g1⟩)
  obtain ⟨w2, hmk, ho, he⟩ := make_ints w1 N (by omega)
  have HO := Lib.hid ho
  have HE := Lib.hid ((ext_alloc _ _).trans (g1.trans he))
  have hz := g1.size'
  simp only [World.size_alloc] at hz
  clear ho he g1
  rw [hmk]
  go_wp2_with (fail)
  go_ret
  exact ⟨w1.heap.size, rfl, HO.out.mono (by omega), HE.out⟩

set_option maxHeartbeats 2000000 in
set_option maxRecDepth 100000 in
theorem c_product (p : Int) (a : Option Addr) (d cap : Nat) (qs : List Int) (ax ay : Option Addr) (cx cy : Nat) (x y : List Int) (F : Nat) (tk : Nat → Nat → Bool) (w : World) (hd : d ≤ 6) (hp1 : 3 ≤ p) (hp2 : p ≤ 1000) (hq : RdC w a d qs) (hqb : isB p qs = true)
    (hx : RdC w ax (2 ^ d) x) (hy : RdC w ay (2 ^ d) y) (hxb : isB p x = true) (hyb : isB p y = true)
    (hcf : ∀ args w, (callFunc F args).run Try.prog w = .ok (.enter F args) w)
    (htk : ∀ (i j : Nat) (w : World), i < 64 → j < 64 → Calls Try.prog F #[.int .i64 i, .int .i64 j] w fun e w' => e = .returned (.bool (tk i j)) ∧ Ext w w') :
    Calls Try.prog 125 #[.agg #[.int .i64 p, .slice a d cap], .slice ax (2 ^ d) cx, .slice ay (2 ^ d) cy, .func (.func F) #[] #[]] w fun e w' =>
      ∃ g, e = .returned (.slice (some ⟨g, 0, none⟩) (2 ^ d) (2 ^ d)) ∧ OwnC w.heap.size w' (some ⟨g, 0, none⟩) (2 ^ d) (2 ^ d) (prodL p qs tk x y) ∧ Ext w w' := by
  have hN := pow_le64 hd
  obtain ⟨N, hN'⟩ : ∃ N, N = 2 ^ d := ⟨_, rfl⟩
  have HPr := Lib.hid (show prodL p qs tk x y = outP p (fac p qs) tk x y N N by unfold prodL; rw [hq.1, hN'])
  have HN := Lib.hid hN'
  rw [← hN'] at hN hx hy ⊢
  clear hN'
  have HX := Lib.hid hx
  have HY := Lib.hid hy
  have HXB := Lib.hid hxb
  have HYB := Lib.hid hyb
  have HT := Lib.hid htk
  have HQB := Lib.hid hqb
  have HQ := Lib.hid hq
  clear hx hy hxb hyb htk hqb hq
  obtain ⟨W, hW⟩ : ∃ W, W = w.alloc (.cells #[.int .i64 p, .slice a d cap] 26) := ⟨_, rfl⟩
  have gW : Ext w W := by rw [hW]; exact ext_alloc _ _
  have hs0 : W.cell? ⟨w.heap.size, 0, none⟩ = some (.int .i64 p) := by rw [hW]; simp
  have hs1 : W.cell? ⟨w.heap.size, 1, none⟩ = some (.slice a d cap) := by rw [hW]; simp
  have HS0 := Lib.hid hs0
  have HS1 := Lib.hid hs1
  have GW := Lib.hid gW
  have HW := Lib.hid hW
  go_enter Try.func125, Try.ntmps125
  go_wp2_with (fail)
  rw [← HW.out]
  have Hno := c_nothing p a d cap W hd
  rw [← HN.out] at Hno
  refine Hno.mono ?_
  rintro e w1 ⟨g, rfl, ho, g1⟩
  have HO := Lib.hid ho
  have G1 := Lib.hid g1
  clear Hno ho g1 hW gW hs0 hs1
  go_wp2_with (fail)
  go_loopw [18] (fun i wr => ∃ k : Nat, k ≤ N ∧ i = .int .i64 k ∧ OwnC W.heap.size wr (some ⟨g, 0, none⟩) N N (outP p (fac p qs) tk x y N k) ∧ Ext W wr) (fun i _ => N - (intOf i).toNat)
  case atStart => exact ⟨0, Nat.zero_le _, rfl, HO.out, G1.out⟩
  case round =>
    obtain ⟨k, hk, rfl, hown, hext⟩ := hrel
    have HOwn := Lib.hid hown
    have HExt := Lib.hid hext
    clear hown hext
    by_cases hlt : k < N
    · obtain ⟨bx, ox, rfl, hcx⟩ := HX.out.2 k hlt
      have hcx' := (GW.out.trans HExt.out).cell hcx
      clear hcx
      have hgood := Lib.hid (outP_good (f := fac p qs) (tk := tk) (x := x) (y := y) (N := N) (show 1 ≤ p by omega) k)
      have hxk := isB_nth HXB.out (i := k) (by rw [HX.out.1]; exact hlt)
      by_cases hz : nth x k = 0
      · have hzb : (nth x k == 0) = true := by simp [hz]
        have HZ := Lib.hid (inP_zero (f := fac p qs) (tk := tk) (y := y) (d := d) (show 1 ≤ p by omega) HN.out hlt hgood.out hz N (Nat.le_refl _))
        clear hz
        go_wp2_with (fail)
        go_roundw
        case rel => exact ⟨k + 1, by omega, by go_num, by unfold outP; rw [HZ.out]; exact HOwn.out, HExt.out⟩
        case measure => simp [intOf]; omega
      · have hzb : (nth x k == 0) = false := by simp [hz]
        clear hz
        go_wp2_with (fail)
        obtain ⟨wo, hwo⟩ : ∃ wo : World, wo = wr := ⟨_, rfl⟩
        clear hwo
        go_loopw [27] (fun i wr => ∃ j : Nat, j ≤ N ∧ i = .int .i64 j ∧ OwnC W.heap.size wr (some ⟨g, 0, none⟩) N N (inP p (fac p qs) tk x y k j (outP p (fac p qs) tk x y N k)) ∧ Ext W wr) (fun i _ => N - (intOf i).toNat)
        case atStart => exact ⟨0, Nat.zero_le _, rfl, HOwn.out, HExt.out⟩
        case round =>
          obtain ⟨j, hj, rfl, hown, hext⟩ := hrel
          have HOwn2 := Lib.hid hown
          have HExt2 := Lib.hid hext
          clear hown hext
          by_cases hlj : j < N
          · obtain ⟨by', oy, rfl, hcy⟩ := HY.out.2 j hlj
            have hcy' := (GW.out.trans HExt2.out).cell hcy
            clear hcy hcx'
            have hin := Lib.hid (inP_good (f := fac p qs) (tk := tk) (x := x) (y := y) (a := k) (show 1 ≤ p by omega) hgood.out j)
            have hc : k ^^^ j < N := by rw [HN.out] at hlt hlj ⊢; exact Nat.xor_lt_two_pow hlt hlj
            by_cases hzj : nth y j = 0
            · have hzb2 : (nth y j != 0) = false := by simp [hzj]
              have HZ := Lib.hid (stepP_zero (f := fac p qs) (tk := tk) (x := x) (y := y) (a := k) (b := j) hin.out hc (.inr hzj))
              clear hzj
              go_wp2_with (fail)
              go_roundw
              case rel => exact ⟨j + 1, by omega, by go_num, by unfold inP; rw [HZ.out]; exact HOwn2.out, HExt2.out⟩
              case measure => simp [intOf]; omega
            · have hzb2 : (nth y j != 0) = true := by simp [hzj]
              have htk := Lib.hid (HT.out k j wr (by omega) (by omega))
              clear hzj
              cases ht : tk k j
              · have HTK := Lib.hid ht
                have HZ := Lib.hid (stepP_not (p := p) (f := fac p qs) (x := x) (y := y) (out := inP p (fac p qs) tk x y k j (outP p (fac p qs) tk x y N k)) ht)
                clear ht
                go_wp2_with ((with_reducible refine (htk.out).mono ?_); rintro e w2 ⟨rfl, g2⟩; rw [HTK.out])
                go_roundw
                case rel => exact ⟨j + 1, by omega, by go_num, by unfold inP; rw [HZ.out]; exact HOwn2.out.ext g2, HExt2.out.trans g2⟩
                case measure => simp [intOf]; omega
              · have HTK := Lib.hid ht
                have HZ := Lib.hid (stepP_yes (p := p) (f := fac p qs) (x := x) (y := y) (out := inP p (fac p qs) tk x y k j (outP p (fac p qs) tk x y N k)) ht)
                clear ht
                go_wp2_with ((with_reducible refine (htk.out).mono ?_); rintro e w2 ⟨rfl, g2⟩; rw [HTK.out])
                obtain ⟨Z, hZ⟩ : ∃ Z, Z = inP p (fac p qs) tk x y k j (outP p (fac p qs) tk x y N k) := ⟨_, rfl⟩
                rw [← hZ] at hin HOwn2 HZ
                have HZZ := Lib.hid hZ
                clear hZ
                have X2 := Lib.hid (g2.trans (ext_drew _))
                have Y2 := Lib.hid (HExt2.out.trans X2.out)
                have HO2 := Lib.hid (HOwn2.out.ext X2.out)
                have Hc := Lib.hid (HO2.out.cell hc)
                have hzc := hin.out.2 _ hc
                have hyj := isB_nth HYB.out (i := j) (by rw [HY.out.1]; exact hlj)
                have hfb := fac_bd (qs := qs) (b := j) hp1 (show k < 64 by omega)
                have hxor := xor_ab k j (by omega) (by omega)
                obtain ⟨Fk, hFk⟩ : ∃ Fk, Fk = fac p qs k j := ⟨_, rfl⟩
                rw [← hFk] at hfb HZ
                obtain ⟨c, hcc⟩ : ∃ c, c = k ^^^ j := ⟨_, rfl⟩
                rw [← hcc] at hc HZ hzc hxor
                rw [← hcc] at Hc
                obtain ⟨zc, hzc'⟩ : ∃ zc, zc = nth Z c := ⟨_, rfl⟩
                rw [← hzc'] at hzc HZ
                rw [← hzc'] at Hc
                obtain ⟨hm1, hm2⟩ := mul_bd hp2 hxk.1 hxk.2 hyj.1 hyj.2
                obtain ⟨hm3, hm4⟩ := mul3_bd hp2 hxk.1 hxk.2 hyj.1 hyj.2 hfb.1 hfb.2
                have hw1 : IntKind.i64.wrap (nth x k * nth y j) = nth x k * nth y j := IntWalk.i64_in _ (by omega)
                have hw2 : IntKind.i64.wrap (nth x k * nth y j * Fk) = nth x k * nth y j * Fk := IntWalk.i64_in _ (by omega)
                have hw3 : IntKind.i64.wrap (zc + nth x k * nth y j * Fk) = zc + nth x k * nth y j * Fk := IntWalk.i64_in _ (by omega)
                have hcn : (c : Int) < N := by omega
                have hc0 : (0 : Int) ≤ c := by omega
                have HFk := Lib.hid hFk
                have Hcc := Lib.hid hcc
                have Hzc := Lib.hid hzc'
                clear hFk hcc hzc' hzc
                refine wp_region_lex_tail 23 [(5, .val (.int .i64 p)), (18, .val (.int .i64 Fk)), (21, .val (.int .i64 ((zc + nth x k * nth y j * Fk) % p)))] (by kernel_rfl) (by kernel_rfl) ?_
                simp only [List.take, List.drop]
                repeat' first | (refine LexW.pure (v := ?_) rfl rfl (fun w1 he => ?_) ?_; rotate_left; ( have e1 := (Y2.out.trans he).cell HS0.out; have e2 := (Y2.out.trans he).cell HS1.out; have e3 := he.cell Hc.out; go_simp; rfl); simp only [Act.put, List.setIfInBounds_toArray, List.set_cons_zero, List.set_cons_succ]) | (refine LexW.call (f := ?_) (args := ?_) rfl rfl (fun w1 => ?_) (fun w1 he hdep => ?_) ?_; rotate_left 2; (go_simp; refine ⟨?_, ?_⟩ <;> rfl); ( first | (go_at_call 63; exact c_field _ _ _) | (go_at_call 146; rw [HFk.out]; exact c_factor _ _ _ _ _ _ _ _ hd hp1 hp2 (by omega) (by omega) (HQ.out.ext (GW.out.trans (Y2.out.trans he))) HQB.out) | (go_at_call 64; exact c_num _ _ _ (by omega) hp2)); simp only [Act.put, List.setIfInBounds_toArray, List.set_cons_zero, List.set_cons_succ])
                refine LexW.nil (fun w3 he hk => ?_)
                have HO3 := Lib.hid (HO2.out.ext he)
                have ec := HO3.out.cell hc
                have ef := HO3.out.frozen c
                have hgb := HO3.out.base_le
                go_wp2_with (fail)
                go_roundw
                case rel => exact ⟨j + 1, by omega, by go_num, by unfold inP; rw [← HZZ.out, HZ.out]; exact HO3.out.store hc _, (Y2.out.trans he).setCell hgb.1 _⟩
                case measure => simp [intOf]; omega
          · clear hcx'
            go_wp2_with (fail)
            go_roundw
            case rel => exact ⟨k + 1, by omega, by go_num, by
              have hjn : j = N := by omega
              unfold outP; rw [← hjn]; rw [hjn]; have := HOwn2.out; rw [hjn] at this; exact this, HExt2.out⟩
            case measure => simp [intOf]; omega
    · go_wp2_with (fail)
      go_ret
      have hkn : k = N := by omega
      refine ⟨g, rfl, ?_, GW.out.trans HExt.out⟩
      rw [HPr.out]
      have := HOwn.out
      rw [hkn] at this
      exact this.mono GW.out.size

end Go.Proofs.Ytcocbainookkcaa

/-
  Contract of the reference's function that computes the factor of a product of two blades.
  No condition.
-/
namespace Go.Proofs.Ytcocbainookkcaa
set_option maxRecDepth 100000
open Go.RowKit

set_option maxHeartbeats 2000000 in
theorem s_blades (p : Int) (a : Option Addr) (d cap : Nat) (qs : List Int) (x y : Nat) (w : World) (hd : d ≤ 6) (hp1 : 3 ≤ p) (hp2 : p ≤ 1000) (hx : x < 64) (hy : y < 64) (hq : RdC w a d qs) (hqb : isB p qs = true) :
    Calls Try.prog 137 #[.agg #[.int .i64 p, .slice a d cap], .int .i64 x, .int .i64 y] w fun e w' => e = .returned (.int .i64 (fac p qs x y)) ∧ Ext w w' := by
  have HQ := Lib.hid hq.2
  have HN := Lib.hid hq.1
  have HB := Lib.hid hqb
  have hpz : ¬ p = 0 := by omega
  clear hq hqb
  go_enter Try.func137, Try.ntmps137
  go_wp2_with (fail)
  obtain ⟨w1, hw1⟩ : ∃ w1, w1 = w.alloc (.cells #[.int .i64 p, .slice a d cap] 26) := ⟨_, rfl⟩
  have g1 : Ext w w1 := by rw [hw1]; exact ext_alloc _ _
  have hs0 : w1.cell? ⟨w.heap.size, 0, none⟩ = some (.int .i64 p) := by rw [hw1]; simp
  have hs1 : w1.cell? ⟨w.heap.size, 1, none⟩ = some (.slice a d cap) := by rw [hw1]; simp
  rw [← hw1]
  have HS0 := Lib.hid hs0
  have HS1 := Lib.hid hs1
  have G1 := Lib.hid g1
  clear g1 hs0 hs1 hw1
  go_loopw [1, 7, 8] (fun m o i wr => ∃ k : Nat, k ≤ d ∧ i = .int .i64 k ∧ m = .int .i64 (aS x y k) ∧ o = .int .i64 (sgn p (facS p qs x y k).1 (facS p qs x y k).2) ∧ Ext w1 wr) (fun _ _ i _ => d - (intOf i).toNat)
  case atStart => exact ⟨0, Nat.zero_le _, rfl, rfl, rfl, Ext.refl _⟩
  case round =>
    obtain ⟨k, hk, rfl, rfl, rfl, hext⟩ := hrel
    have e1 := hext.cell HS0.out
    have e2 := hext.cell HS1.out
    obtain ⟨hf1, hf2, hf3⟩ := facS_bd (qs := qs) (b := y) hp1 hx k
    have HF2 := Lib.hid hf2
    have HF3 := Lib.hid hf3
    obtain ⟨hr2, hr3⟩ := sgn_bd (s := (facS p qs x y k).1) hp1 hf2 hf3
    obtain ⟨R, hR⟩ : ∃ R, R = sgn p (facS p qs x y k).1 (facS p qs x y k).2 := ⟨_, rfl⟩
    rw [← hR] at hr2 hr3 ⊢
    have HR := Lib.hid hR
    clear hR hf1 hf2 hf3
    by_cases hlt : k < d
    · have hy1 := bit_z y k hy (by omega)
      obtain ⟨hA1, hA2, hA3⟩ := aS_all x y k hx hy (by omega)
      obtain ⟨A, hA⟩ : ∃ A, A = aS x y k := ⟨_, rfl⟩
      rw [← hA] at hA1 hA2 hA3 ⊢
      have hx1 := bit_i A k hA1 (by omega)
      have hsh := shr_i A k
      have hxor := xor_i A k hA1 (by omega)
      have hxor' := xor_i' A k hA1 (by omega)
      rw [hA2] at hsh
      rw [hA3] at hx1
      have HA := Lib.hid hA
      clear hA hA2 hA3
      have hpl := popc_le (shr_lt (k + 1) hx)
      obtain ⟨G, hG⟩ : ∃ G, G = popc (x >>> (k + 1)) := ⟨_, rfl⟩
      rw [← hG] at hpl
      have HG := Lib.hid hG
      clear hG
      obtain ⟨b, off, ha, hc⟩ := HQ.out k hlt
      have Hc := Lib.hid ((G1.out.trans (hext)).cell hc)
      have hqk := isB_nth HB.out (i := k) (by rw [HN.out]; exact hlt)
      clear hc
      subst ha
      cases hyb : y.testBit k
      · have HYB := Lib.hid hyb
        rw [hyb] at hy1
        clear hyb hx1 hsh hxor hxor'
        go_wp2_with (fail)
        go_roundw
        case rel => exact ⟨k + 1, by omega, by go_num, by rw [aS_no HYB.out, HA.out], by rw [facS_no HYB.out, HR.out], hext⟩
        case measure => simp [intOf]; omega
      · have HYB := Lib.hid hyb
        rw [hyb] at hy1
        clear hyb
        have haa := aS_yes (a := x) HYB.out
        rw [← HA.out] at haa
        have HAA := Lib.hid haa
        clear haa
        obtain ⟨R1, hR1⟩ : ∃ R1, (p - R) % p = R1 := ⟨_, rfl⟩
        have hR2 : -R % p = R1 := by rw [← hR1, Int.sub_eq_add_neg, Int.add_emod_left]
        have h0 := Int.emod_nonneg (p - R) (show p ≠ 0 by omega)
        have h1 := Int.emod_lt_of_pos (p - R) (show 0 < p by omega)
        rw [hR1] at h0 h1
        have HR1 := Lib.hid hR1
        by_cases hodd : G % 2 = 1
        · have ht : (((G : Int) % 2) == 1) = true := by simp; omega
          obtain ⟨hm0, hm1⟩ := mul_bd (x := R1) (y := nth qs k) hp2 h0 h1 hqk.1 hqk.2
          have hw : IntKind.i64.wrap (R1 * nth qs k) = R1 * nth qs k := IntWalk.i64_in _ (by omega)
          have hmd : (R1 * nth qs k).tmod p = R1 * nth qs k % p := Int.tmod_eq_emod_of_nonneg hm0
          have HS : Hid (R1 = sgn p ((facS p qs x y k).1 + popc (x >>> (k + 1))) (facS p qs x y k).2) := by
            show R1 = _
            rw [sgn_odd (by rw [← HG.out]; exact hodd) HF2.out HF3.out, ← HR.out, HR1.out]
          clear hodd
          cases hxb : x.testBit k
          · have HXB := Lib.hid hxb
            rw [hxb] at hx1
            clear hxb hm0 hm1 hw hmd
            go_wp2_with (go_at_call 149; refine (s_grade (x >>> (k + 1)) _ (shr_lt _ hx)).mono ?_; rintro e w2 ⟨rfl, g2⟩; rw [← HG.out]; have e3 := (hext.trans g2).cell HS0.out; have e4 := (hext.trans g2).cell HS1.out)
            go_roundw
            case rel => exact ⟨k + 1, by omega, by go_num, by rw [HAA.out], by have e := HR1.out; rw [facS_one HYB.out HXB.out, ← HS.out]; try rw [e], hext.trans g2⟩
            case measure => simp [intOf]; omega
          · have HXB := Lib.hid hxb
            rw [hxb] at hx1
            clear hxb
            go_wp2_with (go_at_call 149; refine (s_grade (x >>> (k + 1)) _ (shr_lt _ hx)).mono ?_; rintro e w2 ⟨rfl, g2⟩; rw [← HG.out]; have e3 := (hext.trans g2).cell HS0.out; have e4 := (hext.trans g2).cell HS1.out)
            have X2 := Lib.hid (g2.trans (ext_drew _))
            have Y2 := Lib.hid (hext.trans X2.out)
            refine wp_region_lex [] (by kernel_rfl) (by kernel_rfl) ?_
            repeat' first | (refine LexW.pure (v := ?_) rfl rfl (fun w1 he => ?_) ?_; rotate_left; ( have e1 := (Y2.out.trans he).cell HS0.out; have e2 := (Y2.out.trans he).cell HS1.out; have e3 := (X2.out.trans he).cell Hc.out; go_simp; rfl); simp only [Act.put, List.setIfInBounds_toArray, List.set_cons_zero, List.set_cons_succ])
            refine LexW.nil (fun w3 he hk => ?_)
            have e5 := (Y2.out.trans he).cell HS0.out
            go_wp2_with (fail)
            go_roundw
            case rel => exact ⟨k + 1, by omega, by go_num, by rw [HAA.out], by have e := HR1.out; rw [facS_two HYB.out HXB.out, sgn_mul, ← HS.out]; try rw [e], Y2.out.trans he⟩
            case measure => simp [intOf]; omega
        · have ht : (((G : Int) % 2) == 1) = false := by simp; omega
          obtain ⟨hm0, hm1⟩ := mul_bd (x := R) (y := nth qs k) hp2 hr2 hr3 hqk.1 hqk.2
          have hw : IntKind.i64.wrap (R * nth qs k) = R * nth qs k := IntWalk.i64_in _ (by omega)
          have hmd : (R * nth qs k).tmod p = R * nth qs k % p := Int.tmod_eq_emod_of_nonneg hm0
          have HS : Hid (R = sgn p ((facS p qs x y k).1 + popc (x >>> (k + 1))) (facS p qs x y k).2) := by
            show R = _
            rw [sgn_even (by rw [← HG.out]; exact hodd), ← HR.out]
          clear hodd
          cases hxb : x.testBit k
          · have HXB := Lib.hid hxb
            rw [hxb] at hx1
            clear hxb hm0 hm1 hw hmd
            go_wp2_with (go_at_call 149; refine (s_grade (x >>> (k + 1)) _ (shr_lt _ hx)).mono ?_; rintro e w2 ⟨rfl, g2⟩; rw [← HG.out]; have e3 := (hext.trans g2).cell HS0.out; have e4 := (hext.trans g2).cell HS1.out)
            go_roundw
            case rel => exact ⟨k + 1, by omega, by go_num, by rw [HAA.out], by have e := HR1.out; rw [facS_one HYB.out HXB.out, ← HS.out]; try rw [e], hext.trans g2⟩
            case measure => simp [intOf]; omega
          · have HXB := Lib.hid hxb
            rw [hxb] at hx1
            clear hxb
            go_wp2_with (go_at_call 149; refine (s_grade (x >>> (k + 1)) _ (shr_lt _ hx)).mono ?_; rintro e w2 ⟨rfl, g2⟩; rw [← HG.out]; have e3 := (hext.trans g2).cell HS0.out; have e4 := (hext.trans g2).cell HS1.out)
            have X2 := Lib.hid (g2.trans (ext_drew _))
            have Y2 := Lib.hid (hext.trans X2.out)
            refine wp_region_lex [] (by kernel_rfl) (by kernel_rfl) ?_
            repeat' first | (refine LexW.pure (v := ?_) rfl rfl (fun w1 he => ?_) ?_; rotate_left; ( have e1 := (Y2.out.trans he).cell HS0.out; have e2 := (Y2.out.trans he).cell HS1.out; have e3 := (X2.out.trans he).cell Hc.out; go_simp; rfl); simp only [Act.put, List.setIfInBounds_toArray, List.set_cons_zero, List.set_cons_succ])
            refine LexW.nil (fun w3 he hk => ?_)
            have e5 := (Y2.out.trans he).cell HS0.out
            go_wp2_with (fail)
            go_roundw
            case rel => exact ⟨k + 1, by omega, by go_num, by rw [HAA.out], by have e := HR1.out; rw [facS_two HYB.out HXB.out, sgn_mul, ← HS.out]; try rw [e], Y2.out.trans he⟩
            case measure => simp [intOf]; omega
    · have hkd : k = d := by omega
      have HF := Lib.hid (show fac p qs x y = R by simp only [fac]; rw [HN.out, ← hkd, ← HR.out])
      go_wp2_with (fail)
      go_ret
      exact ⟨ret_int HF.out.symm, G1.out.trans hext⟩

end Go.Proofs.Ytcocbainookkcaa

/-
  Contracts of the reference's products of multivectors.
  No condition.
-/
namespace Go.Proofs.Ytcocbainookkcaa
set_option maxRecDepth 100000
open Go.RowKit

def tkA (_ _ : Nat) : Bool := true
def tkW (i j : Nat) : Bool := i &&& j == 0
def tkL (i j : Nat) : Bool := i &&& j == i
def tkR (i j : Nat) : Bool := i &&& j == j
theorem and_ab (a b : Nat) (ha : a < 64) (hb : b < 64) : bits BinOp.and IntKind.i64 (a : Int) (b : Int) = ((a &&& b : Nat) : Int) := by
  have : ∀ a : Nat, a < 64 → ∀ b : Nat, b < 64 → bits BinOp.and IntKind.i64 (a : Int) (b : Int) = ((a &&& b : Nat) : Int) := by decide +kernel
  exact this a ha b hb
theorem ne_nat (a b : Nat) : ((a : Int) != (b : Int)) = !(a == b) := by
  rw [Bool.eq_iff_iff]; simp; omega
theorem ne_zero' (a : Nat) : ((a : Int) != 0) = !(a == 0) := by
  rw [Bool.eq_iff_iff]; simp
theorem step_ref {p o m f : Int} : (o + m % p * f) % p = (o + m * f) % p := by
  rw [Int.add_emod, Int.mul_emod (m % p), Int.emod_emod, ← Int.mul_emod, ← Int.add_emod]
theorem ref_bd {p m f : Int} (hp : 3 ≤ p) (hp2 : p ≤ 1000) (hf0 : 0 ≤ f) (hf1 : f < p) : 0 ≤ m % p * f ∧ m % p * f ≤ 1000000 :=
  mul_bd hp2 (Int.emod_nonneg _ (by omega)) (Int.emod_lt_of_pos _ (by omega)) hf0 hf1




set_option maxHeartbeats 4000000 in
set_option maxRecDepth 100000 in
theorem s_times (p : Int) (a : Option Addr) (d cap : Nat) (qs : List Int) (ax ay : Option Addr) (cx cy : Nat) (x y : List Int) (w : World) (hd : d ≤ 6) (hp1 : 3 ≤ p) (hp2 : p ≤ 1000) (hq : RdC w a d qs) (hqb : isB p qs = true)
    (hx : RdC w ax (2 ^ d) x) (hy : RdC w ay (2 ^ d) y) (hxb : isB p x = true) (hyb : isB p y = true) :
    Calls Try.prog 98 #[.agg #[.int .i64 p, .slice a d cap], .slice ax (2 ^ d) cx, .slice ay (2 ^ d) cy] w fun e w' =>
      ∃ g, e = .returned (.slice (some ⟨g, 0, none⟩) (2 ^ d) (2 ^ d)) ∧ OwnC w.heap.size w' (some ⟨g, 0, none⟩) (2 ^ d) (2 ^ d) (prodL p qs tkA x y) ∧ Ext w w' := by
  have hN := pow_le64 hd
  have hpz : ¬ p = 0 := by omega
  obtain ⟨N, hN'⟩ : ∃ N, N = 2 ^ d := ⟨_, rfl⟩
  have HPr := Lib.hid (show prodL p qs tkA x y = outP p (fac p qs) tkA x y N N by unfold prodL; rw [hq.1, hN'])
  have HN := Lib.hid hN'
  rw [← hN'] at hN hx hy ⊢
  clear hN'
  have HX := Lib.hid hx
  have HY := Lib.hid hy
  have HXB := Lib.hid hxb
  have HYB := Lib.hid hyb
  have HQB := Lib.hid hqb
  have HQ := Lib.hid hq
  clear hx hy hxb hyb hqb hq
  obtain ⟨W, hW⟩ : ∃ W, W = w.alloc (.cells #[.int .i64 p, .slice a d cap] 26) := ⟨_, rfl⟩
  have gW : Ext w W := by rw [hW]; exact ext_alloc _ _
  have hs0 : W.cell? ⟨w.heap.size, 0, none⟩ = some (.int .i64 p) := by rw [hW]; simp
  have hs1 : W.cell? ⟨w.heap.size, 1, none⟩ = some (.slice a d cap) := by rw [hW]; simp
  have HS0 := Lib.hid hs0
  have HS1 := Lib.hid hs1
  have GW := Lib.hid gW
  obtain ⟨w1, hmk, ho, g1⟩ := make_ints W N (by omega)
  obtain ⟨g, hg⟩ : ∃ g, g = W.heap.size := ⟨_, rfl⟩
  rw [← hg] at hmk
  have HO : Hid (OwnC W.heap.size w1 (some ⟨g, 0, none⟩) N N (List.replicate N 0)) := by rw [← hg] at ho ⊢; exact ho
  have G1 := Lib.hid g1
  rw [hW] at hmk
  clear ho g1 gW hs0 hs1 hg hW
  go_enter Try.func98, Try.ntmps98
  go_wp2_with (fail)
  go_loopw [8] (fun i wr => ∃ k : Nat, k ≤ N ∧ i = .int .i64 k ∧ OwnC W.heap.size wr (some ⟨g, 0, none⟩) N N (outP p (fac p qs) tkA x y N k) ∧ Ext W wr) (fun i _ => N - (intOf i).toNat)
  case atStart => exact ⟨0, Nat.zero_le _, rfl, HO.out, G1.out⟩
  case round =>
    obtain ⟨k, hk, rfl, hown, hext⟩ := hrel
    have HOwn := Lib.hid hown
    have HExt := Lib.hid hext
    clear hown hext hmk
    by_cases hlt : k < N
    · obtain ⟨bx, ox, rfl, hcx⟩ := HX.out.2 k hlt
      have Hcx := Lib.hid (GW.out.cell hcx)
      clear hcx
      have hgood := Lib.hid (outP_good (f := fac p qs) (tk := tkA) (x := x) (y := y) (N := N) (show 1 ≤ p by omega) k)
      have hxk := isB_nth HXB.out (i := k) (by rw [HX.out.1]; exact hlt)
      go_wp2_with (fail)
      obtain ⟨wo, hwo⟩ : ∃ wo : World, wo = wr := ⟨_, rfl⟩
      clear hwo
      go_loopw [9] (fun i wr => ∃ j : Nat, j ≤ N ∧ i = .int .i64 j ∧ OwnC W.heap.size wr (some ⟨g, 0, none⟩) N N (inP p (fac p qs) tkA x y k j (outP p (fac p qs) tkA x y N k)) ∧ Ext W wr) (fun i _ => N - (intOf i).toNat)
      case atStart => exact ⟨0, Nat.zero_le _, rfl, HOwn.out, HExt.out⟩
      case round =>
        obtain ⟨j, hj, rfl, hown, hext⟩ := hrel
        have HOwn2 := Lib.hid hown
        have HExt2 := Lib.hid hext
        clear hown hext
        by_cases hlj : j < N
        · obtain ⟨by', oy, rfl, hcy⟩ := HY.out.2 j hlj
          have Hcy := Lib.hid (GW.out.cell hcy)
          clear hcy
          have hin := Lib.hid (inP_good (f := fac p qs) (tk := tkA) (x := x) (y := y) (a := k) (show 1 ≤ p by omega) hgood.out j)
          have hc : k ^^^ j < N := by rw [HN.out] at hlt hlj ⊢; exact Nat.xor_lt_two_pow hlt hlj
          have hcx' := HExt2.out.cell Hcx.out
          have hcy' := HExt2.out.cell Hcy.out
          by_cases hzx : nth x k = 0
          · have hzb : (nth x k != 0) = false := by simp [hzx]
            have HZ := Lib.hid (inP_zero (f := fac p qs) (tk := tkA) (y := y) (d := d) (show 1 ≤ p by omega) HN.out hlt hgood.out hzx)
            clear hzx
            go_wp2_with (fail)
            go_roundw
            case rel => exact ⟨k + 1, by omega, by go_num, by unfold outP; rw [HZ.out N (Nat.le_refl _)]; have := HOwn2.out; rw [HZ.out j hj] at this; exact this, HExt2.out⟩
            case measure => simp [intOf]; omega
          · have hzb : (nth x k != 0) = true := by simp [hzx]
            clear hzx
            by_cases hzj : nth y j = 0
            · have hzb2 : (nth y j != 0) = false := by simp [hzj]
              have HZ := Lib.hid (stepP_zero (f := fac p qs) (tk := tkA) (x := x) (y := y) (a := k) (b := j) hin.out hc (.inr hzj))
              clear hzj
              go_wp2_with (fail)
              go_roundw
              case rel => exact ⟨j + 1, by omega, by go_num, by unfold inP; rw [HZ.out]; exact HOwn2.out, HExt2.out⟩
              case measure => simp [intOf]; omega
            · have hzb2 : (nth y j != 0) = true := by simp [hzj]
              have HZ := Lib.hid (stepP_yes (p := p) (f := fac p qs) (tk := tkA) (x := x) (y := y) (a := k) (b := j) (out := inP p (fac p qs) tkA x y k j (outP p (fac p qs) tkA x y N k)) rfl)
              clear hzj
              go_wp2_with (fail)
              clear hcx' hcy'
              have X2 := Lib.hid (ext_drew wr)
              have Y2 := Lib.hid (HExt2.out.trans X2.out)
              obtain ⟨Z, hZ⟩ : ∃ Z, Z = inP p (fac p qs) tkA x y k j (outP p (fac p qs) tkA x y N k) := ⟨_, rfl⟩
              rw [← hZ] at hin HOwn2 HZ
              have HZZ := Lib.hid hZ
              clear hZ
              have HO2 := Lib.hid (HOwn2.out.ext X2.out)
              have Hc := Lib.hid (HO2.out.cell hc)
              have hzc := hin.out.2 _ hc
              have hyj := isB_nth HYB.out (i := j) (by rw [HY.out.1]; exact hlj)
              have hfb := fac_bd (qs := qs) (b := j) hp1 (show k < 64 by omega)
              have hxor := xor_ab k j (by omega) (by omega)
              obtain ⟨Fk, hFk⟩ : ∃ Fk, Fk = fac p qs k j := ⟨_, rfl⟩
              rw [← hFk] at hfb HZ
              obtain ⟨c, hcc⟩ : ∃ c, c = k ^^^ j := ⟨_, rfl⟩
              rw [← hcc] at hc HZ hzc hxor
              rw [← hcc] at Hc
              obtain ⟨zc, hzc'⟩ : ∃ zc, zc = nth Z c := ⟨_, rfl⟩
              rw [← hzc'] at hzc HZ
              rw [← hzc'] at Hc
              obtain ⟨hm1, hm2⟩ := mul_bd hp2 hxk.1 hxk.2 hyj.1 hyj.2
              obtain ⟨hm3, hm4⟩ := ref_bd (m := nth x k * nth y j) hp1 hp2 hfb.1 hfb.2
              have hw1 : IntKind.i64.wrap (nth x k * nth y j) = nth x k * nth y j := IntWalk.i64_in _ (by omega)
              have hw1t : (nth x k * nth y j).tmod p = nth x k * nth y j % p := Int.tmod_eq_emod_of_nonneg hm1
              obtain ⟨MM, hMM⟩ : ∃ MM, nth x k * nth y j % p = MM := ⟨_, rfl⟩
              have hST := step_ref (p := p) (o := zc) (m := nth x k * nth y j) (f := Fk)
              rw [hMM] at hw1t hm3 hm4 hST
              have hw2 : IntKind.i64.wrap (MM * Fk) = MM * Fk := IntWalk.i64_in _ (by omega)
              have hw3 : IntKind.i64.wrap (zc + MM * Fk) = zc + MM * Fk := IntWalk.i64_in _ (by omega)
              have hw4 : (zc + MM * Fk).tmod p = (zc + MM * Fk) % p := Int.tmod_eq_emod_of_nonneg (by omega)
              obtain ⟨RR, hRR⟩ : ∃ RR, (zc + MM * Fk) % p = RR := ⟨_, rfl⟩
              rw [hRR] at hw4 hST
              have HST := Lib.hid hST
              have hcn : (c : Int) < N := by omega
              have hc0 : (0 : Int) ≤ c := by omega
              have HFk := Lib.hid hFk
              have Hcc := Lib.hid hcc
              have Hzc := Lib.hid hzc'
              clear hFk hcc hzc' hzc hMM hRR hST
              refine wp_region_lex_tail 32 [(25, .val (.int .i64 Fk))] (by kernel_rfl) (by kernel_rfl) ?_
              simp only [List.take, List.drop]
              repeat' first | (refine LexW.pure (v := ?_) rfl rfl (fun w1 he => ?_) ?_; rotate_left; ( have e1 := (Y2.out.trans he).cell HS0.out; have e2 := (Y2.out.trans he).cell HS1.out; have e3 := he.cell Hc.out; have e4 := (Y2.out.trans he).cell Hcx.out; have e5 := (Y2.out.trans he).cell Hcy.out; go_simp; rfl); simp only [Act.put, List.setIfInBounds_toArray, List.set_cons_zero, List.set_cons_succ]) | (refine LexW.call (f := ?_) (args := ?_) rfl rfl (fun w1 => ?_) (fun w1 he hdep => ?_) ?_; rotate_left 2; (go_simp; refine ⟨?_, ?_⟩ <;> rfl); ( rw [HFk.out]; exact s_blades _ _ _ _ _ _ _ _ hd hp1 hp2 (by omega) (by omega) (HQ.out.ext (GW.out.trans (Y2.out.trans he))) HQB.out); simp only [Act.put, List.setIfInBounds_toArray, List.set_cons_zero, List.set_cons_succ])
              refine LexW.nil (fun w3 he hk => ?_)
              have HO3 := Lib.hid (HO2.out.ext he)
              have ec := HO3.out.cell hc
              have ef := HO3.out.frozen c
              have hgb := HO3.out.base_le
              go_wp2_with (fail)
              go_roundw
              case rel => exact ⟨j + 1, by omega, by go_num, by unfold inP; rw [← HZZ.out, HZ.out, ← HST.out]; exact HO3.out.store hc _, (Y2.out.trans he).setCell hgb.1 _⟩
              case measure => simp [intOf]; omega
        · go_wp2_with (fail)
          go_roundw
          case rel => exact ⟨k + 1, by omega, by go_num, by
            have hjn : j = N := by omega
            have := HOwn2.out; rw [hjn] at this; exact this, HExt2.out⟩
          case measure => simp [intOf]; omega
    · go_wp2_with (fail)
      go_ret
      have hkn : k = N := by omega
      refine ⟨g, rfl, ?_, GW.out.trans HExt.out⟩
      rw [HPr.out]
      have := HOwn.out
      rw [hkn] at this
      exact this.mono GW.out.size

end Go.Proofs.Ytcocbainookkcaa

/-
  Contracts: choices of pairs, blades, products of lists of multivectors, in the program.
  No condition.
-/
namespace Go.Proofs.Ytcocbainookkcaa
set_option maxRecDepth 100000
open Go.RowKit

/-! ### The choices of pairs -/
set_option maxHeartbeats 400000 in
theorem c_anyPair (i j : Nat) (w : World) (_hi : i < 64) (_hj : j < 64) :
    Calls Try.prog 126 #[.int .i64 i, .int .i64 j] w fun e w' => e = .returned (.bool (tkA i j)) ∧ Ext w w' := by
  go_enter Try.func126, Try.ntmps126
  go_wp2
  go_ret
  exact ⟨rfl, Ext.refl _⟩
theorem andn_ab (a b : Nat) (ha : a < 64) (hb : b < 64) : (bits BinOp.andNot IntKind.i64 (a : Int) (b : Int) == 0) = tkL a b := by
  have : ∀ a : Nat, a < 64 → ∀ b : Nat, b < 64 → (bits BinOp.andNot IntKind.i64 (a : Int) (b : Int) == 0) = tkL a b := by decide +kernel
  exact this a ha b hb
theorem andn_ba (a b : Nat) (ha : a < 64) (hb : b < 64) : (bits BinOp.andNot IntKind.i64 (b : Int) (a : Int) == 0) = tkR a b := by
  have : ∀ a : Nat, a < 64 → ∀ b : Nat, b < 64 → (bits BinOp.andNot IntKind.i64 (b : Int) (a : Int) == 0) = tkR a b := by decide +kernel
  exact this a ha b hb

/-! ### Blades -/
def bladeL (N m : Nat) : List Int := (List.replicate N 0).set m 1
theorem bladeL_len (N m : Nat) : (bladeL N m).length = N := by simp [bladeL]
theorem bladeL_nth {N m i : Nat} (hm : m < N) (hi : i < N) : nth (bladeL N m) i = if m = i then 1 else 0 := by
  unfold bladeL
  rw [nth_set (by simpa using hm)]
  split
  · rfl
  · exact nth_replicate hi
theorem blade_good {p : Int} {N m : Nat} (hp : 3 ≤ p) : Good p N (bladeL N m) := good_set (good_zero (by omega)) (by omega) (by omega)

set_option maxHeartbeats 400000 in
theorem c_blade (p : Int) (a : Option Addr) (d cap : Nat) (m : Nat) (w : World) (hd : d ≤ 6) (hm : m < 2 ^ d) :
    Calls Try.prog 135 #[.agg #[.int .i64 p, .slice a d cap], .int .i64 m] w fun e w' => ∃ g, e = .returned (.slice (some ⟨g, 0, none⟩) (2 ^ d) (2 ^ d)) ∧ OwnC w.heap.size w' (some ⟨g, 0, none⟩) (2 ^ d) (2 ^ d) (bladeL (2 ^ d) m) ∧ Ext w w' := by
  have hN := pow_le64 hd
  obtain ⟨N, hN'⟩ : ∃ N, N = 2 ^ d := ⟨_, rfl⟩
  have HN := Lib.hid hN'
  rw [← hN'] at hN hm ⊢
  clear hN'
  go_enter Try.func135, Try.ntmps135
  go_wp2_with (fail)
  have Hno := c_nothing p a d cap (w.alloc (.cells #[.int .i64 p, .slice a d cap] 26)) hd
  rw [← HN.out] at Hno
  refine Hno.mono ?_
  rintro e w1 ⟨g, rfl, ho, g1⟩
  have HO := Lib.hid ho
  have G1 := Lib.hid g1
  have ec := ho.cell hm
  have ef := ho.frozen m
  have hg := ho.base_le
  simp only [World.size_alloc] at hg
  have hmN : (m : Int) < N := by omega
  clear Hno ho g1
  go_wp2_with (fail)
  go_ret
  exact ⟨g, rfl, (HO.out.store hm _).mono (by simp), ((ext_alloc _ _).trans G1.out).setCell (by simp; omega) _⟩

set_option maxHeartbeats 400000 in
theorem c_one (p : Int) (a : Option Addr) (d cap : Nat) (w : World) (hd : d ≤ 6) :
    Calls Try.prog 96 #[.agg #[.int .i64 p, .slice a d cap]] w fun e w' => ∃ g, e = .returned (.slice (some ⟨g, 0, none⟩) (2 ^ d) (2 ^ d)) ∧ OwnC w.heap.size w' (some ⟨g, 0, none⟩) (2 ^ d) (2 ^ d) (bladeL (2 ^ d) 0) ∧ Ext w w' := by
  go_enter Try.func96, Try.ntmps96
  go_wp2_with (go_at_call 135; refine (c_blade p a d cap 0 _ hd (Nat.pos_of_ne_zero (by simp))).mono ?_; rintro e w1 ⟨g, rfl, ho, g1⟩)
  go_ret
  exact ⟨g, rfl, ho.mono (by simp), (ext_alloc _ _).trans g1⟩

/-! ### 1 is neutral -/
theorem popc_zero : popc 0 = 0 := by decide
theorem facS_zero (p : Int) (qs : List Int) (b : Nat) (k : Nat) : facS p qs 0 b k = (0, 1) := by
  induction k with
  | zero => rfl
  | succ k ih =>
    cases hb : b.testBit k with
    | false => rw [facS_no hb, ih]
    | true => rw [facS_one hb (by simp), ih]; simp [popc_zero]
theorem fac_zero (p : Int) (qs : List Int) (b : Nat) : fac p qs 0 b = 1 := by simp [fac, facS_zero, sgn]

theorem inP_first {p : Int} {f : Nat → Nat → Int} {x y : List Int} {N : Nat} (hy : Good p N y) (hx : nth x 0 = 1) (hf : ∀ b, f 0 b = 1) : ∀ b, b ≤ N →
    (inP p f tkA x y 0 b (List.replicate N 0)).length = N ∧ ∀ i, i < N → nth (inP p f tkA x y 0 b (List.replicate N 0)) i = if i < b then nth y i else 0
  | 0, _ => ⟨by simp [inP], fun i hi => by simp [inP, nth_replicate hi]⟩
  | b + 1, hb => by
    obtain ⟨ih1, ih2⟩ := inP_first hy hx hf b (by omega)
    unfold inP
    rw [stepP_yes rfl, Nat.zero_xor, hx, hf, ih2 b (by omega), if_neg (by omega)]
    have hyb := hy.2 b (by omega)
    have e : (0 + 1 * nth y b * 1) % p = nth y b := by rw [Int.one_mul, Int.mul_one, Int.zero_add, Int.emod_eq_of_lt hyb.1 hyb.2]
    rw [e]
    refine ⟨by simpa using ih1, fun i hi => ?_⟩
    rw [nth_set (by omega)]
    by_cases h : b = i
    · subst h; simp
    · rw [if_neg h, ih2 i hi]
      by_cases h2 : i < b
      · rw [if_pos h2, if_pos (by omega)]
      · rw [if_neg h2, if_neg (by omega)]
theorem outP_rest {p : Int} {f : Nat → Nat → Int} {tk : Nat → Nat → Bool} {x y : List Int} {N d : Nat} (hp : 1 ≤ p) (hN : N = 2 ^ d) (hx : ∀ a, 0 < a → a < N → nth x a = 0) : ∀ a, 1 ≤ a → a ≤ N → outP p f tk x y N a = outP p f tk x y N 1
  | 0, h, _ => by omega
  | 1, _, _ => rfl
  | a + 2, _, ha => by
    have ih := outP_rest (f := f) (tk := tk) (y := y) hp hN hx (a + 1) (by omega) (by omega)
    rw [← ih]
    show inP p f tk x y (a + 1) N (outP p f tk x y N (a + 1)) = _
    exact inP_zero (d := d) hp hN (by omega) (outP_good hp (a + 1)) (hx (a + 1) (by omega) (by omega)) N (Nat.le_refl _)
theorem one_times {p : Int} {qs : List Int} {y : List Int} (hp : 3 ≤ p) (hy : Good p (2 ^ qs.length) y) : prodL p qs tkA (bladeL (2 ^ qs.length) 0) y = y := by
  have hN : 0 < 2 ^ qs.length := Nat.pos_of_ne_zero (by simp)
  unfold prodL
  rw [outP_rest (d := qs.length) (by omega) rfl (fun a h1 h2 => by rw [bladeL_nth hN h2, if_neg (by omega)]) _ hN (Nat.le_refl _)]
  show inP p (fac p qs) tkA _ y 0 (2 ^ qs.length) (List.replicate _ 0) = y
  obtain ⟨h1, h2⟩ := inP_first (f := fac p qs) (x := bladeL (2 ^ qs.length) 0) hy (by rw [bladeL_nth hN hN, if_pos rfl]) (fac_zero p qs) (2 ^ qs.length) (Nat.le_refl _)
  refine ext_nth (by rw [h1, hy.1]) (fun i hi => ?_)
  rw [h1] at hi
  rw [h2 i hi, if_pos hi]

theorem prod_good {p : Int} {qs x y : List Int} {tk : Nat → Nat → Bool} (hp : 1 ≤ p) : Good p (2 ^ qs.length) (prodL p qs tk x y) := outP_good hp _

/-! ### Products of lists -/
def timesL (p : Int) (qs : List Int) (rows : List (List Int)) : List Int := rows.foldl (fun o x => prodL p qs tkA o x) (bladeL (2 ^ qs.length) 0)
theorem timesL_good {p : Int} {qs : List Int} (hp : 3 ≤ p) (rows : List (List Int)) : Good p (2 ^ qs.length) (timesL p qs rows) := by
  rcases List.eq_nil_or_concat rows with rfl | ⟨l, x, rfl⟩
  · exact blade_good hp
  · unfold timesL
    rw [List.concat_eq_append, List.foldl_append]
    exact prod_good (by omega)
theorem timesL_snoc {p : Int} {qs : List Int} (rows : List (List Int)) (x : List Int) : timesL p qs (rows ++ [x]) = prodL p qs tkA (timesL p qs rows) x := by
  unfold timesL; rw [List.foldl_append]; rfl
theorem timesL_two {p : Int} {qs x y : List Int} (hp : 3 ≤ p) (hx : Good p (2 ^ qs.length) x) : timesL p qs [x, y] = prodL p qs tkA x y := by
  show prodL p qs tkA (prodL p qs tkA (bladeL (2 ^ qs.length) 0) x) y = _
  rw [one_times hp hx]
theorem take_snocR (rows : List (List Int)) (k : Nat) (h : k < rows.length) : rows.take (k + 1) = rows.take k ++ [nthR rows k] := by
  rw [List.take_succ_eq_append_getElem h, nthR_eq h]

set_option maxHeartbeats 1000000 in
theorem c_times (p : Int) (a : Option Addr) (d cap : Nat) (qs : List Int) (al : Option Addr) (n cl : Nat) (rows : List (List Int)) (w : World) (hd : d ≤ 6) (hp1 : 3 ≤ p) (hp2 : p ≤ 1000) (hl : n ≤ 4194304) (hq : RdC w a d qs) (hqb : isB p qs = true)
    (hx : RdR w al n rows) (hr : ∀ i, i < n → Good p (2 ^ d) (nthR rows i)) :
    Calls Try.prog 83 #[.agg #[.int .i64 p, .slice a d cap], .slice al n cl] w fun e w' => ∃ g, e = .returned (.slice (some ⟨g, 0, none⟩) (2 ^ d) (2 ^ d)) ∧ OwnC w.heap.size w' (some ⟨g, 0, none⟩) (2 ^ d) (2 ^ d) (timesL p qs rows) ∧ Ext w w' := by
  have HL := Lib.hid hx.1
  have HR := Lib.hid hx.2
  have HG := Lib.hid hr
  have HQ := Lib.hid hq
  have HQB := Lib.hid hqb
  clear hx hr hq hqb
  obtain ⟨W, hW⟩ : ∃ W, W = w.alloc (.cells #[.int .i64 p, .slice a d cap] 26) := ⟨_, rfl⟩
  have gW : Ext w W := by rw [hW]; exact ext_alloc _ _
  have hs0 : W.cell? ⟨w.heap.size, 0, none⟩ = some (.int .i64 p) := by rw [hW]; simp
  have hs1 : W.cell? ⟨w.heap.size, 1, none⟩ = some (.slice a d cap) := by rw [hW]; simp
  have HS0 := Lib.hid hs0
  have HS1 := Lib.hid hs1
  have GW := Lib.hid gW
  have HW := Lib.hid hW
  clear hs0 hs1 gW hW
  go_enter Try.func83, Try.ntmps83
  go_wp2_with (fail)
  rw [← HW.out]
  refine (c_one p a d cap W hd).mono ?_
  rintro e w1 ⟨g, rfl, ho, g1⟩
  have HO := Lib.hid ho
  have G1 := Lib.hid g1
  clear ho g1
  go_wp2_with (fail)
  go_loopw [5, 12] (fun v i wr => ∃ (k g : Nat), k ≤ n ∧ i = .int .i64 k ∧ v = .slice (some ⟨g, 0, none⟩) (2 ^ d) (2 ^ d) ∧ OwnC W.heap.size wr (some ⟨g, 0, none⟩) (2 ^ d) (2 ^ d) (timesL p qs (rows.take k)) ∧ Ext W wr) (fun _ i _ => n - (intOf i).toNat)
  case atStart => exact ⟨0, g, Nat.zero_le _, rfl, rfl, by have := HO.out; rw [← HQ.out.1] at this ⊢; exact this, G1.out⟩
  case round =>
    obtain ⟨k, g', hk, rfl, rfl, hown, hext⟩ := hrel
    have HOwn := Lib.hid hown
    have HExt := Lib.hid hext
    clear hown hext
    by_cases hlt : k < n
    · obtain ⟨b, off, ai, ci, rfl, hc, hrow⟩ := HR.out k hlt
      have hgk := HG.out k hlt
      rw [hgk.1] at hc hrow
      have hck := (GW.out.trans HExt.out).cell hc
      have Hrow := Lib.hid (hrow.ext (GW.out.trans HExt.out))
      have Hgk := Lib.hid hgk
      have hq0 := HExt.out.cell HS0.out
      have hq1 := HExt.out.cell HS1.out
      have Hgood := Lib.hid (timesL_good (qs := qs) hp1 (rows.take k))
      have HQd := Lib.hid HQ.out.1
      clear hc hrow hgk
      go_wp2_with (fail)
      refine (c_product p a d cap qs _ _ _ _ (timesL p qs (rows.take k)) (nthR rows k) 126 tkA wr hd hp1 hp2 (HQ.out.ext (GW.out.trans HExt.out)) HQB.out HOwn.out.rd Hrow.out (by have := Hgood.out; rw [HQd.out] at this; exact this.isB) Hgk.out.isB ?_ (fun i j w hi hj => c_anyPair i j w hi hj)).mono ?_
      · intro args w; go_simp
      rintro e w2 ⟨g2, rfl, ho2, x2⟩
      have HO2 := Lib.hid ho2
      have X2 := Lib.hid x2
      clear ho2 x2 hq0 hq1
      go_wp2_with (fail)
      go_roundw
      case rel => exact ⟨k + 1, g2, by omega, by go_num, rfl, by rw [take_snocR _ _ (by rw [HL.out]; exact hlt), timesL_snoc]; exact HO2.out.mono HExt.out.size, HExt.out.trans X2.out⟩
      case measure => simp [intOf]; omega
    · go_wp2_with (fail)
      go_ret
      refine ⟨g', rfl, ?_, GW.out.trans HExt.out⟩
      have := HOwn.out
      rw [List.take_of_length_le (by rw [HL.out]; omega)] at this
      exact this.mono GW.out.size


end Go.Proofs.Ytcocbainookkcaa

/-
  The geometric product in plain numbers: a formula for its coefficients, associativity, sums, multiples.
  No condition. No program in sight.
-/
namespace Go.Proofs.Ytcocbainookkcaa
set_option maxRecDepth 100000
open Go.RowKit

/-! ### Sums -/
def sumN : Nat → (Nat → Int) → Int
  | 0, _ => 0
  | n + 1, g => sumN n g + g n
theorem sumN_congr {n : Nat} {f g : Nat → Int} (h : ∀ i, i < n → f i = g i) : sumN n f = sumN n g := by
  induction n with
  | zero => rfl
  | succ n ih => simp only [sumN]; rw [ih (fun i hi => h i (by omega)), h n (by omega)]
theorem sumN_zero {n : Nat} {f : Nat → Int} (h : ∀ i, i < n → f i = 0) : sumN n f = 0 := by
  induction n with
  | zero => rfl
  | succ n ih => simp only [sumN]; rw [ih (fun i hi => h i (by omega)), h n (by omega)]; rfl
theorem sumN_add (n : Nat) (f g : Nat → Int) : sumN n (fun i => f i + g i) = sumN n f + sumN n g := by
  induction n with
  | zero => rfl
  | succ n ih => simp only [sumN]; rw [ih]; omega
theorem sumN_mul (n : Nat) (c : Int) (f : Nat → Int) : sumN n (fun i => c * f i) = c * sumN n f := by
  induction n with
  | zero => simp [sumN]
  | succ n ih => simp only [sumN]; rw [ih, Int.mul_add]
theorem sumN_mulr (n : Nat) (c : Int) (f : Nat → Int) : sumN n (fun i => f i * c) = sumN n f * c := by
  induction n with
  | zero => simp [sumN]
  | succ n ih => simp only [sumN]; rw [ih, Int.add_mul]
theorem sumN_swap (n m : Nat) (f : Nat → Nat → Int) : sumN n (fun i => sumN m (fun j => f i j)) = sumN m (fun j => sumN n (fun i => f i j)) := by
  induction n with
  | zero => simp only [sumN]; exact (sumN_zero (fun _ _ => rfl)).symm
  | succ n ih => simp only [sumN]; rw [ih, ← sumN_add]
theorem sumN_single {n : Nat} {f : Nat → Int} {k : Nat} (hk : k < n) (h : ∀ i, i < n → i ≠ k → f i = 0) : sumN n f = f k := by
  induction n with
  | zero => omega
  | succ n ih =>
    simp only [sumN]
    by_cases hkn : k = n
    · subst hkn
      rw [sumN_zero (fun i hi => h i (by omega) (by omega))]; omega
    · rw [ih (by omega) (fun i hi hne => h i (by omega) hne), h n (by omega) (by omega)]; omega
theorem sumN_emod {p : Int} {n : Nat} {f g : Nat → Int} (h : ∀ i, i < n → f i % p = g i % p) : sumN n f % p = sumN n g % p := by
  induction n with
  | zero => rfl
  | succ n ih =>
    simp only [sumN]
    rw [Int.add_emod, ih (fun i hi => h i (by omega)), h n (by omega), ← Int.add_emod]
theorem mul_emod_congr {p a b c d : Int} (h : a % p = b % p) (h' : c % p = d % p) : (a * c) % p = (b * d) % p := by
  rw [Int.mul_emod, h, h', ← Int.mul_emod]

def sumL (l : List Nat) (g : Nat → Int) : Int := l.foldr (fun i s => g i + s) 0
theorem sumL_cons (a : Nat) (l : List Nat) (g : Nat → Int) : sumL (a :: l) g = g a + sumL l g := rfl
theorem sumL_snoc (l : List Nat) (i : Nat) (g : Nat → Int) : sumL (l ++ [i]) g = sumL l g + g i := by
  induction l with
  | nil => simp [sumL]
  | cons a l ih =>
    rw [List.cons_append, sumL_cons, ih, sumL_cons]; omega
theorem sumN_range (n : Nat) (g : Nat → Int) : sumN n g = sumL (List.range n) g := by
  induction n with
  | zero => rfl
  | succ n ih => rw [List.range_succ, sumL_snoc, ← ih]; rfl
theorem sumL_perm {l l' : List Nat} (h : l.Perm l') (g : Nat → Int) : sumL l g = sumL l' g := by
  induction h with
  | nil => rfl
  | cons x _ ih => rw [sumL_cons, sumL_cons, ih]
  | swap x y l => rw [sumL_cons, sumL_cons, sumL_cons, sumL_cons]; omega
  | trans _ _ ih1 ih2 => rw [ih1, ih2]
theorem sumL_map (l : List Nat) (f : Nat → Nat) (g : Nat → Int) : sumL (l.map f) g = sumL l (fun i => g (f i)) := by
  induction l with
  | nil => rfl
  | cons a l ih => rw [List.map_cons, sumL_cons, sumL_cons, ih]
theorem xor_perm : ∀ d : Nat, d < 7 → ∀ a : Nat, a < 2 ^ d → ((List.range (2 ^ d)).map (fun m => a ^^^ m)).isPerm (List.range (2 ^ d)) = true := by decide +kernel
theorem sumN_xor {d a : Nat} (hd : d ≤ 6) (ha : a < 2 ^ d) (g : Nat → Int) : sumN (2 ^ d) (fun m => g (a ^^^ m)) = sumN (2 ^ d) g := by
  have h := List.isPerm_iff.1 (xor_perm d (by omega) a ha)
  rw [sumN_range, sumN_range]
  exact (sumL_map _ _ _).symm.trans (sumL_perm h g)

/-! ### The coefficients of a product -/
theorem inP_nth {p : Int} {f : Nat → Nat → Int} {tk : Nat → Nat → Bool} {x y : List Int} {d a : Nat} {out : List Int} (hp : 1 ≤ p) (ha : a < 2 ^ d) (ho : Good p (2 ^ d) out) {k : Nat} (hk : k < 2 ^ d) :
    ∀ b, b ≤ 2 ^ d → nth (inP p f tk x y a b out) k = (nth out k + sumN b (fun j => if (tk a j && (a ^^^ j == k)) = true then nth x a * nth y j * f a j else 0)) % p
  | 0, _ => by
    have := ho.2 k hk
    simp only [inP, sumN, Int.add_zero]
    rw [Int.emod_eq_of_lt this.1 this.2]
  | b + 1, hb => by
    have ih := inP_nth (f := f) (tk := tk) (x := x) (y := y) hp ha ho hk b (by omega)
    have hg := inP_good (f := f) (tk := tk) (x := x) (y := y) (a := a) hp ho b
    have hc : a ^^^ b < 2 ^ d := Nat.xor_lt_two_pow ha (by omega)
    simp only [inP, sumN]
    cases ht : tk a b
    · rw [stepP_not ht, ih]; simp
    · rw [stepP_yes ht, nth_set (by rw [hg.1]; exact hc)]
      by_cases hab : a ^^^ b = k
      · rw [if_pos hab, hab, ih]
        simp only [BEq.rfl, Bool.and_self, if_true]
        rw [Int.emod_add_emod, Int.add_assoc]
      · rw [if_neg hab, ih]
        simp [hab]
theorem outP_nth {p : Int} {f : Nat → Nat → Int} {tk : Nat → Nat → Bool} {x y : List Int} {d : Nat} (hp : 1 ≤ p) {k : Nat} (hk : k < 2 ^ d) :
    ∀ a, a ≤ 2 ^ d → nth (outP p f tk x y (2 ^ d) a) k = (sumN a fun i => sumN (2 ^ d) fun j => if (tk i j && (i ^^^ j == k)) = true then nth x i * nth y j * f i j else 0) % p
  | 0, _ => by simp [outP, sumN, nth_replicate hk]
  | a + 1, ha => by
    have ih := outP_nth (f := f) (tk := tk) (x := x) (y := y) hp hk a (by omega)
    simp only [outP, sumN]
    rw [inP_nth hp (by omega) (outP_good hp a) hk _ (Nat.le_refl _), ih, Int.emod_add_emod]
theorem prod_nth {p : Int} {qs : List Int} {tk : Nat → Nat → Bool} {x y : List Int} (hp : 1 ≤ p) {k : Nat} (hk : k < 2 ^ qs.length) :
    nth (prodL p qs tk x y) k = (sumN (2 ^ qs.length) fun i => sumN (2 ^ qs.length) fun j => if (tk i j && (i ^^^ j == k)) = true then nth x i * nth y j * fac p qs i j else 0) % p :=
  outP_nth hp hk _ (Nat.le_refl _)
theorem xor_eq_iff {a b k : Nat} : a ^^^ b = k ↔ b = a ^^^ k := by
  constructor
  · rintro rfl; rw [← Nat.xor_assoc, Nat.xor_self, Nat.zero_xor]
  · rintro rfl; rw [← Nat.xor_assoc, Nat.xor_self, Nat.zero_xor]
/-- One sum: the pairs of a blade i and the blade that leads to k. -/
theorem prod_nth1 {p : Int} {qs : List Int} {tk : Nat → Nat → Bool} {x y : List Int} (hp : 1 ≤ p) {k : Nat} (hk : k < 2 ^ qs.length) :
    nth (prodL p qs tk x y) k = (sumN (2 ^ qs.length) fun i => if tk i (i ^^^ k) = true then nth x i * nth y (i ^^^ k) * fac p qs i (i ^^^ k) else 0) % p := by
  rw [prod_nth hp hk]
  congr 1
  refine sumN_congr fun i hi => ?_
  rw [sumN_single (k := i ^^^ k) (Nat.xor_lt_two_pow hi hk) (fun j _ hne => by
    have : ¬ i ^^^ j = k := fun h => hne (xor_eq_iff.1 h)
    simp [this])]
  have : i ^^^ (i ^^^ k) = k := by rw [← Nat.xor_assoc, Nat.xor_self, Nat.zero_xor]
  simp [this]

/-! ### The factor over the integers -/
def sgZ (a k : Nat) : Int := if popc (a >>> (k + 1)) % 2 = 1 then -1 else 1
def stZ (qs : List Int) (a b k : Nat) : Int := if b.testBit k then (if a.testBit k then sgZ a k * nth qs k else sgZ a k) else 1
def facZ (qs : List Int) (a b : Nat) : Nat → Int
  | 0 => 1
  | k + 1 => facZ qs a b k * stZ qs a b k
theorem sgn_emod {p o o' : Int} {s : Nat} (h : o % p = o' % p) : sgn p s o % p = ((if s % 2 = 1 then -1 else 1) * o') % p := by
  unfold sgn
  split
  · rw [Int.emod_emod, show -o = -1 * o by omega]
    exact mul_emod_congr rfl h
  · rw [Int.one_mul]; exact h
theorem fac_emod_k {p : Int} {qs : List Int} {a b : Nat} (k : Nat) : sgn p (facS p qs a b k).1 (facS p qs a b k).2 % p = facZ qs a b k % p := by
  induction k with
  | zero => simp [facS, facZ, sgn]
  | succ k ih =>
    have h1 := sgn_emod (p := p) (s := (facS p qs a b k).1) (o := (facS p qs a b k).2) rfl
    rw [h1] at ih
    cases hb : b.testBit k
    · rw [facS_no hb]
      simp only [facZ, stZ, hb]
      rw [h1, ih]; simp
    · have hsg : ∀ s t : Nat, (if (s + t) % 2 = 1 then (-1 : Int) else 1) = (if s % 2 = 1 then -1 else 1) * (if t % 2 = 1 then -1 else 1) := by
        intro s t
        have : s % 2 = 0 ∨ s % 2 = 1 := by omega
        have : t % 2 = 0 ∨ t % 2 = 1 := by omega
        rcases ‹s % 2 = 0 ∨ s % 2 = 1› with h | h <;> rcases ‹t % 2 = 0 ∨ t % 2 = 1› with h' | h'
        · have : (s + t) % 2 = 0 := by omega
          simp [h, h', this]
        · have : (s + t) % 2 = 1 := by omega
          simp [h, h', this]
        · have : (s + t) % 2 = 1 := by omega
          simp [h, h', this]
        · have : (s + t) % 2 = 0 := by omega
          simp [h, h', this]
      cases ha : a.testBit k
      · rw [facS_one hb ha]
        simp only [facZ, stZ, hb, ha, if_true, sgZ]
        rw [sgn_emod rfl, hsg, Int.mul_right_comm]
        exact mul_emod_congr ih rfl
      · rw [facS_two hb ha]
        simp only [facZ, stZ, hb, ha, if_true, sgZ]
        rw [sgn_emod (o' := (facS p qs a b k).2 * nth qs k) (by rw [Int.emod_emod]), hsg, show ∀ u v x y : Int, (u * v) * (x * y) = (u * x) * (v * y) from fun u v x y => by ac_rfl]
        exact mul_emod_congr ih rfl
theorem fac_emod {p : Int} {qs : List Int} {a b : Nat} : fac p qs a b % p = facZ qs a b qs.length % p := fac_emod_k _

theorem sgZ_xor (a b k : Nat) (ha : a < 64) (hb : b < 64) (hk : k < 6) : sgZ (a ^^^ b) k = sgZ a k * sgZ b k := by
  have : ∀ k : Nat, k < 6 → ∀ a : Nat, a < 64 → ∀ b : Nat, b < 64 → sgZ (a ^^^ b) k = sgZ a k * sgZ b k := by decide +kernel
  exact this k hk a ha b hb
theorem sgZ_sq (a k : Nat) : sgZ a k * sgZ a k = 1 := by unfold sgZ; split <;> rfl
theorem stZ_cocycle {qs : List Int} {a b c k : Nat} (ha : a < 64) (hb : b < 64) (hk : k < 6) : stZ qs a b k * stZ qs (a ^^^ b) c k = stZ qs b c k * stZ qs a (b ^^^ c) k := by
  have hs := sgZ_xor a b k ha hb hk
  have h2 := sgZ_sq a k
  unfold stZ
  rw [hs]
  simp only [Nat.testBit_xor]
  cases a.testBit k <;> cases b.testBit k <;> cases c.testBit k <;> simp
  · exact Int.mul_comm _ _
  · rw [show sgZ a k * (sgZ a k * sgZ b k * nth qs k) = (sgZ a k * sgZ a k) * (sgZ b k * nth qs k) by ac_rfl, h2, Int.one_mul]
  · ac_rfl
  · rw [show sgZ a k * nth qs k * (sgZ a k * sgZ b k) = (sgZ a k * sgZ a k) * (sgZ b k * nth qs k) by ac_rfl, h2, Int.one_mul]
theorem facZ_cocycle {qs : List Int} {a b c : Nat} (ha : a < 64) (hb : b < 64) : ∀ k, k ≤ 6 → facZ qs a b k * facZ qs (a ^^^ b) c k = facZ qs b c k * facZ qs a (b ^^^ c) k
  | 0, _ => rfl
  | k + 1, hk => by
    have ih := facZ_cocycle (qs := qs) (c := c) ha hb k (by omega)
    have hs := stZ_cocycle (qs := qs) (c := c) ha hb (show k < 6 by omega)
    simp only [facZ]
    rw [show facZ qs a b k * stZ qs a b k * (facZ qs (a ^^^ b) c k * stZ qs (a ^^^ b) c k) = (facZ qs a b k * facZ qs (a ^^^ b) c k) * (stZ qs a b k * stZ qs (a ^^^ b) c k) by ac_rfl, ih, hs]
    ac_rfl

/-! ### The geometric product -/
/-- The coefficient with the factor over the integers. -/
theorem prodA_nth {p : Int} {qs x y : List Int} (hp : 1 ≤ p) {k : Nat} (hk : k < 2 ^ qs.length) :
    nth (prodL p qs tkA x y) k = (sumN (2 ^ qs.length) fun i => nth x i * nth y (i ^^^ k) * facZ qs i (i ^^^ k) qs.length) % p := by
  rw [prod_nth1 hp hk]
  refine sumN_emod fun i hi => ?_
  simp only [tkA, if_true]
  exact mul_emod_congr rfl fac_emod
theorem xor_cancel (a m k : Nat) : a ^^^ m ^^^ (a ^^^ k) = m ^^^ k := by
  rw [Nat.xor_comm a m, Nat.xor_assoc, ← Nat.xor_assoc a a k, Nat.xor_self, Nat.zero_xor]
theorem prod_assoc {p : Int} {qs x y z : List Int} (hp : 1 ≤ p) (hd : qs.length ≤ 6) : prodL p qs tkA (prodL p qs tkA x y) z = prodL p qs tkA x (prodL p qs tkA y z) := by
  have hN := pow_le64 hd
  refine ext_nth (by rw [(prod_good hp).1, (prod_good hp).1]) fun k hk => ?_
  rw [(prod_good hp).1] at hk
  rw [prodA_nth hp hk, prodA_nth hp hk]
  have e1 : ∀ m, m < 2 ^ qs.length → (nth (prodL p qs tkA x y) m * nth z (m ^^^ k) * facZ qs m (m ^^^ k) qs.length) % p =
      (sumN (2 ^ qs.length) fun a => nth x a * nth y (a ^^^ m) * facZ qs a (a ^^^ m) qs.length * (nth z (m ^^^ k) * facZ qs m (m ^^^ k) qs.length)) % p := fun m hm => by
    rw [prodA_nth hp hm, sumN_mulr, Int.mul_assoc]
    exact mul_emod_congr (Int.emod_emod _ _) rfl
  have e2 : ∀ a, a < 2 ^ qs.length → (nth x a * nth (prodL p qs tkA y z) (a ^^^ k) * facZ qs a (a ^^^ k) qs.length) % p =
      (sumN (2 ^ qs.length) fun m => nth x a * nth y (a ^^^ m) * facZ qs a (a ^^^ m) qs.length * (nth z (m ^^^ k) * facZ qs m (m ^^^ k) qs.length)) % p := fun a ha => by
    rw [prodA_nth hp (Nat.xor_lt_two_pow ha hk), ← sumN_xor hd ha]
    have : (nth x a * ((sumN (2 ^ qs.length) fun m => nth y (a ^^^ m) * nth z (a ^^^ m ^^^ (a ^^^ k)) * facZ qs (a ^^^ m) (a ^^^ m ^^^ (a ^^^ k)) qs.length) % p) * facZ qs a (a ^^^ k) qs.length) % p =
        (nth x a * (sumN (2 ^ qs.length) fun m => nth y (a ^^^ m) * nth z (a ^^^ m ^^^ (a ^^^ k)) * facZ qs (a ^^^ m) (a ^^^ m ^^^ (a ^^^ k)) qs.length) * facZ qs a (a ^^^ k) qs.length) % p :=
      mul_emod_congr (mul_emod_congr rfl (Int.emod_emod _ _)) rfl
    rw [this, ← sumN_mul, ← sumN_mulr]
    congr 1
    refine sumN_congr fun m hm => ?_
    rw [xor_cancel]
    have hc := facZ_cocycle (qs := qs) (a := a) (b := a ^^^ m) (c := m ^^^ k) (by omega) (Nat.lt_of_lt_of_le (Nat.xor_lt_two_pow ha hm) hN) qs.length hd
    rw [show a ^^^ (a ^^^ m) = m by rw [← Nat.xor_assoc, Nat.xor_self, Nat.zero_xor], show a ^^^ m ^^^ (m ^^^ k) = a ^^^ k by rw [Nat.xor_assoc, ← Nat.xor_assoc m m k, Nat.xor_self, Nat.zero_xor]] at hc
    rw [show nth x a * nth y (a ^^^ m) * facZ qs a (a ^^^ m) qs.length * (nth z (m ^^^ k) * facZ qs m (m ^^^ k) qs.length) = nth x a * nth y (a ^^^ m) * nth z (m ^^^ k) * (facZ qs a (a ^^^ m) qs.length * facZ qs m (m ^^^ k) qs.length) by ac_rfl, hc]
    ac_rfl
  rw [sumN_emod e1, sumN_emod e2, sumN_swap]

theorem fac_right {p : Int} {qs : List Int} {a : Nat} : fac p qs a 0 = 1 := by
  have : ∀ k, facS p qs a 0 k = (0, 1) := fun k => by
    induction k with
    | zero => rfl
    | succ k ih => rw [facS_no (by simp), ih]
  simp [fac, this, sgn]
theorem times_one {p : Int} {qs x : List Int} (hp : 1 ≤ p) (hx : Good p (2 ^ qs.length) x) : prodL p qs tkA x (bladeL (2 ^ qs.length) 0) = x := by
  have hN : 0 < 2 ^ qs.length := Nat.pos_of_ne_zero (by simp)
  refine ext_nth (by rw [(prod_good hp).1, hx.1]) fun k hk => ?_
  rw [(prod_good hp).1] at hk
  rw [prod_nth1 hp hk, sumN_single hk (fun i hi hne => by
    have : ¬ 0 = i ^^^ k := fun h => hne (by have := xor_eq_iff.1 h.symm; simpa using this.symm)
    simp [tkA, bladeL_nth hN (Nat.xor_lt_two_pow hi hk), this])]
  rw [Nat.xor_self, fac_right, bladeL_nth hN hN]
  simp only [tkA, if_true, Int.mul_one]
  have := hx.2 k hk
  exact Int.emod_eq_of_lt this.1 this.2

/-! ### Powers -/
def powL (p : Int) (qs x : List Int) : Nat → List Int
  | 0 => bladeL (2 ^ qs.length) 0
  | k + 1 => prodL p qs tkA (powL p qs x k) x
theorem pow_good {p : Int} {qs x : List Int} (hp : 3 ≤ p) : ∀ k, Good p (2 ^ qs.length) (powL p qs x k)
  | 0 => blade_good hp
  | k + 1 => prod_good (by omega)
theorem pow_one {p : Int} {qs x : List Int} (hp : 3 ≤ p) (hx : Good p (2 ^ qs.length) x) : powL p qs x 1 = x := one_times hp hx
theorem pow_add {p : Int} {qs x : List Int} (hp : 3 ≤ p) (hd : qs.length ≤ 6) (m : Nat) : ∀ n, prodL p qs tkA (powL p qs x m) (powL p qs x n) = powL p qs x (m + n)
  | 0 => times_one (by omega) (pow_good hp m)
  | n + 1 => by
    show prodL p qs tkA (powL p qs x m) (prodL p qs tkA (powL p qs x n) x) = prodL p qs tkA (powL p qs x (m + n)) x
    rw [← prod_assoc (by omega) hd, pow_add hp hd m n]
end Go.Proofs.Ytcocbainookkcaa

/-
  The pseudoscalar, its square; 0 and 1 in the reference.
  No condition.
-/
namespace Go.Proofs.Ytcocbainookkcaa
set_option maxRecDepth 100000
open Go.RowKit

/-- A row of numbers of the call's own, that begins a block. -/
def SPred.ownG (B n : Nat) (xs : List Int) : SPred := ⟨fun v w => ∃ g, v = .slice (some ⟨g, 0, none⟩) n n ∧ OwnC B w (some ⟨g, 0, none⟩) n n xs, fun _ _ _ ⟨g, hv, h⟩ he => ⟨g, hv, h.ext he⟩⟩
/-- A row of numbers of the call's own, that begins a block, with room behind it. -/
def SPred.ownS (B n : Nat) (xs : List Int) : SPred := ⟨fun v w => ∃ g cap, v = .slice (some ⟨g, 0, none⟩) n cap ∧ OwnC B w (some ⟨g, 0, none⟩) n cap xs, fun _ _ _ ⟨g, cap, hv, h⟩ he => ⟨g, cap, hv, h.ext he⟩⟩
/-- A row of rows. -/
def SPred.rows (n : Nat) (rows : List (List Int)) : SPred := ⟨fun v w => ∃ g, v = .slice (some ⟨g, 0, none⟩) n n ∧ RdR w (some ⟨g, 0, none⟩) n rows, fun _ _ _ ⟨g, hv, h⟩ he => ⟨g, hv, h.ext he⟩⟩
/-- A cell with a number. -/
def SPred.cell (x : Int) : SPred := ⟨fun v w => ∃ b off, v = .pointer (some ⟨b, off, none⟩) ∧ w.cell? ⟨b, off, none⟩ = some (.int .i64 x), fun _ _ _ ⟨b, off, hv, h⟩ he => ⟨b, off, hv, he.cell h⟩⟩

/-- Any other operation whose value is known. -/
theorem LexW.relV {P : Program} {ops : Array Oper} {w0 : World} {sp : Nat → Option SPred} {Q : Act → World → Prop} {o : Oper} {l : List Oper} {k : Nat} {a : Act} {env : List (Nat × Value)} {v : Value} (hsp : sp k = some (SPred.val v)) (hw : Region.wanted o (yielded ops a.tmps) = true)
    (hr : ∀ w, Ext w0 w → Dep sp (depsOf ops k) a w → ∃ w', (execOp a.eval o).run P w = .ok (.value v) w' ∧ Ext w w')
    (h : LexW P ops w0 sp Q l (k + 1) (a.put o.dst v) ((k, v) :: env)) : LexW P ops w0 sp Q (o :: l) k a env :=
  LexW.rel hsp hw (fun w he hd => let ⟨w', h1, h2⟩ := hr w he hd; ⟨v, w', h1, h2, rfl⟩) fun v' ⟨_, hv⟩ => by
    have hv' : v' = v := hv
    subst hv'
    exact h

def fullL (d : Nat) : List Int := bladeL (2 ^ d) (2 ^ d - 1)
def topL (d : Nat) (k : Int) : List Int := (List.replicate (2 ^ d) 0).set (2 ^ d - 1) k
theorem topL_one (d : Nat) : topL d 1 = fullL d := rfl
theorem pow_pos' (d : Nat) : 1 ≤ 2 ^ d := Nat.pos_of_ne_zero (by simp)
theorem full_good {p : Int} {d : Nat} (hp : 3 ≤ p) : Good p (2 ^ d) (fullL d) := blade_good hp
theorem top_good {p : Int} {d : Nat} {k : Int} (hp : 3 ≤ p) (h0 : 0 ≤ k) (h1 : k < p) : Good p (2 ^ d) (topL d k) := good_set (good_zero (by omega)) h0 h1

theorem pow_wrapI {d : Nat} (h : d ≤ 6) : IntKind.i64.wrap (2 ^ d) = ((2 ^ d : Nat) : Int) := by
  have : d = 0 ∨ d = 1 ∨ d = 2 ∨ d = 3 ∨ d = 4 ∨ d = 5 ∨ d = 6 := by omega
  rcases this with rfl | rfl | rfl | rfl | rfl | rfl | rfl <;> decide +kernel


set_option maxHeartbeats 400000 in
theorem s_zero (p : Int) (a : Option Addr) (d cap : Nat) (w : World) (hd : d ≤ 6) :
    Calls Try.prog 138 #[.agg #[.int .i64 p, .slice a d cap]] w fun e w' => ∃ g, e = .returned (.slice (some ⟨g, 0, none⟩) (2 ^ d) (2 ^ d)) ∧ OwnC w.heap.size w' (some ⟨g, 0, none⟩) (2 ^ d) (2 ^ d) (List.replicate (2 ^ d) 0) ∧ Ext w w' := by
  have hN := pow_le64 hd
  obtain ⟨N, hN'⟩ : ∃ N, N = 2 ^ d := ⟨_, rfl⟩
  have HN := Lib.hid hN'
  rw [← hN'] at hN ⊢
  clear hN'
  go_enter Try.func138, Try.ntmps138
  go_wp2_with (go_at_call 150; refine (s_size _ _ _ _ _ hd).mono ?_; rintro e w1 ⟨rfl, g1⟩; rw [← HN.out])
  obtain ⟨w2, hmk, ho, he⟩ := make_ints w1 N (by omega)
  have HO := Lib.hid ho
  have HE := Lib.hid ((ext_alloc _ _).trans (g1.trans he))
  have hz := g1.size'
  simp only [World.size_alloc] at hz
  clear ho he g1
  rw [hmk]
  go_wp2_with (fail)
  go_ret
  exact ⟨w1.heap.size, rfl, HO.out.mono (by omega), HE.out⟩

set_option maxHeartbeats 400000 in
theorem s_one (p : Int) (a : Option Addr) (d cap : Nat) (w : World) (hd : d ≤ 6) :
    Calls Try.prog 102 #[.agg #[.int .i64 p, .slice a d cap]] w fun e w' => ∃ g, e = .returned (.slice (some ⟨g, 0, none⟩) (2 ^ d) (2 ^ d)) ∧ OwnC w.heap.size w' (some ⟨g, 0, none⟩) (2 ^ d) (2 ^ d) (bladeL (2 ^ d) 0) ∧ Ext w w' := by
  have hN1 := pow_pos' d
  obtain ⟨N, hN'⟩ : ∃ N, N = 2 ^ d := ⟨_, rfl⟩
  have HN := Lib.hid hN'
  rw [← hN'] at hN1 ⊢
  clear hN'
  go_enter Try.func102, Try.ntmps102
  go_wp2_with (fail)
  have Hno := s_zero p a d cap (w.alloc (.cells #[.int .i64 p, .slice a d cap] 26)) hd
  rw [← HN.out] at Hno
  refine Hno.mono ?_
  rintro e w1 ⟨g, rfl, ho, g1⟩
  have HO := Lib.hid ho
  have G1 := Lib.hid g1
  have ec := ho.cell hN1
  have ef := ho.frozen 0
  have hg := ho.base_le
  simp only [World.size_alloc] at hg
  clear Hno ho g1
  go_wp2_with (fail)
  go_ret
  exact ⟨g, rfl, (HO.out.store hN1 _).mono (by simp), ((ext_alloc _ _).trans G1.out).setCell (by simp; omega) _⟩


theorem nth_bd {p : Int} {N : Nat} {xs : List Int} (h : Good p N xs) {i : Nat} (hi : i < N) : 0 ≤ nth xs i ∧ nth xs i < p := h.2 i hi
def sqFull (p : Int) (qs : List Int) : Int := nth (prodL p qs tkA (fullL qs.length) (fullL qs.length)) 0
theorem sqFull_bd {p : Int} {qs : List Int} (hp : 3 ≤ p) : 0 ≤ sqFull p qs ∧ sqFull p qs < p := (prod_good (by omega)).2 0 (pow_pos' _)
theorem own_cell0 {B : Nat} {w : World} {g n cap : Nat} {xs : List Int} (h : OwnC B w (some ⟨g, 0, none⟩) n cap xs) (hn : 0 < n) : w.cell? ⟨g, 0, none⟩ = some (.int .i64 (nth xs 0)) := h.cell hn

theorem good_pair {p : Int} {N : Nat} {xs ys : List Int} (h : Good p N xs) (h' : Good p N ys) : ∀ i, i < 2 → Good p N (nthR [xs, ys] i) := fun i hi => by
  have : i = 0 ∨ i = 1 := by omega
  rcases this with rfl | rfl
  · exact h
  · exact h'


end Go.Proofs.Ytcocbainookkcaa

/-
  append of one number to a row of the call's own.
  No condition.
-/
namespace Go.Proofs.Ytcocbainookkcaa
set_option maxRecDepth 100000
open Go.RowKit

theorem OwnC.form {B : Nat} {w : World} {v : Value} {n : Nat} {xs : List Int} (h : w.ownsRow B 2 1 v n (xs.map (.int .i64))) (hn : 0 < n) : ∃ g cap, v = .slice (some ⟨g, 0, none⟩) n cap := by
  rcases h.2 with ⟨_, h3⟩ | ⟨g, c, cur, hv, _⟩
  · omega
  · exact ⟨g, c, hv⟩
theorem OwnC.blk {B : Nat} {w : World} {a : Option Addr} {n cap : Nat} {xs : List Int} (h : OwnC B w a n cap xs) : ∀ k, (Value.slice a n cap).ownBlock = some k → B ≤ k := by
  intro k hk
  rcases h.2.2 with ⟨h3, _⟩ | ⟨g, c, cur, hv, hb, _⟩
  · rw [h3] at hk; simp [Value.ownBlock] at hk
  · rw [hv] at hk; simp only [Value.ownBlock, Option.some.injEq] at hk; omega

theorem run_push {B : Nat} {w : World} {ra : Option Addr} {n cap : Nat} {xs : List Int} {v : Int} {g : Nat} (hown : OwnC B w ra n cap xs) (hc : w.cell? ⟨g, 0, none⟩ = some (.int .i64 v)) (hn : n ≤ 4194304) (hB : B ≤ w.heap.size) (ty : TypeId) :
    ∃ g' cap' w', (Builtin.append_ #[24, 24] ty #[.slice ra n cap, .slice (some ⟨g, 0, none⟩) 1 1]).run Try.prog w = .ok (.slice (some ⟨g', 0, none⟩) (n + 1) cap') w' ∧
      OwnC B w' (some ⟨g', 0, none⟩) (n + 1) cap' (xs ++ [v]) ∧ w.grownBy w' (Value.slice ra n cap).ownBlock ∧ (∀ W : World, W.heap.size ≤ B → Ext W w → Ext W w') := by
  obtain ⟨i0, hi, hz0, hz1, hz2⟩ := info_parts Try.infoI
  obtain ⟨v', w', hr, h2, h3, _⟩ := run_append_own (P := Try.prog) w B 24 ty 2 i0 (.int .i64 0) 1 8 Try.underlying24 hi hz0 hz1 hz2 rfl (by decide) (.slice ra n cap) n (xs.map (.int .i64)) hown.2
    ⟨g, 0, none⟩ 1 1 [.int .i64 v] rfl (fun j u hj => by
      cases j with
      | zero => simp only [List.getElem?_cons_zero, Option.some.injEq] at hj; subst hj; simpa [Addr.add] using hc
      | succ j => simp at hj) (fun u hu => by simp only [List.mem_singleton] at hu; subst hu; rfl) (by unfold maxLen; omega) (by omega) hB
  have h2' : w'.ownsRow B 2 1 v' (n + 1) ((xs ++ [v]).map (.int .i64)) := by rw [List.map_append]; exact h2
  obtain ⟨g', cap', rfl⟩ := OwnC.form h2' (by omega)
  exact ⟨g', cap', w', hr, ⟨by simp [hown.1], h2'⟩, h3, fun W hW hE => hE.grown h3 fun k hk => Nat.le_trans hW (hown.blk k hk)⟩

theorem wpList_push {ops : Array Oper} {rest : List Oper} {o : Oper} {a : Act} {Q : Exit → Act → World → Prop} {w : World} (hgd : o.guard = none) (s x : Operand)
    (ho : o.op = .call { callee := .builtin .append, args := #[s, x], argTypes := #[24, 24] })
    {B : Nat} {ra : Option Addr} {n cap : Nat} {xs : List Int} {v : Int} {g : Nat} (hs : a.eval s = .slice ra n cap) (hx : a.eval x = .slice (some ⟨g, 0, none⟩) 1 1)
    (hown : OwnC B w ra n cap xs) (hc : w.cell? ⟨g, 0, none⟩ = some (.int .i64 v)) (hn : n ≤ 4194304) (hB : B ≤ w.heap.size)
    (h : ∀ g' cap' w', OwnC B w' (some ⟨g', 0, none⟩) (n + 1) cap' (xs ++ [v]) → w.grownBy w' (Value.slice ra n cap).ownBlock → (∀ W : World, W.heap.size ≤ B → Ext W w → Ext W w') →
      wpList Try.prog ops Q rest (a.put o.dst (.slice (some ⟨g', 0, none⟩) (n + 1) cap')) w') : wpList Try.prog ops Q (o :: rest) a w := by
  refine wpList_plain hgd fun K hK => ?_
  obtain ⟨g', cap', w', hr, h1, h2, h3⟩ := run_push hown hc hn hB o.type
  unfold Oper.wp execOp
  simp only [ho, resolve, invoke, builtin, Sem.run_bind, Sem.run_pure, Result.andThen_ok, List.map_toArray, List.map_cons, List.map_nil, hs, hx, hr]
  exact hK _ _ (h g' cap' w' h1 h2 h3)


/-- append of a whole slice. -/
theorem run_appendAll {B : Nat} {w : World} {ra : Option Addr} {n cap : Nat} {xs : List Int} {b off m c : Nat} {ys : List Int} (hown : OwnC B w ra n cap xs) (hy : RdC w (some ⟨b, off, none⟩) m ys) (hm : 0 < m) (hn : n ≤ 4194304) (hml : m ≤ 4194304) (hB : B ≤ w.heap.size) (ty : TypeId) :
    ∃ g' cap' w', (Builtin.append_ #[24, 24] ty #[.slice ra n cap, .slice (some ⟨b, off, none⟩) m c]).run Try.prog w = .ok (.slice (some ⟨g', 0, none⟩) (n + m) cap') w' ∧
      OwnC B w' (some ⟨g', 0, none⟩) (n + m) cap' (xs ++ ys) ∧ w.grownBy w' (Value.slice ra n cap).ownBlock ∧ (∀ W : World, W.heap.size ≤ B → Ext W w → Ext W w') := by
  obtain ⟨i0, hi, hz0, hz1, hz2⟩ := info_parts Try.infoI
  obtain ⟨v', w', hr, h2, h3, _⟩ := run_append_own (P := Try.prog) w B 24 ty 2 i0 (.int .i64 0) 1 8 Try.underlying24 hi hz0 hz1 hz2 rfl (by decide) (.slice ra n cap) n (xs.map (.int .i64)) hown.2
    ⟨b, off, none⟩ m c (ys.map (.int .i64)) (by simp [hy.1]) (fun j u hj => by
      have hjl : j < m := by
        rcases Nat.lt_or_ge j m with h | h
        · exact h
        · rw [List.getElem?_eq_none (by simp [hy.1]; exact h)] at hj; cases hj
      obtain ⟨b', o', hab, hc⟩ := hy.2 j hjl
      cases hab
      have hu : u = .int .i64 (nth ys j) := by
        rw [List.getElem?_map, List.getElem?_eq_getElem (by rw [hy.1]; exact hjl)] at hj
        simp only [Option.map_some, Option.some.injEq] at hj
        rw [← hj, nth_eq]
      rw [hu]; by_cases hj0 : j = 0
      · subst hj0; simpa [Addr.add] using hc
      · simpa [Addr.add, hj0] using hc) (fun u hu => by
        obtain ⟨v, _, rfl⟩ := List.mem_map.1 hu; rfl) (by unfold maxLen; omega) (by omega) hB
  have h2' : w'.ownsRow B 2 1 v' (n + m) ((xs ++ ys).map (.int .i64)) := by rw [List.map_append]; exact h2
  obtain ⟨g', cap', rfl⟩ := OwnC.form h2' (by omega)
  exact ⟨g', cap', w', hr, ⟨by simp [hown.1, hy.1], h2'⟩, h3, fun W hW hE => hE.grown h3 fun k hk => Nat.le_trans hW (hown.blk k hk)⟩

theorem wpList_appendAll {ops : Array Oper} {rest : List Oper} {o : Oper} {a : Act} {Q : Exit → Act → World → Prop} {w : World} (hgd : o.guard = none) (s x : Operand)
    (ho : o.op = .call { callee := .builtin .append, args := #[s, x], argTypes := #[24, 24] })
    {B : Nat} {ra : Option Addr} {n cap : Nat} {xs : List Int} {b off m c : Nat} {ys : List Int} (hs : a.eval s = .slice ra n cap) (hx : a.eval x = .slice (some ⟨b, off, none⟩) m c)
    (hown : OwnC B w ra n cap xs) (hy : RdC w (some ⟨b, off, none⟩) m ys) (hm : 0 < m) (hn : n ≤ 4194304) (hml : m ≤ 4194304) (hB : B ≤ w.heap.size)
    (h : ∀ g' cap' w', OwnC B w' (some ⟨g', 0, none⟩) (n + m) cap' (xs ++ ys) → w.grownBy w' (Value.slice ra n cap).ownBlock → (∀ W : World, W.heap.size ≤ B → Ext W w → Ext W w') →
      wpList Try.prog ops Q rest (a.put o.dst (.slice (some ⟨g', 0, none⟩) (n + m) cap')) w') : wpList Try.prog ops Q (o :: rest) a w := by
  refine wpList_plain hgd fun K hK => ?_
  obtain ⟨g', cap', w', hr, h1, h2, h3⟩ := run_appendAll hown hy hm hn hml hB o.type (c := c)
  unfold Oper.wp execOp
  simp only [ho, resolve, invoke, builtin, Sem.run_bind, Sem.run_pure, Result.andThen_ok, List.map_toArray, List.map_cons, List.map_nil, hs, hx, hr]
  exact hK _ _ (h g' cap' w' h1 h2 h3)

/-- A new empty row. -/
theorem own_empty (w : World) : OwnC w.heap.size (w.alloc (.cells #[] 2)) (some ⟨w.heap.size, 0, none⟩) 0 0 [] := by
  refine ⟨rfl, ⟨rfl, .inr ⟨w.heap.size, 0, #[], rfl, Nat.le_refl _, heap_alloc_new w _, Nat.le_refl _, by unfold maxLen; omega, by simp, by simp⟩⟩⟩

end Go.Proofs.Ytcocbainookkcaa

/-
  Sums of lists, in the program and in the reference.
  No condition.
-/
namespace Go.Proofs.Ytcocbainookkcaa
set_option maxRecDepth 100000
open Go.RowKit

def plusN (p : Int) (x y : List Int) (k : Int) (i : Nat) : Int := (nth x i + k * nth y i) % p
def plusL (p : Int) (x y : List Int) (k : Int) (n : Nat) : List Int := (List.range n).map (plusN p x y k)
theorem plusL_len (p : Int) (x y : List Int) (k : Int) (n : Nat) : (plusL p x y k n).length = n := by simp [plusL]
theorem plusL_succ (p : Int) (x y : List Int) (k : Int) (n : Nat) : plusL p x y k (n + 1) = plusL p x y k n ++ [plusN p x y k n] := by simp [plusL, List.range_succ]
theorem plusL_nth {p : Int} {x y : List Int} {k : Int} {n i : Nat} (h : i < n) : nth (plusL p x y k n) i = plusN p x y k i := by
  unfold plusL; rw [nth_map (by simpa using h)]; simp
theorem plus_good {p : Int} {x y : List Int} {k : Int} {n : Nat} (hp : 1 ≤ p) : Good p n (plusL p x y k n) := ⟨plusL_len _ _ _ _ _, fun i hi => by
  rw [plusL_nth hi]; exact ⟨Int.emod_nonneg _ (by omega), Int.emod_lt_of_pos _ (by omega)⟩⟩
theorem plus_minus {p : Int} {x y : List Int} {n : Nat} : plusL p x y (p - 1) n = plusL p x y (-1) n := by
  unfold plusL
  refine List.map_congr_left fun i _ => ?_
  unfold plusN
  rw [show nth x i + (p - 1) * nth y i = (nth x i + -1 * nth y i) + p * nth y i by rw [Int.sub_mul]; omega, Int.add_mul_emod_self_left]

/-- A row of one number. -/
def SPred.one (x : Int) : SPred := ⟨fun v w => ∃ g, v = .slice (some ⟨g, 0, none⟩) 1 1 ∧ w.cell? ⟨g, 0, none⟩ = some (.int .i64 x), fun _ _ _ ⟨g, hv, h⟩ he => ⟨g, hv, he.cell h⟩⟩
theorem kmul_bd {k y : Int} (hk : -1000 ≤ k ∧ k ≤ 1000) (hy0 : 0 ≤ y) (hy : y ≤ 1000) : -1000000 ≤ k * y ∧ k * y ≤ 1000000 := by
  constructor
  · have : -1000 * y ≤ k * y := Int.mul_le_mul_of_nonneg_right hk.1 hy0
    omega
  · have : k * y ≤ 1000 * y := Int.mul_le_mul_of_nonneg_right hk.2 hy0
    omega

set_option maxHeartbeats 1000000 in
theorem c_plus (p : Int) (ax ay : Option Addr) (n cx cy : Nat) (x y : List Int) (k : Int) (w : World) (hp1 : 3 ≤ p) (hp2 : p ≤ 1000) (hk : -1000 ≤ k ∧ k ≤ 1000) (hn : n ≤ 4194303) (hx : RdC w ax n x) (hy : RdC w ay n y) (hgx : Good p n x) (hgy : Good p n y) :
    Calls Try.prog 71 #[.int .i64 p, .slice ax n cx, .slice ay n cy, .int .i64 k] w fun e w' => ∃ g rc, e = .returned (.slice (some ⟨g, 0, none⟩) n rc) ∧ OwnC w.heap.size w' (some ⟨g, 0, none⟩) n rc (plusL p x y k n) ∧ Ext w w' := by
  have HX := Lib.hid hx
  have HY := Lib.hid hy
  have HGX := Lib.hid hgx
  have HGY := Lib.hid hgy
  clear hx hy hgx hgy
  go_enter Try.func71, Try.ntmps71
  go_wp2_with (fail)
  go_loopw [9, 15] (fun v i wr => ∃ (j g rc : Nat), j ≤ n ∧ i = .int .i64 j ∧ v = .slice (some ⟨g, 0, none⟩) j rc ∧ OwnC w.heap.size wr (some ⟨g, 0, none⟩) j rc (plusL p x y k j) ∧ Ext w wr) (fun _ i _ => n - (intOf i).toNat)
  case atStart => exact ⟨0, _, _, Nat.zero_le _, rfl, rfl, own_empty w, ext_alloc _ _⟩
  case round =>
    obtain ⟨j, g, rc, hj, rfl, rfl, hown, hext⟩ := hrel
    have HOwn := Lib.hid hown
    have HExt := Lib.hid hext
    clear hown hext
    by_cases hlt : j < n
    · obtain ⟨bx, ox, rfl, hcx⟩ := HX.out.2 j hlt
      obtain ⟨by', oy, rfl, hcy⟩ := HY.out.2 j hlt
      have hcx' := HExt.out.cell hcx
      have hcy' := HExt.out.cell hcy
      have hbx := HGX.out.2 j hlt
      have hby := HGY.out.2 j hlt
      have hkb := kmul_bd hk hby.1 (show nth y j ≤ 1000 by omega)
      have hw1 : IntKind.i64.wrap (k * nth y j) = k * nth y j := IntWalk.i64_in _ (by omega)
      have hw2 : IntKind.i64.wrap (nth x j + k * nth y j) = nth x j + k * nth y j := IntWalk.i64_in _ (by omega)
      have HP := Lib.hid (show (nth x j + k * nth y j) % p = plusN p x y k j from rfl)
      clear hcx hcy
      go_wp2_with (first | (go_at_call 64; refine (c_num _ _ _ (by omega) hp2).mono ?_; rintro e w2 ⟨rfl, g2⟩; rw [HP.out]; have G2 := Lib.hid g2; clear g2) | (at_builtin; refine wpList_push rfl (.tmp 20) (.tmp 31) rfl rfl rfl (v := plusN p x y k j) (HOwn.out.ext (G2.out.trans (ext_alloc _ _))) ?hc ?hn ?hB ?hk))
      case hc => simp
      case hn => omega
      case hB => have hz := (HExt.out.trans G2.out).size'; simp; omega
      case hk =>
        intro g' cap' w3 ho3 hg3 he3
        have HO3 := Lib.hid ho3
        have HE3 := Lib.hid (he3 w (Nat.le_refl _) ((HExt.out.trans G2.out).alloc _))
        clear ho3 hg3 he3
        go_wp2_with (fail)
        go_roundw
        case rel => exact ⟨j + 1, g', cap', by omega, by go_num, rfl, by rw [plusL_succ]; exact HO3.out, HE3.out⟩
        case measure => simp [intOf]; omega
    · go_wp2_with (fail)
      go_ret
      obtain rfl : j = n := by omega
      exact ⟨g, rc, rfl, HOwn.out, HExt.out⟩

end Go.Proofs.Ytcocbainookkcaa

/-
  The wedge product, contractions, reverses and duals in plain numbers.
  No condition. No program in sight.
-/
namespace Go.Proofs.Ytcocbainookkcaa
set_option maxRecDepth 100000
open Go.RowKit

/-! ### Products of parts are associative where their conditions agree -/
/-- The coefficient of a product of parts. -/
def tkI (tk : Nat → Nat → Bool) (a b : Nat) : Int := if tk a b = true then 1 else 0
theorem prodT_nth {p : Int} {qs x y : List Int} {tk : Nat → Nat → Bool} (hp : 1 ≤ p) {k : Nat} (hk : k < 2 ^ qs.length) :
    nth (prodL p qs tk x y) k = (sumN (2 ^ qs.length) fun i => tkI tk i (i ^^^ k) * (nth x i * nth y (i ^^^ k) * facZ qs i (i ^^^ k) qs.length)) % p := by
  rw [prod_nth1 hp hk]
  refine sumN_emod fun i hi => ?_
  unfold tkI
  split
  · rw [Int.one_mul]; exact mul_emod_congr rfl fac_emod
  · rw [Int.zero_mul]
/-- (x 1 y) 2 z = x 3 (y 4 z) -/
theorem prodT_assoc {p : Int} {qs x y z : List Int} {t1 t2 t3 t4 : Nat → Nat → Bool} (hp : 1 ≤ p) (hd : qs.length ≤ 6)
    (ht : ∀ a, a < 2 ^ qs.length → ∀ b, b < 2 ^ qs.length → ∀ c, c < 2 ^ qs.length → (t1 a b && t2 (a ^^^ b) c) = (t4 b c && t3 a (b ^^^ c))) :
    prodL p qs t2 (prodL p qs t1 x y) z = prodL p qs t3 x (prodL p qs t4 y z) := by
  have hN := pow_le64 hd
  have hT : ∀ a, a < 2 ^ qs.length → ∀ b, b < 2 ^ qs.length → ∀ c, c < 2 ^ qs.length → tkI t1 a b * tkI t2 (a ^^^ b) c = tkI t4 b c * tkI t3 a (b ^^^ c) := fun a ha b hb c hc => by
    have := ht a ha b hb c hc
    unfold tkI
    cases h1 : t1 a b <;> cases h2 : t2 (a ^^^ b) c <;> cases h3 : t4 b c <;> cases h4 : t3 a (b ^^^ c) <;> simp_all
  refine ext_nth (by rw [(prod_good hp).1, (prod_good hp).1]) fun k hk => ?_
  rw [(prod_good hp).1] at hk
  rw [prodT_nth hp hk, prodT_nth hp hk]
  have e1 : ∀ m, m < 2 ^ qs.length → (tkI t2 m (m ^^^ k) * (nth (prodL p qs t1 x y) m * nth z (m ^^^ k) * facZ qs m (m ^^^ k) qs.length)) % p =
      (sumN (2 ^ qs.length) fun a => tkI t1 a (a ^^^ m) * (nth x a * nth y (a ^^^ m) * facZ qs a (a ^^^ m) qs.length) * (tkI t2 m (m ^^^ k) * (nth z (m ^^^ k) * facZ qs m (m ^^^ k) qs.length))) % p := fun m hm => by
    rw [prodT_nth hp hm, sumN_mulr, Int.mul_assoc (_ % p), Int.mul_left_comm]
    exact mul_emod_congr (Int.emod_emod _ _) rfl
  have e2 : ∀ a, a < 2 ^ qs.length → (tkI t3 a (a ^^^ k) * (nth x a * nth (prodL p qs t4 y z) (a ^^^ k) * facZ qs a (a ^^^ k) qs.length)) % p =
      (sumN (2 ^ qs.length) fun m => tkI t1 a (a ^^^ m) * (nth x a * nth y (a ^^^ m) * facZ qs a (a ^^^ m) qs.length) * (tkI t2 m (m ^^^ k) * (nth z (m ^^^ k) * facZ qs m (m ^^^ k) qs.length))) % p := fun a ha => by
    rw [prodT_nth hp (Nat.xor_lt_two_pow ha hk), ← sumN_xor hd ha]
    have : (tkI t3 a (a ^^^ k) * (nth x a * ((sumN (2 ^ qs.length) fun m => tkI t4 (a ^^^ m) (a ^^^ m ^^^ (a ^^^ k)) * (nth y (a ^^^ m) * nth z (a ^^^ m ^^^ (a ^^^ k)) * facZ qs (a ^^^ m) (a ^^^ m ^^^ (a ^^^ k)) qs.length)) % p) * facZ qs a (a ^^^ k) qs.length)) % p =
        (tkI t3 a (a ^^^ k) * nth x a * (sumN (2 ^ qs.length) fun m => tkI t4 (a ^^^ m) (a ^^^ m ^^^ (a ^^^ k)) * (nth y (a ^^^ m) * nth z (a ^^^ m ^^^ (a ^^^ k)) * facZ qs (a ^^^ m) (a ^^^ m ^^^ (a ^^^ k)) qs.length)) * facZ qs a (a ^^^ k) qs.length) % p := by
      rw [← Int.mul_assoc, ← Int.mul_assoc]
      exact mul_emod_congr (mul_emod_congr rfl (Int.emod_emod _ _)) rfl
    rw [this, ← sumN_mul, ← sumN_mulr]
    congr 1
    refine sumN_congr fun m hm => ?_
    rw [xor_cancel]
    have ham := Nat.xor_lt_two_pow ha hm
    have hmk := Nat.xor_lt_two_pow hm hk
    have hc := facZ_cocycle (qs := qs) (a := a) (b := a ^^^ m) (c := m ^^^ k) (by omega) (Nat.lt_of_lt_of_le ham hN) qs.length hd
    have hT' := hT a ha (a ^^^ m) ham (m ^^^ k) hmk
    have x1 : a ^^^ (a ^^^ m) = m := by rw [← Nat.xor_assoc, Nat.xor_self, Nat.zero_xor]
    have x2 : a ^^^ m ^^^ (m ^^^ k) = a ^^^ k := by rw [Nat.xor_assoc, ← Nat.xor_assoc m m k, Nat.xor_self, Nat.zero_xor]
    rw [x1, x2] at hc hT'
    rw [show tkI t1 a (a ^^^ m) * (nth x a * nth y (a ^^^ m) * facZ qs a (a ^^^ m) qs.length) * (tkI t2 m (m ^^^ k) * (nth z (m ^^^ k) * facZ qs m (m ^^^ k) qs.length)) = nth x a * nth y (a ^^^ m) * nth z (m ^^^ k) * ((facZ qs a (a ^^^ m) qs.length * facZ qs m (m ^^^ k) qs.length) * (tkI t1 a (a ^^^ m) * tkI t2 m (m ^^^ k))) by ac_rfl, hc, hT']
    ac_rfl
  rw [sumN_emod e1, sumN_emod e2, sumN_swap]

theorem bit_all {a b : Nat} (ha : a < 64) (hb : b < 64) (h : ∀ i, i < 6 → a.testBit i = b.testBit i) : a = b := by
  apply Nat.eq_of_testBit_eq
  intro i
  by_cases hi : i < 6
  · exact h i hi
  · rw [Nat.testBit_lt_two_pow (Nat.lt_of_lt_of_le ha (by exact Nat.pow_le_pow_right (by omega) (show 6 ≤ i by omega) : 2 ^ 6 ≤ 2 ^ i)), Nat.testBit_lt_two_pow (Nat.lt_of_lt_of_le hb (by exact Nat.pow_le_pow_right (by omega) (show 6 ≤ i by omega) : 2 ^ 6 ≤ 2 ^ i))]
theorem tkW_iff {a b : Nat} : tkW a b = true ↔ ∀ i, (a.testBit i && b.testBit i) = false := by
  unfold tkW
  rw [beq_iff_eq]
  constructor
  · intro h i
    rw [← Nat.testBit_and, h, Nat.zero_testBit]
  · intro h
    apply Nat.eq_of_testBit_eq
    intro i
    rw [Nat.testBit_and, h i, Nat.zero_testBit]
theorem tkL_iff {a b : Nat} : tkL a b = true ↔ ∀ i, a.testBit i = true → b.testBit i = true := by
  unfold tkL
  rw [beq_iff_eq]
  constructor
  · intro h i hi
    have : (a &&& b).testBit i = true := by rw [h]; exact hi
    rw [Nat.testBit_and] at this
    simp_all
  · intro h
    apply Nat.eq_of_testBit_eq
    intro i
    rw [Nat.testBit_and]
    cases ha : a.testBit i
    · rfl
    · rw [h i ha]; rfl
theorem wedge_tk (a b c : Nat) : (tkW a b && tkW (a ^^^ b) c) = (tkW b c && tkW a (b ^^^ c)) := by
  rw [Bool.eq_iff_iff]
  simp only [Bool.and_eq_true, tkW_iff, Nat.testBit_xor]
  constructor
  · rintro ⟨h1, h2⟩
    refine ⟨fun i => ?_, fun i => ?_⟩ <;> (have h3 := h1 i; have h4 := h2 i; revert h3 h4; cases a.testBit i <;> cases b.testBit i <;> cases c.testBit i <;> simp)
  · rintro ⟨h1, h2⟩
    refine ⟨fun i => ?_, fun i => ?_⟩ <;> (have h3 := h1 i; have h4 := h2 i; revert h3 h4; cases a.testBit i <;> cases b.testBit i <;> cases c.testBit i <;> simp)
/-- The wedge product is associative. -/
theorem wedge_assoc {p : Int} {qs x y z : List Int} (hp : 1 ≤ p) (hd : qs.length ≤ 6) : prodL p qs tkW (prodL p qs tkW x y) z = prodL p qs tkW x (prodL p qs tkW y z) :=
  prodT_assoc hp hd fun a _ b _ c _ => wedge_tk a b c
theorem left_tk (a b c : Nat) : (tkW a b && tkL (a ^^^ b) c) = (tkL b c && tkL a (b ^^^ c)) := by
  rw [Bool.eq_iff_iff]
  simp only [Bool.and_eq_true, tkW_iff, tkL_iff, Nat.testBit_xor]
  constructor
  · rintro ⟨h1, h2⟩
    refine ⟨fun i => ?_, fun i => ?_⟩ <;> (have h3 := h1 i; have h4 := h2 i; revert h3 h4; cases a.testBit i <;> cases b.testBit i <;> cases c.testBit i <;> simp)
  · rintro ⟨h1, h2⟩
    refine ⟨fun i => ?_, fun i => ?_⟩ <;> (have h3 := h1 i; have h4 := h2 i; revert h3 h4; cases a.testBit i <;> cases b.testBit i <;> cases c.testBit i <;> simp)
/-- The left contraction of a wedge product. -/
theorem left_wedge {p : Int} {qs x y z : List Int} (hp : 1 ≤ p) (hd : qs.length ≤ 6) : prodL p qs tkL (prodL p qs tkW x y) z = prodL p qs tkL x (prodL p qs tkL y z) :=
  prodT_assoc hp hd fun a _ b _ c _ => left_tk a b c

/-! ### Sums and multiples -/
theorem prod_plus_right {p k : Int} {qs x y z : List Int} {tk : Nat → Nat → Bool} (hp : 1 ≤ p) : prodL p qs tk x (plusL p y z k (2 ^ qs.length)) = plusL p (prodL p qs tk x y) (prodL p qs tk x z) k (2 ^ qs.length) := by
  refine ext_nth (by rw [(prod_good hp).1, plusL_len]) fun i hi => ?_
  rw [(prod_good hp).1] at hi
  rw [plusL_nth hi, prodT_nth hp hi, plusN, prodT_nth hp hi, prodT_nth hp hi, Int.emod_add_emod, Int.add_comm (sumN _ _), ← Int.emod_add_emod, Int.mul_emod, Int.emod_emod, ← Int.mul_emod, Int.emod_add_emod, ← sumN_mul, ← sumN_add]
  refine sumN_emod fun a ha => ?_
  rw [plusL_nth (Nat.xor_lt_two_pow ha hi), plusN]
  have : ∀ u v f s : Int, (s * (u * ((v) % p) * f)) % p = (s * (u * v * f)) % p := fun u v f s => mul_emod_congr rfl (mul_emod_congr (mul_emod_congr rfl (Int.emod_emod _ _)) rfl)
  rw [this]
  congr 1
  rw [Int.mul_add, Int.add_mul, Int.mul_add, Int.add_comm]
  congr 1
  ac_rfl
theorem prod_plus_left {p k : Int} {qs x y z : List Int} {tk : Nat → Nat → Bool} (hp : 1 ≤ p) : prodL p qs tk (plusL p x y k (2 ^ qs.length)) z = plusL p (prodL p qs tk x z) (prodL p qs tk y z) k (2 ^ qs.length) := by
  refine ext_nth (by rw [(prod_good hp).1, plusL_len]) fun i hi => ?_
  rw [(prod_good hp).1] at hi
  rw [plusL_nth hi, prodT_nth hp hi, plusN, prodT_nth hp hi, prodT_nth hp hi, Int.emod_add_emod, Int.add_comm (sumN _ _), ← Int.emod_add_emod, Int.mul_emod, Int.emod_emod, ← Int.mul_emod, Int.emod_add_emod, ← sumN_mul, ← sumN_add]
  refine sumN_emod fun a ha => ?_
  rw [plusL_nth ha, plusN]
  have : ∀ u v f s : Int, (s * (v % p * u * f)) % p = (s * (v * u * f)) % p := fun u v f s => mul_emod_congr rfl (mul_emod_congr (mul_emod_congr (Int.emod_emod _ _) rfl) rfl)
  rw [this]
  congr 1
  rw [Int.add_mul, Int.add_mul, Int.mul_add, Int.add_comm]
  congr 1
  ac_rfl

end Go.Proofs.Ytcocbainookkcaa

/-
  Contracts of the listed products: the code, and where it is 0 the product.
  No condition.
-/
namespace Go.Proofs.Ytcocbainookkcaa
set_option maxRecDepth 100000
open Go.RowKit

theorem good_two {p : Int} {N : Nat} {xs ys : List Int} (h : Good p N xs) (h' : Good p N ys) : ∀ i, i < 2 → Good p N (nthR [xs, ys] i) := fun i hi => by
  have : i = 0 ∨ i = 1 := by omega
  rcases this with rfl | rfl
  · exact h
  · exact h'










set_option maxHeartbeats 400000 in
theorem c_GeometricProduct_bad (p : Int) (a : Option Addr) (d cap : Nat) (qs : List Int) (ax : Option Addr) (n cx : Nat) (xs : List Int) (ay : Option Addr) (m cy : Nat) (ys : List Int) (w : World) (hd : d ≤ 4194304) (hl : n ≤ 4194304) (hm : m ≤ 4194304) (hq : RdC w a d qs) (hx : RdC w ax n xs) (hy : RdC w ay m ys) (hc : codeM p qs [xs, ys] ≠ 0) :
    Calls Try.prog 31 #[.agg #[.int .i64 p, .slice a d cap], .slice ax n cx, .slice ay m cy] w fun e w' => ∃ ra rc, e = .returned (.tuple #[.slice ra 0 rc, .int .i64 (codeM p qs [xs, ys])]) ∧ OwnC w.heap.size w' ra 0 rc [] ∧ Ext w w' := by
  have hcb : (codeM p qs [xs, ys] != 0) = true := by simp [hc]
  clear hc
  go_enter Try.func31, Try.ntmps31
  go_wp2_with (go_at_call 82; refine (c_checkMultis p a d cap qs _ 2 _ [xs, ys] _ hd (by omega) (len_two (by rw [hx.1]; exact hl) (by rw [hy.1]; exact hm)) (hq.ext ((ext_alloc _ _).alloc _)) (rdR_two (a := ax) (b := ay) (n := _) (m := _) (ca := cx) (cb := cy) (by simp) (by simp) (hx.ext ((ext_alloc _ _).alloc _)) (hy.ext ((ext_alloc _ _).alloc _)))).mono ?_; rintro e w1 ⟨rfl, g1⟩)
  go_ret2
  exact ⟨none, 0, rfl, own_nil _ _, ((ext_alloc _ _).alloc _).trans g1⟩

set_option maxHeartbeats 400000 in
theorem c_GeometricProduct_ok (p : Int) (a : Option Addr) (d cap : Nat) (qs : List Int) (ax : Option Addr) (n cx : Nat) (xs : List Int) (ay : Option Addr) (m cy : Nat) (ys : List Int) (w : World) (hd : d ≤ 4194304) (hl : n ≤ 4194304) (hm : m ≤ 4194304) (hq : RdC w a d qs) (hx : RdC w ax n xs) (hy : RdC w ay m ys) (hc : codeM p qs [xs, ys] = 0) :
    Calls Try.prog 31 #[.agg #[.int .i64 p, .slice a d cap], .slice ax n cx, .slice ay m cy] w fun e w' => ∃ ra rc, e = .returned (.tuple #[.slice ra n rc, .int .i64 0]) ∧ OwnC w.heap.size w' ra n rc (prodL p qs tkA xs ys) ∧ Ext w w' := by
  obtain ⟨hs, hxm, hym⟩ := codeM_two hc
  obtain ⟨hpr, hd1, hd6, hqb⟩ := space_of hs
  have hpb := prime_bd hpr
  obtain ⟨hxl, hxb⟩ := multi_of hxm
  obtain ⟨hyl, hyb⟩ := multi_of hym
  rw [hq.1] at hxl hyl hd6
  obtain rfl : n = 2 ^ d := hx.1.symm.trans hxl
  obtain rfl : m = 2 ^ d := hy.1.symm.trans hyl
  have HC := Lib.hid hc
  have HQB := Lib.hid hqb
  have HXB := Lib.hid hxb
  have HYB := Lib.hid hyb
  have HXL := Lib.hid hxl
  have HYL := Lib.hid hyl
  have HQL := Lib.hid hq.1
  have hcb : ((0 : Int) != 0) = false := by simp
  clear hc hs hxm hym hqb hxb hyb hxl hyl hpr hd1
  go_enter Try.func31, Try.ntmps31
  go_wp2_with (go_at_call 82; refine (c_checkMultis p a d cap qs _ 2 _ [xs, ys] _ hd (by omega) (len_two (by rw [hx.1]; exact hl) (by rw [hy.1]; exact hm)) (hq.ext ((ext_alloc _ _).alloc _)) (rdR_two (a := ax) (b := ay) (n := _) (m := _) (ca := cx) (cb := cy) (by simp) (by simp) (hx.ext ((ext_alloc _ _).alloc _)) (hy.ext ((ext_alloc _ _).alloc _)))).mono ?_; rintro e w1 ⟨rfl, g1⟩; rw [HC.out]; have hq0 : w1.cell? ⟨w.heap.size, 0, none⟩ = some (.int .i64 p) := g1.cell (by simp); have hq1 : w1.cell? ⟨w.heap.size, 1, none⟩ = some (.slice a d cap) := g1.cell (by simp))
  have G1 := Lib.hid (((ext_alloc w (.cells #[.int .i64 p, .slice a d cap] 26)).alloc (.cells #[.slice ax (2 ^ d) cx, .slice ay (2 ^ d) cy] 24)).trans g1)
  clear g1 hq0 hq1
  refine (c_times p a d cap qs _ 2 _ [xs, ys] (w1.alloc (.cells #[.slice ax (2 ^ d) cx, .slice ay (2 ^ d) cy] 24)) (by omega) (by omega) (by omega) (by omega) (hq.ext (G1.out.alloc _)) HQB.out (rdR_two (a := ax) (b := ay) (n := _) (m := _) (ca := cx) (cb := cy) (by simp) (by simp) (hx.ext (G1.out.alloc _)) (hy.ext (G1.out.alloc _))) (good_two (good_isB HXL.out HXB.out) (good_isB HYL.out HYB.out))).mono ?_
  rintro e w2 ⟨g, rfl, ho, g2⟩
  have HO := Lib.hid ho
  have G2 := Lib.hid g2
  clear ho g2
  go_wp2_with (fail)
  go_ret2
  rw [timesL_two (by omega) (by rw [HQL.out]; exact good_isB HXL.out HXB.out)] at HO
  exact ⟨some ⟨g, 0, none⟩, 2 ^ d, rfl, HO.out.mono (Nat.le_trans G1.out.size (by simp)), (G1.out.alloc _).trans G2.out⟩

end Go.Proofs.Ytcocbainookkcaa

/-
  Contracts of products and blades, with the number of coefficients as a letter.
  No condition.
-/
namespace Go.Proofs.Ytcocbainookkcaa
set_option maxRecDepth 100000
open Go.RowKit

theorem c_nothingN {N : Nat} {d : Nat} (hN : N = 2 ^ d) (p : Int) (a : Option Addr) (cap : Nat) (w : World) (hd : d ≤ 6) :
    Calls Try.prog 134 #[.agg #[.int .i64 p, .slice a d cap]] w fun e w' => ∃ g, e = .returned (.slice (some ⟨g, 0, none⟩) N N) ∧ OwnC w.heap.size w' (some ⟨g, 0, none⟩) N N (List.replicate N 0) ∧ Ext w w' := by
  subst hN
  exact c_nothing p a d cap w hd
theorem c_productN {N : Nat} {d : Nat} (hN : N = 2 ^ d) (p : Int) (a : Option Addr) (cap : Nat) (qs : List Int) (ax ay : Option Addr) (cx cy : Nat) (x y : List Int) (F : Nat) (tk : Nat → Nat → Bool) (w : World) (hd : d ≤ 6) (hp1 : 3 ≤ p) (hp2 : p ≤ 1000) (hq : RdC w a d qs) (hqb : isB p qs = true)
    (hx : RdC w ax N x) (hy : RdC w ay N y) (hxb : isB p x = true) (hyb : isB p y = true)
    (hcf : ∀ args w, (callFunc F args).run Try.prog w = .ok (.enter F args) w)
    (htk : ∀ (i j : Nat) (w : World), i < 64 → j < 64 → Calls Try.prog F #[.int .i64 i, .int .i64 j] w fun e w' => e = .returned (.bool (tk i j)) ∧ Ext w w') :
    Calls Try.prog 125 #[.agg #[.int .i64 p, .slice a d cap], .slice ax N cx, .slice ay N cy, .func (.func F) #[] #[]] w fun e w' =>
      ∃ g, e = .returned (.slice (some ⟨g, 0, none⟩) N N) ∧ OwnC w.heap.size w' (some ⟨g, 0, none⟩) N N (prodL p qs tk x y) ∧ Ext w w' := by
  subst hN
  exact c_product p a d cap qs ax ay cx cy x y F tk w hd hp1 hp2 hq hqb hx hy hxb hyb hcf htk
theorem s_timesN {N : Nat} {d : Nat} (hN : N = 2 ^ d) (p : Int) (a : Option Addr) (cap : Nat) (qs : List Int) (ax ay : Option Addr) (cx cy : Nat) (x y : List Int) (w : World) (hd : d ≤ 6) (hp1 : 3 ≤ p) (hp2 : p ≤ 1000) (hq : RdC w a d qs) (hqb : isB p qs = true)
    (hx : RdC w ax N x) (hy : RdC w ay N y) (hxb : isB p x = true) (hyb : isB p y = true) :
    Calls Try.prog 98 #[.agg #[.int .i64 p, .slice a d cap], .slice ax N cx, .slice ay N cy] w fun e w' =>
      ∃ g, e = .returned (.slice (some ⟨g, 0, none⟩) N N) ∧ OwnC w.heap.size w' (some ⟨g, 0, none⟩) N N (prodL p qs tkA x y) ∧ Ext w w' := by
  subst hN
  exact s_times p a d cap qs ax ay cx cy x y w hd hp1 hp2 hq hqb hx hy hxb hyb
theorem c_bladeN {N : Nat} {d : Nat} (hN : N = 2 ^ d) (p : Int) (a : Option Addr) (cap : Nat) (m : Nat) (w : World) (hd : d ≤ 6) (hm : m < N) :
    Calls Try.prog 135 #[.agg #[.int .i64 p, .slice a d cap], .int .i64 m] w fun e w' => ∃ g, e = .returned (.slice (some ⟨g, 0, none⟩) N N) ∧ OwnC w.heap.size w' (some ⟨g, 0, none⟩) N N (bladeL N m) ∧ Ext w w' := by
  subst hN
  exact c_blade p a d cap m w hd hm
theorem c_oneN {N : Nat} {d : Nat} (hN : N = 2 ^ d) (p : Int) (a : Option Addr) (cap : Nat) (w : World) (hd : d ≤ 6) :
    Calls Try.prog 96 #[.agg #[.int .i64 p, .slice a d cap]] w fun e w' => ∃ g, e = .returned (.slice (some ⟨g, 0, none⟩) N N) ∧ OwnC w.heap.size w' (some ⟨g, 0, none⟩) N N (bladeL N 0) ∧ Ext w w' := by
  subst hN
  exact c_one p a d cap w hd
theorem c_timesN {N : Nat} {d : Nat} (hN : N = 2 ^ d) (p : Int) (a : Option Addr) (cap : Nat) (qs : List Int) (al : Option Addr) (n cl : Nat) (rows : List (List Int)) (w : World) (hd : d ≤ 6) (hp1 : 3 ≤ p) (hp2 : p ≤ 1000) (hl : n ≤ 4194304) (hq : RdC w a d qs) (hqb : isB p qs = true)
    (hx : RdR w al n rows) (hr : ∀ i, i < n → Good p N (nthR rows i)) :
    Calls Try.prog 83 #[.agg #[.int .i64 p, .slice a d cap], .slice al n cl] w fun e w' => ∃ g, e = .returned (.slice (some ⟨g, 0, none⟩) N N) ∧ OwnC w.heap.size w' (some ⟨g, 0, none⟩) N N (timesL p qs rows) ∧ Ext w w' := by
  subst hN
  exact c_times p a d cap qs al n cl rows w hd hp1 hp2 hl hq hqb hx hr
theorem s_zeroN {N : Nat} {d : Nat} (hN : N = 2 ^ d) (p : Int) (a : Option Addr) (cap : Nat) (w : World) (hd : d ≤ 6) :
    Calls Try.prog 138 #[.agg #[.int .i64 p, .slice a d cap]] w fun e w' => ∃ g, e = .returned (.slice (some ⟨g, 0, none⟩) N N) ∧ OwnC w.heap.size w' (some ⟨g, 0, none⟩) N N (List.replicate N 0) ∧ Ext w w' := by
  subst hN
  exact s_zero p a d cap w hd
theorem s_oneN {N : Nat} {d : Nat} (hN : N = 2 ^ d) (p : Int) (a : Option Addr) (cap : Nat) (w : World) (hd : d ≤ 6) :
    Calls Try.prog 102 #[.agg #[.int .i64 p, .slice a d cap]] w fun e w' => ∃ g, e = .returned (.slice (some ⟨g, 0, none⟩) N N) ∧ OwnC w.heap.size w' (some ⟨g, 0, none⟩) N N (bladeL N 0) ∧ Ext w w' := by
  subst hN
  exact s_one p a d cap w hd
end Go.Proofs.Ytcocbainookkcaa

/-
  Regular spaces: the library's search for a number, the discriminant, the codes of regular spaces.
  No condition.
-/
namespace Go.Proofs.Ytcocbainookkcaa
set_option maxRecDepth 100000
open Go.RowKit

set_option maxHeartbeats 400000 in
set_option maxRecDepth 20000 in
theorem c_index (a : Option Addr) (n cap : Nat) (xs : List Int) (v : Int) (w : World) (hl : n ≤ 4194304) (hx : RdC w a n xs) :
    Calls Try.prog 148 #[.slice a n cap, .int .i64 v] w fun e w' => e = .returned (.int .i64 (firstIx (fun i => v == nth xs i) n)) ∧ Ext w w' := by
  have HX := Lib.hid hx
  clear hx
  go_enter Try.func148, Try.ntmps148
  go_wp2_with (fail)
  go_loopw [5, 8] (fun _ i wr => ∃ k : Nat, k ≤ n ∧ i = .int .i64 k ∧ Hid (∀ j, j < k → (v == nth xs j) = false) ∧ Ext w wr) (fun _ i _ => n - (intOf i).toNat)
  case atStart => exact ⟨0, Nat.zero_le _, rfl, Lib.hid (fun j hj => by omega), Ext.refl _⟩
  case round =>
    obtain ⟨k, hk, rfl, HT, hext⟩ := hrel
    by_cases hlt : k < n
    · obtain ⟨b, off, rfl, hc⟩ := HX.out.2 k hlt
      have hc' := hext.cell hc
      clear hc
      cases hb : (v == nth xs k)
      · have HB := Lib.hid hb
        go_wp2_with (fail)
        go_roundw
        case rel => exact ⟨k + 1, by omega, by go_num, Lib.hid (fun j hj => by
          by_cases hjk : j = k
          · subst hjk; exact HB.out
          · exact HT.out j (by omega)), hext⟩
        case measure => simp [intOf]; omega
      · have HB := Lib.hid hb
        go_wp2_with (fail)
        go_ret
        exact ⟨ret_int (firstIx_hit (f := fun i => v == nth xs i) hlt HB.out HT.out).symm, hext⟩
    · go_wp2_with (fail)
      go_ret
      exact ⟨ret_int (firstIx_none (f := fun i => v == nth xs i) (fun j hj => HT.out j (by omega))).symm, hext⟩

def hasB (xs : List Int) (v : Int) : Bool := (List.range xs.length).any fun i => v == nth xs i
set_option maxHeartbeats 400000 in
theorem c_contains (a : Option Addr) (n cap : Nat) (xs : List Int) (v : Int) (w : World) (hl : n ≤ 4194304) (hx : RdC w a n xs) :
    Calls Try.prog 131 #[.slice a n cap, .int .i64 v] w fun e w' => e = .returned (.bool (hasB xs v)) ∧ Ext w w' := by
  have HA := Lib.hid (show decide (0 ≤ firstIx (fun i => v == nth xs i) n) = hasB xs v by rw [firstIx_any]; unfold hasB; rw [hx.1])
  have hbd := firstIx_bd (fun i => v == nth xs i) n
  go_enter Try.func131, Try.ntmps131
  go_wp2_with (go_at_call 148; refine (c_index _ _ _ _ _ _ hl hx).mono ?_; rintro e w1 ⟨rfl, h1⟩)
  go_ret
  exact ⟨ret_bool HA.out, h1⟩

def regB (qs : List Int) : Bool := !hasB qs 0
/-! ### The discriminant -/
def discS (p : Int) (qs : List Int) : Nat → Int
  | 0 => 1
  | k + 1 => discS p qs k * nth qs k % p
theorem discS_bd {p : Int} {qs : List Int} (hp : 3 ≤ p) : ∀ k, 0 ≤ discS p qs k ∧ discS p qs k < p
  | 0 => by simp [discS]; omega
  | k + 1 => ⟨Int.emod_nonneg _ (by omega), Int.emod_lt_of_pos _ (by omega)⟩
theorem mul_zero_of {p : Int} (hp : primeB p = true) {x y : Int} (hx0 : 0 ≤ x) (hx : x < p) (hy0 : 0 ≤ y) (hy : y < p) : x * y % p = 0 ↔ x = 0 ∨ y = 0 := by
  have key : ∀ q : Nat, (q = 3 ∨ q = 5 ∨ q = 7 ∨ q = 11 ∨ q = 13) → ∀ x : Nat, x < q → ∀ y : Nat, y < q → ((x * y) % q = 0 ↔ x = 0 ∨ y = 0) := by
    rintro q (rfl | rfl | rfl | rfl | rfl) <;> decide +kernel
  have hb := prime_bd hp
  obtain ⟨q, rfl⟩ := Int.eq_ofNat_of_zero_le (show 0 ≤ p by omega)
  obtain ⟨x, rfl⟩ := Int.eq_ofNat_of_zero_le hx0
  obtain ⟨y, rfl⟩ := Int.eq_ofNat_of_zero_le hy0
  have := key q (by simp [primeB] at hp; omega) x (by omega) y (by omega)
  rw [show ((x : Int) * (y : Int)) % (q : Int) = ((x * y % q : Nat) : Int) by simp]
  simp only [Int.natCast_eq_zero]
  exact this
theorem discS_zero {p : Int} {qs : List Int} (hp : primeB p = true) (hq : isB p qs = true) : ∀ k, k ≤ qs.length → ((discS p qs k == 0) = (List.range k).any fun i => (0 : Int) == nth qs i)
  | 0, _ => by simp [discS]
  | k + 1, h => by
    have hb := prime_bd hp
    have ih := discS_zero hp hq k (by omega)
    have hk := isB_nth hq (i := k) (by omega)
    have hd := discS_bd (qs := qs) (show 3 ≤ p by omega) k
    rw [List.range_succ, List.any_append, ← ih]
    rw [Bool.eq_iff_iff]
    simp only [discS, beq_iff_eq, Bool.or_eq_true, List.any_cons, List.any_nil, Bool.or_false]
    rw [mul_zero_of hp hd.1 hd.2 hk.1 hk.2]
    constructor
    · rintro (h | h)
      · exact .inl h
      · exact .inr h.symm
    · rintro (h | h)
      · exact .inl h
      · exact .inr h.symm
def discL (p : Int) (qs : List Int) : Int := discS p qs qs.length
theorem disc_reg {p : Int} {qs : List Int} (hp : primeB p = true) (hq : isB p qs = true) : (discL p qs == 0) = !regB qs := by
  rw [discL, discS_zero hp hq _ (Nat.le_refl _), regB, Bool.not_not]; rfl


def codeR (p : Int) (qs : List Int) (rows : List (List Int)) : Int := if codeM p qs rows = 0 then (if regB qs = true then 0 else 5) else codeM p qs rows
theorem codeR_zero {p : Int} {qs : List Int} {rows : List (List Int)} (h : codeR p qs rows = 0) : codeM p qs rows = 0 ∧ regB qs = true := by
  unfold codeR at h
  split at h
  · rename_i hm
    split at h
    · rename_i hr; exact ⟨hm, hr⟩
    · omega
  · rename_i hm; exact absurd h hm


end Go.Proofs.Ytcocbainookkcaa
