/-
  The products of multivectors in plain numbers; the contract of the program's product with a choice of pairs.
  No condition.
-/
import Derived.Test.YtbgnfjckbjmgbaaFac
namespace Go.Proofs.Ytbgnfjckbjmgbaa
set_option maxRecDepth 100000
open Go.RowKit

/-- One pair of blades is taken into a product. -/
def stepP (p : Int) (f : Nat → Nat → Int) (tk : Nat → Nat → Bool) (x y : List Int) (a b : Nat) (out : List Int) : List Int :=
  if tk a b then out.set (a ^^^ b) ((nth out (a ^^^ b) + nth x a * nth y b * f a b) % p) else out
def inP (p : Int) (f : Nat → Nat → Int) (tk : Nat → Nat → Bool) (x y : List Int) (a : Nat) : Nat → List Int → List Int
  | 0, out => out
  | b + 1, out => stepP p f tk x y a b (inP p f tk x y a b out)
def outP (p : Int) (f : Nat → Nat → Int) (tk : Nat → Nat → Bool) (x y : List Int) (N : Nat) : Nat → List Int
  | 0 => List.replicate N 0
  | a + 1 => inP p f tk x y a N (outP p f tk x y N a)
/-- The product of two multivectors, of the pairs that are taken. -/
def prodL (p : Int) (qs : List Int) (tk : Nat → Nat → Bool) (x y : List Int) : List Int := outP p (fac p qs) tk x y (2 ^ qs.length) (2 ^ qs.length)

/-- N numbers from 0 to p - 1. -/
def Good (p : Int) (N : Nat) (xs : List Int) : Prop := xs.length = N ∧ ∀ i, i < N → 0 ≤ nth xs i ∧ nth xs i < p
theorem good_zero {p : Int} {N : Nat} (hp : 1 ≤ p) : Good p N (List.replicate N 0) := ⟨by simp, fun i hi => by rw [nth_replicate hi]; omega⟩
theorem good_set {p : Int} {N c : Nat} {xs : List Int} {v : Int} (h : Good p N xs) (h0 : 0 ≤ v) (h1 : v < p) : Good p N (xs.set c v) := by
  refine ⟨by simpa using h.1, fun i hi => ?_⟩
  by_cases hc : c < xs.length
  · rw [nth_set hc]
    split
    · exact ⟨h0, h1⟩
    · exact h.2 i hi
  · rw [List.set_eq_of_length_le (by omega)]; exact h.2 i hi
theorem good_isB {p : Int} {N : Nat} {xs : List Int} (h : xs.length = N) (hb : isB p xs = true) : Good p N xs := ⟨h, fun i hi => isB_nth hb (by omega)⟩
theorem Good.isB {p : Int} {N : Nat} {xs : List Int} (h : Good p N xs) : isB p xs = true := by
  unfold Go.Proofs.Ytbgnfjckbjmgbaa.isB
  rw [List.all_eq_true]
  intro v hv
  obtain ⟨i, hi, rfl⟩ := List.getElem_of_mem hv
  have := h.2 i (by rw [← h.1]; exact hi)
  rw [nth_eq hi] at this
  simp [inB]; omega

section
variable {p : Int} {f : Nat → Nat → Int} {tk : Nat → Nat → Bool} {x y : List Int} {a b N : Nat} {out : List Int}
theorem stepP_good (hp : 1 ≤ p) (h : Good p N out) : Good p N (stepP p f tk x y a b out) := by
  unfold stepP
  split
  · exact good_set h (Int.emod_nonneg _ (by omega)) (Int.emod_lt_of_pos _ (by omega))
  · exact h
theorem inP_good (hp : 1 ≤ p) (h : Good p N out) : ∀ b, Good p N (inP p f tk x y a b out)
  | 0 => h
  | b + 1 => stepP_good hp (inP_good hp h b)
theorem outP_good (hp : 1 ≤ p) : ∀ a, Good p N (outP p f tk x y N a)
  | 0 => good_zero hp
  | a + 1 => inP_good hp (outP_good hp a) N
theorem stepP_not (h : tk a b = false) : stepP p f tk x y a b out = out := by simp [stepP, h]
theorem stepP_zero (h : Good p N out) (hc : a ^^^ b < N) (hz : nth x a = 0 ∨ nth y b = 0) : stepP p f tk x y a b out = out := by
  unfold stepP
  split
  · have e : nth x a * nth y b * f a b = 0 := by rcases hz with hz | hz <;> simp [hz]
    have hb := h.2 _ hc
    rw [e, Int.add_zero, Int.emod_eq_of_lt hb.1 hb.2, nth_eq (by rw [h.1]; exact hc)]
    exact List.set_getElem_self _
  · rfl
theorem stepP_yes (h : tk a b = true) : stepP p f tk x y a b out = out.set (a ^^^ b) ((nth out (a ^^^ b) + nth x a * nth y b * f a b) % p) := by simp [stepP, h]
theorem inP_zero {d : Nat} (hp : 1 ≤ p) (hN : N = 2 ^ d) (ha : a < N) (h : Good p N out) (hz : nth x a = 0) : ∀ b, b ≤ N → inP p f tk x y a b out = out
  | 0, _ => rfl
  | b + 1, hb => by
    have ih := inP_zero (d := d) hp hN ha h hz b (by omega)
    unfold inP
    rw [ih]
    exact stepP_zero h (by subst hN; exact Nat.xor_lt_two_pow ha (by omega)) (.inl hz)
end

theorem xor_ab (a b : Nat) (ha : a < 64) (hb : b < 64) : bits BinOp.xor IntKind.i64 (a : Int) (b : Int) = ((a ^^^ b : Nat) : Int) := by
  have : ∀ a : Nat, a < 64 → ∀ b : Nat, b < 64 → bits BinOp.xor IntKind.i64 (a : Int) (b : Int) = ((a ^^^ b : Nat) : Int) := by decide +kernel
  exact this a ha b hb
theorem mul3_bd {p x y z : Int} (hp : p ≤ 1000) (hx0 : 0 ≤ x) (hx : x < p) (hy0 : 0 ≤ y) (hy : y < p) (hz0 : 0 ≤ z) (hz : z < p) : 0 ≤ x * y * z ∧ x * y * z ≤ 1000000000 := by
  obtain ⟨h1, h2⟩ := mul_bd hp hx0 hx hy0 hy
  refine ⟨Int.mul_nonneg h1 hz0, ?_⟩
  have h3 : x * y * z ≤ 1000000 * z := Int.mul_le_mul_of_nonneg_right h2 hz0
  omega

set_option maxHeartbeats 400000 in
theorem c_nothing (p : Int) (a : Option Addr) (d cap : Nat) (w : World) (hd : d ≤ 6) :
    Calls Try.prog 161 #[.agg #[.int .i64 p, .slice a d cap]] w fun e w' => ∃ g, e = .returned (.slice (some ⟨g, 0, none⟩) (2 ^ d) (2 ^ d)) ∧ OwnC w.heap.size w' (some ⟨g, 0, none⟩) (2 ^ d) (2 ^ d) (List.replicate (2 ^ d) 0) ∧ Ext w w' := by
  have hpw := pow_wrap hd
  have hN := pow_le64 hd
  obtain ⟨N, hN'⟩ : ∃ N, N = 2 ^ d := ⟨_, rfl⟩
  rw [← hN'] at hpw hN ⊢
  clear hN'
  go_enter Try.func161, Try.ntmps161
  go_wp2_with (go_at_call 103; refine (c_dim _ _ _ _ _).mono ?_; rintro e w1 ⟨rfl, g1⟩)
  obtain ⟨w2, hmk, ho, he⟩ := make_ints w1 N (by omega)
  have HO := Lib.hid ho
  have HE := Lib.hid ((ext_alloc _ _).trans (g1.trans he))
  have hz := g1.size'
  simp only [World.size_alloc] at hz
  clear ho he g1
  rw [hmk]
  go_wp2_with (fail)
  go_ret
  exact ⟨w1.heap.size, rfl, HO.out.mono (by omega), HE.out⟩

set_option maxHeartbeats 2000000 in
set_option maxRecDepth 100000 in
theorem c_product (p : Int) (a : Option Addr) (d cap : Nat) (qs : List Int) (ax ay : Option Addr) (cx cy : Nat) (x y : List Int) (F : Nat) (tk : Nat → Nat → Bool) (w : World) (hd : d ≤ 6) (hp1 : 3 ≤ p) (hp2 : p ≤ 1000) (hq : RdC w a d qs) (hqb : isB p qs = true)
    (hx : RdC w ax (2 ^ d) x) (hy : RdC w ay (2 ^ d) y) (hxb : isB p x = true) (hyb : isB p y = true)
    (hcf : ∀ args w, (callFunc F args).run Try.prog w = .ok (.enter F args) w)
    (htk : ∀ (i j : Nat) (w : World), i < 64 → j < 64 → Calls Try.prog F #[.int .i64 i, .int .i64 j] w fun e w' => e = .returned (.bool (tk i j)) ∧ Ext w w') :
    Calls Try.prog 97 #[.agg #[.int .i64 p, .slice a d cap], .slice ax (2 ^ d) cx, .slice ay (2 ^ d) cy, .func (.func F) #[] #[]] w fun e w' =>
      ∃ g, e = .returned (.slice (some ⟨g, 0, none⟩) (2 ^ d) (2 ^ d)) ∧ OwnC w.heap.size w' (some ⟨g, 0, none⟩) (2 ^ d) (2 ^ d) (prodL p qs tk x y) ∧ Ext w w' := by
  have hN := pow_le64 hd
  obtain ⟨N, hN'⟩ : ∃ N, N = 2 ^ d := ⟨_, rfl⟩
  have HPr := Lib.hid (show prodL p qs tk x y = outP p (fac p qs) tk x y N N by unfold prodL; rw [hq.1, hN'])
  have HN := Lib.hid hN'
  rw [← hN'] at hN hx hy ⊢
  clear hN'
  have HX := Lib.hid hx
  have HY := Lib.hid hy
  have HXB := Lib.hid hxb
  have HYB := Lib.hid hyb
  have HT := Lib.hid htk
  have HQB := Lib.hid hqb
  have HQ := Lib.hid hq
  clear hx hy hxb hyb htk hqb hq
  obtain ⟨W, hW⟩ : ∃ W, W = w.alloc (.cells #[.int .i64 p, .slice a d cap] 26) := ⟨_, rfl⟩
  have gW : Ext w W := by rw [hW]; exact ext_alloc _ _
  have hs0 : W.cell? ⟨w.heap.size, 0, none⟩ = some (.int .i64 p) := by rw [hW]; simp
  have hs1 : W.cell? ⟨w.heap.size, 1, none⟩ = some (.slice a d cap) := by rw [hW]; simp
  have HS0 := Lib.hid hs0
  have HS1 := Lib.hid hs1
  have GW := Lib.hid gW
  have HW := Lib.hid hW
  go_enter Try.func97, Try.ntmps97
  go_wp2_with (fail)
  rw [← HW.out]
  have Hno := c_nothing p a d cap W hd
  rw [← HN.out] at Hno
  refine Hno.mono ?_
  rintro e w1 ⟨g, rfl, ho, g1⟩
  have HO := Lib.hid ho
  have G1 := Lib.hid g1
  clear Hno ho g1 hW gW hs0 hs1
  go_wp2_with (fail)
  go_loopw [18] (fun i wr => ∃ k : Nat, k ≤ N ∧ i = .int .i64 k ∧ OwnC W.heap.size wr (some ⟨g, 0, none⟩) N N (outP p (fac p qs) tk x y N k) ∧ Ext W wr) (fun i _ => N - (intOf i).toNat)
  case atStart => exact ⟨0, Nat.zero_le _, rfl, HO.out, G1.out⟩
  case round =>
    obtain ⟨k, hk, rfl, hown, hext⟩ := hrel
    have HOwn := Lib.hid hown
    have HExt := Lib.hid hext
    clear hown hext
    by_cases hlt : k < N
    · obtain ⟨bx, ox, rfl, hcx⟩ := HX.out.2 k hlt
      have hcx' := (GW.out.trans HExt.out).cell hcx
      clear hcx
      have hgood := Lib.hid (outP_good (f := fac p qs) (tk := tk) (x := x) (y := y) (N := N) (show 1 ≤ p by omega) k)
      have hxk := isB_nth HXB.out (i := k) (by rw [HX.out.1]; exact hlt)
      by_cases hz : nth x k = 0
      · have hzb : (nth x k == 0) = true := by simp [hz]
        have HZ := Lib.hid (inP_zero (f := fac p qs) (tk := tk) (y := y) (d := d) (show 1 ≤ p by omega) HN.out hlt hgood.out hz N (Nat.le_refl _))
        clear hz
        go_wp2_with (fail)
        go_roundw
        case rel => exact ⟨k + 1, by omega, by go_num, by unfold outP; rw [HZ.out]; exact HOwn.out, HExt.out⟩
        case measure => simp [intOf]; omega
      · have hzb : (nth x k == 0) = false := by simp [hz]
        clear hz
        go_wp2_with (fail)
        obtain ⟨wo, hwo⟩ : ∃ wo : World, wo = wr := ⟨_, rfl⟩
        clear hwo
        go_loopw [27] (fun i wr => ∃ j : Nat, j ≤ N ∧ i = .int .i64 j ∧ OwnC W.heap.size wr (some ⟨g, 0, none⟩) N N (inP p (fac p qs) tk x y k j (outP p (fac p qs) tk x y N k)) ∧ Ext W wr) (fun i _ => N - (intOf i).toNat)
        case atStart => exact ⟨0, Nat.zero_le _, rfl, HOwn.out, HExt.out⟩
        case round =>
          obtain ⟨j, hj, rfl, hown, hext⟩ := hrel
          have HOwn2 := Lib.hid hown
          have HExt2 := Lib.hid hext
          clear hown hext
          by_cases hlj : j < N
          · obtain ⟨by', oy, rfl, hcy⟩ := HY.out.2 j hlj
            have hcy' := (GW.out.trans HExt2.out).cell hcy
            clear hcy hcx'
            have hin := Lib.hid (inP_good (f := fac p qs) (tk := tk) (x := x) (y := y) (a := k) (show 1 ≤ p by omega) hgood.out j)
            have hc : k ^^^ j < N := by rw [HN.out] at hlt hlj ⊢; exact Nat.xor_lt_two_pow hlt hlj
            by_cases hzj : nth y j = 0
            · have hzb2 : (nth y j != 0) = false := by simp [hzj]
              have HZ := Lib.hid (stepP_zero (f := fac p qs) (tk := tk) (x := x) (y := y) (a := k) (b := j) hin.out hc (.inr hzj))
              clear hzj
              go_wp2_with (fail)
              go_roundw
              case rel => exact ⟨j + 1, by omega, by go_num, by unfold inP; rw [HZ.out]; exact HOwn2.out, HExt2.out⟩
              case measure => simp [intOf]; omega
            · have hzb2 : (nth y j != 0) = true := by simp [hzj]
              have htk := Lib.hid (HT.out k j wr (by omega) (by omega))
              clear hzj
              cases ht : tk k j
              · have HTK := Lib.hid ht
                have HZ := Lib.hid (stepP_not (p := p) (f := fac p qs) (x := x) (y := y) (out := inP p (fac p qs) tk x y k j (outP p (fac p qs) tk x y N k)) ht)
                clear ht
                go_wp2_with ((with_reducible refine (htk.out).mono ?_); rintro e w2 ⟨rfl, g2⟩; rw [HTK.out])
                go_roundw
                case rel => exact ⟨j + 1, by omega, by go_num, by unfold inP; rw [HZ.out]; exact HOwn2.out.ext g2, HExt2.out.trans g2⟩
                case measure => simp [intOf]; omega
              · have HTK := Lib.hid ht
                have HZ := Lib.hid (stepP_yes (p := p) (f := fac p qs) (x := x) (y := y) (out := inP p (fac p qs) tk x y k j (outP p (fac p qs) tk x y N k)) ht)
                clear ht
                go_wp2_with ((with_reducible refine (htk.out).mono ?_); rintro e w2 ⟨rfl, g2⟩; rw [HTK.out])
                obtain ⟨Z, hZ⟩ : ∃ Z, Z = inP p (fac p qs) tk x y k j (outP p (fac p qs) tk x y N k) := ⟨_, rfl⟩
                rw [← hZ] at hin HOwn2 HZ
                have HZZ := Lib.hid hZ
                clear hZ
                have X2 := Lib.hid (g2.trans (ext_drew _))
                have Y2 := Lib.hid (HExt2.out.trans X2.out)
                have HO2 := Lib.hid (HOwn2.out.ext X2.out)
                have Hc := Lib.hid (HO2.out.cell hc)
                have hzc := hin.out.2 _ hc
                have hyj := isB_nth HYB.out (i := j) (by rw [HY.out.1]; exact hlj)
                have hfb := fac_bd (qs := qs) (b := j) hp1 (show k < 64 by omega)
                have hxor := xor_ab k j (by omega) (by omega)
                obtain ⟨Fk, hFk⟩ : ∃ Fk, Fk = fac p qs k j := ⟨_, rfl⟩
                rw [← hFk] at hfb HZ
                obtain ⟨c, hcc⟩ : ∃ c, c = k ^^^ j := ⟨_, rfl⟩
                rw [← hcc] at hc HZ hzc hxor
                rw [← hcc] at Hc
                obtain ⟨zc, hzc'⟩ : ∃ zc, zc = nth Z c := ⟨_, rfl⟩
                rw [← hzc'] at hzc HZ
                rw [← hzc'] at Hc
                obtain ⟨hm1, hm2⟩ := mul_bd hp2 hxk.1 hxk.2 hyj.1 hyj.2
                obtain ⟨hm3, hm4⟩ := mul3_bd hp2 hxk.1 hxk.2 hyj.1 hyj.2 hfb.1 hfb.2
                have hw1 : IntKind.i64.wrap (nth x k * nth y j) = nth x k * nth y j := IntWalk.i64_in _ (by omega)
                have hw2 : IntKind.i64.wrap (nth x k * nth y j * Fk) = nth x k * nth y j * Fk := IntWalk.i64_in _ (by omega)
                have hw3 : IntKind.i64.wrap (zc + nth x k * nth y j * Fk) = zc + nth x k * nth y j * Fk := IntWalk.i64_in _ (by omega)
                have hcn : (c : Int) < N := by omega
                have hc0 : (0 : Int) ≤ c := by omega
                have HFk := Lib.hid hFk
                have Hcc := Lib.hid hcc
                have Hzc := Lib.hid hzc'
                clear hFk hcc hzc' hzc
                refine wp_region_lex_tail 23 [(5, .val (.int .i64 p)), (18, .val (.int .i64 Fk)), (21, .val (.int .i64 ((zc + nth x k * nth y j * Fk) % p)))] (by kernel_rfl) (by kernel_rfl) ?_
                simp only [List.take, List.drop]
                repeat' first | (refine LexW.pure (v := ?_) rfl rfl (fun w1 he => ?_) ?_; rotate_left; ( have e1 := (Y2.out.trans he).cell HS0.out; have e2 := (Y2.out.trans he).cell HS1.out; have e3 := he.cell Hc.out; go_simp; rfl); simp only [Act.put, List.setIfInBounds_toArray, List.set_cons_zero, List.set_cons_succ]) | (refine LexW.call (f := ?_) (args := ?_) rfl rfl (fun w1 => ?_) (fun w1 he hdep => ?_) ?_; rotate_left 2; (go_simp; refine ⟨?_, ?_⟩ <;> rfl); ( first | (go_at_call 89; exact c_field _ _ _) | (go_at_call 162; rw [HFk.out]; exact c_factor _ _ _ _ _ _ _ _ hd hp1 hp2 (by omega) (by omega) (HQ.out.ext (GW.out.trans (Y2.out.trans he))) HQB.out) | (go_at_call 154; exact c_num _ _ _ (by omega) hp2)); simp only [Act.put, List.setIfInBounds_toArray, List.set_cons_zero, List.set_cons_succ])
                refine LexW.nil (fun w3 he hk => ?_)
                have HO3 := Lib.hid (HO2.out.ext he)
                have ec := HO3.out.cell hc
                have ef := HO3.out.frozen c
                have hgb := HO3.out.base_le
                go_wp2_with (fail)
                go_roundw
                case rel => exact ⟨j + 1, by omega, by go_num, by unfold inP; rw [← HZZ.out, HZ.out]; exact HO3.out.store hc _, (Y2.out.trans he).setCell hgb.1 _⟩
                case measure => simp [intOf]; omega
          · clear hcx'
            go_wp2_with (fail)
            go_roundw
            case rel => exact ⟨k + 1, by omega, by go_num, by
              have hjn : j = N := by omega
              unfold outP; rw [← hjn]; rw [hjn]; have := HOwn2.out; rw [hjn] at this; exact this, HExt2.out⟩
            case measure => simp [intOf]; omega
    · go_wp2_with (fail)
      go_ret
      have hkn : k = N := by omega
      refine ⟨g, rfl, ?_, GW.out.trans HExt.out⟩
      rw [HPr.out]
      have := HOwn.out
      rw [hkn] at this
      exact this.mono GW.out.size

end Go.Proofs.Ytbgnfjckbjmgbaa
