/-
  Reverses of multivectors, in the program and in the reference.
  No condition.
-/
import Derived.Test.YtbgnfjckbjmgbaaOwn
import Derived.Test.YtbgnfjckbjmgbaaKit
namespace Go.Proofs.Ytbgnfjckbjmgbaa
set_option maxRecDepth 100000
open Go.RowKit


def revB (g : Nat) : Bool := g * (g - 1) / 2 % 2 == 1
theorem rev_i (g : Nat) (hg : g ≤ 6) : ((wrap64 ((wrap64 ((g : Int) * ((g : Int) - 1))).tdiv 2)).tmod 2 == 1) = revB g := by
  have : ∀ g : Nat, g < 7 → ((wrap64 ((wrap64 ((g : Int) * ((g : Int) - 1))).tdiv 2)).tmod 2 == 1) = revB g := by decide +kernel
  exact this g (by omega)
set_option maxHeartbeats 400000 in
theorem c_reverse1 (g : Nat) (w : World) (hg : g ≤ 6) :
    Calls Try.prog 160 #[.int .i64 g] w fun e w' => e = .returned (.bool (revB g)) ∧ Ext w w' := by
  go_enter Try.func160, Try.ntmps160
  go_wp2
  go_ret
  exact ⟨ret_bool (rev_i g hg), Ext.refl _⟩

def signN (p : Int) (odd : Nat → Bool) (x : List Int) (i : Nat) : Int := if odd (popc i) = true then (-nth x i) % p else nth x i
def signL (p : Int) (odd : Nat → Bool) (x : List Int) (n : Nat) : List Int := (List.range n).map (signN p odd x)
theorem signL_len (p : Int) (odd : Nat → Bool) (x : List Int) (n : Nat) : (signL p odd x n).length = n := by simp [signL]
theorem signL_nth {p : Int} {odd : Nat → Bool} {x : List Int} {n i : Nat} (h : i < n) : nth (signL p odd x n) i = signN p odd x i := by
  unfold signL; rw [nth_map (by simpa using h)]; simp
theorem signL_succ (p : Int) (odd : Nat → Bool) (x : List Int) (n : Nat) : signL p odd x (n + 1) = signL p odd x n ++ [signN p odd x n] := by simp [signL, List.range_succ]
theorem signN_bd {p : Int} {odd : Nat → Bool} {x : List Int} {n i : Nat} (hp : 1 ≤ p) (hx : Good p n x) (h : i < n) : 0 ≤ signN p odd x i ∧ signN p odd x i < p := by
  unfold signN; split
  · exact ⟨Int.emod_nonneg _ (by omega), Int.emod_lt_of_pos _ (by omega)⟩
  · exact hx.2 i h
theorem sign_good {p : Int} {odd : Nat → Bool} {x : List Int} {n : Nat} (hp : 1 ≤ p) (hx : Good p n x) : Good p n (signL p odd x n) := ⟨signL_len _ _ _ _, fun i hi => by rw [signL_nth hi]; exact signN_bd hp hx hi⟩

set_option maxHeartbeats 1000000 in
set_option maxRecDepth 100000 in
theorem c_signed (p : Int) (a : Option Addr) (d cap : Nat) (b off n cx : Nat) (x : List Int) (F : Nat) (odd : Nat → Bool) (w : World) (hp1 : 3 ≤ p) (hp2 : p ≤ 1000) (hn : 0 < n) (hn6 : n ≤ 64) (hx : RdC w (some ⟨b, off, none⟩) n x) (hgx : Good p n x)
    (hcf : ∀ args w, (callFunc F args).run Try.prog w = .ok (.enter F args) w)
    (hF : ∀ (g : Nat) (w : World), g ≤ 6 → Calls Try.prog F #[.int .i64 g] w fun e w' => e = .returned (.bool (odd g)) ∧ Ext w w') :
    Calls Try.prog 159 #[.agg #[.int .i64 p, .slice a d cap], .slice (some ⟨b, off, none⟩) n cx, .func (.func F) #[] #[]] w fun e w' => ∃ g rc, e = .returned (.slice (some ⟨g, 0, none⟩) n rc) ∧ OwnC w.heap.size w' (some ⟨g, 0, none⟩) n rc (signL p odd x n) ∧ Ext w w' := by
  have HX := Lib.hid hx
  have HGX := Lib.hid hgx
  have HF := Lib.hid hF
  clear hx hgx hF
  obtain ⟨W, hW⟩ : ∃ W, W = w.alloc (.cells #[.int .i64 p, .slice a d cap] 26) := ⟨_, rfl⟩
  have gW : Ext w W := by rw [hW]; exact ext_alloc _ _
  have hs0 : W.cell? ⟨w.heap.size, 0, none⟩ = some (.int .i64 p) := by rw [hW]; simp
  have hs1 : W.cell? ⟨w.heap.size, 1, none⟩ = some (.slice a d cap) := by rw [hW]; simp
  have HS0 := Lib.hid (hs0)
  have HS1 := Lib.hid (hs1)
  have GW := Lib.hid (gW)
  have HW := Lib.hid hW
  clear hs0 hs1 gW hW
  go_enter Try.func159, Try.ntmps159
  go_wp2_with (fail)
  rw [← HW.out]
  refine (c_clone b off n cx x W hn (by omega) (HX.out.ext GW.out)).mono ?_
  rintro e w1 ⟨g, rc, rfl, ho, g1⟩
  have HO := Lib.hid ho
  have G1 := Lib.hid g1
  have hb := ho.base_le
  clear ho g1
  go_wp2_with (fail)
  go_loopw [14] (fun i wr => ∃ (k : Nat) (ys : List Int), k ≤ n ∧ i = .int .i64 k ∧ OwnC W.heap.size wr (some ⟨g, 0, none⟩) n rc ys ∧ Hid (∀ i, i < n → nth ys i = if i < k then signN p odd x i else nth x i) ∧ Ext W wr) (fun i _ => n - (intOf i).toNat)
  case atStart => exact ⟨0, x, Nat.zero_le _, rfl, HO.out, Lib.hid (fun i _ => by simp), G1.out⟩
  case round =>
    obtain ⟨k, ys, hk, rfl, hown, HT, hext⟩ := hrel
    have HOwn := Lib.hid hown
    have HExt := Lib.hid hext
    clear hown hext
    by_cases hlt : k < n
    · obtain ⟨bx, ox, hbx, hcx⟩ := HX.out.2 k hlt
      obtain ⟨rfl, rfl⟩ : b = bx ∧ off = ox := by cases hbx; exact ⟨rfl, rfl⟩
      clear hbx
      have hcx' := (GW.out.trans HExt.out).cell hcx
      have hxk := HGX.out.2 k hlt
      have hpk := popc_le (show k < 64 by omega)
      have HFk := Lib.hid (fun w => HF.out (popc k) w hpk)
      have hw1 : IntKind.i64.wrap (-nth x k) = -nth x k := IntWalk.i64_in _ (by omega)
      have hq0 := HExt.out.cell HS0.out
      have hq1 := HExt.out.cell HS1.out
      have HYL := Lib.hid (show k < ys.length by rw [HOwn.out.1]; exact hlt)
      clear hcx
      cases ho : odd (popc k)
      · have HD := Lib.hid ho
        have HSg := Lib.hid (show signN p odd x k = nth x k by simp [signN, ho])
        clear ho
        go_wp2_with (first | (go_at_call 192; refine (c_grade _ _ (by omega)).mono ?_; rintro e w2 ⟨rfl, g2⟩) | ((with_reducible refine (HFk.out _).mono ?_); rintro e w3 ⟨rfl, g3⟩; rw [HD.out]))
        go_roundw
        case rel => exact ⟨k + 1, ys, by omega, by go_num, HOwn.out.ext (g2.trans g3), Lib.hid (fun i hi => by
          rw [HT.out i hi]
          by_cases h1 : i < k
          · rw [if_pos h1, if_pos (by omega)]
          · by_cases h2 : i = k
            · subst h2; rw [if_neg h1, if_pos (by omega), HSg.out]
            · rw [if_neg h1, if_neg (by omega)]), HExt.out.trans (g2.trans g3)⟩
        case measure => simp [intOf]; omega
      · have HD := Lib.hid ho
        have HSg := Lib.hid (show (-nth x k) % p = signN p odd x k by simp [signN, ho])
        clear ho
        go_wp2_with (first | (go_at_call 192; refine (c_grade _ _ (by omega)).mono ?_; rintro e w2 ⟨rfl, g2⟩) | ((with_reducible refine (HFk.out _).mono ?_); rintro e w3 ⟨rfl, g3⟩; rw [HD.out]; have G3 := Lib.hid (g2.trans g3); have HO3 := Lib.hid (HOwn.out.ext G3.out); have hr0 := G3.out.cell hq0; have hr1 := G3.out.cell hq1; clear g2 g3 hcx' hq0 hq1) | (go_at_call 89; refine (c_field _ _ _).mono ?_; rintro e w4 ⟨rfl, g4⟩; have G4 := Lib.hid g4; clear g4 hr0 hr1) | (go_at_call 154; refine (c_num _ _ _ (by omega) hp2).mono ?_; rintro e w5 ⟨rfl, g5⟩; rw [HSg.out]; have G5 := Lib.hid (G4.out.trans g5); have HO5 := Lib.hid (HO3.out.ext G5.out); have ec := HO5.out.cell hlt; have ef := HO5.out.frozen k; have hz := G5.out.size'; clear g5))
        go_roundw
        case rel => exact ⟨k + 1, ys.set k (signN p odd x k), by omega, by go_num, HO5.out.store hlt _, Lib.hid (fun i hi => by
          rw [nth_set HYL.out, HT.out i hi]
          by_cases h1 : i < k
          · rw [if_neg (by omega), if_pos h1, if_pos (by omega)]
          · by_cases h2 : k = i
            · subst h2; rw [if_pos rfl, if_pos (by omega)]
            · rw [if_neg h2, if_neg h1, if_neg (by omega)]), (HExt.out.trans (G3.out.trans G5.out)).setCell (by simp; omega) _⟩
        case measure => simp [intOf]; omega
    · go_wp2_with (fail)
      go_ret
      obtain rfl : k = n := by omega
      refine ⟨g, rc, rfl, ?_, GW.out.trans HExt.out⟩
      have e : ys = signL p odd x k := ext_nth (by rw [HOwn.out.1, signL_len]) (fun i hi => by
        rw [HOwn.out.1] at hi
        rw [HT.out i hi, if_pos hi, signL_nth hi])
      rw [← e]
      exact HOwn.out.mono GW.out.size

set_option maxHeartbeats 400000 in
theorem c_reverse (p : Int) (a : Option Addr) (d cap : Nat) (b off n cx : Nat) (x : List Int) (w : World) (hp1 : 3 ≤ p) (hp2 : p ≤ 1000) (hn : 0 < n) (hn6 : n ≤ 64) (hx : RdC w (some ⟨b, off, none⟩) n x) (hgx : Good p n x) :
    Calls Try.prog 96 #[.agg #[.int .i64 p, .slice a d cap], .slice (some ⟨b, off, none⟩) n cx] w fun e w' => ∃ g rc, e = .returned (.slice (some ⟨g, 0, none⟩) n rc) ∧ OwnC w.heap.size w' (some ⟨g, 0, none⟩) n rc (signL p revB x n) ∧ Ext w w' := by
  go_enter Try.func96, Try.ntmps96
  go_wp2_with (fail)
  refine (c_signed p a d cap b off n cx x 160 revB _ hp1 hp2 hn hn6 (hx.ext (ext_alloc _ _)) hgx ?_ (fun g w hg => c_reverse1 g w hg)).mono ?_
  · intro args w; go_simp
  rintro e w1 ⟨g, rc, rfl, ho, g1⟩
  have HO := Lib.hid ho
  have G1 := Lib.hid g1
  clear ho g1
  go_wp2_with (fail)
  go_ret
  exact ⟨g, rc, rfl, HO.out.mono (by simp), (ext_alloc _ _).trans G1.out⟩

theorem neg_ref {p x : Int} : (p - x) % p = (-x) % p := by
  rw [show p - x = -x + p * 1 by omega, Int.add_mul_emod_self_left]


end Go.Proofs.Ytbgnfjckbjmgbaa
