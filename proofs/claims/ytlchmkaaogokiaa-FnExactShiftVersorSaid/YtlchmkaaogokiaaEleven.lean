/-
  Sums and multiples of elements in the reference: contracts.
  No condition.
-/
import Derived.Test.YtlchmkaaogokiaaPlus
import Derived.Test.YtlchmkaaogokiaaInv
namespace Go.Proofs.Ytlchmkaaogokiaa
set_option maxRecDepth 100000
open Go.RowKit

set_option maxHeartbeats 400000 in
theorem s_mod (p n : Int) (w : World) (h1 : 1 ≤ p) (h2 : p ≤ 1000) :
    Calls Try.prog 133 #[.int .i64 p, .int .i64 n] w fun e w' => e = .returned (.int .i64 (n % p)) ∧ Ext w w' := by
  have HE := Lib.hid (num_eq (n := n) h1 h2)
  have hpz : ¬ p = 0 := by omega
  go_enter Try.func133, Try.ntmps133
  go_wp2
  go_ret
  exact ⟨ret_int HE.out, Ext.refl _⟩
set_option maxHeartbeats 1000000 in
theorem s_scale11 (p : Int) (ax : Option Addr) (n cx : Nat) (x : List Int) (k : Int) (w : World) (hp1 : 3 ≤ p) (hp2 : p ≤ 1000) (hk : -1000 ≤ k ∧ k ≤ 1000) (hn : n ≤ 4194303) (hx : RdC w ax n x) (hgx : Good p n x) :
    Calls Try.prog 82 #[.int .i64 p, .int .i64 k, .slice ax n cx] w fun e w' => ∃ g rc, e = .returned (.slice (some ⟨g, 0, none⟩) n rc) ∧ OwnC w.heap.size w' (some ⟨g, 0, none⟩) n rc (scaleL p x k n) ∧ Ext w w' := by
  have HX := Lib.hid hx
  have HGX := Lib.hid hgx
  clear hx hgx
  go_enter Try.func82, Try.ntmps82
  go_wp2_with (fail)
  go_loopw [7, 8] (fun v i wr => ∃ (j g rc : Nat), j ≤ n ∧ i = .int .i64 j ∧ v = .slice (some ⟨g, 0, none⟩) j rc ∧ OwnC w.heap.size wr (some ⟨g, 0, none⟩) j rc (scaleL p x k j) ∧ Ext w wr) (fun _ i _ => n - (intOf i).toNat)
  case atStart => exact ⟨0, _, _, Nat.zero_le _, rfl, rfl, own_empty w, ext_alloc _ _⟩
  case round =>
    obtain ⟨j, g, rc, hj, rfl, rfl, hown, hext⟩ := hrel
    have HOwn := Lib.hid hown
    have HExt := Lib.hid hext
    clear hown hext
    by_cases hlt : j < n
    · obtain ⟨bx, ox, rfl, hcx⟩ := HX.out.2 j hlt
      have hcx' := HExt.out.cell hcx
      have hbx := HGX.out.2 j hlt
      have hkb := kmul_bd hk hbx.1 (show nth x j ≤ 1000 by omega)
      have hw1 : IntKind.i64.wrap (k * nth x j) = k * nth x j := IntWalk.i64_in _ (by omega)
      have HP := Lib.hid (show (k * nth x j) % p = scaleN p x k j by unfold scaleN; rw [Int.mul_comm])
      clear hcx
      go_wp2_with (first | (go_at_call 133; refine (s_mod _ _ _ (by omega) hp2).mono ?_; rintro e w2 ⟨rfl, g2⟩; rw [HP.out]; have G2 := Lib.hid g2; clear g2) | (at_builtin; refine wpList_push rfl (.tmp 16) (.tmp 25) rfl rfl rfl (v := scaleN p x k j) (HOwn.out.ext (G2.out.trans (ext_alloc _ _))) ?hc ?hn ?hB ?hk))
      case hc => simp
      case hn => omega
      case hB => have hz := (HExt.out.trans G2.out).size'; simp; omega
      case hk =>
        intro g' cap' w3 ho3 hg3 he3
        have HO3 := Lib.hid ho3
        have HE3 := Lib.hid (he3 w (Nat.le_refl _) ((HExt.out.trans G2.out).alloc _))
        clear ho3 hg3 he3
        go_wp2_with (fail)
        go_roundw
        case rel => exact ⟨j + 1, g', cap', by omega, by go_num, rfl, by rw [scaleL_succ]; exact HO3.out, HE3.out⟩
        case measure => simp [intOf]; omega
    · go_wp2_with (fail)
      go_ret
      obtain rfl : j = n := by omega
      exact ⟨g, rc, rfl, HOwn.out, HExt.out⟩
set_option maxHeartbeats 1000000 in
theorem s_add11 (p : Int) (ax ay : Option Addr) (n cx cy : Nat) (x y : List Int) (w : World) (hp1 : 3 ≤ p) (hp2 : p ≤ 1000) (hn : n ≤ 4194303) (hx : RdC w ax n x) (hy : RdC w ay n y) (hgx : ∀ i, i < n → 0 ≤ nth x i ∧ nth x i ≤ 1000) (hgy : Good p n y) :
    Calls Try.prog 132 #[.int .i64 p, .slice ax n cx, .slice ay n cy] w fun e w' => ∃ g rc, e = .returned (.slice (some ⟨g, 0, none⟩) n rc) ∧ OwnC w.heap.size w' (some ⟨g, 0, none⟩) n rc (plusL p x y 1 n) ∧ Ext w w' := by
  have HX := Lib.hid hx
  have HY := Lib.hid hy
  have HGX := Lib.hid hgx
  have HGY := Lib.hid hgy
  clear hx hy hgx hgy
  go_enter Try.func132, Try.ntmps132
  go_wp2_with (fail)
  go_loopw [7, 8] (fun v i wr => ∃ (j g rc : Nat), j ≤ n ∧ i = .int .i64 j ∧ v = .slice (some ⟨g, 0, none⟩) j rc ∧ OwnC w.heap.size wr (some ⟨g, 0, none⟩) j rc (plusL p x y 1 j) ∧ Ext w wr) (fun _ i _ => n - (intOf i).toNat)
  case atStart => exact ⟨0, _, _, Nat.zero_le _, rfl, rfl, own_empty w, ext_alloc _ _⟩
  case round =>
    obtain ⟨j, g, rc, hj, rfl, rfl, hown, hext⟩ := hrel
    have HOwn := Lib.hid hown
    have HExt := Lib.hid hext
    clear hown hext
    by_cases hlt : j < n
    · obtain ⟨bx, ox, rfl, hcx⟩ := HX.out.2 j hlt
      obtain ⟨by', oy, rfl, hcy⟩ := HY.out.2 j hlt
      have Hcx := Lib.hid ((HExt.out.trans (ext_drew _)).cell hcx)
      have Hcy := Lib.hid ((HExt.out.trans (ext_drew _)).cell hcy)
      have hbx := HGX.out j hlt
      have hby := HGY.out.2 j hlt
      have hw2 : IntKind.i64.wrap (nth x j + nth y j) = nth x j + nth y j := IntWalk.i64_in _ (by omega)
      have HP := Lib.hid (show (nth x j + nth y j) % p = plusN p x y 1 j by unfold plusN; rw [Int.one_mul])
      clear hcx hcy
      go_wp2_with (fail)
      refine wp_region_lex_tail 13 [(11, .val (.int .i64 (plusN p x y 1 j))), (12, .one (plusN p x y 1 j))] (by kernel_rfl) (by kernel_rfl) ?_
      simp only [List.take, List.drop]
      repeat' first | (refine LexW.pure (v := ?_) rfl rfl (fun w1 he => ?_) ?_; rotate_left; ( have e3 := he.cell Hcx.out; have e4 := he.cell Hcy.out; go_simp; rfl); simp only [Act.put, List.setIfInBounds_toArray, List.set_cons_zero, List.set_cons_succ]) | (refine LexW.call (f := ?_) (args := ?_) rfl rfl (fun w1 => ?_) (fun w1 he hdep => ?_) ?_; rotate_left 2; (go_simp; refine ⟨?_, ?_⟩ <;> rfl); ( rw [← HP.out]; exact s_mod _ _ _ (by omega) hp2); simp only [Act.put, List.setIfInBounds_toArray, List.set_cons_zero, List.set_cons_succ]) | ((refine LexW.rel rfl rfl (fun w1 he hdep => ?_) (fun v hv => ?_); ( exact ⟨.slice (some ⟨w1.heap.size, 0, none⟩) 1 1, w1.alloc (.cells #[.int .i64 (plusN p x y 1 j)] 2), (by go_simp), ext_alloc _ _, _, rfl, (by simp)⟩); simp only [Act.put, List.setIfInBounds_toArray, List.set_cons_zero, List.set_cons_succ]); obtain ⟨_, g9, rfl, _⟩ := hv)
      refine LexW.nil (fun w2 he hkn => ?_)
      obtain ⟨_, q9, r9⟩ : (SPred.one (plusN p x y 1 j)).holds (.slice (some ⟨g9, 0, none⟩) 1 1) w2 := hkn (12, _) (by simp)
      cases q9
      have G2 := Lib.hid ((ext_drew _).trans he)
      have R9 := Lib.hid r9
      clear he hkn r9
      go_wp2_with (at_builtin; refine wpList_push rfl (.tmp 16) (.tmp 28) rfl rfl rfl (v := plusN p x y 1 j) (HOwn.out.ext G2.out) ?hc ?hn ?hB ?hk)
      case hc => exact R9.out
      case hn => omega
      case hB => exact (HExt.out.trans G2.out).size'
      case hk =>
        intro g' cap' w3 ho3 hg3 he3
        have HO3 := Lib.hid ho3
        have HE3 := Lib.hid (he3 w (Nat.le_refl _) (HExt.out.trans G2.out))
        clear ho3 hg3 he3
        go_wp2_with (fail)
        go_roundw
        case rel => exact ⟨j + 1, g', cap', by omega, by go_num, rfl, by rw [plusL_succ]; exact HO3.out, HE3.out⟩
        case measure => simp [intOf]; omega
    · go_wp2_with (fail)
      go_ret
      obtain rfl : j = n := by omega
      exact ⟨g, rc, rfl, HOwn.out, HExt.out⟩
theorem scale_plus {p : Int} {x y : List Int} {n : Nat} : plusL p x (scaleL p y (p - 1) n) 1 n = plusL p x y (-1) n := by
  unfold plusL
  refine List.map_congr_left fun i hi => ?_
  have hi' : i < n := List.mem_range.1 hi
  unfold plusN
  rw [scaleL_nth hi', scaleN, Int.one_mul, Int.add_emod_emod, show nth y i * (p - 1) = -1 * nth y i + p * nth y i by rw [Int.mul_sub, Int.mul_comm p]; omega, ← Int.add_assoc, Int.add_mul_emod_self_left]
set_option maxHeartbeats 400000 in
theorem s_minus11 (p : Int) (ax ay : Option Addr) (n cx cy : Nat) (x y : List Int) (w : World) (hp1 : 3 ≤ p) (hp2 : p ≤ 1000) (hn : n ≤ 4194303) (hx : RdC w ax n x) (hy : RdC w ay n y) (hgx : ∀ i, i < n → 0 ≤ nth x i ∧ nth x i ≤ 1000) (hgy : Good p n y) :
    Calls Try.prog 80 #[.int .i64 p, .slice ax n cx, .slice ay n cy] w fun e w' => ∃ g rc, e = .returned (.slice (some ⟨g, 0, none⟩) n rc) ∧ OwnC w.heap.size w' (some ⟨g, 0, none⟩) n rc (plusL p x y (-1) n) ∧ Ext w w' := by
  have hw1 : IntKind.i64.wrap (p - 1) = p - 1 := IntWalk.i64_in _ (by omega)
  have HX := Lib.hid hx
  have HY := Lib.hid hy
  have HGX := Lib.hid hgx
  have HGY := Lib.hid hgy
  clear hx hy hgx hgy
  go_enter Try.func80, Try.ntmps80
  go_wp2_with (first | (go_at_call 82; refine (s_scale11 p ay n cy y (p - 1) _ hp1 hp2 (by omega) hn HY.out HGY.out).mono ?_; rintro e w1 ⟨g1, r1, rfl, ho1, x1⟩; have HO1 := Lib.hid ho1; have X1 := Lib.hid x1; clear ho1 x1) | (go_at_call 132; refine (s_add11 p ax _ n cx _ x (scaleL p y (p - 1) n) _ hp1 hp2 hn (HX.out.ext X1.out) HO1.out.rd HGX.out (scale_good (by omega))).mono ?_; rintro e w2 ⟨g2, r2, rfl, ho2, x2⟩; rw [scale_plus] at ho2; have HO2 := Lib.hid ho2; have X2 := Lib.hid x2; clear ho2 x2))
  go_ret
  exact ⟨g2, r2, rfl, HO2.out.mono X1.out.size, X1.out.trans X2.out⟩
end Go.Proofs.Ytlchmkaaogokiaa
