/-
  Draws of vectors.
  No condition.
-/
import Derived.Test.YtbgnfjckbjmgbaaDraw
namespace Go.Proofs.Ytbgnfjckbjmgbaa
set_option maxRecDepth 100000
open Go.RowKit

set_option maxHeartbeats 4000000 in
theorem s_vec (S : SrcP) (p : Int) (n : Nat) (w : World) (hS : Src S w) (hp : p ≤ 1000000) (hn : n ≤ 100) :
    Calls Try.prog 138 #[.pointer (some ⟨S.g, 0, none⟩), .int .i64 p, .int .i64 n] w fun e w' => ∃ a cap m xs, e = .returned (.slice a m cap) ∧ m ≤ n + 1 ∧ OwnC w.heap.size w' a m cap xs ∧ Drw S w w' := by
  have HS := Lib.hid hS
  have hlt := hS.lt
  clear hS
  by_cases hp1 : p < 1
  · skip
    go_enter Try.func138, Try.ntmps138
    go_wp2_with (fail)
    refine Calls.mono (s_dlist S 3 n w HS.out (by omega) (by omega)) ?_
    rintro e w1 ⟨a, cap, xs, rfl, ho, _, g1⟩
    have HO := Lib.hid ho
    have G1 := Lib.hid g1
    clear ho g1
    go_wp2_with (fail)
    refine Calls.mono (s_next S 24 w1 (G1.out.src HS.out) (by decide)) ?_
    rintro e w2 ⟨r, rfl, hr, g2⟩
    have HO2 := Lib.hid (g2.own HO.out hlt)
    have G2 := Lib.hid (G1.out.trans g2)
    clear g2 HO G1 hr
    by_cases h0 : r = 0
    · subst h0
      go_wp2_with (at_builtin; refine wpList_push rfl (.tmp 18) (.tmp 19) rfl rfl rfl (v := 0) (HO2.out.ext (ext_alloc _ _)) ?hc ?hn ?hB ?hk)
      case hc => simp
      case hn => omega
      case hB => have := G2.out.size; simp; omega
      case hk =>
        intro g' cap2 w6 ho6 hg6 he6
        have HO3 := Lib.hid ho6
        have G3 := Lib.hid ((G2.out.alloc _).grown hg6 (fun k hk => HO2.out.blk k hk))
        clear ho6 hg6 he6
        go_wp2_with (fail)
        go_ret
        exact ⟨_, _, n + 1, _, rfl, Nat.le_refl _, HO3.out, G3.out⟩
    by_cases h1 : r = 1
    · subst h1
      by_cases hn0 : 0 < n
      · obtain ⟨g, _, rfl, _⟩ := HO2.out.row hn0
        have hgb := HO2.out.base_le
        go_wp2_with (fail)
        refine Calls.mono (s_pick S w2.heap.size 2 2 [-1, 3] _ ((G2.out.alloc _).src HS.out) (by decide) (by decide) (rdC_lit w2 _ [-1, 3]) (by have := G2.out.size; omega)) ?_
        rintro e w3 ⟨q, rfl, _, g3⟩
        have HO3 := Lib.hid (g3.own (HO2.out.ext (ext_alloc _ _)) hlt)
        have G3 := Lib.hid ((G2.out.alloc _).trans g3)
        have hc0 := HO3.out.cell hn0
        have hf0 := HO3.out.frozen 0
        clear g3 HO2 G2
        go_wp2_with (fail)
        go_ret
        exact ⟨_, _, n, _, rfl, by omega, HO3.out.store hn0 q, G3.out.setCell hgb.1 _⟩
      · go_wp2_with (fail)
        go_ret
        exact ⟨_, _, n, _, rfl, by omega, HO2.out, G2.out⟩
    · have b0 : (r == 0) = false := by simp [h0]
      have b1 : (r == 1) = false := by simp [h1]
      go_wp2_with (fail)
      go_ret
      exact ⟨_, _, n, _, rfl, by omega, HO2.out, G2.out⟩
  · skip
    go_enter Try.func138, Try.ntmps138
    go_wp2_with (fail)
    refine Calls.mono (s_dlist S p n w HS.out (by omega) (by omega)) ?_
    rintro e w1 ⟨a, cap, xs, rfl, ho, _, g1⟩
    have HO := Lib.hid ho
    have G1 := Lib.hid g1
    clear ho g1
    go_wp2_with (fail)
    refine Calls.mono (s_next S 24 w1 (G1.out.src HS.out) (by decide)) ?_
    rintro e w2 ⟨r, rfl, hr, g2⟩
    have HO2 := Lib.hid (g2.own HO.out hlt)
    have G2 := Lib.hid (G1.out.trans g2)
    clear g2 HO G1 hr
    by_cases h0 : r = 0
    · subst h0
      go_wp2_with (at_builtin; refine wpList_push rfl (.tmp 18) (.tmp 19) rfl rfl rfl (v := 0) (HO2.out.ext (ext_alloc _ _)) ?hc ?hn ?hB ?hk)
      case hc => simp
      case hn => omega
      case hB => have := G2.out.size; simp; omega
      case hk =>
        intro g' cap2 w6 ho6 hg6 he6
        have HO3 := Lib.hid ho6
        have G3 := Lib.hid ((G2.out.alloc _).grown hg6 (fun k hk => HO2.out.blk k hk))
        clear ho6 hg6 he6
        go_wp2_with (fail)
        go_ret
        exact ⟨_, _, n + 1, _, rfl, Nat.le_refl _, HO3.out, G3.out⟩
    by_cases h1 : r = 1
    · subst h1
      by_cases hn0 : 0 < n
      · obtain ⟨g, _, rfl, _⟩ := HO2.out.row hn0
        have hgb := HO2.out.base_le
        go_wp2_with (fail)
        refine Calls.mono (s_pick S w2.heap.size 2 2 [-1, p] _ ((G2.out.alloc _).src HS.out) (by decide) (by decide) (rdC_lit w2 _ [-1, p]) (by have := G2.out.size; omega)) ?_
        rintro e w3 ⟨q, rfl, _, g3⟩
        have HO3 := Lib.hid (g3.own (HO2.out.ext (ext_alloc _ _)) hlt)
        have G3 := Lib.hid ((G2.out.alloc _).trans g3)
        have hc0 := HO3.out.cell hn0
        have hf0 := HO3.out.frozen 0
        clear g3 HO2 G2
        go_wp2_with (fail)
        go_ret
        exact ⟨_, _, n, _, rfl, by omega, HO3.out.store hn0 q, G3.out.setCell hgb.1 _⟩
      · go_wp2_with (fail)
        go_ret
        exact ⟨_, _, n, _, rfl, by omega, HO2.out, G2.out⟩
    · have b0 : (r == 0) = false := by simp [h0]
      have b1 : (r == 1) = false := by simp [h1]
      go_wp2_with (fail)
      go_ret
      exact ⟨_, _, n, _, rfl, by omega, HO2.out, G2.out⟩
set_option maxHeartbeats 1000000 in
theorem s_drawVec (S : SrcP) (p : Int) (a : Option Addr) (d cap : Nat) (w : World) (hS : Src S w) (hp : p ≤ 1000000) (hd : d ≤ 100) :
    Calls Try.prog 72 #[.pointer (some ⟨S.g, 0, none⟩), .agg #[.int .i64 p, .slice a d cap]] w fun e w' => ∃ a cap m xs, e = .returned (.slice a m cap) ∧ m ≤ d + 1 ∧ OwnC w.heap.size w' a m cap xs ∧ Drw S w w' := by
  have HS := Lib.hid (Drw.of_ext (ext_alloc w (.cells #[.int .i64 p, .slice a d cap] 26)) |>.src hS)
  clear hS
  go_enter Try.func72, Try.ntmps72
  go_wp2_with (fail)
  refine Calls.mono (s_vec S p d _ HS.out hp hd) ?_
  rintro e w1 ⟨a1, cap1, m, xs, rfl, hm, ho, g1⟩
  go_wp2_with (fail)
  go_ret
  exact ⟨_, _, m, xs, rfl, hm, ho.mono (by simp), (Drw.of_ext (ext_alloc _ _)).trans g1⟩
end Go.Proofs.Ytbgnfjckbjmgbaa
