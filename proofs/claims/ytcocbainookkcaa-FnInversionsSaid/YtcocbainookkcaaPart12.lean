/-
  Contracts and plain laws, part 12: Draw18C, Law9, Read, ReadB.
  No condition.
-/
import Derived.Test.YtcocbainookkcaaPart11
import Derived.Test.YtcocbainookkcaaPart8
import Derived.Test.YtcocbainookkcaaPart2
import Derived.Test.YtcocbainookkcaaPart4
import Derived.Test.YtcocbainookkcaaPart0
import Derived.ProofKit
import Derived.OpenShut
import Derived.ShutString
import Derived.ChangeOld
import Derived.Below
import Derived.Lib.SmallJoins
import Derived.Test.YtcocbainookkcaaPart5
/-
  Draws of a vector of the extended space and a vector of the space.
  No condition.
-/
namespace Go.Proofs.Ytcocbainookkcaa
set_option maxRecDepth 100000
open Go.RowKit

theorem PlanW.appendAll {ops : Array Oper} {Q : Exit → Act → World → Prop} {I : World → Prop} {i : Nat} {o : Oper} {l : List (Bool × Nat)} {a : Act} {w : World} (t : Option Tmp) (hI : I w) (hio : ops[i]? = some o) (hdt : o.dst = t) (hwd : Region.wanted o (yielded ops a.tmps) = true) (s x : Operand)
    (ho : o.op = .call { callee := .builtin .append, args := #[s, x], argTypes := #[24, 24] })
    {B : Nat} {ra : Option Addr} {n cap : Nat} {xs : List Int} {b off m c : Nat} {ys : List Int} (hs : a.eval s = .slice ra n cap) (hx : a.eval x = .slice (some ⟨b, off, none⟩) m c)
    (hown : OwnC B w ra n cap xs) (hy : RdC w (some ⟨b, off, none⟩) m ys) (hm : 0 < m) (hn : n ≤ 4194304) (hml : m ≤ 4194304) (hB : B ≤ w.heap.size)
    (h : ∀ g' cap' w', OwnC B w' (some ⟨g', 0, none⟩) (n + m) cap' (xs ++ ys) → w.grownBy w' (Value.slice ra n cap).ownBlock →
      PlanW Try.prog ops Q I l (a.put t (.slice (some ⟨g', 0, none⟩) (n + m) cap')) w') : PlanW Try.prog ops Q I ((false, i) :: l) a w := by
  obtain ⟨g', cap', w', hr, h1, h2, h3⟩ := run_appendAll hown hy hm hn hml hB o.type (c := c)
  refine PlanW.value (v := .slice (some ⟨g', 0, none⟩) (n + m) cap') t hI hio hdt hwd ?_ (h g' cap' w' h1 h2)
  unfold execOp
  simp only [ho, resolve, invoke, builtin, Sem.run_bind, Sem.run_pure, Result.andThen_ok, List.map_toArray, List.map_cons, List.map_nil, hs, hx, hr]

set_option maxHeartbeats 40000000 in
set_option maxRecDepth 100000 in
theorem s_any18_p (S : SrcP) (p : Int) (a : Option Addr) (d cap : Nat) (qs : List Int) (w : World) (hS : Src S w) (hq : OwnC (S.g + 1) w a d cap qs) (hp0 : 2 ≤ p) (hp1 : p ≤ 17) (hd : d ≤ 7) :
    Calls Try.prog 103 #[.pointer (some ⟨S.g, 0, none⟩), .agg #[.int .i64 p, .slice a d cap]] w fun e w' => ∃ a cap m xs, e = .returned (.slice a m cap) ∧ m ≤ d + 3 ∧ OwnC w.heap.size w' a m cap xs ∧ Drw S w w' := by
  have hlt := hS.lt
  obtain ⟨O, hO⟩ : ∃ O, O = w.heap.size := ⟨_, rfl⟩
  have hgO : O ≠ S.g := by omega
  obtain ⟨W, hW⟩ : ∃ W, W = w.alloc (.cells #[.int .i64 p, .slice a d cap] 26) := ⟨_, rfl⟩
  have gW : Ext w W := by rw [hW]; exact ext_alloc _ _
  have HC := Lib.hid (show SpAt W O p (.slice a d cap) by rw [hW, hO]; exact ⟨by simp, by simp, by simp, by simp⟩)
  have GW := Lib.hid (Drw.of_ext (S := S) gW)
  have HZ := Lib.hid (show W.heap.size = O + 1 by rw [hW, hO]; simp)
  have HDZ := Lib.hid (show O + 1 ≤ W.drew.heap.size by rw [← HZ.out]; exact (ext_drew W).size)
  have HQ := Lib.hid (hq.ext gW)
  have HSW := Lib.hid (GW.out.src hS)
  have HHO := Lib.hid hO
  have hSB : S.g < O + 1 := by omega
  have hOw : w.heap.size ≤ O + 1 := by omega
  clear gW hS hq
  go_enter Try.func103, Try.ntmps103
  go_wp2_with (fail)
  rw [← hW, ← HHO.out]
  clear hW hO
  obtain ⟨hmx1, hmx2, hmx3, hmx4⟩ : 1 < p ∧ ¬ p ≤ 1 ∧ ¬ p < 1 ∧ 1 ≤ p := by omega
  obtain ⟨J, hJ⟩ : ∃ J : World → Prop, J = (fun w' => w'.cell? ⟨O, 0, none⟩ = some (.int .i64 p) ∧ w'.cell? ⟨O, 1, none⟩ = some (.slice a d cap)) := ⟨_, rfl⟩
  have HJ : Hid (∀ w', Drw S W w' → J w') := Lib.hid (fun w' hd => by rw [hJ]; exact ⟨hd.cell (p := ⟨O, 0, none⟩) hgO HC.out.c0, hd.cell (p := ⟨O, 1, none⟩) hgO HC.out.c1⟩)
  have HJ2 : Hid (∀ w', J w' → w'.cell? ⟨O, 0, none⟩ = some (.int .i64 p) ∧ w'.cell? ⟨O, 1, none⟩ = some (.slice a d cap)) := Lib.hid (fun w' h => by rw [hJ] at h; exact h)
  clear hJ
  have DW : Hid (Drw S W W.drew) := Lib.hid (Drw.of_ext (ext_drew _))
  refine wp_region_plan [(true, 0), (true, 1), (true, 3), (true, 4), (true, 5), (true, 6), (false, 2), (false, 7), (false, 8), (false, 9)] J (by kernel_rfl) (by kernel_rfl) ?_
  refine PlanW.float (v := ?_) (some 7) rfl rfl rfl (fun w' hI => ?_) ?_
  rotate_left
  · obtain ⟨e0, e1⟩ := HJ2.out w' hI; go_simp; rfl
  simp only [Act.put, List.setIfInBounds_toArray, List.set_cons_zero, List.set_cons_succ]
  refine PlanW.float (v := ?_) (some 8) rfl rfl rfl (fun w' hI => ?_) ?_
  rotate_left
  · obtain ⟨e0, e1⟩ := HJ2.out w' hI; go_simp; rfl
  simp only [Act.put, List.setIfInBounds_toArray, List.set_cons_zero, List.set_cons_succ]
  refine PlanW.float (v := ?_) (some 10) rfl rfl rfl (fun w' hI => ?_) ?_
  rotate_left
  · obtain ⟨e0, e1⟩ := HJ2.out w' hI; go_simp; rfl
  simp only [Act.put, List.setIfInBounds_toArray, List.set_cons_zero, List.set_cons_succ]
  refine PlanW.float (v := ?_) (some 11) rfl rfl rfl (fun w' hI => ?_) ?_
  rotate_left
  · obtain ⟨e0, e1⟩ := HJ2.out w' hI; go_simp; rfl
  simp only [Act.put, List.setIfInBounds_toArray, List.set_cons_zero, List.set_cons_succ]
  refine PlanW.float (v := ?_) (some 12) rfl rfl rfl (fun w' hI => ?_) ?_
  rotate_left
  · obtain ⟨e0, e1⟩ := HJ2.out w' hI; go_simp; rfl
  simp only [Act.put, List.setIfInBounds_toArray, List.set_cons_zero, List.set_cons_succ]
  refine PlanW.float (v := ?_) (some 13) rfl rfl rfl (fun w' hI => ?_) ?_
  rotate_left
  · obtain ⟨e0, e1⟩ := HJ2.out w' hI; go_simp; rfl
  simp only [Act.put, List.setIfInBounds_toArray, List.set_cons_zero, List.set_cons_succ]
  refine PlanW.call (f := ?_) (args := ?_) (R := fun v w' => ∃ a1 c1 m1 x1, v = .slice a1 m1 c1 ∧ m1 ≤ d + 1 ∧ OwnC (O + 1) w' a1 m1 c1 x1 ∧ Drw S W w') (some 9) (HJ.out _ DW.out) rfl rfl rfl ?_ ?_ ?_
  rotate_left 2
  · go_simp; refine ⟨?_, ?_⟩ <;> rfl
  · refine Calls.mono (s_vec18 S p a d cap _ (DW.out.src HSW.out) (by omega) (by omega) (by omega)) ?_
    rintro e w9 ⟨a9, c9, m9, x9, rfl, hm9, ho9, g9⟩
    exact ⟨_, rfl, a9, c9, m9, x9, rfl, by omega, ho9.mono HDZ.out, DW.out.trans g9⟩
  rintro v w4 ⟨a1, c1, m1, x1, rfl, hm1, ho1, g4⟩
  simp only [Act.put, List.setIfInBounds_toArray, List.set_cons_zero, List.set_cons_succ]
  have D4 := Lib.hid g4
  clear g4
  refine PlanW.call (f := ?_) (args := ?_) (R := fun v w' => ∃ r, v = .int .i64 r ∧ NextR p r ∧ OwnC (O + 1) w' a1 m1 c1 x1 ∧ Drw S W w') (some 14) (HJ.out _ D4.out) rfl rfl rfl ?_ ?_ ?_
  rotate_left 2
  · go_simp; refine ⟨?_, ?_⟩ <;> rfl
  · refine Calls.mono (s_next S p _ (D4.out.src HSW.out) (by omega)) ?_
    rintro e w9 ⟨r, rfl, hr, g9⟩
    exact ⟨_, rfl, r, rfl, hr, g9.own ho1 hSB, D4.out.trans g9⟩
  rintro v w5 ⟨r1, rfl, hr1, ho5, gr1⟩
  simp only [Act.put, List.setIfInBounds_toArray, List.set_cons_zero, List.set_cons_succ]
  have Dr1 := Lib.hid gr1
  clear gr1
  have HX := Lib.hid ho5
  clear ho5 ho1
  refine PlanW.value (v := ?_) (w' := w5) (some 5) (HJ.out _ Dr1.out) rfl rfl rfl (?_) ?_
  rotate_left
  · go_simp; rfl
  simp only [Act.put, List.setIfInBounds_toArray]
  refine PlanW.value (v := ?_) (w' := w5) (some 6) (HJ.out _ Dr1.out) rfl rfl rfl (?_) ?_
  rotate_left
  · go_simp; rfl
  simp only [Act.put, List.setIfInBounds_toArray]
  refine ⟨HJ.out _ Dr1.out, strictQ_normal ?_⟩
  clear D4
  obtain ⟨c0, c1'⟩ := HJ2.out _ (HJ.out _ Dr1.out)
  obtain ⟨C, hC⟩ : ∃ C, C = code18 p qs [x1] := ⟨_, rfl⟩
  have HCC := Lib.hid hC
  have HQ5 := Lib.hid (Dr1.out.own HQ.out (Nat.lt_succ_self _))
  clear hC
  by_cases hc : C ≠ 0
  · have hcb : (C != 0) = true := by simp [hc]
    go_wp2_with (first | (go_at_call 74; refine (s_code18 p a d cap qs _ 1 _ [x1] _ (by omega) (by omega) (len_one (by rw [HX.out.1]; omega)) (HQ5.out.rd.ext (ext_alloc _ _)) (rdR_one (a := a1) (n := m1) (cap := c1) (by simp) (HX.out.rd.ext (ext_alloc _ _)))).mono ?_; rintro e w6 ⟨rfl, g6⟩; rw [← HCC.out]; have D6 := Lib.hid (Dr1.out.ext ((ext_alloc _ _).trans g6)); have HX6 := Lib.hid (HX.out.ext ((ext_alloc _ _).trans g6)); clear g6 c0 c1') | (at_builtin; refine wpList_appendAll rfl (.tmp 20) (.tmp 21) rfl rfl rfl (HX6.out.ext (ext_alloc _ _)) (rdC_two (x := 0) (y := 1) (by simp) (by simp)) (by omega) (by omega) (by omega) ?hB ?hk))
    case hB => have := D6.out.size; have := HDZ.out; simp; simp at *; omega
    case hk =>
      intro g' cap' w8 ho8 hg8 he8
      have HO8 := Lib.hid ho8
      have D8 := Lib.hid ((D6.out.alloc _).grown hg8 (fun k hk => by rw [HZ.out]; exact HX6.out.blk k hk))
      clear ho8 hg8 he8
      go_wp2_with (fail)
      go_ret
      exact ⟨_, _, m1 + 2, _, rfl, by omega, HO8.out.mono (by omega), GW.out.trans D8.out⟩
  · skip
    replace hc : C = 0 := by simpa using hc
    have hcS : code18 p qs [x1] = 0 := by rw [← HCC.out]; exact hc
    subst hc
    obtain ⟨hs, h4, ha⟩ := code18_zero hcS
    have hpb := prime_bd (space_of hs).1
    have HSP := Lib.hid hs
    have hg0 := rows_good ha 0 (by simp)
    have hg1 : Good p qs.length x1 := hg0
    rw [HQ.out.1] at hg1
    obtain rfl : d = m1 := hg1.1.symm.trans HX.out.1
    have HG := Lib.hid hg1
    clear hcS hs ha hg0 hg1
    have hrb := hr1.2 (by omega)
    go_wp2_with (go_at_call 74; refine (s_code18 p a d cap qs _ 1 _ [x1] _ (by omega) (by omega) (len_one (by rw [HX.out.1]; omega)) (HQ5.out.rd.ext (ext_alloc _ _)) (rdR_one (a := a1) (n := d) (cap := c1) (by simp) (HX.out.rd.ext (ext_alloc _ _)))).mono ?_; rintro e w6 ⟨rfl, g6⟩; rw [← HCC.out]; have D6 := Lib.hid (Dr1.out.ext ((ext_alloc _ _).trans g6)); have HX6 := Lib.hid (HX.out.ext ((ext_alloc _ _).trans g6)); clear g6 c0 c1')
    refine Calls.mono (s_next S 4 w6 (D6.out.src HSW.out) (by omega)) ?_
    rintro e w7 ⟨kk, rfl, _, g7⟩
    have HX7 := Lib.hid (g7.own HX6.out hSB)
    have D7 := Lib.hid (D6.out.trans g7)
    have HQ7 := Lib.hid (D7.out.own HQ.out (Nat.lt_succ_self _))
    clear g7
    by_cases h0 : kk = 0
    · subst h0
      go_wp2_with (at_builtin; refine wpList_appendAll rfl (.tmp 27) (.tmp 30) rfl rfl rfl (HX7.out.ext (ext_alloc _ _)) (rdC_two (x := r1) (y := r1) (by simp) (by simp)) (by omega) (by omega) (by omega) ?hB ?hk)
      case hB => have := D7.out.size; have := HDZ.out; simp; simp at *; omega
      case hk =>
        intro g' cap' w8 ho8 hg8 he8
        have HO8 := Lib.hid ho8
        have D8 := Lib.hid ((D7.out.alloc _).grown hg8 (fun k hk => by rw [HZ.out]; exact HX7.out.blk k hk))
        clear ho8 hg8 he8
        go_wp2_with (fail)
        go_ret
        exact ⟨_, _, d + 2, _, rfl, by omega, HO8.out.mono (by omega), GW.out.trans D8.out⟩
    · have hb0 : (kk == 0) = false := by simp [h0]
      by_cases h1 : kk = 1
      · subst h1
        go_wp2_with (fail)
        have D7d : Hid (Drw S W w7.drew) := Lib.hid D7.out.drew
        have HX7d := Lib.hid (HX7.out.ext (ext_drew w7))
        refine wp_region_plan [(true, 0), (true, 1), (true, 2), (true, 3), (true, 5), (true, 6), (true, 7), (false, 4), (false, 8), (false, 9), (false, 10), (false, 11)] J (by kernel_rfl) (by kernel_rfl) ?_
        refine PlanW.float (v := ?_) (some 34) rfl rfl rfl (fun w' hI => ?_) ?_
        rotate_left
        · obtain ⟨e0, e1⟩ := HJ2.out w' hI; go_simp; rfl
        simp only [Act.put, List.setIfInBounds_toArray, List.set_cons_zero, List.set_cons_succ]
        refine PlanW.float (v := ?_) (some 35) rfl rfl rfl (fun w' hI => ?_) ?_
        rotate_left
        · obtain ⟨e0, e1⟩ := HJ2.out w' hI; go_simp; rfl
        simp only [Act.put, List.setIfInBounds_toArray, List.set_cons_zero, List.set_cons_succ]
        refine PlanW.float (v := ?_) (some 36) rfl rfl rfl (fun w' hI => ?_) ?_
        rotate_left
        · obtain ⟨e0, e1⟩ := HJ2.out w' hI; go_simp; rfl
        simp only [Act.put, List.setIfInBounds_toArray, List.set_cons_zero, List.set_cons_succ]
        refine PlanW.float (v := ?_) (some 37) rfl rfl rfl (fun w' hI => ?_) ?_
        rotate_left
        · obtain ⟨e0, e1⟩ := HJ2.out w' hI; go_simp; rfl
        simp only [Act.put, List.setIfInBounds_toArray, List.set_cons_zero, List.set_cons_succ]
        refine PlanW.float (v := ?_) (some 39) rfl rfl rfl (fun w' hI => ?_) ?_
        rotate_left
        · obtain ⟨e0, e1⟩ := HJ2.out w' hI; go_simp; rfl
        simp only [Act.put, List.setIfInBounds_toArray, List.set_cons_zero, List.set_cons_succ]
        refine PlanW.float (v := ?_) (some 40) rfl rfl rfl (fun w' hI => ?_) ?_
        rotate_left
        · obtain ⟨e0, e1⟩ := HJ2.out w' hI; go_simp; rfl
        simp only [Act.put, List.setIfInBounds_toArray, List.set_cons_zero, List.set_cons_succ]
        refine PlanW.float (v := ?_) (some 41) rfl rfl rfl (fun w' hI => ?_) ?_
        rotate_left
        · obtain ⟨e0, e1⟩ := HJ2.out w' hI; go_simp; rfl
        simp only [Act.put, List.setIfInBounds_toArray, List.set_cons_zero, List.set_cons_succ]
        refine PlanW.call (f := ?_) (args := ?_) (R := fun v w' => ∃ r, v = .int .i64 r ∧ NextR p r ∧ OwnC (O + 1) w' a1 d c1 x1 ∧ Drw S W w') (some 38) (HJ.out _ D7d.out) rfl rfl rfl ?_ ?_ ?_
        rotate_left 2
        · go_simp; refine ⟨?_, ?_⟩ <;> rfl
        · refine Calls.mono (s_next S p _ (D7d.out.src HSW.out) (by omega)) ?_
          rintro e w9 ⟨r, rfl, hr, g9⟩
          exact ⟨_, rfl, r, rfl, hr, g9.own HX7d.out hSB, D7d.out.trans g9⟩
        rintro v wa ⟨ra, rfl, hra, hxa, gra⟩
        simp only [Act.put, List.setIfInBounds_toArray, List.set_cons_zero, List.set_cons_succ]
        have Dra := Lib.hid gra
        clear gra
        have HXa := Lib.hid hxa
        clear hxa
        refine PlanW.call (f := ?_) (args := ?_) (R := fun v w' => ∃ r, v = .int .i64 r ∧ NextR p r ∧ OwnC (O + 1) w' a1 d c1 x1 ∧ Drw S W w') (some 42) (HJ.out _ Dra.out) rfl rfl rfl ?_ ?_ ?_
        rotate_left 2
        · go_simp; refine ⟨?_, ?_⟩ <;> rfl
        · refine Calls.mono (s_next S p _ (Dra.out.src HSW.out) (by omega)) ?_
          rintro e w9 ⟨r, rfl, hr, g9⟩
          exact ⟨_, rfl, r, rfl, hr, g9.own HXa.out hSB, Dra.out.trans g9⟩
        rintro v wb ⟨rb, rfl, hrb9, hxb, grb⟩
        simp only [Act.put, List.setIfInBounds_toArray, List.set_cons_zero, List.set_cons_succ]
        have Drb := Lib.hid grb
        clear grb
        have HXb := Lib.hid hxb
        clear hxb
        refine PlanW.value (v := ?_) (w' := ?_) (some 43) (HJ.out _ Drb.out) rfl rfl rfl (?_) ?_
        rotate_left 2
        · go_simp; refine ⟨?_, ?_⟩ <;> rfl
        simp only [Act.put, List.setIfInBounds_toArray]
        refine PlanW.appendAll (some 44) (HJ.out _ (Drb.out.ext (ext_alloc _ _))) rfl rfl rfl (.tmp 34) (.tmp 43) rfl rfl rfl (HXb.out.ext (ext_alloc _ _)) (rdC_two (x := ra) (y := rb) (by simp) (by simp)) (by omega) (by omega) (by omega) ?hB ?hk
        case hB => have := Drb.out.size; have := HDZ.out; simp; simp at *; omega
        case hk =>
          intro g' cap' w8 ho8 hg8
          have HO8 := Lib.hid ho8
          have D8 := Lib.hid ((Drb.out.alloc _).grown hg8 (fun k hk => by rw [HZ.out]; exact HXb.out.blk k hk))
          clear ho8 hg8
          simp only [Act.put, List.setIfInBounds_toArray, List.set_cons_zero, List.set_cons_succ]
          refine PlanW.value (v := ?_) (w' := w8) (some 4) (HJ.out _ D8.out) rfl rfl rfl (?_) ?_
          rotate_left
          · go_simp; rfl
          simp only [Act.put, List.setIfInBounds_toArray]
          refine ⟨HJ.out _ D8.out, strictQ_normal ?_⟩
          go_wp2_with (fail)
          go_ret
          first | exact ⟨_, _, d + 2, _, rfl, by omega, HO8.out.mono (by omega), GW.out.trans D8.out⟩ | exact ⟨_, _, d + 2, rfl, by omega, ⟨_, HO8.out.mono (by omega)⟩, GW.out.trans D8.out⟩
      · have hb1 : (kk == 1) = false := by simp [h1]
        go_wp2_with (fail)
        have D7d : Hid (Drw S W w7.drew) := Lib.hid D7.out.drew
        have HX7d := Lib.hid (HX7.out.ext (ext_drew w7))
        obtain ⟨q9, hq9⟩ : ∃ q, q = p - 1 := ⟨_, rfl⟩
        have hwq : IntKind.i64.wrap (p - 1) = q9 := by rw [hq9]; exact IntWalk.i64_in _ (by omega)
        have hq9b : 1 ≤ q9 ∧ q9 ≤ 12 := by omega
        have HQ9 := Lib.hid hq9
        clear hq9
        refine wp_region_plan [(true, 0), (true, 1), (true, 2), (true, 3), (true, 4), (true, 5), (true, 8), (true, 9), (true, 10), (false, 6), (true, 7), (false, 11), (false, 12), (false, 13)] J (by kernel_rfl) (by kernel_rfl) ?_
        refine PlanW.float (v := ?_) (some 45) rfl rfl rfl (fun w' hI => ?_) ?_
        rotate_left
        · obtain ⟨e0, e1⟩ := HJ2.out w' hI; go_simp; rfl
        simp only [Act.put, List.setIfInBounds_toArray, List.set_cons_zero, List.set_cons_succ]
        refine PlanW.float (v := ?_) (some 46) rfl rfl rfl (fun w' hI => ?_) ?_
        rotate_left
        · obtain ⟨e0, e1⟩ := HJ2.out w' hI; go_simp; rfl
        simp only [Act.put, List.setIfInBounds_toArray, List.set_cons_zero, List.set_cons_succ]
        refine PlanW.float (v := ?_) (some 47) rfl rfl rfl (fun w' hI => ?_) ?_
        rotate_left
        · obtain ⟨e0, e1⟩ := HJ2.out w' hI; go_simp; rfl
        simp only [Act.put, List.setIfInBounds_toArray, List.set_cons_zero, List.set_cons_succ]
        refine PlanW.float (v := ?_) (some 48) rfl rfl rfl (fun w' hI => ?_) ?_
        rotate_left
        · obtain ⟨e0, e1⟩ := HJ2.out w' hI; go_simp; rfl
        simp only [Act.put, List.setIfInBounds_toArray, List.set_cons_zero, List.set_cons_succ]
        refine PlanW.float (v := ?_) (some 49) rfl rfl rfl (fun w' hI => ?_) ?_
        rotate_left
        · obtain ⟨e0, e1⟩ := HJ2.out w' hI; go_simp; rfl
        simp only [Act.put, List.setIfInBounds_toArray, List.set_cons_zero, List.set_cons_succ]
        refine PlanW.float (v := ?_) (some 50) rfl rfl rfl (fun w' hI => ?_) ?_
        rotate_left
        · obtain ⟨e0, e1⟩ := HJ2.out w' hI; go_simp; rfl
        simp only [Act.put, List.setIfInBounds_toArray, List.set_cons_zero, List.set_cons_succ]
        refine PlanW.float (v := ?_) (some 53) rfl rfl rfl (fun w' hI => ?_) ?_
        rotate_left
        · obtain ⟨e0, e1⟩ := HJ2.out w' hI; go_simp; rfl
        simp only [Act.put, List.setIfInBounds_toArray, List.set_cons_zero, List.set_cons_succ]
        refine PlanW.float (v := ?_) (some 54) rfl rfl rfl (fun w' hI => ?_) ?_
        rotate_left
        · obtain ⟨e0, e1⟩ := HJ2.out w' hI; go_simp; rfl
        simp only [Act.put, List.setIfInBounds_toArray, List.set_cons_zero, List.set_cons_succ]
        refine PlanW.float (v := ?_) (some 55) rfl rfl rfl (fun w' hI => ?_) ?_
        rotate_left
        · obtain ⟨e0, e1⟩ := HJ2.out w' hI; go_simp; rfl
        simp only [Act.put, List.setIfInBounds_toArray, List.set_cons_zero, List.set_cons_succ]
        refine PlanW.call (f := ?_) (args := ?_) (R := fun v w' => ∃ r, v = .int .i64 r ∧ NextR q9 r ∧ OwnC (O + 1) w' a1 d c1 x1 ∧ Drw S W w') (some 51) (HJ.out _ D7d.out) rfl rfl rfl ?_ ?_ ?_
        rotate_left 2
        · go_simp; refine ⟨?_, ?_⟩ <;> rfl
        · refine Calls.mono (s_next S q9 _ (D7d.out.src HSW.out) (by omega)) ?_
          rintro e w9 ⟨r, rfl, hr, g9⟩
          exact ⟨_, rfl, r, rfl, hr, g9.own HX7d.out hSB, D7d.out.trans g9⟩
        rintro v wa ⟨ra, rfl, hra, hxa, gra⟩
        obtain ⟨k9, hk9⟩ : ∃ k, k = 1 + ra := ⟨_, rfl⟩
        have hrab := hra.2 (by omega)
        have hwk : IntKind.i64.wrap (1 + ra) = k9 := by rw [hk9]; exact IntWalk.i64_in _ (by omega)
        have hkb : 1 ≤ k9 ∧ k9 ≤ 13 := by omega
        clear hk9
        simp only [Act.put, List.setIfInBounds_toArray, List.set_cons_zero, List.set_cons_succ]
        have Dra := Lib.hid gra
        clear gra
        have HXa := Lib.hid hxa
        have HQa := Lib.hid (Dra.out.own HQ.out (Nat.lt_succ_self _))
        clear hxa
        refine PlanW.float (v := ?_) (some 52) rfl rfl rfl (fun w' hI => ?_) ?_
        rotate_left
        · obtain ⟨e0, e1⟩ := HJ2.out w' hI; go_simp; rfl
        simp only [Act.put, List.setIfInBounds_toArray, List.set_cons_zero, List.set_cons_succ]
        refine PlanW.call (f := ?_) (args := ?_) (R := fun v w' => ∃ g rc, v = .slice (some ⟨g, 0, none⟩) (d + 2) rc ∧ OwnC (O + 1) w' (some ⟨g, 0, none⟩) (d + 2) rc (ballL p qs x1 r1) ∧ Drw S W w') (some 56) (HJ.out _ Dra.out) rfl rfl rfl ?_ ?_ ?_
        rotate_left 2
        · go_simp; refine ⟨?_, ?_⟩ <;> rfl
        · refine Calls.mono (s_sphere18 p a d cap qs a1 c1 x1 r1 _ HSP.out h4 HQa.out.rd HXa.out.rd HG.out hrb.1 hrb.2) ?_
          rintro e w9 ⟨g9, rc9, rfl, ho9, x9⟩
          exact ⟨_, rfl, g9, rc9, rfl, ho9.mono (by have := Dra.out.size; have := HZ.out; omega), Dra.out.ext x9⟩
        rintro v wb ⟨gB, cB, rfl, hoB, gD⟩
        simp only [Act.put, List.setIfInBounds_toArray, List.set_cons_zero, List.set_cons_succ]
        have DB := Lib.hid gD
        have HOB := Lib.hid hoB
        clear gD hoB
        refine PlanW.call (f := ?_) (args := ?_) (R := fun v w' => ∃ g rc, v = .slice (some ⟨g, 0, none⟩) (d + 2) rc ∧ OwnC (O + 1) w' (some ⟨g, 0, none⟩) (d + 2) rc (scaleL p (ballL p qs x1 r1) k9 (d + 2)) ∧ Drw S W w') (some 57) (HJ.out _ DB.out) rfl rfl rfl ?_ ?_ ?_
        rotate_left 2
        · go_simp; refine ⟨?_, ?_⟩ <;> rfl
        · refine Calls.mono (s_scale11 p _ (d + 2) _ (ballL p qs x1 r1) k9 _ (by omega) (by omega) (by omega) (by omega) HOB.out.rd (ball_good (by omega) HQ.out.1)) ?_
          rintro e w9 ⟨g9, rc9, rfl, ho9, x9⟩
          exact ⟨_, rfl, g9, rc9, rfl, ho9.mono (by have := DB.out.size; have := HZ.out; omega), DB.out.ext x9⟩
        rintro v wk ⟨gK, cK, rfl, hoK, gDK⟩
        simp only [Act.put, List.setIfInBounds_toArray, List.set_cons_zero, List.set_cons_succ]
        have D8 := Lib.hid gDK
        have HO8 := Lib.hid hoK
        clear gDK hoK
        refine PlanW.value (v := ?_) (w' := wk) (some 4) (HJ.out _ D8.out) rfl rfl rfl (?_) ?_
        rotate_left
        · go_simp; rfl
        simp only [Act.put, List.setIfInBounds_toArray]
        refine ⟨HJ.out _ D8.out, strictQ_normal ?_⟩
        go_wp2_with (fail)
        go_ret
        exact ⟨_, _, d + 2, _, rfl, by omega, HO8.out.mono (by omega), GW.out.trans D8.out⟩
set_option maxHeartbeats 40000000 in
set_option maxRecDepth 100000 in
theorem s_any18_0 (S : SrcP) (a : Option Addr) (d cap : Nat) (qs : List Int) (w : World) (hS : Src S w) (hq : OwnC (S.g + 1) w a d cap qs) (hd : d ≤ 7) :
    Calls Try.prog 103 #[.pointer (some ⟨S.g, 0, none⟩), .agg #[.int .i64 0, .slice a d cap]] w fun e w' => ∃ a cap m xs, e = .returned (.slice a m cap) ∧ m ≤ d + 3 ∧ OwnC w.heap.size w' a m cap xs ∧ Drw S w w' := by
  have hlt := hS.lt
  obtain ⟨O, hO⟩ : ∃ O, O = w.heap.size := ⟨_, rfl⟩
  have hgO : O ≠ S.g := by omega
  obtain ⟨W, hW⟩ : ∃ W, W = w.alloc (.cells #[.int .i64 0, .slice a d cap] 26) := ⟨_, rfl⟩
  have gW : Ext w W := by rw [hW]; exact ext_alloc _ _
  have HC := Lib.hid (show SpAt W O 0 (.slice a d cap) by rw [hW, hO]; exact ⟨by simp, by simp, by simp, by simp⟩)
  have GW := Lib.hid (Drw.of_ext (S := S) gW)
  have HZ := Lib.hid (show W.heap.size = O + 1 by rw [hW, hO]; simp)
  have HDZ := Lib.hid (show O + 1 ≤ W.drew.heap.size by rw [← HZ.out]; exact (ext_drew W).size)
  have HQ := Lib.hid (hq.ext gW)
  have HSW := Lib.hid (GW.out.src hS)
  have HHO := Lib.hid hO
  have hSB : S.g < O + 1 := by omega
  have hOw : w.heap.size ≤ O + 1 := by omega
  clear gW hS hq
  go_enter Try.func103, Try.ntmps103
  go_wp2_with (fail)
  rw [← hW, ← HHO.out]
  clear hW hO
  obtain ⟨J, hJ⟩ : ∃ J : World → Prop, J = (fun w' => w'.cell? ⟨O, 0, none⟩ = some (.int .i64 0) ∧ w'.cell? ⟨O, 1, none⟩ = some (.slice a d cap)) := ⟨_, rfl⟩
  have HJ : Hid (∀ w', Drw S W w' → J w') := Lib.hid (fun w' hd => by rw [hJ]; exact ⟨hd.cell (p := ⟨O, 0, none⟩) hgO HC.out.c0, hd.cell (p := ⟨O, 1, none⟩) hgO HC.out.c1⟩)
  have HJ2 : Hid (∀ w', J w' → w'.cell? ⟨O, 0, none⟩ = some (.int .i64 0) ∧ w'.cell? ⟨O, 1, none⟩ = some (.slice a d cap)) := Lib.hid (fun w' h => by rw [hJ] at h; exact h)
  clear hJ
  have DW : Hid (Drw S W W.drew) := Lib.hid (Drw.of_ext (ext_drew _))
  refine wp_region_plan [(true, 0), (true, 1), (true, 3), (true, 4), (true, 5), (true, 6), (false, 2), (false, 7), (false, 8), (false, 9)] J (by kernel_rfl) (by kernel_rfl) ?_
  refine PlanW.float (v := ?_) (some 7) rfl rfl rfl (fun w' hI => ?_) ?_
  rotate_left
  · obtain ⟨e0, e1⟩ := HJ2.out w' hI; go_simp; rfl
  simp only [Act.put, List.setIfInBounds_toArray, List.set_cons_zero, List.set_cons_succ]
  refine PlanW.float (v := ?_) (some 8) rfl rfl rfl (fun w' hI => ?_) ?_
  rotate_left
  · obtain ⟨e0, e1⟩ := HJ2.out w' hI; go_simp; rfl
  simp only [Act.put, List.setIfInBounds_toArray, List.set_cons_zero, List.set_cons_succ]
  refine PlanW.float (v := ?_) (some 10) rfl rfl rfl (fun w' hI => ?_) ?_
  rotate_left
  · obtain ⟨e0, e1⟩ := HJ2.out w' hI; go_simp; rfl
  simp only [Act.put, List.setIfInBounds_toArray, List.set_cons_zero, List.set_cons_succ]
  refine PlanW.float (v := ?_) (some 11) rfl rfl rfl (fun w' hI => ?_) ?_
  rotate_left
  · obtain ⟨e0, e1⟩ := HJ2.out w' hI; go_simp; rfl
  simp only [Act.put, List.setIfInBounds_toArray, List.set_cons_zero, List.set_cons_succ]
  refine PlanW.float (v := ?_) (some 12) rfl rfl rfl (fun w' hI => ?_) ?_
  rotate_left
  · obtain ⟨e0, e1⟩ := HJ2.out w' hI; go_simp; rfl
  simp only [Act.put, List.setIfInBounds_toArray, List.set_cons_zero, List.set_cons_succ]
  refine PlanW.float (v := ?_) (some 13) rfl rfl rfl (fun w' hI => ?_) ?_
  rotate_left
  · obtain ⟨e0, e1⟩ := HJ2.out w' hI; go_simp; rfl
  simp only [Act.put, List.setIfInBounds_toArray, List.set_cons_zero, List.set_cons_succ]
  refine PlanW.call (f := ?_) (args := ?_) (R := fun v w' => ∃ a1 c1 m1 x1, v = .slice a1 m1 c1 ∧ m1 ≤ d + 1 ∧ OwnC (O + 1) w' a1 m1 c1 x1 ∧ Drw S W w') (some 9) (HJ.out _ DW.out) rfl rfl rfl ?_ ?_ ?_
  rotate_left 2
  · go_simp; refine ⟨?_, ?_⟩ <;> rfl
  · refine Calls.mono (s_vec18 S 0 a d cap _ (DW.out.src HSW.out) (by omega) (by omega) (by omega)) ?_
    rintro e w9 ⟨a9, c9, m9, x9, rfl, hm9, ho9, g9⟩
    exact ⟨_, rfl, a9, c9, m9, x9, rfl, by omega, ho9.mono HDZ.out, DW.out.trans g9⟩
  rintro v w4 ⟨a1, c1, m1, x1, rfl, hm1, ho1, g4⟩
  simp only [Act.put, List.setIfInBounds_toArray, List.set_cons_zero, List.set_cons_succ]
  have D4 := Lib.hid g4
  clear g4
  refine PlanW.call (f := ?_) (args := ?_) (R := fun v w' => ∃ r, v = .int .i64 r ∧ NextR 1 r ∧ OwnC (O + 1) w' a1 m1 c1 x1 ∧ Drw S W w') (some 14) (HJ.out _ D4.out) rfl rfl rfl ?_ ?_ ?_
  rotate_left 2
  · go_simp; refine ⟨?_, ?_⟩ <;> rfl
  · refine Calls.mono (s_next S 1 _ (D4.out.src HSW.out) (by omega)) ?_
    rintro e w9 ⟨r, rfl, hr, g9⟩
    exact ⟨_, rfl, r, rfl, hr, g9.own ho1 hSB, D4.out.trans g9⟩
  rintro v w5 ⟨r1, rfl, hr1, ho5, gr1⟩
  simp only [Act.put, List.setIfInBounds_toArray, List.set_cons_zero, List.set_cons_succ]
  have Dr1 := Lib.hid gr1
  clear gr1
  have HX := Lib.hid ho5
  clear ho5 ho1
  refine PlanW.value (v := ?_) (w' := w5) (some 5) (HJ.out _ Dr1.out) rfl rfl rfl (?_) ?_
  rotate_left
  · go_simp; rfl
  simp only [Act.put, List.setIfInBounds_toArray]
  refine PlanW.value (v := ?_) (w' := w5) (some 6) (HJ.out _ Dr1.out) rfl rfl rfl (?_) ?_
  rotate_left
  · go_simp; rfl
  simp only [Act.put, List.setIfInBounds_toArray]
  refine ⟨HJ.out _ Dr1.out, strictQ_normal ?_⟩
  clear D4
  obtain ⟨c0, c1'⟩ := HJ2.out _ (HJ.out _ Dr1.out)
  obtain ⟨C, hC⟩ : ∃ C, C = code18 0 qs [x1] := ⟨_, rfl⟩
  have HCC := Lib.hid hC
  have HQ5 := Lib.hid (Dr1.out.own HQ.out (Nat.lt_succ_self _))
  clear hC
  by_cases hc : C ≠ 0
  · have hcb : (C != 0) = true := by simp [hc]
    go_wp2_with (first | (go_at_call 74; refine (s_code18 0 a d cap qs _ 1 _ [x1] _ (by omega) (by omega) (len_one (by rw [HX.out.1]; omega)) (HQ5.out.rd.ext (ext_alloc _ _)) (rdR_one (a := a1) (n := m1) (cap := c1) (by simp) (HX.out.rd.ext (ext_alloc _ _)))).mono ?_; rintro e w6 ⟨rfl, g6⟩; rw [← HCC.out]; have D6 := Lib.hid (Dr1.out.ext ((ext_alloc _ _).trans g6)); have HX6 := Lib.hid (HX.out.ext ((ext_alloc _ _).trans g6)); clear g6 c0 c1') | (at_builtin; refine wpList_appendAll rfl (.tmp 20) (.tmp 21) rfl rfl rfl (HX6.out.ext (ext_alloc _ _)) (rdC_two (x := 0) (y := 1) (by simp) (by simp)) (by omega) (by omega) (by omega) ?hB ?hk))
    case hB => have := D6.out.size; have := HDZ.out; simp; simp at *; omega
    case hk =>
      intro g' cap' w8 ho8 hg8 he8
      have HO8 := Lib.hid ho8
      have D8 := Lib.hid ((D6.out.alloc _).grown hg8 (fun k hk => by rw [HZ.out]; exact HX6.out.blk k hk))
      clear ho8 hg8 he8
      go_wp2_with (fail)
      go_ret
      exact ⟨_, _, m1 + 2, _, rfl, by omega, HO8.out.mono (by omega), GW.out.trans D8.out⟩
  · exfalso
    have h0 : code18 0 qs [x1] = 0 := by rw [← HCC.out]; simpa using hc
    have hpb := prime_bd (space_of (code18_zero h0).1).1
    omega
set_option maxHeartbeats 40000000 in
set_option maxRecDepth 100000 in
theorem s_any18_1 (S : SrcP) (a : Option Addr) (d cap : Nat) (qs : List Int) (w : World) (hS : Src S w) (hq : OwnC (S.g + 1) w a d cap qs) (hd : d ≤ 7) :
    Calls Try.prog 103 #[.pointer (some ⟨S.g, 0, none⟩), .agg #[.int .i64 1, .slice a d cap]] w fun e w' => ∃ a cap m xs, e = .returned (.slice a m cap) ∧ m ≤ d + 3 ∧ OwnC w.heap.size w' a m cap xs ∧ Drw S w w' := by
  have hlt := hS.lt
  obtain ⟨O, hO⟩ : ∃ O, O = w.heap.size := ⟨_, rfl⟩
  have hgO : O ≠ S.g := by omega
  obtain ⟨W, hW⟩ : ∃ W, W = w.alloc (.cells #[.int .i64 1, .slice a d cap] 26) := ⟨_, rfl⟩
  have gW : Ext w W := by rw [hW]; exact ext_alloc _ _
  have HC := Lib.hid (show SpAt W O 1 (.slice a d cap) by rw [hW, hO]; exact ⟨by simp, by simp, by simp, by simp⟩)
  have GW := Lib.hid (Drw.of_ext (S := S) gW)
  have HZ := Lib.hid (show W.heap.size = O + 1 by rw [hW, hO]; simp)
  have HDZ := Lib.hid (show O + 1 ≤ W.drew.heap.size by rw [← HZ.out]; exact (ext_drew W).size)
  have HQ := Lib.hid (hq.ext gW)
  have HSW := Lib.hid (GW.out.src hS)
  have HHO := Lib.hid hO
  have hSB : S.g < O + 1 := by omega
  have hOw : w.heap.size ≤ O + 1 := by omega
  clear gW hS hq
  go_enter Try.func103, Try.ntmps103
  go_wp2_with (fail)
  rw [← hW, ← HHO.out]
  clear hW hO
  obtain ⟨J, hJ⟩ : ∃ J : World → Prop, J = (fun w' => w'.cell? ⟨O, 0, none⟩ = some (.int .i64 1) ∧ w'.cell? ⟨O, 1, none⟩ = some (.slice a d cap)) := ⟨_, rfl⟩
  have HJ : Hid (∀ w', Drw S W w' → J w') := Lib.hid (fun w' hd => by rw [hJ]; exact ⟨hd.cell (p := ⟨O, 0, none⟩) hgO HC.out.c0, hd.cell (p := ⟨O, 1, none⟩) hgO HC.out.c1⟩)
  have HJ2 : Hid (∀ w', J w' → w'.cell? ⟨O, 0, none⟩ = some (.int .i64 1) ∧ w'.cell? ⟨O, 1, none⟩ = some (.slice a d cap)) := Lib.hid (fun w' h => by rw [hJ] at h; exact h)
  clear hJ
  have DW : Hid (Drw S W W.drew) := Lib.hid (Drw.of_ext (ext_drew _))
  refine wp_region_plan [(true, 0), (true, 1), (true, 3), (true, 4), (true, 5), (true, 6), (false, 2), (false, 7), (false, 8), (false, 9)] J (by kernel_rfl) (by kernel_rfl) ?_
  refine PlanW.float (v := ?_) (some 7) rfl rfl rfl (fun w' hI => ?_) ?_
  rotate_left
  · obtain ⟨e0, e1⟩ := HJ2.out w' hI; go_simp; rfl
  simp only [Act.put, List.setIfInBounds_toArray, List.set_cons_zero, List.set_cons_succ]
  refine PlanW.float (v := ?_) (some 8) rfl rfl rfl (fun w' hI => ?_) ?_
  rotate_left
  · obtain ⟨e0, e1⟩ := HJ2.out w' hI; go_simp; rfl
  simp only [Act.put, List.setIfInBounds_toArray, List.set_cons_zero, List.set_cons_succ]
  refine PlanW.float (v := ?_) (some 10) rfl rfl rfl (fun w' hI => ?_) ?_
  rotate_left
  · obtain ⟨e0, e1⟩ := HJ2.out w' hI; go_simp; rfl
  simp only [Act.put, List.setIfInBounds_toArray, List.set_cons_zero, List.set_cons_succ]
  refine PlanW.float (v := ?_) (some 11) rfl rfl rfl (fun w' hI => ?_) ?_
  rotate_left
  · obtain ⟨e0, e1⟩ := HJ2.out w' hI; go_simp; rfl
  simp only [Act.put, List.setIfInBounds_toArray, List.set_cons_zero, List.set_cons_succ]
  refine PlanW.float (v := ?_) (some 12) rfl rfl rfl (fun w' hI => ?_) ?_
  rotate_left
  · obtain ⟨e0, e1⟩ := HJ2.out w' hI; go_simp; rfl
  simp only [Act.put, List.setIfInBounds_toArray, List.set_cons_zero, List.set_cons_succ]
  refine PlanW.float (v := ?_) (some 13) rfl rfl rfl (fun w' hI => ?_) ?_
  rotate_left
  · obtain ⟨e0, e1⟩ := HJ2.out w' hI; go_simp; rfl
  simp only [Act.put, List.setIfInBounds_toArray, List.set_cons_zero, List.set_cons_succ]
  refine PlanW.call (f := ?_) (args := ?_) (R := fun v w' => ∃ a1 c1 m1 x1, v = .slice a1 m1 c1 ∧ m1 ≤ d + 1 ∧ OwnC (O + 1) w' a1 m1 c1 x1 ∧ Drw S W w') (some 9) (HJ.out _ DW.out) rfl rfl rfl ?_ ?_ ?_
  rotate_left 2
  · go_simp; refine ⟨?_, ?_⟩ <;> rfl
  · refine Calls.mono (s_vec18 S 1 a d cap _ (DW.out.src HSW.out) (by omega) (by omega) (by omega)) ?_
    rintro e w9 ⟨a9, c9, m9, x9, rfl, hm9, ho9, g9⟩
    exact ⟨_, rfl, a9, c9, m9, x9, rfl, by omega, ho9.mono HDZ.out, DW.out.trans g9⟩
  rintro v w4 ⟨a1, c1, m1, x1, rfl, hm1, ho1, g4⟩
  simp only [Act.put, List.setIfInBounds_toArray, List.set_cons_zero, List.set_cons_succ]
  have D4 := Lib.hid g4
  clear g4
  refine PlanW.call (f := ?_) (args := ?_) (R := fun v w' => ∃ r, v = .int .i64 r ∧ NextR 1 r ∧ OwnC (O + 1) w' a1 m1 c1 x1 ∧ Drw S W w') (some 14) (HJ.out _ D4.out) rfl rfl rfl ?_ ?_ ?_
  rotate_left 2
  · go_simp; refine ⟨?_, ?_⟩ <;> rfl
  · refine Calls.mono (s_next S 1 _ (D4.out.src HSW.out) (by omega)) ?_
    rintro e w9 ⟨r, rfl, hr, g9⟩
    exact ⟨_, rfl, r, rfl, hr, g9.own ho1 hSB, D4.out.trans g9⟩
  rintro v w5 ⟨r1, rfl, hr1, ho5, gr1⟩
  simp only [Act.put, List.setIfInBounds_toArray, List.set_cons_zero, List.set_cons_succ]
  have Dr1 := Lib.hid gr1
  clear gr1
  have HX := Lib.hid ho5
  clear ho5 ho1
  refine PlanW.value (v := ?_) (w' := w5) (some 5) (HJ.out _ Dr1.out) rfl rfl rfl (?_) ?_
  rotate_left
  · go_simp; rfl
  simp only [Act.put, List.setIfInBounds_toArray]
  refine PlanW.value (v := ?_) (w' := w5) (some 6) (HJ.out _ Dr1.out) rfl rfl rfl (?_) ?_
  rotate_left
  · go_simp; rfl
  simp only [Act.put, List.setIfInBounds_toArray]
  refine ⟨HJ.out _ Dr1.out, strictQ_normal ?_⟩
  clear D4
  obtain ⟨c0, c1'⟩ := HJ2.out _ (HJ.out _ Dr1.out)
  obtain ⟨C, hC⟩ : ∃ C, C = code18 1 qs [x1] := ⟨_, rfl⟩
  have HCC := Lib.hid hC
  have HQ5 := Lib.hid (Dr1.out.own HQ.out (Nat.lt_succ_self _))
  clear hC
  by_cases hc : C ≠ 0
  · have hcb : (C != 0) = true := by simp [hc]
    go_wp2_with (first | (go_at_call 74; refine (s_code18 1 a d cap qs _ 1 _ [x1] _ (by omega) (by omega) (len_one (by rw [HX.out.1]; omega)) (HQ5.out.rd.ext (ext_alloc _ _)) (rdR_one (a := a1) (n := m1) (cap := c1) (by simp) (HX.out.rd.ext (ext_alloc _ _)))).mono ?_; rintro e w6 ⟨rfl, g6⟩; rw [← HCC.out]; have D6 := Lib.hid (Dr1.out.ext ((ext_alloc _ _).trans g6)); have HX6 := Lib.hid (HX.out.ext ((ext_alloc _ _).trans g6)); clear g6 c0 c1') | (at_builtin; refine wpList_appendAll rfl (.tmp 20) (.tmp 21) rfl rfl rfl (HX6.out.ext (ext_alloc _ _)) (rdC_two (x := 0) (y := 1) (by simp) (by simp)) (by omega) (by omega) (by omega) ?hB ?hk))
    case hB => have := D6.out.size; have := HDZ.out; simp; simp at *; omega
    case hk =>
      intro g' cap' w8 ho8 hg8 he8
      have HO8 := Lib.hid ho8
      have D8 := Lib.hid ((D6.out.alloc _).grown hg8 (fun k hk => by rw [HZ.out]; exact HX6.out.blk k hk))
      clear ho8 hg8 he8
      go_wp2_with (fail)
      go_ret
      exact ⟨_, _, m1 + 2, _, rfl, by omega, HO8.out.mono (by omega), GW.out.trans D8.out⟩
  · exfalso
    have h0 : code18 1 qs [x1] = 0 := by rw [← HCC.out]; simpa using hc
    have hpb := prime_bd (space_of (code18_zero h0).1).1
    omega
theorem s_any18 (S : SrcP) (p : Int) (a : Option Addr) (d cap : Nat) (qs : List Int) (w : World) (hS : Src S w) (hq : OwnC (S.g + 1) w a d cap qs) (hp0 : 0 ≤ p) (hp1 : p ≤ 17) (hd : d ≤ 7) :
    Calls Try.prog 103 #[.pointer (some ⟨S.g, 0, none⟩), .agg #[.int .i64 p, .slice a d cap]] w fun e w' => ∃ a cap m xs, e = .returned (.slice a m cap) ∧ m ≤ d + 3 ∧ OwnC w.heap.size w' a m cap xs ∧ Drw S w w' := by
  rcases (show (p = 0 ∨ p = 1) ∨ 2 ≤ p by omega) with (rfl | rfl) | h
  · exact s_any18_0 S a d cap qs w hS hq hd
  · exact s_any18_1 S a d cap qs w hS hq hd
  · exact s_any18_p S p a d cap qs w hS hq h hp1 hd
set_option maxHeartbeats 4000000 in
set_option maxRecDepth 100000 in
theorem s_drawIsOnSphere (ca : Option Addr) (n cap : Nat) (w : World) (hn : n ≤ 4096) (hb : RdY w ca n) :
    Calls Try.prog 43 #[.slice ca n cap] w fun e w' => ∃ p a d c qs a1 m1 c1 x1 a2 m2 c2 x2, e = .returned (.tuple #[.agg #[.int .i64 p, .slice a d c], .slice a1 m1 c1, .slice a2 m2 c2]) ∧ 0 ≤ p ∧ p ≤ 17 ∧ d ≤ 7 ∧ m1 ≤ 10 ∧ m2 ≤ 10 ∧ OwnC w.heap.size w' a d c qs ∧ OwnC w.heap.size w' a1 m1 c1 x1 ∧ OwnC w.heap.size w' a2 m2 c2 x2 ∧ Ext w w' := by
  obtain ⟨W, hW⟩ : ∃ W, W = w.alloc (.cells #[.int .i64 0, .slice none 0 0] 26) := ⟨_, rfl⟩
  have gW : Ext w W := by rw [hW]; exact ext_alloc _ _
  have HZ := Lib.hid (show W.heap.size = w.heap.size + 1 by rw [hW]; simp)
  have HR := Lib.hid (show SpAt W w.heap.size 0 (.slice none 0 0) by rw [hW]; exact ⟨by simp, by simp, by simp, by simp⟩)
  have HW := Lib.hid hW
  have GW := Lib.hid gW
  have HB := Lib.hid (hb.ext gW)
  clear gW hW hb
  go_enter Try.func43, Try.ntmps43
  go_wp2_with (fail)
  rw [← HW.out]
  refine Calls.mono (s_from ca n cap W hn HB.out) ?_
  rintro e w1 ⟨g, rfl, hg, hS, g1⟩
  obtain ⟨S, hSe⟩ : ∃ S : SrcP, S = ⟨g, ca, n, cap⟩ := ⟨_, rfl⟩
  obtain rfl : g = S.g := by rw [hSe]
  rw [← hSe] at hS
  have HS := Lib.hid hS
  have HR1 := Lib.hid (HR.out.ext g1)
  have G1 := Lib.hid (GW.out.trans g1)
  have hgR : w.heap.size ≠ S.g := by have := HZ.out; omega
  have hgw : w.heap.size + 1 ≤ S.g := by have := HZ.out; omega
  have hlt := hS.lt
  clear hg hS g1 hSe HR
  go_wp2_with (fail)
  refine Calls.mono (s_draw18 S w1 HS.out) ?_
  rintro e w2 ⟨p, a, d, c, qs, rfl, hp0, hp1, hd, ho, g2⟩
  obtain ⟨W2, hW2⟩ : ∃ W2, W2 = w2.alloc (.cells #[.int .i64 p, .slice a d c] 26) := ⟨_, rfl⟩
  obtain ⟨O, hO⟩ : ∃ O, O = w2.heap.size := ⟨_, rfl⟩
  have gW2 : Ext w2 W2.drew := by rw [hW2]; exact (ext_alloc _ _).trans (ext_drew _)
  have hOA : SpAt W2.drew O p (.slice a d c) := by
    have : SpAt W2 O p (.slice a d c) := by rw [hW2, hO]; exact ⟨by simp, by simp, by simp, by simp⟩
    exact this.ext (ext_drew _)
  have HOA := Lib.hid hOA
  have HR2 := Lib.hid ((HR1.out.drw g2 hgR).ext gW2)
  have HQ2 := Lib.hid ((ho.mono (show S.g + 1 ≤ _ from hlt)).ext gW2)
  have G2 := Lib.hid (g2.ext gW2)
  have hgO : O ≠ S.g := by rw [hO]; have := g2.size; omega
  go_wp2_with (fail)
  rw [← hW2, ← hO]
  have HS2 := Lib.hid (G2.out.src HS.out)
  clear hO gW2 ho g2 hW2 hOA HR1
  refine Chg.wp_region_lex_tail (E := Drw.rel S) 7 [(3, .own S (S.g + 1) 10 (Nat.lt_succ_self _)), (6, .own S (S.g + 1) 10 (Nat.lt_succ_self _))] (by kernel_rfl) (by kernel_rfl) ?_
  simp only [List.take, List.drop]
  (refine Chg.LexW.pure (v := ?_) rfl rfl (fun w1 he => ?_) ?_; rotate_left; ( have he' : Drw S W2.drew _ := he; have x0 := he'.cell (p := ⟨O, 0, none⟩) hgO HOA.out.c0; have x1 := he'.cell (p := ⟨O, 1, none⟩) hgO HOA.out.c1; go_simp; rfl); simp only [Act.put, List.setIfInBounds_toArray, List.set_cons_zero, List.set_cons_succ])
  (refine Chg.LexW.pure (v := ?_) rfl rfl (fun w1 he => ?_) ?_; rotate_left; ( have he' : Drw S W2.drew _ := he; have x0 := he'.cell (p := ⟨O, 0, none⟩) hgO HOA.out.c0; have x1 := he'.cell (p := ⟨O, 1, none⟩) hgO HOA.out.c1; go_simp; rfl); simp only [Act.put, List.setIfInBounds_toArray, List.set_cons_zero, List.set_cons_succ])
  (refine Chg.LexW.pure (v := ?_) rfl rfl (fun w1 he => ?_) ?_; rotate_left; ( have he' : Drw S W2.drew _ := he; have x0 := he'.cell (p := ⟨O, 0, none⟩) hgO HOA.out.c0; have x1 := he'.cell (p := ⟨O, 1, none⟩) hgO HOA.out.c1; go_simp; rfl); simp only [Act.put, List.setIfInBounds_toArray, List.set_cons_zero, List.set_cons_succ])
  (refine Chg.LexW.callR (f := ?_) (args := ?_) rfl rfl (fun w1 => ?_) (fun w1 he hdep => ?_) (fun v hv => ?_); rotate_left 2; (go_simp; refine ⟨?_, ?_⟩ <;> rfl); ( have he' : Drw S W2.drew _ := he; refine Calls.mono (s_any18 S p a d c qs w1 (he'.src HS2.out) (he'.own HQ2.out (Nat.lt_succ_self _)) (by omega) (by omega) (by omega)) ?_; rintro e w9 ⟨a9, c9, m9, x9, rfl, hm9, ho9, g9⟩; exact ⟨_, rfl, g9, a9, m9, c9, x9, rfl, by omega, ho9.mono (Nat.le_trans HS2.out.lt he'.size)⟩); simp only [Act.put, List.setIfInBounds_toArray, List.set_cons_zero, List.set_cons_succ])
  obtain ⟨_, a1, m1, c1, x1, rfl, _⟩ := hv
  (refine Chg.LexW.pure (v := ?_) rfl rfl (fun w1 he => ?_) ?_; rotate_left; ( have he' : Drw S W2.drew _ := he; have x0 := he'.cell (p := ⟨O, 0, none⟩) hgO HOA.out.c0; have x1 := he'.cell (p := ⟨O, 1, none⟩) hgO HOA.out.c1; go_simp; rfl); simp only [Act.put, List.setIfInBounds_toArray, List.set_cons_zero, List.set_cons_succ])
  (refine Chg.LexW.pure (v := ?_) rfl rfl (fun w1 he => ?_) ?_; rotate_left; ( have he' : Drw S W2.drew _ := he; have x0 := he'.cell (p := ⟨O, 0, none⟩) hgO HOA.out.c0; have x1 := he'.cell (p := ⟨O, 1, none⟩) hgO HOA.out.c1; go_simp; rfl); simp only [Act.put, List.setIfInBounds_toArray, List.set_cons_zero, List.set_cons_succ])
  (refine Chg.LexW.callR (f := ?_) (args := ?_) rfl rfl (fun w1 => ?_) (fun w1 he hdep => ?_) (fun v hv => ?_); rotate_left 2; (go_simp; refine ⟨?_, ?_⟩ <;> rfl); ( have he' : Drw S W2.drew _ := he; refine Calls.mono (s_vec18 S p a d c w1 (he'.src HS2.out) (by omega) (by omega) (by omega)) ?_; rintro e w9 ⟨a9, c9, m9, x9, rfl, hm9, ho9, g9⟩; exact ⟨_, rfl, g9, a9, m9, c9, x9, rfl, by omega, ho9.mono (Nat.le_trans HS2.out.lt he'.size)⟩); simp only [Act.put, List.setIfInBounds_toArray, List.set_cons_zero, List.set_cons_succ])
  obtain ⟨_, a2, m2, c2, x2, rfl, _⟩ := hv
  refine Chg.LexW.nil (fun w3 he hkn => ?_)
  have he' : Drw S W2.drew w3 := he
  obtain ⟨a1', m1', c1', x1', q1, hm1, ho1⟩ : (Chg.SPred.own S (S.g + 1) 10 (Nat.lt_succ_self _)).holds (.slice a1 m1 c1) w3 := hkn (3, _) (by simp)
  obtain ⟨a2', m2', c2', x2', q2, hm2, ho2⟩ : (Chg.SPred.own S (S.g + 1) 10 (Nat.lt_succ_self _)).holds (.slice a2 m2 c2) w3 := hkn (6, _) (by simp)
  cases q1
  cases q2
  have HR3 := Lib.hid (HR2.out.drw he' hgR)
  have HQ3 := Lib.hid (he'.own HQ2.out (Nat.lt_succ_self _))
  have HO1 := Lib.hid ho1
  have HO2 := Lib.hid ho2
  have G3 := Lib.hid (G2.out.trans he')
  have r0 := HR3.out.c0
  have r1 := HR3.out.c1
  have f0 := HR3.out.f0
  have f1 := HR3.out.f1
  clear he he' hkn ho1 ho2
  go_wp2_with (fail)
  refine bodyPost_ret (v := .tuple #[.agg #[.int .i64 p, .slice a d c], .slice a1 m1 c1, .slice a2 m2 c2]) (by simp [results, Try.results43, go_sem, r0, r1]) rfl ⟨p, a, d, c, qs, a1, m1, c1, x1', a2, m2, c2, x2', rfl, hp0, hp1, hd, hm1, hm2, ?_, ?_, ?_, ?_⟩
  · exact ((HQ3.out.other (by simp; omega) _).other (by simp; omega) _).mono (by omega)
  · exact ((HO1.out.other (by simp; omega) _).other (by simp; omega) _).mono (by omega)
  · exact ((HO2.out.other (by simp; omega) _).other (by simp; omega) _).mono (by omega)
  · exact ((G3.out.toExt G1.out (by omega)).setCell (by simp) _).setCell (by simp) _
set_option maxHeartbeats 4000000 in
theorem s_drawInvertAt (ca : Option Addr) (n cap : Nat) (w : World) (hn : n ≤ 4096) (hb : RdY w ca n) :
    Calls Try.prog 8 #[.slice ca n cap] w fun e w' => ∃ p a d c qs a1 m1 c1 x1 a2 m2 c2 x2, e = .returned (.tuple #[.agg #[.int .i64 p, .slice a d c], .slice a1 m1 c1, .slice a2 m2 c2]) ∧ 0 ≤ p ∧ p ≤ 17 ∧ d ≤ 7 ∧ m1 ≤ 10 ∧ m2 ≤ 10 ∧ OwnC w.heap.size w' a d c qs ∧ OwnC w.heap.size w' a1 m1 c1 x1 ∧ OwnC w.heap.size w' a2 m2 c2 x2 ∧ Ext w w' := by
  obtain ⟨W, hW⟩ : ∃ W, W = w.alloc (.cells #[.int .i64 0, .slice none 0 0] 26) := ⟨_, rfl⟩
  have gW : Ext w W := by rw [hW]; exact ext_alloc _ _
  have HZ := Lib.hid (show W.heap.size = w.heap.size + 1 by rw [hW]; simp)
  have HR := Lib.hid (show SpAt W w.heap.size 0 (.slice none 0 0) by rw [hW]; exact ⟨by simp, by simp, by simp, by simp⟩)
  have HW := Lib.hid hW
  have GW := Lib.hid gW
  have HB := Lib.hid (hb.ext gW)
  clear gW hW hb
  go_enter Try.func8, Try.ntmps8
  go_wp2_with (fail)
  rw [← HW.out]
  refine Calls.mono (s_drawIsOnSphere ca n cap W hn HB.out) ?_
  rintro e w1 ⟨p, a, d, c, qs, a1, m1, c1, x1, a2, m2, c2, x2, rfl, hp0, hp1, hd, hm1, hm2, ho, ho1, ho2, g1⟩
  have hR1 := HR.out.ext g1
  have r0 := hR1.c0
  have r1 := hR1.c1
  have f0 := hR1.f0
  have f1 := hR1.f1
  have lR := hR1.lt
  have hz := HZ.out
  have HQ := Lib.hid ho
  have HO1 := Lib.hid ho1
  have HO2 := Lib.hid ho2
  have G1 := Lib.hid (GW.out.trans g1)
  clear ho ho1 ho2 g1 hR1
  go_wp2_with (fail)
  refine bodyPost_ret (v := .tuple #[.agg #[.int .i64 p, .slice a d c], .slice a1 m1 c1, .slice a2 m2 c2]) (by simp [results, Try.results8, go_sem, r0, r1]) rfl ⟨p, a, d, c, qs, a1, m1, c1, x1, a2, m2, c2, x2, rfl, hp0, hp1, hd, hm1, hm2, ?_, ?_, ?_, ?_⟩
  · exact ((HQ.out.other (by simp; omega) _).other (by simp; omega) _).mono (by omega)
  · exact ((HO1.out.other (by simp; omega) _).other (by simp; omega) _).mono (by omega)
  · exact ((HO2.out.other (by simp; omega) _).other (by simp; omega) _).mono (by omega)
  · exact (G1.out.setCell (by simp) _).setCell (by simp) _
end Go.Proofs.Ytcocbainookkcaa

/-
  The laws' helpers of the later layers: sums, multiples, zero; append that names the block.
  No condition.
-/
namespace Go.Proofs.Ytcocbainookkcaa
set_option maxRecDepth 100000
open Go.RowKit

theorem run_push_at {B : Nat} {w : World} {ra : Option Addr} {n cap : Nat} {xs : List Int} {v : Int} {g : Nat} (hown : OwnC B w ra n cap xs) (hc : w.cell? ⟨g, 0, none⟩ = some (.int .i64 v)) (hn : n ≤ 4194304) (hB : B ≤ w.heap.size) (ty : TypeId) :
    ∃ g' cap' w', (Builtin.append_ #[24, 24] ty #[.slice ra n cap, .slice (some ⟨g, 0, none⟩) 1 1]).run Try.prog w = .ok (.slice (some ⟨g', 0, none⟩) (n + 1) cap') w' ∧
      OwnC B w' (some ⟨g', 0, none⟩) (n + 1) cap' (xs ++ [v]) ∧ w.grownBy w' (Value.slice ra n cap).ownBlock ∧ (g' = w.heap.size ∨ (Value.slice ra n cap).ownBlock = some g') ∧ (∀ W : World, W.heap.size ≤ B → Ext W w → Ext W w') := by
  obtain ⟨i0, hi, hz0, hz1, hz2⟩ := info_parts Try.infoI
  obtain ⟨v', w', hr, h2, h3, _, hbk⟩ := run_append_own_at (P := Try.prog) w B 24 ty 2 i0 (.int .i64 0) 1 8 Try.underlying24 hi hz0 hz1 hz2 rfl (by decide) (.slice ra n cap) n (xs.map (.int .i64)) hown.2
    ⟨g, 0, none⟩ 1 1 [.int .i64 v] rfl (fun j u hj => by
      cases j with
      | zero => simp only [List.getElem?_cons_zero, Option.some.injEq] at hj; subst hj; simpa [Addr.add] using hc
      | succ j => simp at hj) (fun u hu => by simp only [List.mem_singleton] at hu; subst hu; rfl) (by unfold maxLen; omega) (by omega) hB
  have h2' : w'.ownsRow B 2 1 v' (n + 1) ((xs ++ [v]).map (.int .i64)) := by rw [List.map_append]; exact h2
  obtain ⟨g', cap', rfl⟩ := OwnC.form h2' (by omega)
  exact ⟨g', cap', w', hr, ⟨by simp [hown.1], h2'⟩, h3, hbk.elim (fun h => .inr h.symm) (fun h => .inl (Option.some.inj h)), fun W hW hE => hE.grown h3 fun k hk => Nat.le_trans hW (hown.blk k hk)⟩

theorem wpList_push_at {ops : Array Oper} {rest : List Oper} {o : Oper} {a : Act} {Q : Exit → Act → World → Prop} {w : World} (hgd : o.guard = none) (s x : Operand)
    (ho : o.op = .call { callee := .builtin .append, args := #[s, x], argTypes := #[24, 24] })
    {B : Nat} {ra : Option Addr} {n cap : Nat} {xs : List Int} {v : Int} {g : Nat} (hs : a.eval s = .slice ra n cap) (hx : a.eval x = .slice (some ⟨g, 0, none⟩) 1 1)
    (hown : OwnC B w ra n cap xs) (hc : w.cell? ⟨g, 0, none⟩ = some (.int .i64 v)) (hn : n ≤ 4194304) (hB : B ≤ w.heap.size)
    (h : ∀ g' cap' w', OwnC B w' (some ⟨g', 0, none⟩) (n + 1) cap' (xs ++ [v]) → w.grownBy w' (Value.slice ra n cap).ownBlock → (g' = w.heap.size ∨ (Value.slice ra n cap).ownBlock = some g') → (∀ W : World, W.heap.size ≤ B → Ext W w → Ext W w') →
      wpList Try.prog ops Q rest (a.put o.dst (.slice (some ⟨g', 0, none⟩) (n + 1) cap')) w') : wpList Try.prog ops Q (o :: rest) a w := by
  refine wpList_plain hgd fun K hK => ?_
  obtain ⟨g', cap', w', hr, h1, h2, h2b, h3⟩ := run_push_at hown hc hn hB o.type
  unfold Oper.wp execOp
  simp only [ho, resolve, invoke, builtin, Sem.run_bind, Sem.run_pure, Result.andThen_ok, List.map_toArray, List.map_cons, List.map_nil, hs, hx, hr]
  exact hK _ _ (h g' cap' w' h1 h2 h2b h3)
/-- An owned row stays, where another one is grown. -/
theorem OwnC.grownO {B : Nat} {w w' : World} {g n cap h m c : Nat} {xs : List Int} (ho : OwnC B w (some ⟨g, 0, none⟩) n cap xs) (hg : w.grownBy w' (Value.slice (some ⟨h, 0, none⟩) m c).ownBlock) (hne : g ≠ h) : OwnC B w' (some ⟨g, 0, none⟩) n cap xs :=
  ho.keep fun g' hg' => by
    simp only [Option.some.injEq, Addr.mk.injEq, and_true] at hg'
    subst hg'
    exact hg.block _ (ho.base_of _ rfl).2 (fun e => hne (Option.some.inj e))
theorem add_small {p x y : Int} (hx : 0 ≤ x) (hy : 0 ≤ y) : (x + y).tmod p = (x + 1 * y) % p := by
  rw [Int.one_mul, Int.tmod_eq_emod_of_nonneg (by omega)]

set_option maxHeartbeats 2000000 in
theorem l_add9 (p : Int) (ax ay : Option Addr) (n cx cy : Nat) (x y : List Int) (w : World) (hp1 : 3 ≤ p) (hp2 : p ≤ 1000) (hn : n ≤ 4194303) (hx : RdC w ax n x) (hy : RdC w ay n y) (hgx : Good p n x) (hgy : Good p n y) :
    Calls Try.prog 15 #[.int .i64 p, .slice ax n cx, .slice ay n cy] w fun e w' => ∃ g rc, e = .returned (.slice (some ⟨g, 0, none⟩) n rc) ∧ OwnC w.heap.size w' (some ⟨g, 0, none⟩) n rc (plusL p x y 1 n) ∧ Ext w w' := by
  have HX := Lib.hid hx
  have HY := Lib.hid hy
  have HGX := Lib.hid hgx
  have HGY := Lib.hid hgy
  have hpz : ¬ p = 0 := by omega
  clear hx hy hgx hgy
  go_enter Try.func15, Try.ntmps15
  go_wp2_with (fail)
  go_loopw [7, 8] (fun o i wr => ∃ (j g rc : Nat), j ≤ n ∧ i = .int .i64 j ∧ o = .slice (some ⟨g, 0, none⟩) j rc ∧ OwnC w.heap.size wr (some ⟨g, 0, none⟩) j rc (plusL p x y 1 j) ∧ Ext w wr) (fun _ i _ => n - (intOf i).toNat)
  case atStart => exact ⟨0, _, 0, Nat.zero_le _, rfl, rfl, own_empty w, ext_alloc _ _⟩
  case round =>
    obtain ⟨j, g, rc, hj, rfl, rfl, hown, hext⟩ := hrel
    have HOwn := Lib.hid hown
    have HExt := Lib.hid hext
    clear hown hext
    by_cases hlt : j < n
    · obtain ⟨bx, ox, rfl, hcx⟩ := HX.out.2 j hlt
      obtain ⟨by', oy, rfl, hcy⟩ := HY.out.2 j hlt
      have Hcx := Lib.hid ((HExt.out.trans (ext_drew _)).cell hcx)
      have Hcy := Lib.hid ((HExt.out.trans (ext_drew _)).cell hcy)
      have hbx := HGX.out.2 j hlt
      have hby := HGY.out.2 j hlt
      have hw2 : IntKind.i64.wrap (nth x j + nth y j) = nth x j + nth y j := IntWalk.i64_in _ (by omega)
      have HM := Lib.hid (add_small (p := p) hbx.1 hby.1)
      have HPN : Hid (plusN p x y 1 j = (nth x j + 1 * nth y j) % p) := Lib.hid rfl
      obtain ⟨z, hz⟩ : ∃ z, z = (nth x j + nth y j).tmod p := ⟨_, rfl⟩
      have HZ := Lib.hid hz
      have HZP : Hid (z = plusN p x y 1 j) := Lib.hid (by rw [hz, HM.out, HPN.out])
      have hzb : 0 ≤ z ∧ z < p := by rw [hz, HM.out]; exact ⟨Int.emod_nonneg _ (by omega), Int.emod_lt_of_pos _ (by omega)⟩
      have hwz : (nth x j + nth y j).tmod p = z := hz.symm
      clear hcx hcy hz
      have hlt' : (j : Int) < (n : Int) := by omega
      go_wp2_with (fail)
      refine wp_region_lex_tail 13 [(12, .one z)] (by kernel_rfl) (by kernel_rfl) ?_
      simp only [List.take, List.drop]
      repeat' first | (refine LexW.pure (v := ?_) rfl rfl (fun w1 he => ?_) ?_; rotate_left; ( have e3 := he.cell Hcx.out; have e4 := he.cell Hcy.out; go_simp; rfl); simp only [Act.put, List.setIfInBounds_toArray, List.set_cons_zero, List.set_cons_succ]) | ((refine LexW.rel rfl rfl (fun w1 he hdep => ?_) (fun v hv => ?_); ( exact ⟨.slice (some ⟨w1.heap.size, 0, none⟩) 1 1, w1.alloc (.cells #[.int .i64 z] 2), (by go_simp), ext_alloc _ _, _, rfl, (by simp)⟩); simp only [Act.put, List.setIfInBounds_toArray, List.set_cons_zero, List.set_cons_succ]); obtain ⟨_, g9, rfl, _⟩ := hv)
      refine LexW.nil (fun w2 he hkn => ?_)
      obtain ⟨_, q9, r9⟩ : (SPred.one z).holds (.slice (some ⟨g9, 0, none⟩) 1 1) w2 := hkn (12, _) (by simp)
      cases q9
      have G2 := Lib.hid ((ext_drew _).trans he)
      have R9 := Lib.hid r9
      clear he hkn r9 hwz hw2
      go_wp2_with (at_builtin; refine wpList_push rfl (.tmp 22) (.tmp 34) rfl rfl rfl (v := z) (HOwn.out.ext G2.out) ?hc ?hn ?hB ?hk)
      case hc => exact R9.out
      case hn => omega
      case hB => exact (HExt.out.trans G2.out).size'
      case hk =>
        intro g' cap' w3 ho3 hg3 he3
        have HO3 := Lib.hid ho3
        have HE3 := Lib.hid (he3 w (Nat.le_refl _) (HExt.out.trans G2.out))
        clear ho3 hg3 he3
        go_wp2_with (fail)
        go_roundw
        case rel => exact ⟨j + 1, g', cap', by omega, by go_num, rfl, by rw [plusL_succ, ← HZP.out]; exact HO3.out, HE3.out⟩
        case measure => simp [intOf]; omega
    · obtain rfl : j = n := by omega
      have hlt' : ¬ (j : Int) < (j : Int) := by omega
      go_wp2_with (fail)
      go_ret
      exact ⟨g, rc, rfl, HOwn.out, HExt.out⟩
set_option maxHeartbeats 2000000 in
theorem l_scale9 (p k : Int) (ax : Option Addr) (n cx : Nat) (x : List Int) (w : World) (hp1 : 3 ≤ p) (hp2 : p ≤ 1000) (hk : -1000 ≤ k ∧ k ≤ 1000) (hn : n ≤ 4194303) (hx : RdC w ax n x) (hgx : Good p n x) :
    Calls Try.prog 16 #[.int .i64 p, .int .i64 k, .slice ax n cx] w fun e w' => ∃ g rc, e = .returned (.slice (some ⟨g, 0, none⟩) n rc) ∧ OwnC w.heap.size w' (some ⟨g, 0, none⟩) n rc (scaleL p x k n) ∧ Ext w w' := by
  have HX := Lib.hid hx
  have HGX := Lib.hid hgx
  have hpz : ¬ p = 0 := by omega
  clear hx hgx
  go_enter Try.func16, Try.ntmps16
  go_wp2_with (fail)
  go_loopw [7, 8] (fun o i wr => ∃ (j g rc : Nat), j ≤ n ∧ i = .int .i64 j ∧ o = .slice (some ⟨g, 0, none⟩) j rc ∧ OwnC w.heap.size wr (some ⟨g, 0, none⟩) j rc (scaleL p x k j) ∧ Ext w wr) (fun _ i _ => n - (intOf i).toNat)
  case atStart => exact ⟨0, _, 0, Nat.zero_le _, rfl, rfl, own_empty w, ext_alloc _ _⟩
  case round =>
    obtain ⟨j, g, rc, hj, rfl, rfl, hown, hext⟩ := hrel
    have HOwn := Lib.hid hown
    have HExt := Lib.hid hext
    clear hown hext
    by_cases hlt : j < n
    · obtain ⟨bx, ox, rfl, hcx⟩ := HX.out.2 j hlt
      have hcx' := HExt.out.cell hcx
      have hbx := HGX.out.2 j hlt
      have hkb := kmul_bd hk hbx.1 (show nth x j ≤ 1000 by omega)
      have hw1 : IntKind.i64.wrap (k * nth x j) = k * nth x j := IntWalk.i64_in _ (by omega)
      have HE := Lib.hid (num_eq (n := k * nth x j) (p := p) (by omega) hp2)
      have HSN : Hid (scaleN p x k j = (k * nth x j) % p) := Lib.hid (by unfold scaleN; rw [Int.mul_comm])
      obtain ⟨m, hm⟩ : ∃ m, m = k * nth x j := ⟨_, rfl⟩
      rw [← hm] at HE HSN hkb
      have hm' : k * nth x j = m := hm.symm
      rw [hm'] at hw1
      obtain ⟨z, hz⟩ : ∃ z, z = m % p := ⟨_, rfl⟩
      rw [← hz] at HE HSN
      clear hcx hm hz
      have hlt' : (j : Int) < (n : Int) := by omega
      go_wp2_with (at_builtin; refine wpList_push rfl (.tmp 16) (.tmp 29) rfl rfl rfl (v := (wrap64 (m.tmod p + p)).tmod p) (HOwn.out.ext (ext_alloc _ _)) ?hc ?hn ?hB ?hk)
      case hc => simp
      case hn => omega
      case hB => have := HExt.out.size'; simp; omega
      case hk =>
        intro g' cap' w3 ho3 hg3 he3
        rw [HE.out] at ho3
        have HO3 := Lib.hid ho3
        have HE3 := Lib.hid (he3 w (Nat.le_refl _) (HExt.out.trans (ext_alloc _ _)))
        clear ho3 hg3 he3 hcx' hm' hw1
        go_wp2_with (fail)
        go_roundw
        case rel => exact ⟨j + 1, g', cap', by omega, by go_num, rfl, by rw [scaleL_succ, HSN.out]; exact HO3.out, HE3.out⟩
        case measure => simp [intOf]; omega
    · obtain rfl : j = n := by omega
      have hlt' : ¬ (j : Int) < (j : Int) := by omega
      go_wp2_with (fail)
      go_ret
      exact ⟨g, rc, rfl, HOwn.out, HExt.out⟩
end Go.Proofs.Ytcocbainookkcaa

/-
  What is known of the arguments of a law in memory, read off the form's own words.
  No condition.
-/
namespace Go.Proofs.Ytcocbainookkcaa
set_option maxRecDepth 100000
open Go.ChangeShapes Go.WideShapes Go.ChangeAt Go.RowKit Go.Joins

theorem own : ownKnob Try.prog.godebug = none := by kernel_rfl
theorem laidOut : laidOutB Try.prog = true := by kernel_rfl
theorem Try.cellsI : Try.prog.cellsOf 2 = 1 := by kernel_rfl
theorem Try.cellsR : Try.prog.cellsOf 24 = 1 := by kernel_rfl

theorem add_cell {w : World} {x : Addr} {i : Nat} {v v0 : Value} (h0 : w.cell? (x.add 0) = some v0) (h : w.cell? (x.add i) = some v) : ∃ b off, some x = some (⟨b, off, none⟩ : Addr) ∧ w.cell? ⟨b, off + i, none⟩ = some v := by
  obtain ⟨b, off, spot⟩ := x
  cases spot with
  | none =>
    refine ⟨b, off, rfl, ?_⟩
    unfold Addr.add at h
    split at h
    · rename_i hi; subst hi; exact h
    · exact h
  | some s =>
    simp only [World.cell?, Addr.add, if_true] at h0
    split at h0
    · simp at h0
    · cases h0

theorem read_cells {H : Type} {enc : TypeId × Value → H} {W : World} {fuel : Nat} {v : Value} {x : DataW H × List MemPlace}
    (hf : DataW.trod enc Try.prog W 0 (fun _ => true) true fuel 24 [v] = some x) : ∃ a n cap xs, v = .slice a n cap ∧ RdC W a n xs ∧ n ≤ maxLen := by
  rcases open_ints Try.underlying24 Try.underlying2 Try.cellsI hf with ⟨hcs, _⟩ | ⟨y, l, c, zs, hcs, _, hl, hm, hz, _, hcell, hwz⟩
  · simp only [List.cons.injEq, and_true] at hcs
    exact ⟨none, 0, 0, [], hcs, ⟨rfl, fun i hi => by omega⟩, by omega⟩
  · simp only [List.cons.injEq, and_true] at hcs
    have hz' : zs.length = c := by simpa using hz
    refine ⟨some y, l, c, zs.take l, hcs, ⟨by simp; omega, fun i hi => ?_⟩, by omega⟩
    obtain ⟨b, off, h1, h2⟩ := add_cell (hcell 0 (by omega)) (hcell i (by omega))
    refine ⟨b, off, h1, ?_⟩
    rw [h2]
    simp [nth, List.getElem?_take_of_lt hi]

theorem read_ints {H : Type} {enc : TypeId × Value → H} {W : World} {base : Nat} {v : Value} {d : DataW H} {p : List MemPlace}
    (hv : Value.okWide Try.prog W .any base 24 v) (h : DataW.Trod enc Try.prog W 0 (fun _ => true) true 24 v d p) : ∃ a n cap xs, v = .slice a n cap ∧ RdC W a n xs ∧ n ≤ maxLen := by
  obtain ⟨a0, len0, cap0, rfl⟩ := okWide_slice Try.underlying24 hv
  obtain ⟨fuel, hf⟩ := h
  exact read_cells (by simpa [Value.cells] using hf)


end Go.Proofs.Ytcocbainookkcaa

/-
  What is known of the bytes that a law is handed.
  No condition.
-/
namespace Go.Proofs.Ytcocbainookkcaa
set_option maxRecDepth 100000
open Go.ChangeShapes Go.WideShapes Go.ChangeAt Go.RowKit Go.Joins

theorem Try.cellsB : Try.prog.cellsOf 5 = 1 := by kernel_rfl

theorem read_bytes {H : Type} {enc : TypeId × Value → H} {W : World} {base : Nat} {v : Value} {d : DataW H} {p : List MemPlace}
    (hv : Value.okWide Try.prog W .any base 22 v) (h : DataW.Trod enc Try.prog W 0 (fun _ => true) true 22 v d p) : ∃ a n cap, v = .slice a n cap ∧ RdY W a n := by
  obtain ⟨a0, len0, cap0, rfl⟩ := okWide_slice Try.underlying22 hv
  obtain ⟨fuel, hf⟩ := h
  have hf' : DataW.trod enc Try.prog W 0 (fun _ => true) true fuel 22 [.slice a0 len0 cap0] = some (d, p) := by simpa [Value.cells] using hf
  rcases open_ints Try.underlying22 Try.underlying5 Try.cellsB hf' with ⟨hcs, _⟩ | ⟨y, l, c, zs, hcs, _, hl, hm, hz, _, hcell, hwz⟩
  · simp only [List.cons.injEq, and_true] at hcs
    exact ⟨none, 0, 0, hcs, fun i hi => by omega⟩
  · simp only [List.cons.injEq, and_true] at hcs
    have hz' : zs.length = c := by simpa using hz
    refine ⟨some y, l, c, hcs, fun i hi => ?_⟩
    obtain ⟨b, off, h1, h2⟩ := add_cell (hcell 0 (by omega)) (hcell i (by omega))
    have hi' : i < zs.length := by omega
    have hw := hwz (zs.getD i 0) (by rw [List.getD_eq_getElem?_getD, List.getElem?_eq_getElem hi']; exact List.getElem_mem hi')
    refine ⟨b, off, zs.getD i 0, h1, h2, ?_⟩
    replace hw : (decide (IntKind.u8.min ≤ zs.getD i 0) && decide (zs.getD i 0 ≤ IntKind.u8.max)) = true := hw
    have h8 : IntKind.u8.min = 0 ∧ IntKind.u8.max = 255 := by decide
    rw [h8.1, h8.2] at hw
    simp only [Bool.and_eq_true, decide_eq_true_eq] at hw
    omega
end Go.Proofs.Ytcocbainookkcaa
