/-
  Contracts and plain laws, part 5: Draw, Top18, AlgB, Dual, AlgC, AlgD, LinP, Idem, Ker, Kill.
  No condition.
-/
import Derived.Test.YtcocbainookkcaaGreatPart4
import Derived.Test.YtcocbainookkcaaGreatPart0
import Derived.Test.YtcocbainookkcaaGreatPart3
import Derived.Test.YtcocbainookkcaaGreatPart2
import Derived.Test.YtcocbainookkcaaGreatPart1
/-
  Draws of numbers, lists and spaces: what they leave.
  No condition.
-/
namespace Go.Proofs.YtcocbainookkcaaGreat
set_option maxRecDepth 100000
open Go.RowKit

/-- The cells of a row that is written out. -/
theorem rdC_lit (w : World) (T : TypeId) (xs : List Int) : RdC (w.alloc (.cells (xs.map (.int .i64)).toArray T)) (some ⟨w.heap.size, 0, none⟩) xs.length xs := by
  refine ⟨rfl, fun i hi => ⟨w.heap.size, 0, rfl, ?_⟩⟩
  simp [hi, nth_eq hi]

theorem nth_in {xs : List Int} {i : Nat} (h : i < xs.length) : nth xs i ∈ xs := nth_mem h

set_option maxHeartbeats 400000 in
theorem s_pick (S : SrcP) (b m cap : Nat) (xs : List Int) (w : World) (hS : Src S w) (hm : 0 < m) (hm2 : m ≤ 1000) (hx : RdC w (some ⟨b, 0, none⟩) m xs) (hb : b ≠ S.g) :
    Calls Tryz.prog 21 #[.pointer (some ⟨S.g, 0, none⟩), .slice (some ⟨b, 0, none⟩) m cap] w fun e w' => ∃ r, e = .returned (.int .i64 r) ∧ r ∈ xs ∧ Drw S w w' := by
  have HX := Lib.hid hx
  clear hx
  go_enter Tryz.func21, Tryz.ntmps21
  have arm : ∀ r : Int, NextR m r → ∃ k : Nat, r = (k : Int) ∧ k < m ∧ w.cell? ⟨b, k, none⟩ = some (.int .i64 (nth xs k)) := by
    intro r hr
    have hr1 := hr.2 (by omega)
    refine ⟨r.toNat, by omega, by omega, ?_⟩
    obtain ⟨b', o', hab, hc⟩ := HX.out.2 r.toNat (by omega)
    simp only [Option.some.injEq, Addr.mk.injEq] at hab
    obtain ⟨rfl, rfl, _⟩ := hab
    simpa using hc
  have hm0 : (m : Int) ≤ 9223372036854775807 := by omega
  go_wp2_with (go_at_call 44; refine (s_next S m _ hS hm0).mono ?_; rintro e w1 ⟨r, rfl, hr, g1⟩; obtain ⟨k, rfl, hk, hc⟩ := arm r hr; have hc1 := g1.cell (p := ⟨b, k, none⟩) hb hc)
  go_ret
  exact ⟨_, rfl, nth_mem (by rw [HX.out.1]; exact hk), g1⟩

set_option maxHeartbeats 400000 in
theorem s_drawPrime (S : SrcP) (w : World) (hS : Src S w) :
    Calls Tryz.prog 79 #[.pointer (some ⟨S.g, 0, none⟩)] w fun e w' => ∃ p, e = .returned (.int .i64 p) ∧ primeB p = true ∧ 3 ≤ p ∧ p ≤ 13 ∧ Drw S w w' := by
  have hlt := hS.lt
  go_enter Tryz.func79, Tryz.ntmps79
  go_wp2_with (go_at_call 21; refine Calls.mono (s_pick S _ _ _ _ _ ((Drw.of_ext (ext_alloc _ _)).src hS) (by omega) (by omega) (rdC_lit w _ [3, 5, 7, 11, 13, 3, 5, 7]) (Nat.ne_of_gt hlt)) ?_; rintro e w1 ⟨r, rfl, hr, g1⟩)
  go_ret
  have hp : primeB r = true ∧ 3 ≤ r ∧ r ≤ 13 := by
    simp only [List.mem_cons, List.not_mem_nil, or_false] at hr
    rcases hr with rfl | rfl | rfl | rfl | rfl | rfl | rfl | rfl <;> decide +kernel
  exact ⟨r, rfl, hp.1, hp.2.1, hp.2.2, (Drw.of_ext (ext_alloc _ _)).trans g1⟩

/-- A struct of a prime and a slice in a block. -/
structure SpAt (w : World) (O : Nat) (p : Int) (v : Value) : Prop where
  c0 : w.cell? ⟨O, 0, none⟩ = some (.int .i64 p)
  c1 : w.cell? ⟨O, 1, none⟩ = some v
  f0 : w.frozen? ⟨O, 0, none⟩ = false
  f1 : w.frozen? ⟨O, 1, none⟩ = false
theorem SpAt.block {w w' : World} {O : Nat} {p : Int} {v : Value} (h : SpAt w O p v) (hb : w'.heap[O]? = w.heap[O]?) : SpAt w' O p v :=
  ⟨by rw [World.cell?_of_block (w := w) hb]; exact h.c0, by rw [World.cell?_of_block (w := w) hb]; exact h.c1, by rw [World.frozen?_of_block (w := w) hb]; exact h.f0, by rw [World.frozen?_of_block (w := w) hb]; exact h.f1⟩
theorem SpAt.lt {w : World} {O : Nat} {p : Int} {v : Value} (h : SpAt w O p v) : O < w.heap.size := lt_of_cell h.c0
theorem SpAt.below {w w' : World} {O B : Nat} {p : Int} {v : Value} (h : SpAt w O p v) (hb : Below B w w') (hO : O < B) : SpAt w' O p v := h.block (hb.block O hO)
theorem SpAt.ext {w w' : World} {O : Nat} {p : Int} {v : Value} (h : SpAt w O p v) (hb : Ext w w') : SpAt w' O p v := h.below hb h.lt
theorem SpAt.drw {S : SrcP} {w w' : World} {O : Nat} {p : Int} {v : Value} (h : SpAt w O p v) (hd : Drw S w w') (ho : O ≠ S.g) : SpAt w' O p v := h.block (hd.block O h.lt ho)
theorem SpAt.set0 {w : World} {O : Nat} {p : Int} {v : Value} (h : SpAt w O p v) (q : Int) : SpAt (w.setCell ⟨O, 0, none⟩ (.int .i64 q)) O q v := by
  obtain ⟨h0, h1, h2, h3⟩ := h
  exact ⟨by go_simp, by go_simp, by go_simp, by go_simp⟩
theorem SpAt.set1 {w : World} {O : Nat} {p : Int} {v : Value} (h : SpAt w O p v) (u : Value) : SpAt (w.setCell ⟨O, 1, none⟩ u) O p u := by
  obtain ⟨h0, h1, h2, h3⟩ := h
  exact ⟨by go_simp, by go_simp, by go_simp, by go_simp⟩
theorem SpAt.other {w : World} {O : Nat} {p : Int} {v : Value} (h : SpAt w O p v) {q : Addr} (hq : q.block ≠ O) (u : Value) : SpAt (w.setCell q u) O p v := h.block (Below.heap_setCell _ _ _ _ (Ne.symm hq))

/-- The length of the slice in a block's second cell. -/
def lenAt (w : World) (O : Nat) : Nat := match w.cell? ⟨O, 1, none⟩ with | some (.slice _ n _) => n | _ => 0
theorem lenAt_of {w : World} {O : Nat} {p : Int} {a : Option Addr} {n c : Nat} (h : SpAt w O p (.slice a n c)) : lenAt w O = n := by simp [lenAt, h.c1]

set_option maxHeartbeats 4000000 in
theorem s_any (S : SrcP) (m : Nat) (w : World) (hS : Src S w) (hm1 : 1 ≤ m) (hm : m ≤ 6) :
    Calls Tryz.prog 43 #[.pointer (some ⟨S.g, 0, none⟩), .int .i64 m] w fun e w' => ∃ p a d cap qs, e = .returned (.agg #[.int .i64 p, .slice a d cap]) ∧ primeB p = true ∧ 3 ≤ p ∧ p ≤ 13 ∧ 1 ≤ d ∧ d ≤ m ∧ isB p qs = true ∧ OwnC w.heap.size w' a d cap qs ∧ Drw S w w' := by
  have HS := Lib.hid hS
  have hlt := hS.lt
  clear hS
  obtain ⟨W, hW⟩ : ∃ W, W = w.alloc (.cells #[.int .i64 0, .slice none 0 0] 26) := ⟨_, rfl⟩
  have gW : Ext w W := by rw [hW]; exact ext_alloc _ _
  have hR : SpAt W w.heap.size 0 (.slice none 0 0) := by rw [hW]; exact ⟨by simp, by simp, by simp, by simp⟩
  have HR := Lib.hid hR
  have GW := Lib.hid gW
  have HW := Lib.hid hW
  clear hR gW hW
  go_enter Tryz.func43, Tryz.ntmps43
  go_wp2_with (fail)
  rw [← HW.out]
  refine Calls.mono (s_drawPrime S W ((Drw.of_ext GW.out).src HS.out)) ?_
  rintro e w1 ⟨p, rfl, hpr, hp1, hp2, g1⟩
  have HR1 := Lib.hid (HR.out.drw g1 (Nat.ne_of_gt hlt))
  have G1 := Lib.hid ((Drw.of_ext GW.out).trans g1)
  clear g1
  go_wp2_with (fail)
  obtain ⟨W2, hW2⟩ : ∃ W2, W2 = w1.alloc (.cells #[.int .i64 p, .slice none 0 0] 26) := ⟨_, rfl⟩
  obtain ⟨O, hO⟩ : ∃ O, O = w1.heap.size := ⟨_, rfl⟩
  have gW2 : Ext w1 W2 := by rw [hW2]; exact ext_alloc _ _
  have hOA : SpAt W2 O p (.slice none 0 0) := by rw [hW2, hO]; exact ⟨by simp, by simp, by simp, by simp⟩
  rw [← hW2, ← hO]
  have hOw : w.heap.size < O := by rw [hO]; exact HR1.out.lt
  have HOA := Lib.hid hOA
  have HR2 := Lib.hid (HR1.out.ext gW2)
  have G2 := Lib.hid (G1.out.ext gW2)
  have hm0 : (m : Int) ≤ 9223372036854775807 := by omega
  have hgO : O ≠ S.g := by omega
  have hgR : w.heap.size ≠ S.g := by omega
  clear hW2 hO gW2 hOA HR1 G1
  refine Calls.mono (s_next S m W2 (G2.out.src HS.out) hm0) ?_
  rintro e w2 ⟨r0, rfl, hr0, g2⟩
  obtain ⟨N, hN, hN1, hN2⟩ : ∃ N : Nat, 1 + r0 = (N : Int) ∧ 1 ≤ N ∧ N ≤ m := ⟨(1 + r0).toNat, by have := hr0.2 (by omega); omega, by have := hr0.2 (by omega); omega, by have := hr0.2 (by omega); omega⟩
  have HR3 := Lib.hid (HR2.out.drw g2 hgR)
  have HO3 := Lib.hid (HOA.out.drw g2 hgO)
  have G3 := Lib.hid (G2.out.trans g2)
  have hwN : IntKind.i64.wrap (1 + r0) = N := by rw [hN]; exact IntWalk.i64_in _ (by omega)
  have hwN' : wrap64 (1 + r0) = N := by rw [hN]; unfold wrap64; omega
  clear g2 hr0 HR2 HOA G2
  go_wp2_with (fail)
  go_loopw [7] (fun i wr => ∃ (k : Nat) (a : Option Addr) (cap : Nat) (qs : List Int), k ≤ N ∧ i = .int .i64 ((N - k : Nat) : Int) ∧ Hid (SpAt wr w.heap.size 0 (.slice none 0 0)) ∧ Hid (SpAt wr O p (.slice a k cap)) ∧ Hid (OwnC (O + 1) wr a k cap qs) ∧ Hid (isB p qs = true) ∧ Hid (Drw S w wr)) (fun i _ => (intOf i).toNat)
  case atStart => exact ⟨0, none, 0, [], Nat.zero_le _, by simp, HR3, HO3, Lib.hid (own_nil _ _), Lib.hid (by simp [isB]), G3⟩
  case round =>
    obtain ⟨k, a, cap, qs, hk, rfl, HR, HO, HQ, HB, HD⟩ := hrel
    clear HR3 HO3 G3
    by_cases hkn : k < N
    · obtain ⟨j, hj⟩ : ∃ j : Nat, N - k = j + 1 := ⟨N - k - 1, by omega⟩
      rw [hj]
      have hp3 : p - 1 ≤ 9223372036854775807 := by omega
      have hwp : wrap64 (p - 1) = p - 1 := by unfold wrap64; omega
      go_wp2_with (fail)
      refine Calls.mono (s_next S (p - 1) wr (HD.out.src HS.out) hp3) ?_
      rintro e w3 ⟨r1, rfl, hr1, g3⟩
      have hr1' := hr1.2 (by omega)
      have HR4 := Lib.hid (HR.out.drw g3 hgR)
      have HO4 := Lib.hid (HO.out.drw g3 hgO)
      have HQ4 := Lib.hid (g3.own HQ.out (by omega))
      have HD4 := Lib.hid (HD.out.trans g3)
      have hwr : wrap64 (1 + r1) = 1 + r1 := by unfold wrap64; omega
      clear g3 hr1 HR HO HQ HD
      go_wp2_with (fail)
      refine Calls.mono (s_pick S w3.heap.size 4 4 [1, p - 1, 1 + r1, 1] _ ((HD4.out.alloc _).src HS.out) (by decide) (by decide) (rdC_lit w3 _ [1, p - 1, 1 + r1, 1]) (by have := HD4.out.size; omega)) ?_
      rintro e w4 ⟨r2, rfl, hr2, g4⟩
      have hr2' : 0 ≤ r2 ∧ r2 < p := by
        simp only [List.mem_cons, List.not_mem_nil, or_false] at hr2
        omega
      have HR5 := Lib.hid ((HR4.out.ext (ext_alloc _ _)).drw g4 hgR)
      have HO5 := Lib.hid ((HO4.out.ext (ext_alloc _ _)).drw g4 hgO)
      have HQ5 := Lib.hid (g4.own (HQ4.out.ext (ext_alloc _ _)) (by omega))
      have HD5 := Lib.hid ((HD4.out.alloc _).trans g4)
      clear g4 hr2 HR4 HO4 HQ4 HD4
      go_wp2_with (fail)
      refine Calls.mono (s_next S 10 w4 (HD5.out.src HS.out) (by decide)) ?_
      rintro e w5 ⟨r3, rfl, hr3, g5⟩
      have HR6 := Lib.hid (HR5.out.drw g5 hgR)
      have HO6 := Lib.hid (HO5.out.drw g5 hgO)
      have HQ6 := Lib.hid (g5.own HQ5.out (by omega))
      have HD6 := Lib.hid (HD5.out.trans g5)
      have c1 := HO6.out.c1
      clear g5 hr3 HR5 HO5 HQ5 HD5
      have h0 : (0 : Int) ≤ 0 ∧ (0 : Int) < p := by omega
      by_cases hb : r3 = 0
      · have hbb : (r3 == 0) = true := by simp [hb]
        go_wp2_with (at_builtin; refine wpList_push rfl (.tmp 35) (.tmp 37) rfl rfl rfl (v := 0) (HQ6.out.ext (ext_alloc _ _)) ?hc ?hn ?hB ?hk)
        case hc => simp
        case hn => omega
        case hB => have := HO6.out.lt; simp; omega
        case hk =>
          intro g' cap' w6 ho6 hg6 he6
          have hbl : Below (O + 1) w5 w6 := (Below.refl _ _).trans (((Below.refl (O + 1) _).alloc (by have := HO6.out.lt; omega) _).grown hg6 (by have := HO6.out.lt; simp; omega) (fun k hk => HQ6.out.blk k hk))
          have HO7 := Lib.hid (HO6.out.below hbl (by omega))
          have HR7 := Lib.hid (HR6.out.below hbl (by omega))
          have HD7 := Lib.hid (HD6.out.below (hbl.mono (by omega)))
          have HQ7 := Lib.hid ho6
          have c1' := HO7.out.c1
          have f1' := HO7.out.f1
          clear hbl ho6 hg6 he6 c1
          go_wp2_with (fail)
          go_roundw
          case rel => exact ⟨k + 1, _, cap', _, by omega, by go_num, Lib.hid (HR7.out.other (by simp; omega) _), Lib.hid (HO7.out.set1 _), Lib.hid (HQ7.out.other (by simp) _), Lib.hid (by
              have h1 := HB.out
              unfold isB at h1 ⊢
              rw [List.all_append, h1]
              simp [inB]; omega), Lib.hid (HD7.out.setCell (by simp; omega) _)⟩
          case measure => simp [intOf]
      · have hbb : (r3 == 0) = false := by simp [hb]
        go_wp2_with (at_builtin; refine wpList_push rfl (.tmp 35) (.tmp 37) rfl rfl rfl (v := r2) (HQ6.out.ext (ext_alloc _ _)) ?hc ?hn ?hB ?hk)
        case hc => simp
        case hn => omega
        case hB => have := HO6.out.lt; simp; omega
        case hk =>
          intro g' cap' w6 ho6 hg6 he6
          have hbl : Below (O + 1) w5 w6 := (Below.refl _ _).trans (((Below.refl (O + 1) _).alloc (by have := HO6.out.lt; omega) _).grown hg6 (by have := HO6.out.lt; simp; omega) (fun k hk => HQ6.out.blk k hk))
          have HO7 := Lib.hid (HO6.out.below hbl (by omega))
          have HR7 := Lib.hid (HR6.out.below hbl (by omega))
          have HD7 := Lib.hid (HD6.out.below (hbl.mono (by omega)))
          have HQ7 := Lib.hid ho6
          have c1' := HO7.out.c1
          have f1' := HO7.out.f1
          clear hbl ho6 hg6 he6 c1
          go_wp2_with (fail)
          go_roundw
          case rel => exact ⟨k + 1, _, cap', _, by omega, by go_num, Lib.hid (HR7.out.other (by simp; omega) _), Lib.hid (HO7.out.set1 _), Lib.hid (HQ7.out.other (by simp) _), Lib.hid (by
              have h1 := HB.out
              unfold isB at h1 ⊢
              rw [List.all_append, h1]
              simp [inB]; omega), Lib.hid (HD7.out.setCell (by simp; omega) _)⟩
          case measure => simp [intOf]
    · have hk0 : N - k = 0 := by omega
      rw [hk0]
      obtain rfl : k = N := by omega
      have o0 := HO.out.c0
      have o1 := HO.out.c1
      have r0 := HR.out.c0
      have r1 := HR.out.c1
      have f0 := HR.out.f0
      have f1 := HR.out.f1
      go_wp2_with (fail)
      refine bodyPost_ret (v := .agg #[.int .i64 p, .slice a k cap]) (by simp [results, Tryz.results43, go_sem, r0, r1]) rfl ⟨p, a, k, cap, qs, rfl, hpr, hp1, hp2, hN1, hN2, HB.out, ?_, ?_⟩
      · exact ((HQ.out.other (by simp; omega) _).other (by simp; omega) _).mono (by omega)
      · exact (HD.out.setCell (by simp) _).setCell (by simp) _

set_option maxHeartbeats 1000000 in
theorem s_draw3 (S : SrcP) (w : World) (hS : Src S w) :
    Calls Tryz.prog 80 #[.pointer (some ⟨S.g, 0, none⟩)] w fun e w' => ∃ p a d cap qs, e = .returned (.agg #[.int .i64 p, .slice a d cap]) ∧ primeB p = true ∧ 3 ≤ p ∧ p ≤ 13 ∧ 1 ≤ d ∧ d ≤ 6 ∧ isB p qs = true ∧ OwnC w.heap.size w' a d cap qs ∧ Drw S w w' := by
  have HS := Lib.hid hS
  have hlt := hS.lt
  clear hS
  obtain ⟨W, hW⟩ : ∃ W, W = w.alloc (.cells #[.int .i64 0, .slice none 0 0] 26) := ⟨_, rfl⟩
  have gW : Ext w W := by rw [hW]; exact ext_alloc _ _
  have HZ := Lib.hid (show W.heap.size = w.heap.size + 1 by rw [hW]; simp)
  have HR := Lib.hid (show SpAt W w.heap.size 0 (.slice none 0 0) by rw [hW]; exact ⟨by simp, by simp, by simp, by simp⟩)
  have HW := Lib.hid hW
  have GW := Lib.hid (Drw.of_ext (S := S) gW)
  have hgR : w.heap.size ≠ S.g := by omega
  clear gW hW
  go_enter Tryz.func80, Tryz.ntmps80
  go_wp2_with (fail)
  rw [← HW.out]
  refine Calls.mono (s_pick S (w.heap.size + 1) 5 5 [2, 3, 3, 4, 6] _ ((GW.out.alloc _).src HS.out) (by decide) (by decide) (by rw [← HZ.out]; exact rdC_lit W _ [2, 3, 3, 4, 6]) (by omega)) ?_
  rintro e w2 ⟨r, rfl, hr, g2⟩
  obtain ⟨m, rfl, hm1, hm2⟩ : ∃ m : Nat, r = (m : Int) ∧ 1 ≤ m ∧ m ≤ 6 := by
    refine ⟨r.toNat, ?_⟩
    simp only [List.mem_cons, List.not_mem_nil, or_false] at hr
    omega
  have HR2 := Lib.hid ((HR.out.ext (ext_alloc _ _)).drw g2 hgR)
  have G2 := Lib.hid ((GW.out.alloc _).trans g2)
  clear g2 hr HR
  go_wp2_with (fail)
  refine Calls.mono (s_any S m w2 (G2.out.src HS.out) hm1 hm2) ?_
  rintro e w3 ⟨p, a, d, cap, qs, rfl, hpr, hp1, hp2, hd1, hd2, hqb, ho, g3⟩
  have r0 := (HR2.out.drw g3 hgR).c0
  have r1 := (HR2.out.drw g3 hgR).c1
  have f0 := (HR2.out.drw g3 hgR).f0
  have f1 := (HR2.out.drw g3 hgR).f1
  have hlw := HR2.out.lt
  have HO := Lib.hid ho
  have G3 := Lib.hid (G2.out.trans g3)
  clear ho g3
  go_wp2_with (fail)
  refine bodyPost_ret (v := .agg #[.int .i64 p, .slice a d cap]) (by simp [results, Tryz.results80, go_sem, r0, r1]) rfl ⟨p, a, d, cap, qs, rfl, hpr, hp1, hp2, hd1, by omega, hqb, ?_, ?_⟩
  · exact ((HO.out.other (by simp; omega) _).other (by simp; omega) _).mono (by omega)
  · exact (G3.out.setCell (by simp) _).setCell (by simp) _

namespace Chg
/-- A written row that is not the source. -/
def SPred.lit (S : SrcP) (n : Nat) (xs : List Int) : SPred (Drw.rel S) :=
  ⟨fun v w => ∃ b, v = .slice (some ⟨b, 0, none⟩) n n ∧ RdC w (some ⟨b, 0, none⟩) n xs ∧ b ≠ S.g, fun _ _ _ ⟨b, h1, h2, h3⟩ he => ⟨b, h1, ⟨h2.1, fun i hi => by
    obtain ⟨b', o, hb, hc⟩ := h2.2 i hi
    simp only [Option.some.injEq, Addr.mk.injEq] at hb
    obtain ⟨rfl, rfl, _⟩ := hb
    exact ⟨b, 0, rfl, Drw.cell he h3 hc⟩⟩, h3⟩⟩
/-- Some number. -/
def SPred.some_ (S : SrcP) : SPred (Drw.rel S) := ⟨fun v _ => ∃ r, v = .int .i64 r, fun _ _ _ h _ => h⟩
/-- A number from 0 on below another one. -/
def SPred.lt (S : SrcP) (n : Int) : SPred (Drw.rel S) := ⟨fun v _ => ∃ r, v = .int .i64 r ∧ 0 ≤ r ∧ r < n, fun _ _ _ h _ => h⟩
end Chg

set_option maxHeartbeats 4000000 in
theorem s_spoil3 (S : SrcP) (w : World) (hS : Src S w) :
    Calls Tryz.prog 45 #[.pointer (some ⟨S.g, 0, none⟩)] w fun e w' => ∃ p a d cap qs, e = .returned (.agg #[.int .i64 p, .slice a d cap]) ∧ 0 ≤ p ∧ p ≤ 17 ∧ d ≤ 7 ∧ OwnC w.heap.size w' a d cap qs ∧ Drw S w w' := by
  have HS := Lib.hid hS
  have hlt := hS.lt
  clear hS
  obtain ⟨W, hW⟩ : ∃ W, W = w.alloc (.cells #[.int .i64 0, .slice none 0 0] 26) := ⟨_, rfl⟩
  have gW : Ext w W := by rw [hW]; exact ext_alloc _ _
  have HZ := Lib.hid (show W.heap.size = w.heap.size + 1 by rw [hW]; simp)
  have HR := Lib.hid (show SpAt W w.heap.size 0 (.slice none 0 0) by rw [hW]; exact ⟨by simp, by simp, by simp, by simp⟩)
  have HW := Lib.hid hW
  have GW := Lib.hid (Drw.of_ext (S := S) gW)
  have hgR : w.heap.size ≠ S.g := by omega
  clear gW hW
  go_enter Tryz.func45, Tryz.ntmps45
  go_wp2_with (fail)
  rw [← HW.out]
  refine Calls.mono (s_draw3 S W (GW.out.src HS.out)) ?_
  rintro e w1 ⟨p, a, d, cap, qs, rfl, hpr, hp1, hp2, hd1, hd2, hqb, ho, g1⟩
  obtain ⟨W2, hW2⟩ : ∃ W2, W2 = w1.alloc (.cells #[.int .i64 p, .slice a d cap] 26) := ⟨_, rfl⟩
  obtain ⟨O, hO⟩ : ∃ O, O = w1.heap.size := ⟨_, rfl⟩
  have gW2 : Ext w1 W2 := by rw [hW2]; exact ext_alloc _ _
  have hOA : SpAt W2 O p (.slice a d cap) := by rw [hW2, hO]; exact ⟨by simp, by simp, by simp, by simp⟩
  have HR1 := Lib.hid ((HR.out.drw g1 hgR).ext gW2)
  have hoB : OwnC (w.heap.size + 1) w1 a d cap qs := by rw [← HZ.out]; exact ho
  have HQ1 := Lib.hid (hoB.ext gW2)
  have G1 := Lib.hid ((GW.out.trans g1).ext gW2)
  have hOw : w.heap.size < O := by rw [hO]; exact (HR.out.drw g1 hgR).lt
  have hOQ : ∀ g, a = some ⟨g, 0, none⟩ → w.heap.size + 1 ≤ g ∧ g < O := fun g hg => by have := ho.base_of g hg; have := HZ.out; omega
  have hgO : O ≠ S.g := by omega
  go_wp2_with (fail)
  rw [← hW2, ← hO]
  have HOA := Lib.hid hOA
  clear hO gW2 ho hoB g1 hW2 hOA HR
  refine Calls.mono (s_next S 40 W2 (G1.out.src HS.out) (by decide)) ?_
  rintro e w2 ⟨r, rfl, hr, g2⟩
  have HR2 := Lib.hid (HR1.out.drw g2 hgR)
  have HO2 := Lib.hid (HOA.out.drw g2 hgO)
  have HQ2 := Lib.hid (g2.own HQ1.out (by omega))
  have G2 := Lib.hid (G1.out.trans g2)
  clear g2 HR1 HOA HQ1 G1 hr
  by_cases h0 : r = 0
  · subst h0
    go_wp2_with (fail)
    refine Calls.mono (s_pick S w2.heap.size 4 4 [4, 1, 17, 0] _ ((G2.out.alloc _).src HS.out) (by decide) (by decide) (rdC_lit w2 _ [4, 1, 17, 0]) (by have := HO2.out.lt; omega)) ?_
    rintro e w3 ⟨q, rfl, hq, g3⟩
    have hq' : 0 ≤ q ∧ q ≤ 17 := by
      simp only [List.mem_cons, List.not_mem_nil, or_false] at hq
      omega
    have HR3 := Lib.hid ((HR2.out.ext (ext_alloc _ _)).drw g3 hgR)
    have HO3 := Lib.hid ((HO2.out.ext (ext_alloc _ _)).drw g3 hgO)
    have HQ3 := Lib.hid (g3.own (HQ2.out.ext (ext_alloc _ _)) (by omega))
    have G3 := Lib.hid ((G2.out.alloc _).trans g3)
    clear g3 HR2 HO2 HQ2 G2 hq
    have o0 := HO3.out.c0
    have o1 := HO3.out.c1
    have of0 := HO3.out.f0
    have of1 := HO3.out.f1
    have r0 := HR3.out.c0
    have r1 := HR3.out.c1
    have f0 := HR3.out.f0
    have f1 := HR3.out.f1
    go_wp2_with (fail)
    refine bodyPost_ret (v := .agg #[.int .i64 q, .slice a d cap]) (by simp [results, Tryz.results45, go_sem, r0, r1]) rfl ⟨q, a, d, cap, qs, rfl, hq'.1, hq'.2, by omega, ?_, ?_⟩
    · exact (((HQ3.out.keep (fun g hg => Below.heap_setCell _ _ _ _ (by have := hOQ g hg; simp; omega))).other (by simp) _).other (by simp) _).mono (by omega)
    · exact ((G3.out.setCell (by simp; omega) _).setCell (by simp) _).setCell (by simp) _
  by_cases h1 : r = 1
  · subst h1
    obtain ⟨g, rfl⟩ : ∃ g, a = some ⟨g, 0, none⟩ := by
      obtain ⟨g, _, hg, _⟩ := HQ2.out.row (by omega)
      exact ⟨g, hg⟩
    have hgq := hOQ g rfl
    have hdp : 0 < d := by omega
    have HO3 := Lib.hid (HO2.out.ext (ext_drew _))
    have HS2 := Lib.hid (G2.out.drew.src HS.out)
    have hqc := HQ2.out.cell (j := 0) (by omega)
    have HC := Lib.hid ((ext_drew w2).cell hqc)
    clear hqc
    go_wp2_with (fail)
    refine Chg.wp_region_lex_tail (E := Drw.rel S) 8 [(5, .lit S 2 [-1, p]), (6, .some_ S)] (by kernel_rfl) (by kernel_rfl) ?_
    simp only [List.take, List.drop]
    (refine Chg.LexW.pure (v := ?_) rfl rfl (fun w1 he => ?_) ?_; rotate_left; ( have he' : Drw S w2.drew _ := he; have x0 := he'.cell (p := ⟨O, 0, none⟩) hgO HO3.out.c0; have x1 := he'.cell (p := ⟨O, 1, none⟩) hgO HO3.out.c1; have x2 := he'.cell (p := ⟨g, 0, none⟩) (by show g ≠ S.g; omega) HC.out; go_simp; rfl); simp only [Act.put, List.setIfInBounds_toArray, List.set_cons_zero, List.set_cons_succ])
    (refine Chg.LexW.pure (v := ?_) rfl rfl (fun w1 he => ?_) ?_; rotate_left; ( have he' : Drw S w2.drew _ := he; have x0 := he'.cell (p := ⟨O, 0, none⟩) hgO HO3.out.c0; have x1 := he'.cell (p := ⟨O, 1, none⟩) hgO HO3.out.c1; have x2 := he'.cell (p := ⟨g, 0, none⟩) (by show g ≠ S.g; omega) HC.out; go_simp; rfl); simp only [Act.put, List.setIfInBounds_toArray, List.set_cons_zero, List.set_cons_succ])
    (refine Chg.LexW.pure (v := ?_) rfl rfl (fun w1 he => ?_) ?_; rotate_left; ( have he' : Drw S w2.drew _ := he; have x0 := he'.cell (p := ⟨O, 0, none⟩) hgO HO3.out.c0; have x1 := he'.cell (p := ⟨O, 1, none⟩) hgO HO3.out.c1; have x2 := he'.cell (p := ⟨g, 0, none⟩) (by show g ≠ S.g; omega) HC.out; go_simp; rfl); simp only [Act.put, List.setIfInBounds_toArray, List.set_cons_zero, List.set_cons_succ])
    (refine Chg.LexW.pure (v := ?_) rfl rfl (fun w1 he => ?_) ?_; rotate_left; ( have he' : Drw S w2.drew _ := he; have x0 := he'.cell (p := ⟨O, 0, none⟩) hgO HO3.out.c0; have x1 := he'.cell (p := ⟨O, 1, none⟩) hgO HO3.out.c1; have x2 := he'.cell (p := ⟨g, 0, none⟩) (by show g ≠ S.g; omega) HC.out; go_simp; rfl); simp only [Act.put, List.setIfInBounds_toArray, List.set_cons_zero, List.set_cons_succ])
    (refine Chg.LexW.pure (v := ?_) rfl rfl (fun w1 he => ?_) ?_; rotate_left; ( have he' : Drw S w2.drew _ := he; have x0 := he'.cell (p := ⟨O, 0, none⟩) hgO HO3.out.c0; have x1 := he'.cell (p := ⟨O, 1, none⟩) hgO HO3.out.c1; have x2 := he'.cell (p := ⟨g, 0, none⟩) (by show g ≠ S.g; omega) HC.out; go_simp; rfl); simp only [Act.put, List.setIfInBounds_toArray, List.set_cons_zero, List.set_cons_succ])
    (refine Chg.LexW.rel rfl rfl (fun w1 he hdep => ?_) (fun v hv => ?_); ( have he' : Drw S w2.drew _ := he; exact ⟨.slice (some ⟨w1.heap.size, 0, none⟩) 2 2, w1.alloc (.cells #[.int .i64 (-1), .int .i64 p] 2), (by go_simp), Drw.of_ext (ext_alloc _ _), _, rfl, rdC_lit w1 _ [-1, p], (by have := he'.size; have := HS2.out.lt; omega)⟩); simp only [Act.put, List.setIfInBounds_toArray, List.set_cons_zero, List.set_cons_succ])
    obtain ⟨_, b5, rfl, _⟩ := hv
    (refine Chg.LexW.callR (f := ?_) (args := ?_) rfl rfl (fun w1 => ?_) (fun w1 he hdep => ?_) (fun v hv => ?_); rotate_left 2; (go_simp; refine ⟨?_, ?_⟩ <;> rfl); ( have he' : Drw S w2.drew _ := he; obtain ⟨_, q5, r5, r5'⟩ : (Chg.SPred.lit S 2 [-1, p]).holds (.slice (some ⟨b5, 0, none⟩) 2 2) w1 := hdep (5, 21) (by decide +kernel); cases q5; refine Calls.mono (s_pick S b5 2 2 [-1, p] w1 (he'.src HS2.out) (by decide) (by decide) r5 r5') ?_; rintro e w3 ⟨q, rfl, _, x3⟩; exact ⟨_, rfl, x3, q, rfl⟩); simp only [Act.put, List.setIfInBounds_toArray, List.set_cons_zero, List.set_cons_succ])
    obtain ⟨_, q, rfl⟩ := hv
    (refine Chg.LexW.pure (v := ?_) rfl rfl (fun w1 he => ?_) ?_; rotate_left; ( have he' : Drw S w2.drew _ := he; have x0 := he'.cell (p := ⟨O, 0, none⟩) hgO HO3.out.c0; have x1 := he'.cell (p := ⟨O, 1, none⟩) hgO HO3.out.c1; have x2 := he'.cell (p := ⟨g, 0, none⟩) (by show g ≠ S.g; omega) HC.out; go_simp; rfl); simp only [Act.put, List.setIfInBounds_toArray, List.set_cons_zero, List.set_cons_succ])
    refine Chg.LexW.nil (fun w3 he hkn => ?_)
    have he' : Drw S w2.drew w3 := he
    have HR3 := Lib.hid ((HR2.out.ext (ext_drew _)).drw he' hgR)
    have HO4 := Lib.hid (HO3.out.drw he' hgO)
    have HQ3 := Lib.hid (he'.own (HQ2.out.ext (ext_drew _)) (by omega))
    have G3 := Lib.hid (G2.out.drew.trans he')
    have hq0 := HQ3.out.cell (j := 0) (by omega)
    have hqf := HQ3.out.frozen 0
    have o0 := HO4.out.c0
    have o1 := HO4.out.c1
    have of0 := HO4.out.f0
    have of1 := HO4.out.f1
    have r0 := HR3.out.c0
    have r1 := HR3.out.c1
    have f0 := HR3.out.f0
    have f1 := HR3.out.f1
    clear he he' hkn
    go_wp2_with (fail)
    refine bodyPost_ret (v := .agg #[.int .i64 p, .slice (some ⟨g, 0, none⟩) d cap]) (by simp [results, Tryz.results45, go_sem, r0, r1]) rfl ⟨p, some ⟨g, 0, none⟩, d, cap, qs.set 0 q, rfl, by omega, by omega, by omega, ?_, ?_⟩
    · exact (((HQ3.out.store (j := 0) (by omega) q).other (by simp) _).other (by simp) _).mono (by omega)
    · exact ((G3.out.setCell (by simp; omega) _).setCell (by simp) _).setCell (by simp) _
  by_cases h2 : r = 2
  · subst h2
    have lO := HO2.out.lt
    have lR := HR2.out.lt
    have o0 := HO2.out.c0
    have o1 := HO2.out.c1
    have of0 := HO2.out.f0
    have of1 := HO2.out.f1
    have r0 := HR2.out.c0
    have r1 := HR2.out.c1
    have f0 := HR2.out.f0
    have f1 := HR2.out.f1
    go_wp2_with (fail)
    have HF := (((HR2.out.other (q := ⟨O, 1, none⟩) (by simp; omega) (.slice (some ⟨w2.heap.size, 0, none⟩) 0 0)).set0 p).set1 (.slice (some ⟨w2.heap.size, 0, none⟩) 0 0)).ext (ext_alloc _ (.cells #[] 2))
    have r0' := HF.c0
    have r1' := HF.c1
    refine bodyPost_ret (v := .agg #[.int .i64 p, .slice (some ⟨w2.heap.size, 0, none⟩) 0 0]) (by simp [results, Tryz.results45, go_sem, r0', r1']) rfl ⟨p, _, 0, 0, [], rfl, by omega, by omega, by omega, ?_, ?_⟩
    · have h := own_empty (((w2.setCell ⟨O, 1, none⟩ (.slice (some ⟨w2.heap.size, 0, none⟩) 0 0)).setCell ⟨w.heap.size, 0, none⟩ (.int .i64 p)).setCell ⟨w.heap.size, 1, none⟩ (.slice (some ⟨w2.heap.size, 0, none⟩) 0 0))
      simp only [World.size_setCell] at h
      exact h.mono (by omega)
    · exact (((G2.out.setCell (by simp; omega) _).setCell (by simp) _).setCell (by simp) _).alloc _
  by_cases h3 : r = 3
  · subst h3
    have HW2 := Lib.hid HW
    go_wp2_with (fail)
    go_loopw [] (fun wr => ∃ (a' : Option Addr) (k cap' : Nat) (xs : List Int), k ≤ 7 ∧ 1 ≤ k ∧ Hid (SpAt wr w.heap.size 0 (.slice none 0 0)) ∧ Hid (SpAt wr O p (.slice a' k cap')) ∧ Hid (∀ g, a' = some ⟨g, 0, none⟩ → g ≠ O) ∧ Hid (OwnC (w.heap.size + 1) wr a' k cap' xs) ∧ Hid (Drw S w wr)) (fun wr => 7 - lenAt wr O)
    case atStart => exact ⟨a, d, cap, qs, by omega, hd1, HR2, HO2, Lib.hid (fun g hg => by have := hOQ g hg; omega), HQ2, G2⟩
    case round =>
      obtain ⟨a', k, cap', xs, hk, hk1, HR, HO, HN, HQ, HD⟩ := hrel
      clear HR2 HO2 HQ2 G2
      have o0 := HO.out.c0
      have o1 := HO.out.c1
      have of0 := HO.out.f0
      have of1 := HO.out.f1
      have hla := lenAt_of HO.out
      have hlO := HO.out.lt
      by_cases hlt7 : k < 7
      · go_wp2_with (at_builtin; refine wpList_push rfl (.tmp 35) (.tmp 36) rfl rfl rfl (v := 1) (HQ.out.ext (ext_alloc _ _)) ?hc ?hn ?hB ?hk)
        case hc => simp
        case hn => omega
        case hB => have := HR.out.lt; simp; omega
        case hk =>
          intro g' cap2 w6 ho6 hg6 he6
          have hb6 : w6.heap[O]? = wr.heap[O]? := by
            have h1 := hg6.block O (by simp; omega) (fun e => by
              rcases HQ.out.2.2 with ⟨h3, _⟩ | ⟨g, c, cur, hv, _⟩
              · rw [h3] at e; simp [Value.ownBlock] at e
              · simp only [Value.slice.injEq] at hv
                rw [hv.1] at e
                simp only [Value.ownBlock, Option.some.injEq] at e
                exact HN.out g hv.1 e.symm)
            rw [h1]; exact Below.heap_alloc _ _ _ hlO
          have hbl : Below (w.heap.size + 1) wr w6 := (Below.refl _ _).trans (((Below.refl (w.heap.size + 1) _).alloc (by omega) _).grown hg6 (by simp; omega) (fun k hk => HQ.out.blk k hk))
          have HO7 := Lib.hid (HO.out.block hb6)
          have HR7 := Lib.hid (HR.out.below hbl (by omega))
          have HD7 := Lib.hid (HD.out.below (hbl.mono (by omega)))
          have HQ7 := Lib.hid ho6
          have HN7 := Lib.hid (show ∀ g, (some ⟨g', 0, none⟩ : Option Addr) = some ⟨g, 0, none⟩ → g ≠ O from fun g hg h => by
            simp only [Option.some.injEq, Addr.mk.injEq, and_self, and_true] at hg
            have h1 := HQ7.out.cell (j := 1) (by omega)
            have h2 := HO7.out.c1
            rw [hg, h, h2] at h1
            cases h1)
          have c1' := HO7.out.c1
          have f1' := HO7.out.f1
          clear hbl ho6 hg6 he6 o0 o1 of0 of1 hb6
          go_wp2_with (fail)
          go_roundw
          case rel => exact ⟨_, k + 1, cap2, _, by omega, by omega, Lib.hid (HR7.out.other (by simp; omega) _), Lib.hid (HO7.out.set1 _), HN7, Lib.hid (HQ7.out.keep (fun g hg => Below.heap_setCell _ _ _ _ (HN7.out g hg))), Lib.hid (HD7.out.setCell (by simp; omega) _)⟩
          case measure =>
            rw [hla, lenAt_of (HO7.out.set1 _)]
            omega
      · have r0 := HR.out.c0
        have r1 := HR.out.c1
        have f0 := HR.out.f0
        have f1 := HR.out.f1
        go_wp2_with (fail)
        refine bodyPost_ret (v := .agg #[.int .i64 p, .slice a' k cap']) (by simp [results, Tryz.results45, go_sem, r0, r1]) rfl ⟨p, a', k, cap', xs, rfl, by omega, by omega, by omega, ?_, ?_⟩
        · exact ((HQ.out.other (by simp) _).other (by simp) _).mono (by omega)
        · exact (HD.out.setCell (by simp) _).setCell (by simp) _
  · have b0 : (r == 0) = false := by simp [h0]
    have b1 : (r == 1) = false := by simp [h1]
    have b2 : (r == 2) = false := by simp [h2]
    have b3 : (r == 3) = false := by simp [h3]
    have o0 := HO2.out.c0
    have o1 := HO2.out.c1
    have of0 := HO2.out.f0
    have of1 := HO2.out.f1
    have r0 := HR2.out.c0
    have r1 := HR2.out.c1
    have f0 := HR2.out.f0
    have f1 := HR2.out.f1
    go_wp2_with (fail)
    refine bodyPost_ret (v := .agg #[.int .i64 p, .slice a d cap]) (by simp [results, Tryz.results45, go_sem, r0, r1]) rfl ⟨p, a, d, cap, qs, rfl, by omega, by omega, by omega, ?_, ?_⟩
    · exact ((HQ2.out.other (by simp) _).other (by simp) _).mono (by omega)
    · exact (G2.out.setCell (by simp) _).setCell (by simp) _
end Go.Proofs.YtcocbainookkcaaGreat

/-
  Conformal functions: extension, point vectors.
  No condition.
-/
namespace Go.Proofs.YtcocbainookkcaaGreat
set_option maxRecDepth 100000
open Go.RowKit

theorem code18_one0 {p : Int} {qs v : List Int} (hs : spaceB p qs = true) (h4 : qs.length ≤ 4) (hv : Good p qs.length v) : code18 p qs [v] = 0 := by
  unfold code18; rw [if_pos hs, if_pos h4]; simp [good_vecB hv]
theorem code18_two0 {p : Int} {qs v u : List Int} (hs : spaceB p qs = true) (h4 : qs.length ≤ 4) (hv : Good p qs.length v) (hu : Good p qs.length u) : code18 p qs [v, u] = 0 := by
  unfold code18; rw [if_pos hs, if_pos h4]; simp [good_vecB hv, good_vecB hu]
theorem code18_nil0 {p : Int} {qs : List Int} (hs : spaceB p qs = true) (h4 : qs.length ≤ 4) : code18 p qs [] = 0 := by
  unfold code18; rw [if_pos hs, if_pos h4]; simp

set_option maxHeartbeats 2000000 in
theorem c_ExtendSpace_ok (p : Int) (a : Option Addr) (d cap : Nat) (qs : List Int) (w : World) (hs : spaceB p qs = true) (h4 : qs.length ≤ 4) (hq : RdC w a d qs) :
    Calls Tryz.prog 11 #[.agg #[.int .i64 p, .slice a d cap]] w fun e w' => ∃ g rc, e = .returned (.tuple #[.agg #[.int .i64 p, .slice (some ⟨g, 0, none⟩) (d + 2) rc], .int .i64 0]) ∧ OwnC w.heap.size w' (some ⟨g, 0, none⟩) (d + 2) rc (extL p qs) ∧ Ext w w' := by
  obtain ⟨hpr, hd1, _, hqb⟩ := space_of hs
  have hpb := prime_bd hpr
  have HC := Lib.hid (code18_nil0 hs h4)
  have hql := hq.1
  rw [hql] at hd1 h4
  obtain ⟨W, hW⟩ : ∃ W, W = (w.alloc (.cells #[.int .i64 p, .slice a d cap] 26)).alloc (.cells #[.int .i64 0, .slice none 0 0] 26) := ⟨_, rfl⟩
  have E : Hid (Ext w W) := Lib.hid (by rw [hW]; exact (ext_alloc _ _).alloc _)
  have C0 : Hid (W.cell? ⟨w.heap.size, 0, none⟩ = some (.int .i64 p)) := Lib.hid (by rw [hW]; simp)
  have C1 : Hid (W.cell? ⟨w.heap.size, 1, none⟩ = some (.slice a d cap)) := Lib.hid (by rw [hW]; simp)
  have HR := Lib.hid (show SpAt W (w.heap.size + 1) 0 (.slice none 0 0) by rw [hW]; exact ⟨by simp, by simp, by simp, by simp⟩)
  have HZ : Hid (W.heap.size = w.heap.size + 2) := Lib.hid (by rw [hW]; simp)
  have HW := Lib.hid hW
  have HQ := Lib.hid (hq.ext E.out)
  have hcb : ((0 : Int) != 0) = false := by simp
  clear hW hq hs hpr hqb hql
  go_enter Tryz.func11, Tryz.ntmps11
  go_wp2_with (fail)
  rw [← HW.out]
  refine Calls.mono (c_checkPlaces p a d cap qs none 0 0 [] W (by omega) (by omega) (fun _ hi => absurd hi (Nat.not_lt_zero _)) HQ.out ⟨rfl, fun _ hi => absurd hi (Nat.not_lt_zero _)⟩) ?_
  rintro e w1 ⟨rfl, g1⟩
  rw [HC.out]
  have E1 := Lib.hid (E.out.trans g1)
  have HQ1 := Lib.hid (HQ.out.ext g1)
  have hc0 := g1.cell C0.out
  have hc1 := g1.cell C1.out
  have G1 := Lib.hid g1
  clear g1 HW
  go_wp2_with (fail)
  clear hc0 hc1
  refine Calls.mono (c_extended p a d cap qs w1 (by omega) (by omega) (by omega) (by omega) HQ1.out) ?_
  rintro e w2 ⟨g, rc, rfl, ho, g2⟩
  have hR := HR.out.ext (G1.out.trans g2)
  have r0 := hR.c0
  have r1 := hR.c1
  have f0 := hR.f0
  have f1 := hR.f1
  have HO := Lib.hid (ho.mono (show w.heap.size + 2 ≤ _ by have := G1.out.size; have := HZ.out; omega))
  have E2 := Lib.hid (E1.out.trans g2)
  clear ho g2 hR
  go_wp2_with (fail)
  refine bodyPost_ret (v := .tuple #[.agg #[.int .i64 p, .slice (some ⟨g, 0, none⟩) (d + 2) rc], .int .i64 0]) (by simp [results, Tryz.results11, go_sem, r0, r1]) rfl ⟨g, rc, rfl, ?_, ?_⟩
  · exact ((HO.out.other (by simp) _).other (by simp) _).mono (by omega)
  · exact (E2.out.setCell (by simp) _).setCell (by simp) _

set_option maxHeartbeats 4000000 in
set_option maxRecDepth 100000 in
theorem c_PointVector_ok (p : Int) (a : Option Addr) (d cap : Nat) (qs : List Int) (av : Option Addr) (cv : Nat) (v : List Int) (w : World) (hs : spaceB p qs = true) (h4 : qs.length ≤ 4) (hq : RdC w a d qs) (hv : RdC w av d v) (hg : Good p d v) :
    Calls Tryz.prog 12 #[.agg #[.int .i64 p, .slice a d cap], .slice av d cv] w fun e w' => ∃ g rc, e = .returned (.tuple #[.slice (some ⟨g, 0, none⟩) (d + 2) rc, .int .i64 0]) ∧ OwnC w.heap.size w' (some ⟨g, 0, none⟩) (d + 2) rc (pointL p qs v) ∧ Ext w w' := by
  have HC := Lib.hid (code18_one0 hs h4 (by rw [hq.1]; exact hg))
  obtain ⟨hpr, hd1, _, hqb⟩ := space_of hs
  have hpb := prime_bd hpr
  have HPR := Lib.hid hpr
  have HQB := Lib.hid hqb
  have hql := hq.1
  rw [hql] at hd1 h4
  clear hpr hqb
  have hcb : ((0 : Int) != 0) = false := by simp
  clear hql hs
  obtain ⟨W, hW⟩ : ∃ W, W = w.alloc (.cells #[.int .i64 p, .slice a d cap] 26) := ⟨_, rfl⟩
  have E : Hid (Ext w W) := Lib.hid (by rw [hW]; exact ext_alloc _ _)
  have C0 : Hid (W.cell? ⟨w.heap.size, 0, none⟩ = some (.int .i64 p)) := Lib.hid (by rw [hW]; simp)
  have C1 : Hid (W.cell? ⟨w.heap.size, 1, none⟩ = some (.slice a d cap)) := Lib.hid (by rw [hW]; simp)
  have HZ : Hid (W.heap.size = w.heap.size + 1) := Lib.hid (by rw [hW]; simp)
  have HW := Lib.hid hW
  clear hW
  have HQ := Lib.hid (hq.ext E.out)
  have HV := Lib.hid (hv.ext E.out)
  clear hq hv
  go_enter Tryz.func12, Tryz.ntmps12
  have x00 := C0.out
  have x01 := C1.out
  go_wp2_with (fail)
  clear x00 x01
  rw [← HW.out]
  clear HW
  refine Calls.mono (c_checkPlaces p a d cap qs _ 1 _ [v] _ (by omega) (by omega) (len_one (by rw [HV.out.1]; omega)) (HQ.out.ext (ext_alloc _ _)) (rdR_one (a := av) (n := d) (cap := cv) (by rw [← HZ.out]; simp) (HV.out.ext (ext_alloc _ _)))) ?_
  rintro e v1 ⟨rfl, gg⟩
  replace gg := (ext_alloc _ _).trans gg
  rw [HC.out]
  replace E := Lib.hid (E.out.trans gg)
  replace HQ := Lib.hid (HQ.out.ext gg)
  replace HV := Lib.hid (HV.out.ext gg)
  replace C0 := Lib.hid (gg.cell (p := ⟨w.heap.size, 0, none⟩) C0.out)
  replace C1 := Lib.hid (gg.cell (p := ⟨w.heap.size, 1, none⟩) C1.out)
  clear gg
  have x00 := C0.out
  have x01 := C1.out
  go_wp2_with (fail)
  clear x00 x01
  refine Calls.mono (c_point p a d cap qs av cv v v1 (by omega) h4 HPR.out HQ.out HQB.out HV.out hg) ?_
  rintro e v2 ⟨g, rc, rfl, ho, gg⟩
  have R := Lib.hid (ho.mono E.out.size)
  clear ho
  replace E := Lib.hid (E.out.trans gg)
  replace HQ := Lib.hid (HQ.out.ext gg)
  replace HV := Lib.hid (HV.out.ext gg)
  replace C0 := Lib.hid (gg.cell (p := ⟨w.heap.size, 0, none⟩) C0.out)
  replace C1 := Lib.hid (gg.cell (p := ⟨w.heap.size, 1, none⟩) C1.out)
  clear gg
  go_wp2_with (fail)
  go_ret2
  exact ⟨g, rc, rfl, R.out, E.out⟩

/-- A number list and the code 0. -/
def SPred.tupI (B n : Nat) (xs : List Int) : SPred :=
  ⟨fun v w => ∃ g rc, v = .tuple #[.slice (some ⟨g, 0, none⟩) n rc, .int .i64 0] ∧ OwnC B w (some ⟨g, 0, none⟩) n rc xs, fun _ _ _ ⟨g, rc, h1, h2⟩ he => ⟨g, rc, h1, h2.ext he⟩⟩



end Go.Proofs.YtcocbainookkcaaGreat

/-
  The wedge product, contractions, reverses and duals in plain numbers.
  No condition. No program in sight.
-/
namespace Go.Proofs.YtcocbainookkcaaGreat
set_option maxRecDepth 100000
open Go.RowKit

/-! ### Products of parts are associative where their conditions agree -/
/-- The coefficient of a product of parts. -/
def tkI (tk : Nat → Nat → Bool) (a b : Nat) : Int := if tk a b = true then 1 else 0
theorem prodT_nth {p : Int} {qs x y : List Int} {tk : Nat → Nat → Bool} (hp : 1 ≤ p) {k : Nat} (hk : k < 2 ^ qs.length) :
    nth (prodL p qs tk x y) k = (sumN (2 ^ qs.length) fun i => tkI tk i (i ^^^ k) * (nth x i * nth y (i ^^^ k) * facZ qs i (i ^^^ k) qs.length)) % p := by
  rw [prod_nth1 hp hk]
  refine sumN_emod fun i hi => ?_
  unfold tkI
  split
  · rw [Int.one_mul]; exact mul_emod_congr rfl fac_emod
  · rw [Int.zero_mul]
/-- (x 1 y) 2 z = x 3 (y 4 z) -/
theorem prodT_assoc {p : Int} {qs x y z : List Int} {t1 t2 t3 t4 : Nat → Nat → Bool} (hp : 1 ≤ p) (hd : qs.length ≤ 6)
    (ht : ∀ a, a < 2 ^ qs.length → ∀ b, b < 2 ^ qs.length → ∀ c, c < 2 ^ qs.length → (t1 a b && t2 (a ^^^ b) c) = (t4 b c && t3 a (b ^^^ c))) :
    prodL p qs t2 (prodL p qs t1 x y) z = prodL p qs t3 x (prodL p qs t4 y z) := by
  have hN := pow_le64 hd
  have hT : ∀ a, a < 2 ^ qs.length → ∀ b, b < 2 ^ qs.length → ∀ c, c < 2 ^ qs.length → tkI t1 a b * tkI t2 (a ^^^ b) c = tkI t4 b c * tkI t3 a (b ^^^ c) := fun a ha b hb c hc => by
    have := ht a ha b hb c hc
    unfold tkI
    cases h1 : t1 a b <;> cases h2 : t2 (a ^^^ b) c <;> cases h3 : t4 b c <;> cases h4 : t3 a (b ^^^ c) <;> simp_all
  refine ext_nth (by rw [(prod_good hp).1, (prod_good hp).1]) fun k hk => ?_
  rw [(prod_good hp).1] at hk
  rw [prodT_nth hp hk, prodT_nth hp hk]
  have e1 : ∀ m, m < 2 ^ qs.length → (tkI t2 m (m ^^^ k) * (nth (prodL p qs t1 x y) m * nth z (m ^^^ k) * facZ qs m (m ^^^ k) qs.length)) % p =
      (sumN (2 ^ qs.length) fun a => tkI t1 a (a ^^^ m) * (nth x a * nth y (a ^^^ m) * facZ qs a (a ^^^ m) qs.length) * (tkI t2 m (m ^^^ k) * (nth z (m ^^^ k) * facZ qs m (m ^^^ k) qs.length))) % p := fun m hm => by
    rw [prodT_nth hp hm, sumN_mulr, Int.mul_assoc (_ % p), Int.mul_left_comm]
    exact mul_emod_congr (Int.emod_emod _ _) rfl
  have e2 : ∀ a, a < 2 ^ qs.length → (tkI t3 a (a ^^^ k) * (nth x a * nth (prodL p qs t4 y z) (a ^^^ k) * facZ qs a (a ^^^ k) qs.length)) % p =
      (sumN (2 ^ qs.length) fun m => tkI t1 a (a ^^^ m) * (nth x a * nth y (a ^^^ m) * facZ qs a (a ^^^ m) qs.length) * (tkI t2 m (m ^^^ k) * (nth z (m ^^^ k) * facZ qs m (m ^^^ k) qs.length))) % p := fun a ha => by
    rw [prodT_nth hp (Nat.xor_lt_two_pow ha hk), ← sumN_xor hd ha]
    have : (tkI t3 a (a ^^^ k) * (nth x a * ((sumN (2 ^ qs.length) fun m => tkI t4 (a ^^^ m) (a ^^^ m ^^^ (a ^^^ k)) * (nth y (a ^^^ m) * nth z (a ^^^ m ^^^ (a ^^^ k)) * facZ qs (a ^^^ m) (a ^^^ m ^^^ (a ^^^ k)) qs.length)) % p) * facZ qs a (a ^^^ k) qs.length)) % p =
        (tkI t3 a (a ^^^ k) * nth x a * (sumN (2 ^ qs.length) fun m => tkI t4 (a ^^^ m) (a ^^^ m ^^^ (a ^^^ k)) * (nth y (a ^^^ m) * nth z (a ^^^ m ^^^ (a ^^^ k)) * facZ qs (a ^^^ m) (a ^^^ m ^^^ (a ^^^ k)) qs.length)) * facZ qs a (a ^^^ k) qs.length) % p := by
      rw [← Int.mul_assoc, ← Int.mul_assoc]
      exact mul_emod_congr (mul_emod_congr rfl (Int.emod_emod _ _)) rfl
    rw [this, ← sumN_mul, ← sumN_mulr]
    congr 1
    refine sumN_congr fun m hm => ?_
    rw [xor_cancel]
    have ham := Nat.xor_lt_two_pow ha hm
    have hmk := Nat.xor_lt_two_pow hm hk
    have hc := facZ_cocycle (qs := qs) (a := a) (b := a ^^^ m) (c := m ^^^ k) (by omega) (Nat.lt_of_lt_of_le ham hN) qs.length hd
    have hT' := hT a ha (a ^^^ m) ham (m ^^^ k) hmk
    have x1 : a ^^^ (a ^^^ m) = m := by rw [← Nat.xor_assoc, Nat.xor_self, Nat.zero_xor]
    have x2 : a ^^^ m ^^^ (m ^^^ k) = a ^^^ k := by rw [Nat.xor_assoc, ← Nat.xor_assoc m m k, Nat.xor_self, Nat.zero_xor]
    rw [x1, x2] at hc hT'
    rw [show tkI t1 a (a ^^^ m) * (nth x a * nth y (a ^^^ m) * facZ qs a (a ^^^ m) qs.length) * (tkI t2 m (m ^^^ k) * (nth z (m ^^^ k) * facZ qs m (m ^^^ k) qs.length)) = nth x a * nth y (a ^^^ m) * nth z (m ^^^ k) * ((facZ qs a (a ^^^ m) qs.length * facZ qs m (m ^^^ k) qs.length) * (tkI t1 a (a ^^^ m) * tkI t2 m (m ^^^ k))) by ac_rfl, hc, hT']
    ac_rfl
  rw [sumN_emod e1, sumN_emod e2, sumN_swap]

theorem bit_all {a b : Nat} (ha : a < 64) (hb : b < 64) (h : ∀ i, i < 6 → a.testBit i = b.testBit i) : a = b := by
  apply Nat.eq_of_testBit_eq
  intro i
  by_cases hi : i < 6
  · exact h i hi
  · rw [Nat.testBit_lt_two_pow (Nat.lt_of_lt_of_le ha (by exact Nat.pow_le_pow_right (by omega) (show 6 ≤ i by omega) : 2 ^ 6 ≤ 2 ^ i)), Nat.testBit_lt_two_pow (Nat.lt_of_lt_of_le hb (by exact Nat.pow_le_pow_right (by omega) (show 6 ≤ i by omega) : 2 ^ 6 ≤ 2 ^ i))]
theorem tkW_iff {a b : Nat} : tkW a b = true ↔ ∀ i, (a.testBit i && b.testBit i) = false := by
  unfold tkW
  rw [beq_iff_eq]
  constructor
  · intro h i
    rw [← Nat.testBit_and, h, Nat.zero_testBit]
  · intro h
    apply Nat.eq_of_testBit_eq
    intro i
    rw [Nat.testBit_and, h i, Nat.zero_testBit]
theorem tkL_iff {a b : Nat} : tkL a b = true ↔ ∀ i, a.testBit i = true → b.testBit i = true := by
  unfold tkL
  rw [beq_iff_eq]
  constructor
  · intro h i hi
    have : (a &&& b).testBit i = true := by rw [h]; exact hi
    rw [Nat.testBit_and] at this
    simp_all
  · intro h
    apply Nat.eq_of_testBit_eq
    intro i
    rw [Nat.testBit_and]
    cases ha : a.testBit i
    · rfl
    · rw [h i ha]; rfl
theorem wedge_tk (a b c : Nat) : (tkW a b && tkW (a ^^^ b) c) = (tkW b c && tkW a (b ^^^ c)) := by
  rw [Bool.eq_iff_iff]
  simp only [Bool.and_eq_true, tkW_iff, Nat.testBit_xor]
  constructor
  · rintro ⟨h1, h2⟩
    refine ⟨fun i => ?_, fun i => ?_⟩ <;> (have h3 := h1 i; have h4 := h2 i; revert h3 h4; cases a.testBit i <;> cases b.testBit i <;> cases c.testBit i <;> simp)
  · rintro ⟨h1, h2⟩
    refine ⟨fun i => ?_, fun i => ?_⟩ <;> (have h3 := h1 i; have h4 := h2 i; revert h3 h4; cases a.testBit i <;> cases b.testBit i <;> cases c.testBit i <;> simp)
/-- The wedge product is associative. -/
theorem wedge_assoc {p : Int} {qs x y z : List Int} (hp : 1 ≤ p) (hd : qs.length ≤ 6) : prodL p qs tkW (prodL p qs tkW x y) z = prodL p qs tkW x (prodL p qs tkW y z) :=
  prodT_assoc hp hd fun a _ b _ c _ => wedge_tk a b c
theorem left_tk (a b c : Nat) : (tkW a b && tkL (a ^^^ b) c) = (tkL b c && tkL a (b ^^^ c)) := by
  rw [Bool.eq_iff_iff]
  simp only [Bool.and_eq_true, tkW_iff, tkL_iff, Nat.testBit_xor]
  constructor
  · rintro ⟨h1, h2⟩
    refine ⟨fun i => ?_, fun i => ?_⟩ <;> (have h3 := h1 i; have h4 := h2 i; revert h3 h4; cases a.testBit i <;> cases b.testBit i <;> cases c.testBit i <;> simp)
  · rintro ⟨h1, h2⟩
    refine ⟨fun i => ?_, fun i => ?_⟩ <;> (have h3 := h1 i; have h4 := h2 i; revert h3 h4; cases a.testBit i <;> cases b.testBit i <;> cases c.testBit i <;> simp)
/-- The left contraction of a wedge product. -/
theorem left_wedge {p : Int} {qs x y z : List Int} (hp : 1 ≤ p) (hd : qs.length ≤ 6) : prodL p qs tkL (prodL p qs tkW x y) z = prodL p qs tkL x (prodL p qs tkL y z) :=
  prodT_assoc hp hd fun a _ b _ c _ => left_tk a b c

/-! ### Sums and multiples -/
theorem prod_plus_right {p k : Int} {qs x y z : List Int} {tk : Nat → Nat → Bool} (hp : 1 ≤ p) : prodL p qs tk x (plusL p y z k (2 ^ qs.length)) = plusL p (prodL p qs tk x y) (prodL p qs tk x z) k (2 ^ qs.length) := by
  refine ext_nth (by rw [(prod_good hp).1, plusL_len]) fun i hi => ?_
  rw [(prod_good hp).1] at hi
  rw [plusL_nth hi, prodT_nth hp hi, plusN, prodT_nth hp hi, prodT_nth hp hi, Int.emod_add_emod, Int.add_comm (sumN _ _), ← Int.emod_add_emod, Int.mul_emod, Int.emod_emod, ← Int.mul_emod, Int.emod_add_emod, ← sumN_mul, ← sumN_add]
  refine sumN_emod fun a ha => ?_
  rw [plusL_nth (Nat.xor_lt_two_pow ha hi), plusN]
  have : ∀ u v f s : Int, (s * (u * ((v) % p) * f)) % p = (s * (u * v * f)) % p := fun u v f s => mul_emod_congr rfl (mul_emod_congr (mul_emod_congr rfl (Int.emod_emod _ _)) rfl)
  rw [this]
  congr 1
  rw [Int.mul_add, Int.add_mul, Int.mul_add, Int.add_comm]
  congr 1
  ac_rfl
theorem prod_plus_left {p k : Int} {qs x y z : List Int} {tk : Nat → Nat → Bool} (hp : 1 ≤ p) : prodL p qs tk (plusL p x y k (2 ^ qs.length)) z = plusL p (prodL p qs tk x z) (prodL p qs tk y z) k (2 ^ qs.length) := by
  refine ext_nth (by rw [(prod_good hp).1, plusL_len]) fun i hi => ?_
  rw [(prod_good hp).1] at hi
  rw [plusL_nth hi, prodT_nth hp hi, plusN, prodT_nth hp hi, prodT_nth hp hi, Int.emod_add_emod, Int.add_comm (sumN _ _), ← Int.emod_add_emod, Int.mul_emod, Int.emod_emod, ← Int.mul_emod, Int.emod_add_emod, ← sumN_mul, ← sumN_add]
  refine sumN_emod fun a ha => ?_
  rw [plusL_nth ha, plusN]
  have : ∀ u v f s : Int, (s * (v % p * u * f)) % p = (s * (v * u * f)) % p := fun u v f s => mul_emod_congr rfl (mul_emod_congr (mul_emod_congr (Int.emod_emod _ _) rfl) rfl)
  rw [this]
  congr 1
  rw [Int.add_mul, Int.add_mul, Int.mul_add, Int.add_comm]
  congr 1
  ac_rfl

end Go.Proofs.YtcocbainookkcaaGreat

/-
  Duals; the listed function DualOf.
  No condition.
-/
namespace Go.Proofs.YtcocbainookkcaaGreat
set_option maxRecDepth 100000
open Go.RowKit





end Go.Proofs.YtcocbainookkcaaGreat

/-
  Reverses of products, and products with the pseudoscalar, in plain numbers.
  No condition. No program in sight.
-/
namespace Go.Proofs.YtcocbainookkcaaGreat
set_option maxRecDepth 100000
open Go.RowKit

/-! ### Signs and squares apart -/
def sgS (a b : Nat) : Nat → Int
  | 0 => 1
  | k + 1 => sgS a b k * (if b.testBit k then sgZ a k else 1)
def sqS (qs : List Int) (a b : Nat) : Nat → Int
  | 0 => 1
  | k + 1 => sqS qs a b k * (if (a.testBit k && b.testBit k) = true then nth qs k else 1)
theorem facZ_parts (qs : List Int) (a b : Nat) : ∀ k, facZ qs a b k = sgS a b k * sqS qs a b k
  | 0 => rfl
  | k + 1 => by
    rw [facZ, facZ_parts qs a b k, sgS, sqS, stZ]
    cases a.testBit k <;> cases b.testBit k <;> simp <;> ac_rfl
theorem sqS_comm (qs : List Int) (a b : Nat) : ∀ k, sqS qs a b k = sqS qs b a k
  | 0 => rfl
  | k + 1 => by rw [sqS, sqS, sqS_comm qs a b k, Bool.and_comm]
theorem sgS_rest {a b d : Nat} (hb : b < 2 ^ d) : ∀ k, sgS a b (d + k) = sgS a b d
  | 0 => rfl
  | k + 1 => by
    rw [← Nat.add_assoc, sgS, sgS_rest hb k]
    have : b.testBit (d + k) = false := Nat.testBit_lt_two_pow (Nat.lt_of_lt_of_le hb (Nat.pow_le_pow_right (by omega) (by omega)))
    simp [this]
def rvS (a : Nat) : Int := if revB (popc a) = true then -1 else 1
theorem rvS_sq (a : Nat) : rvS a * rvS a = 1 := by unfold rvS; split <;> rfl
theorem rev_sign (a b : Nat) (ha : a < 64) (hb : b < 64) : sgS b a 6 * (rvS a * rvS b) = rvS (a ^^^ b) * sgS a b 6 := by
  have : ∀ a : Nat, a < 64 → ∀ b : Nat, b < 64 → sgS b a 6 * (rvS a * rvS b) = rvS (a ^^^ b) * sgS a b 6 := by decide +kernel
  exact this a ha b hb
theorem facZ_rev {qs : List Int} {a b : Nat} (hd : qs.length ≤ 6) (ha : a < 2 ^ qs.length) (hb : b < 2 ^ qs.length) : facZ qs b a qs.length * (rvS a * rvS b) = rvS (a ^^^ b) * facZ qs a b qs.length := by
  have hN := pow_le64 hd
  have h1 := sgS_rest (a := b) ha (6 - qs.length)
  have h2 := sgS_rest (a := a) hb (6 - qs.length)
  rw [Nat.add_sub_cancel' hd] at h1 h2
  rw [facZ_parts, facZ_parts, ← h1, ← h2, sqS_comm qs b a, show sgS b a 6 * sqS qs a b qs.length * (rvS a * rvS b) = sgS b a 6 * (rvS a * rvS b) * sqS qs a b qs.length by ac_rfl, rev_sign a b (by omega) (by omega), Int.mul_assoc]
theorem sign_emod {p : Int} {x : List Int} {n i : Nat} (h : i < n) : nth (signL p revB x n) i % p = (rvS i * nth x i) % p := by
  rw [signL_nth h]
  unfold signN rvS
  split
  · rw [Int.emod_emod]; congr 1; omega
  · rw [Int.one_mul]
/-- The reverse of a product is the product of the reverses in the other order. -/
theorem rev_prod {p : Int} {qs x y : List Int} {tk tk' : Nat → Nat → Bool} (hp : 1 ≤ p) (hd : qs.length ≤ 6) (ht : ∀ a b, tk' b a = tk a b) :
    signL p revB (prodL p qs tk x y) (2 ^ qs.length) = prodL p qs tk' (signL p revB y (2 ^ qs.length)) (signL p revB x (2 ^ qs.length)) := by
  have g1 : Good p (2 ^ qs.length) (signL p revB (prodL p qs tk x y) (2 ^ qs.length)) := sign_good hp (prod_good hp)
  have g2 : Good p (2 ^ qs.length) (prodL p qs tk' (signL p revB y (2 ^ qs.length)) (signL p revB x (2 ^ qs.length))) := prod_good hp
  refine ext_nth (by rw [g1.1, g2.1]) fun k hk => ?_
  rw [g1.1] at hk
  have b1 := g1.2 k hk
  have b2 := g2.2 k hk
  rw [← Int.emod_eq_of_lt b1.1 b1.2, ← Int.emod_eq_of_lt b2.1 b2.2, sign_emod hk, prodT_nth hp hk, prodT_nth hp hk, Int.emod_emod, Int.mul_emod, Int.emod_emod, ← Int.mul_emod, ← sumN_mul, ← sumN_xor hd hk]
  refine sumN_emod fun i hi => ?_
  have hki := Nat.xor_lt_two_pow hk hi
  have x1 : k ^^^ i ^^^ k = i := by rw [Nat.xor_comm k i, Nat.xor_assoc, Nat.xor_self, Nat.xor_zero]
  rw [x1]
  have x2 : i ^^^ k = k ^^^ i := Nat.xor_comm _ _
  have hf := facZ_rev (qs := qs) hd hki hi
  rw [show k ^^^ i ^^^ i = k by rw [Nat.xor_assoc, Nat.xor_self, Nat.xor_zero]] at hf
  rw [x2, show tkI tk' i (k ^^^ i) = tkI tk (k ^^^ i) i by unfold tkI; rw [ht]]
  have e : (tkI tk (k ^^^ i) i * (nth (signL p revB y (2 ^ qs.length)) i * nth (signL p revB x (2 ^ qs.length)) (k ^^^ i) * facZ qs i (k ^^^ i) qs.length)) % p =
      (tkI tk (k ^^^ i) i * ((rvS i * nth y i) * (rvS (k ^^^ i) * nth x (k ^^^ i)) * facZ qs i (k ^^^ i) qs.length)) % p :=
    mul_emod_congr rfl (mul_emod_congr (mul_emod_congr (sign_emod hi) (sign_emod hki)) rfl)
  rw [e]
  congr 1
  rw [show tkI tk (k ^^^ i) i * ((rvS i * nth y i) * (rvS (k ^^^ i) * nth x (k ^^^ i)) * facZ qs i (k ^^^ i) qs.length) = tkI tk (k ^^^ i) i * nth x (k ^^^ i) * nth y i * (facZ qs i (k ^^^ i) qs.length * (rvS (k ^^^ i) * rvS i)) by ac_rfl, hf]
  ac_rfl

/-! ### The pseudoscalar -/
theorem topL_len (d : Nat) (k : Int) : (topL d k).length = 2 ^ d := by simp [topL]
theorem topL_nth {d i : Nat} {k : Int} (hi : i < 2 ^ d) : nth (topL d k) i = if i = 2 ^ d - 1 then k else 0 := by
  have := pow_pos' d
  unfold topL
  rw [nth_set (by simp; omega), nth_replicate hi]
  by_cases h : 2 ^ d - 1 = i
  · rw [if_pos h, if_pos h.symm]
  · rw [if_neg h, if_neg (Ne.symm h)]
theorem and_full {d i : Nat} (hi : i < 2 ^ d) : i &&& (2 ^ d - 1) = i := by
  rw [Nat.and_two_pow_sub_one_eq_mod, Nat.mod_eq_of_lt hi]
/-- The left contraction into a multiple of the pseudoscalar is the geometric product. -/
theorem left_top {p k : Int} {qs x : List Int} (hp : 1 ≤ p) : prodL p qs tkL x (topL qs.length k) = prodL p qs tkA x (topL qs.length k) := by
  refine ext_nth (by rw [(prod_good hp).1, (prod_good hp).1]) fun i hi => ?_
  rw [(prod_good hp).1] at hi
  rw [prodT_nth hp hi, prodT_nth hp hi]
  congr 1
  refine sumN_congr fun j hj => ?_
  have hji := Nat.xor_lt_two_pow hj hi
  rw [topL_nth hji]
  by_cases h : j ^^^ i = 2 ^ qs.length - 1
  · rw [h]
    have : tkI tkL j (2 ^ qs.length - 1) = tkI tkA j (2 ^ qs.length - 1) := by
      unfold tkI tkL tkA
      rw [and_full hj]; simp
    rw [this]
  · rw [if_neg h]; simp
theorem top_top {p j k : Int} {qs : List Int} (hp : 3 ≤ p) (hd : qs.length ≤ 6) (h : (j * k * sqFull p qs) % p = 1) : prodL p qs tkA (topL qs.length j) (topL qs.length k) = bladeL (2 ^ qs.length) 0 := by
  have hN := pow_pos' qs.length
  refine ext_nth (by rw [(prod_good (by omega)).1, bladeL_len]) fun i hi => ?_
  rw [(prod_good (by omega)).1] at hi
  rw [bladeL_nth (by omega) hi, prodA_nth (by omega) hi, sumN_single (k := 2 ^ qs.length - 1) (by omega) (fun m hm hne => by rw [topL_nth hm, if_neg hne]; simp)]
  rw [topL_nth (by omega), if_pos rfl, topL_nth (Nat.xor_lt_two_pow (by omega) hi)]
  by_cases h0 : 0 = i
  · subst h0
    rw [Nat.xor_zero, if_pos rfl, if_pos rfl, ← h, sqFull_eq hp hd]
    exact mul_emod_congr rfl (fac_emod.symm)
  · rw [if_neg h0, if_neg (fun e => h0 (by
      have := xor_eq_iff.1 e
      rw [Nat.xor_self] at this; exact this.symm))]
    simp
/-- The undual of the dual. -/
theorem undual_dual {p : Int} {qs x : List Int} (hp : primeB p = true) (hq : isB p qs = true) (hd : qs.length ≤ 6) (hr : regB qs = true) (hx : Good p (2 ^ qs.length) x) :
    prodL p qs tkL (dualL p qs x) (fullL qs.length) = x := by
  have hpb := prime_bd hp
  have hb := sqFull_bd (p := p) (qs := qs) (by omega)
  have hne := sqFull_ne hp hq hd hr
  have hi := (inv_spec hp (show 0 < sqFull p qs by omega) hb.2).2.1
  unfold dualL
  rw [← topL_one, left_top (by omega), left_top (by omega), prod_assoc (by omega) hd, top_top (by omega) hd (by rw [Int.mul_one, Int.mul_comm]; exact hi), times_one (by omega) hx]
theorem dual_undual {p : Int} {qs x : List Int} (hp : primeB p = true) (hq : isB p qs = true) (hd : qs.length ≤ 6) (hr : regB qs = true) (hx : Good p (2 ^ qs.length) x) :
    dualL p qs (prodL p qs tkL x (fullL qs.length)) = x := by
  have hpb := prime_bd hp
  have hb := sqFull_bd (p := p) (qs := qs) (by omega)
  have hne := sqFull_ne hp hq hd hr
  have hi := (inv_spec hp (show 0 < sqFull p qs by omega) hb.2).2.1
  unfold dualL
  rw [← topL_one, left_top (by omega), left_top (by omega), prod_assoc (by omega) hd, top_top (by omega) hd (by rw [Int.one_mul, Int.mul_comm]; exact hi), times_one (by omega) hx]

end Go.Proofs.YtcocbainookkcaaGreat

/-
  Vectors in products, and matrices of multiplications, in plain numbers.
  No condition. No program in sight.
-/
namespace Go.Proofs.YtcocbainookkcaaGreat
set_option maxRecDepth 100000
open Go.RowKit

theorem vecS_nth {N d : Nat} {v : List Int} (hN : N = 2 ^ d) : ∀ k, k ≤ d → ∀ m, m < N → (∀ i, i < k → m = 2 ^ i → nth (vecS N v k) m = nth v i) ∧ ((∀ i, i < k → m ≠ 2 ^ i) → nth (vecS N v k) m = 0)
  | 0, _, m, hm => ⟨fun i hi => absurd hi (Nat.not_lt_zero _), fun _ => nth_replicate hm⟩
  | k + 1, hk, m, hm => by
    obtain ⟨h1, h2⟩ := vecS_nth hN k (by omega) m hm (v := v)
    have hl : (vecS N v k).length = N := by
      have : ∀ j, (vecS N v j).length = N := fun j => by
        induction j with
        | zero => simp [vecS]
        | succ j ih => simp [vecS, ih]
      exact this k
    have hkN : 2 ^ k < N := by rw [hN]; exact Nat.pow_lt_pow_right (by omega) (by omega)
    unfold vecS
    rw [nth_set (by rw [hl]; exact hkN)]
    constructor
    · intro i hi he
      by_cases hik : i = k
      · subst hik; rw [if_pos he.symm]
      · have : ¬ 2 ^ k = m := fun h => by have : 2 ^ i < 2 ^ k := Nat.pow_lt_pow_right (by omega) (by omega); omega
        rw [if_neg this]; exact h1 i (by omega) he
    · intro h
      rw [if_neg (fun e => h k (by omega) e.symm)]
      exact h2 fun i hi => h i (by omega)
theorem vec_bit {d i : Nat} {v : List Int} (hv : v.length = d) (hi : i < d) : nth (vecL (2 ^ d) v) (2 ^ i) = nth v i := by
  unfold vecL
  exact (vecS_nth rfl v.length (by omega) (2 ^ i) (Nat.pow_lt_pow_right (by omega) (by omega))).1 i (by omega) rfl
theorem vec_no {d m : Nat} {v : List Int} (hv : v.length = d) (hm : m < 2 ^ d) (h : ∀ i, i < d → m ≠ 2 ^ i) : nth (vecL (2 ^ d) v) m = 0 := by
  unfold vecL
  exact (vecS_nth rfl v.length (by omega) m hm).2 fun i hi => h i (by omega)
/-- A sum over blades with a vector is a sum over its numbers. -/
theorem sum_bits (g : Nat → Int) : ∀ d, (∀ m, m < 2 ^ d → (∀ i, i < d → m ≠ 2 ^ i) → g m = 0) → sumN (2 ^ d) g = sumN d fun i => g (2 ^ i)
  | 0, h => by
    show sumN 0 g + g 0 = 0
    rw [h 0 (by decide) (fun i hi => absurd hi (Nat.not_lt_zero _))]; rfl
  | d + 1, h => by
    have split : ∀ n m, sumN (n + m) g = sumN n g + sumN m fun i => g (n + i) := fun n m => by
      induction m with
      | zero => simp [sumN]
      | succ m ih => rw [← Nat.add_assoc]; simp only [sumN]; rw [ih, Int.add_assoc]
    have hpos : 0 < 2 ^ d := Nat.pos_of_ne_zero (by simp)
    rw [Nat.pow_succ, Nat.mul_two, split]
    have h1 : sumN (2 ^ d) g = sumN d fun i => g (2 ^ i) := sum_bits g d fun m hm hno => h m (by rw [Nat.pow_succ]; omega) fun i hi => by
      by_cases hid : i = d
      · subst hid; omega
      · exact hno i (by omega)
    rw [h1, sumN_single (k := 0) hpos (fun m hm hne => h (2 ^ d + m) (by rw [Nat.pow_succ]; omega) fun i hi => by
      by_cases hid : i = d
      · subst hid; omega
      · have : 2 ^ i < 2 ^ d := Nat.pow_lt_pow_right (by omega) (by omega)
        omega)]
    rfl
theorem sum_vec {d : Nat} {v : List Int} (hv : v.length = d) (g : Nat → Int) : sumN (2 ^ d) (fun m => nth (vecL (2 ^ d) v) m * g m) = sumN d fun i => nth v i * g (2 ^ i) := by
  rw [sum_bits _ d fun m hm hno => by rw [vec_no hv hm hno, Int.zero_mul]]
  exact sumN_congr fun i hi => by rw [vec_bit hv hi]

/-- The product of two vectors of a space. -/
def pairZ (qs v w : List Int) : Int := sumN qs.length fun i => nth v i * nth w i * nth qs i
theorem sgS_bits (i j : Nat) (hi : i < 6) (hj : j < 6) : (i ≠ j → sgS (2 ^ i) (2 ^ j) 6 = - sgS (2 ^ j) (2 ^ i) 6) ∧ sgS (2 ^ i) (2 ^ i) 6 = 1 := by
  have : ∀ i : Nat, i < 6 → ∀ j : Nat, j < 6 → (i ≠ j → sgS (2 ^ i) (2 ^ j) 6 = - sgS (2 ^ j) (2 ^ i) 6) ∧ sgS (2 ^ i) (2 ^ i) 6 = 1 := by decide +kernel
  exact this i hi j hj
theorem sqS_one (qs : List Int) {a b : Nat} : ∀ k, (∀ i, i < k → (a.testBit i && b.testBit i) = false) → sqS qs a b k = 1
  | 0, _ => rfl
  | k + 1, h => by
    rw [sqS, sqS_one qs k fun i hi => h i (by omega), h k (by omega)]; rfl
theorem sqS_bit (qs : List Int) {i : Nat} : ∀ k, sqS qs (2 ^ i) (2 ^ i) k = if i < k then nth qs i else 1
  | 0 => rfl
  | k + 1 => by
    rw [sqS, sqS_bit qs k, Nat.testBit_two_pow]
    by_cases hik : i = k
    · subst hik; simp
    · have : ¬ (i = k) := hik
      simp only [this, decide_false, Bool.and_false, Bool.false_eq_true, if_false, Int.mul_one]
      by_cases h : i < k
      · rw [if_pos h, if_pos (by omega)]
      · rw [if_neg h, if_neg (by omega)]
theorem facZ_bits {qs : List Int} {i j : Nat} (hd : qs.length ≤ 6) (hi : i < qs.length) (hj : j < qs.length) : (i ≠ j → facZ qs (2 ^ i) (2 ^ j) qs.length = - facZ qs (2 ^ j) (2 ^ i) qs.length) ∧ facZ qs (2 ^ i) (2 ^ i) qs.length = nth qs i := by
  obtain ⟨h1, h2⟩ := sgS_bits i j (by omega) (by omega)
  have lt : ∀ i, i < qs.length → (2 : Nat) ^ i < 2 ^ qs.length := fun i hi => Nat.pow_lt_pow_right (by omega) hi
  have e1 := sgS_rest (a := 2 ^ i) (lt j hj) (6 - qs.length)
  have e2 := sgS_rest (a := 2 ^ j) (lt i hi) (6 - qs.length)
  have e3 := sgS_rest (a := 2 ^ i) (lt i hi) (6 - qs.length)
  rw [Nat.add_sub_cancel' hd] at e1 e2 e3
  rw [facZ_parts, facZ_parts, facZ_parts, ← e1, ← e2, ← e3, h2, sqS_bit, if_pos hi, Int.one_mul]
  refine ⟨fun hne => ?_, rfl⟩
  rw [h1 hne, sqS_comm qs (2 ^ j)]
  exact Int.neg_mul _ _
/-- v w + w v -/
theorem vec_anti {p : Int} {qs v w : List Int} (hp : 1 ≤ p) (hd : qs.length ≤ 6) (hv : v.length = qs.length) (hw : w.length = qs.length) :
    plusL p (prodL p qs tkA (vecL (2 ^ qs.length) v) (vecL (2 ^ qs.length) w)) (prodL p qs tkA (vecL (2 ^ qs.length) w) (vecL (2 ^ qs.length) v)) 1 (2 ^ qs.length) = (List.replicate (2 ^ qs.length) 0).set 0 ((2 * pairZ qs v w) % p) := by
  have hN := pow_pos' qs.length
  refine ext_nth (by rw [plusL_len]; simp) fun k hk => ?_
  rw [plusL_len] at hk
  rw [plusL_nth hk, plusN, prodA_nth hp hk, prodA_nth hp hk, Int.one_mul, Int.emod_add_emod, Int.add_emod_emod, nth_set (by simp; omega), nth_replicate hk]
  have e : ∀ x y : List Int, sumN (2 ^ qs.length) (fun i => nth (vecL (2 ^ qs.length) x) i * nth (vecL (2 ^ qs.length) y) (i ^^^ k) * facZ qs i (i ^^^ k) qs.length) = sumN (2 ^ qs.length) (fun i => nth (vecL (2 ^ qs.length) x) i * (nth (vecL (2 ^ qs.length) y) (i ^^^ k) * facZ qs i (i ^^^ k) qs.length)) := fun x y => sumN_congr fun i _ => Int.mul_assoc _ _ _
  have lt : ∀ i, i < qs.length → (2 : Nat) ^ i < 2 ^ qs.length := fun i hi => Nat.pow_lt_pow_right (by omega) hi
  by_cases h0 : 0 = k
  · subst h0
    rw [if_pos rfl, e, e, sum_vec hv, sum_vec hw]
    simp only [Nat.xor_zero]
    congr 1
    unfold pairZ
    rw [← sumN_add, ← sumN_mul]
    refine sumN_congr fun i hi => ?_
    rw [vec_bit hv hi, vec_bit hw hi, (facZ_bits hd hi hi).2, Int.two_mul]
    congr 1
    · exact (Int.mul_assoc _ _ _).symm
    · ac_rfl
  · rw [if_neg h0]
    -- the second sum, blade by blade, is the first one's opposite
    rw [← sumN_xor hd hk (fun i => nth (vecL (2 ^ qs.length) w) i * nth (vecL (2 ^ qs.length) v) (i ^^^ k) * facZ qs i (i ^^^ k) qs.length), ← sumN_add]
    have : ∀ i, i < 2 ^ qs.length → nth (vecL (2 ^ qs.length) v) i * nth (vecL (2 ^ qs.length) w) (i ^^^ k) * facZ qs i (i ^^^ k) qs.length + nth (vecL (2 ^ qs.length) w) (k ^^^ i) * nth (vecL (2 ^ qs.length) v) (k ^^^ i ^^^ k) * facZ qs (k ^^^ i) (k ^^^ i ^^^ k) qs.length = 0 := fun i hi => by
      have x1 : k ^^^ i ^^^ k = i := by rw [Nat.xor_comm k i, Nat.xor_assoc, Nat.xor_self, Nat.xor_zero]
      rw [x1, Nat.xor_comm k i]
      have hik := Nat.xor_lt_two_pow hi hk
      by_cases hb : ∃ s, s < qs.length ∧ i = 2 ^ s
      · obtain ⟨s, hs, rfl⟩ := hb
        by_cases hc : ∃ t, t < qs.length ∧ 2 ^ s ^^^ k = 2 ^ t
        · obtain ⟨t, ht, hst⟩ := hc
          rw [hst]
          have hne : s ≠ t := fun h => by
            subst h
            exact h0 (by have := xor_eq_iff.1 hst; rw [Nat.xor_self] at this; exact this.symm)
          rw [(facZ_bits hd hs ht).1 hne]
          rw [Int.mul_comm (nth (vecL (2 ^ qs.length) w) _), Int.mul_neg]
          omega
        · rw [vec_no hw hik (fun t ht h => hc ⟨t, ht, h⟩)]; simp
      · rw [vec_no hv hi (fun s hs h => hb ⟨s, hs, h⟩)]; simp
    rw [sumN_zero this]; rfl

/-- The geometric product of a vector is its left contraction and its wedge product together. -/
theorem vec_prod {p : Int} {qs v y : List Int} (hp : 1 ≤ p) (hv : v.length = qs.length) :
    prodL p qs tkA (vecL (2 ^ qs.length) v) y = plusL p (prodL p qs tkL (vecL (2 ^ qs.length) v) y) (prodL p qs tkW (vecL (2 ^ qs.length) v) y) 1 (2 ^ qs.length) := by
  refine ext_nth (by rw [(prod_good hp).1, plusL_len]) fun k hk => ?_
  rw [(prod_good hp).1] at hk
  rw [plusL_nth hk, plusN, prodT_nth hp hk, prodT_nth hp hk, prodT_nth hp hk, Int.one_mul, Int.emod_add_emod, Int.add_emod_emod, ← sumN_add]
  congr 1
  refine sumN_congr fun i hi => ?_
  by_cases hb : ∃ s, s < qs.length ∧ i = 2 ^ s
  · obtain ⟨s, hs, rfl⟩ := hb
    have : tkI tkA (2 ^ s) (2 ^ s ^^^ k) = tkI tkL (2 ^ s) (2 ^ s ^^^ k) + tkI tkW (2 ^ s) (2 ^ s ^^^ k) := by
      unfold tkI
      rw [if_pos (show tkA (2 ^ s) (2 ^ s ^^^ k) = true from rfl)]
      cases hbit : (2 ^ s ^^^ k).testBit s
      · have hw : tkW (2 ^ s) (2 ^ s ^^^ k) = true := tkW_iff.2 fun i => by
          rw [Nat.testBit_two_pow]
          by_cases h : s = i
          · subst h; rw [hbit]; simp
          · simp [h]
        have hl : tkL (2 ^ s) (2 ^ s ^^^ k) = false := by
          cases h : tkL (2 ^ s) (2 ^ s ^^^ k)
          · rfl
          · have := tkL_iff.1 h s (by simp)
            rw [hbit] at this; cases this
        simp [hw, hl]
      · have hl : tkL (2 ^ s) (2 ^ s ^^^ k) = true := tkL_iff.2 fun i hi => by
          rw [Nat.testBit_two_pow] at hi
          simp only [decide_eq_true_eq] at hi
          subst hi; exact hbit
        have hw : tkW (2 ^ s) (2 ^ s ^^^ k) = false := by
          cases h : tkW (2 ^ s) (2 ^ s ^^^ k)
          · rfl
          · have := tkW_iff.1 h s
            rw [hbit] at this; simp at this
        simp [hw, hl]
    rw [this, Int.add_mul]
  · rw [vec_no hv hi (fun s hs h => hb ⟨s, hs, h⟩)]; simp
end Go.Proofs.YtcocbainookkcaaGreat

/-
  Sums of multiples of lists, and products with them, in plain numbers.
  No condition. No program in sight.
-/
namespace Go.Proofs.YtcocbainookkcaaGreat
set_option maxRecDepth 100000
open Go.RowKit

/-- A sum of multiples at a place; the list of these. -/
def linS : List (Int × List Int) → Nat → Int
  | [], _ => 0
  | (k, x) :: L, i => k * nth x i + linS L i
def linL (p : Int) (N : Nat) (L : List (Int × List Int)) : List Int := (List.range N).map fun i => linS L i % p
theorem linL_len (p : Int) (N : Nat) (L : List (Int × List Int)) : (linL p N L).length = N := by simp [linL]
theorem linL_nth {p : Int} {N i : Nat} {L : List (Int × List Int)} (h : i < N) : nth (linL p N L) i = linS L i % p := by
  unfold linL; rw [nth_map (by simpa using h)]; simp
theorem lin_good {p : Int} {N : Nat} {L : List (Int × List Int)} (hp : 1 ≤ p) : Good p N (linL p N L) :=
  ⟨linL_len .., fun i hi => by rw [linL_nth hi]; exact ⟨Int.emod_nonneg _ (by omega), Int.emod_lt_of_pos _ (by omega)⟩⟩
theorem lin_congr {p : Int} {N : Nat} {L M : List (Int × List Int)} (h : ∀ i, i < N → linS L i % p = linS M i % p) : linL p N L = linL p N M := by
  unfold linL
  exact List.map_congr_left fun i hi => h i (List.mem_range.1 hi)
theorem lin_one {p : Int} {N : Nat} {x : List Int} (hx : Good p N x) : linL p N [(1, x)] = x := by
  refine ext_nth (by rw [linL_len, hx.1]) fun i hi => ?_
  rw [linL_len] at hi
  rw [linL_nth hi]
  simp only [linS, Int.one_mul, Int.add_zero]
  exact Int.emod_eq_of_lt (hx.2 i hi).1 (hx.2 i hi).2
theorem linS_append (L M : List (Int × List Int)) (i : Nat) : linS (L ++ M) i = linS L i + linS M i := by
  induction L with
  | nil => simp [linS]
  | cons a L ih => obtain ⟨k, x⟩ := a; simp only [List.cons_append, linS]; rw [ih, Int.add_assoc]
theorem linS_times (c : Int) (M : List (Int × List Int)) (i : Nat) : linS (M.map fun q => (c * q.1, q.2)) i = c * linS M i := by
  induction M with
  | nil => simp [linS]
  | cons a M ih => obtain ⟨k, x⟩ := a; simp only [List.map_cons, linS]; rw [ih, Int.mul_add, Int.mul_assoc]
theorem plus_lin {p k : Int} {N : Nat} {L M : List (Int × List Int)} : plusL p (linL p N L) (linL p N M) k N = linL p N (L ++ M.map fun q => (k * q.1, q.2)) := by
  refine ext_nth (by rw [plusL_len, linL_len]) fun i hi => ?_
  rw [plusL_len] at hi
  rw [plusL_nth hi, plusN, linL_nth hi, linL_nth hi, linL_nth hi, linS_append, linS_times, Int.emod_add_emod, Int.add_emod, Int.mul_emod, Int.emod_emod, ← Int.mul_emod, ← Int.add_emod]
/-- A sum's head comes out. -/
theorem lin_cons {p k : Int} {N : Nat} {x : List Int} {L : List (Int × List Int)} : linL p N ((k, x) :: L) = plusL p (linL p N L) x k N := by
  refine ext_nth (by rw [plusL_len, linL_len]) fun i hi => ?_
  rw [linL_len] at hi
  rw [plusL_nth hi, plusN, linL_nth hi, linL_nth hi, Int.emod_add_emod, linS, Int.add_comm]
theorem lin_nil_left {p : Int} {qs y : List Int} {tk : Nat → Nat → Bool} (hp : 1 ≤ p) : prodL p qs tk (linL p (2 ^ qs.length) []) y = linL p (2 ^ qs.length) [] := by
  refine ext_nth (by rw [(prod_good hp).1, linL_len]) fun i hi => ?_
  rw [(prod_good hp).1] at hi
  rw [prodT_nth hp hi, linL_nth hi, sumN_zero fun j hj => by rw [linL_nth hj]; simp [linS]]
  rfl
theorem lin_nil_right {p : Int} {qs y : List Int} {tk : Nat → Nat → Bool} (hp : 1 ≤ p) : prodL p qs tk y (linL p (2 ^ qs.length) []) = linL p (2 ^ qs.length) [] := by
  refine ext_nth (by rw [(prod_good hp).1, linL_len]) fun i hi => ?_
  rw [(prod_good hp).1] at hi
  have hlt : ∀ j, j < 2 ^ qs.length → j ^^^ i < 2 ^ qs.length := fun j hj => Nat.xor_lt_two_pow hj hi
  rw [prodT_nth hp hi, linL_nth hi, sumN_zero fun j hj => by rw [linL_nth (hlt j hj)]; simp [linS]]
  rfl
theorem prod_lin_left {p : Int} {qs y : List Int} {tk : Nat → Nat → Bool} (hp : 1 ≤ p) : ∀ L : List (Int × List Int), prodL p qs tk (linL p (2 ^ qs.length) L) y = linL p (2 ^ qs.length) (L.map fun q => (q.1, prodL p qs tk q.2 y))
  | [] => lin_nil_left hp
  | (k, x) :: L => by rw [lin_cons, prod_plus_left hp, prod_lin_left hp L, List.map_cons, lin_cons]
theorem prod_lin_right {p : Int} {qs y : List Int} {tk : Nat → Nat → Bool} (hp : 1 ≤ p) : ∀ L : List (Int × List Int), prodL p qs tk y (linL p (2 ^ qs.length) L) = linL p (2 ^ qs.length) (L.map fun q => (q.1, prodL p qs tk y q.2))
  | [] => lin_nil_right hp
  | (k, x) :: L => by rw [lin_cons, prod_plus_right hp, prod_lin_right hp L, List.map_cons, lin_cons]
/-- A sum in which one list is a sum itself. -/
theorem linS_lin {p k : Int} {N i : Nat} {M : List (Int × List Int)} (L : List (Int × List Int)) (h : i < N) : linS ((k, linL p N M) :: L) i % p = (k * linS M i + linS L i) % p := by
  simp only [linS]
  rw [linL_nth h, Int.add_emod, Int.mul_emod, Int.emod_emod, ← Int.mul_emod, ← Int.add_emod]
/-- Two vectors, in the other order. -/
theorem vec_swap {p : Int} {qs v w : List Int} (hp : 1 ≤ p) (hd : qs.length ≤ 6) (hv : v.length = qs.length) (hw : w.length = qs.length) :
    prodL p qs tkA (vecL (2 ^ qs.length) w) (vecL (2 ^ qs.length) v) = linL p (2 ^ qs.length) [(2 * pairZ qs v w, bladeL (2 ^ qs.length) 0), (-1, prodL p qs tkA (vecL (2 ^ qs.length) v) (vecL (2 ^ qs.length) w))] := by
  have h := vec_anti hp hd hv hw
  have hN := pow_pos' qs.length
  refine ext_nth (by rw [(prod_good hp).1, linL_len]) fun i hi => ?_
  rw [(prod_good hp).1] at hi
  have h2 := congrArg (fun l => nth l i) h
  rw [plusL_nth hi, plusN, nth_set (by simp; omega), nth_replicate hi, Int.one_mul] at h2
  have hg := (prod_good (qs := qs) (tk := tkA) (x := vecL (2 ^ qs.length) w) (y := vecL (2 ^ qs.length) v) hp).2 i hi
  rw [linL_nth hi]
  simp only [linS]
  rw [bladeL_nth hN hi]
  obtain ⟨X, hX⟩ : ∃ X, X = nth (prodL p qs tkA (vecL (2 ^ qs.length) v) (vecL (2 ^ qs.length) w)) i := ⟨_, rfl⟩
  obtain ⟨Y, hY⟩ : ∃ Y, Y = nth (prodL p qs tkA (vecL (2 ^ qs.length) w) (vecL (2 ^ qs.length) v)) i := ⟨_, rfl⟩
  rw [← hX, ← hY] at h2
  rw [← hY] at hg
  rw [← hX, ← hY]
  have e : Y = Y % p := (Int.emod_eq_of_lt hg.1 hg.2).symm
  by_cases h0 : 0 = i
  · rw [if_pos h0] at h2 ⊢
    have e2 : (X + Y) % p = (2 * pairZ qs v w) % p := h2
    rw [e, show Y = (X + Y) + -1 * X by omega, Int.add_emod, e2, ← Int.add_emod]
    congr 1; omega
  · rw [if_neg h0] at h2 ⊢
    rw [e, show Y = (X + Y) + -1 * X by omega, Int.add_emod, h2, Int.zero_add, Int.emod_emod]
    congr 1; omega
/-- The square of a vector. -/
theorem vec_sq {p : Int} {qs v : List Int} (hp : 3 ≤ p) (hpr : primeB p = true) (hd : qs.length ≤ 6) (hv : v.length = qs.length) :
    prodL p qs tkA (vecL (2 ^ qs.length) v) (vecL (2 ^ qs.length) v) = linL p (2 ^ qs.length) [(pairZ qs v v, bladeL (2 ^ qs.length) 0)] := by
  have h := vec_swap (p := p) (by omega) hd hv hv
  have hN := pow_pos' qs.length
  refine ext_nth (by rw [(prod_good (by omega)).1, linL_len]) fun i hi => ?_
  rw [(prod_good (by omega)).1] at hi
  have h2 := congrArg (fun l => nth l i) h
  have hg := (prod_good (qs := qs) (tk := tkA) (x := vecL (2 ^ qs.length) v) (y := vecL (2 ^ qs.length) v) (show 1 ≤ p by omega)).2 i hi
  rw [linL_nth hi] at h2 ⊢
  simp only [linS] at h2 ⊢
  obtain ⟨Y, hY⟩ : ∃ Y, Y = nth (prodL p qs tkA (vecL (2 ^ qs.length) v) (vecL (2 ^ qs.length) v)) i := ⟨_, rfl⟩
  rw [← hY] at h2 hg
  rw [← hY]
  obtain ⟨u, hu⟩ : ∃ u, u = nth (bladeL (2 ^ qs.length) 0) i := ⟨_, rfl⟩
  rw [← hu] at h2 ⊢
  have inv : 2 * invN p 2 % p = 1 := (inv_spec hpr (by omega) (by omega)).2.1
  obtain ⟨I, hI⟩ : ∃ I, I = invN p 2 := ⟨_, rfl⟩
  rw [← hI] at inv
  obtain ⟨t, ht⟩ : ∃ t, 2 * pairZ qs v v * u + (-1 * Y + 0) - Y = p * t := Int.dvd_of_emod_eq_zero (by rw [Int.sub_emod, ← h2, Int.emod_eq_of_lt hg.1 hg.2, Int.sub_self, Int.zero_emod])
  obtain ⟨s, hs⟩ : ∃ s, 2 * I - 1 = p * s := Int.dvd_of_emod_eq_zero (by rw [Int.sub_emod, inv, Int.emod_eq_of_lt (show (0 : Int) ≤ 1 by omega) (by omega), Int.sub_self, Int.zero_emod])
  have e : pairZ qs v v * u + 0 = Y + p * (t * I - (pairZ qs v v * u - Y) * s) := by grind
  rw [e, Int.add_mul_emod_self_left, Int.emod_eq_of_lt hg.1 hg.2]

end Go.Proofs.YtcocbainookkcaaGreat

/-
  Codes of small algebras; lists of zeros; equal lists; idempotents: walks.
  No condition.
-/
namespace Go.Proofs.YtcocbainookkcaaGreat
set_option maxRecDepth 100000
open Go.RowKit

def codeA (p : Int) (qs : List Int) (rows : List (List Int)) : Int := if codeM p qs rows = 0 then (if qs.length ≤ 4 then 0 else 3) else codeM p qs rows
theorem codeA_zero {p : Int} {qs : List Int} {rows : List (List Int)} (h : codeA p qs rows = 0) : codeM p qs rows = 0 ∧ qs.length ≤ 4 := by
  unfold codeA at h
  split at h
  · rename_i hm
    split at h
    · rename_i hr; exact ⟨hm, hr⟩
    · omega
  · rename_i hm; exact absurd h hm



/-! ### The first number other than 0 -/
def leadN (xs : List Int) : Nat := match (List.range xs.length).find? (fun i => nth xs i != 0) with | some i => i | none => xs.length
theorem leadN_eq {xs : List Int} {k : Nat} (hk : k ≤ xs.length) (hz : ∀ j, j < k → nth xs j = 0) (he : k = xs.length ∨ nth xs k ≠ 0) : leadN xs = k := by
  unfold leadN
  rcases Nat.lt_or_ge k xs.length with h | h
  · have hne : nth xs k ≠ 0 := by rcases he with he | he; omega; exact he
    have : (List.range xs.length).find? (fun i => nth xs i != 0) = some k := by
      rw [List.find?_range_eq_some]
      exact ⟨by simpa using hne, by simpa using h, fun j hj => by simp [hz j hj]⟩
    rw [this]
  · have : (List.range xs.length).find? (fun i => nth xs i != 0) = none := by
      rw [List.find?_range_eq_none]
      exact fun j hj => by simp [hz j (by omega)]
    rw [this]; simp only; omega
theorem leadN_le (xs : List Int) : leadN xs ≤ xs.length := by
  unfold leadN
  split
  · rename_i i h
    have := List.mem_of_find?_eq_some h
    simp at this; omega
  · exact Nat.le_refl _
theorem leadN_zero {xs : List Int} {j : Nat} (h : j < leadN xs) : nth xs j = 0 := by
  unfold leadN at h
  split at h
  · rename_i i hf
    rw [List.find?_range_eq_some] at hf
    simpa using hf.2.2 j h
  · rename_i hf
    rw [List.find?_range_eq_none] at hf
    simpa using hf j h
theorem leadN_ne {xs : List Int} (h : leadN xs < xs.length) : nth xs (leadN xs) ≠ 0 := by
  have h0 := h
  unfold leadN at h0 ⊢
  split at h0
  · rename_i i hf
    have := List.find?_some hf
    simpa using this
  · omega
def zeroB (xs : List Int) : Bool := decide (leadN xs = xs.length)
theorem zeroB_iff {xs : List Int} : zeroB xs = true ↔ ∀ j, j < xs.length → nth xs j = 0 := by
  simp only [zeroB, decide_eq_true_eq]
  constructor
  · intro h j hj; exact leadN_zero (by omega)
  · intro h; exact leadN_eq (Nat.le_refl _) (fun j hj => h j hj) (.inl rfl)
theorem zero_minus {p : Int} {x y : List Int} {n : Nat} (hp : 1 ≤ p) (hx : Good p n x) (hy : Good p n y) : zeroB (plusL p x y (-1) n) = eqB x y := by
  rw [Bool.eq_iff_iff, zeroB_iff, plusL_len]
  simp only [eqB, decide_eq_true_eq]
  constructor
  · intro h
    refine ext_nth (by rw [hx.1, hy.1]) (fun i hi => ?_)
    rw [hx.1] at hi
    have hi' := h i hi
    rw [plusL_nth hi] at hi'
    unfold plusN at hi'
    have h1 := hx.2 i hi
    have h2 := hy.2 i hi
    obtain ⟨c, hc⟩ := Int.dvd_of_emod_eq_zero hi'
    have hc0 : c = 0 := by
      rcases Int.lt_trichotomy c 0 with h | h | h
      · have : p * c ≤ p * -1 := Int.mul_le_mul_of_nonneg_left (by omega) (by omega)
        omega
      · exact h
      · have : p * 1 ≤ p * c := Int.mul_le_mul_of_nonneg_left (by omega) (by omega)
        omega
    rw [hc0] at hc; omega
  · rintro rfl i hi
    rw [plusL_nth hi]; unfold plusN
    rw [show nth x i + -1 * nth x i = 0 by omega]; simp

set_option maxHeartbeats 400000 in
theorem c_lead (a : Option Addr) (n cap : Nat) (xs : List Int) (w : World) (hl : n ≤ 4194303) (hx : RdC w a n xs) :
    Calls Tryz.prog 82 #[.slice a n cap] w fun e w' => e = .returned (.int .i64 (leadN xs)) ∧ Ext w w' := by
  have HX := Lib.hid hx
  clear hx
  go_enter Tryz.func82, Tryz.ntmps82
  go_wp2_with (fail)
  go_loopw [3] (fun i wr => ∃ k : Nat, k ≤ n ∧ i = .int .i64 k ∧ Hid (∀ j, j < k → nth xs j = 0) ∧ Ext w wr) (fun i _ => n - (intOf i).toNat)
  case atStart => exact ⟨0, Nat.zero_le _, rfl, Lib.hid (fun j hj => by omega), Ext.refl _⟩
  case round =>
    obtain ⟨k, hk, rfl, HT, hext⟩ := hrel
    by_cases hlt : k < n
    · obtain ⟨b, off, rfl, hc⟩ := HX.out.2 k hlt
      have hc' := hext.cell hc
      clear hc
      by_cases hz : nth xs k = 0
      · have HZ := Lib.hid hz
        have hzb : (nth xs k == 0) = true := by simp [hz]
        clear hz
        go_wp2_with (fail)
        go_roundw
        case rel => exact ⟨k + 1, by omega, by go_num, Lib.hid (fun j hj => by
          by_cases hjk : j = k
          · subst hjk; exact HZ.out
          · exact HT.out j (by omega)), hext⟩
        case measure => simp [intOf]; omega
      · have HZ := Lib.hid hz
        have hzb : (nth xs k == 0) = false := by simp [hz]
        clear hz
        go_wp2_with (fail)
        go_ret
        exact ⟨ret_int (by rw [leadN_eq (by rw [HX.out.1]; omega) HT.out (.inr HZ.out)]), hext⟩
    · go_wp2_with (fail)
      go_ret
      exact ⟨ret_int (by rw [leadN_eq (by rw [HX.out.1]; omega) HT.out (.inl (by rw [HX.out.1]; omega))]), hext⟩

end Go.Proofs.YtcocbainookkcaaGreat

/-
  Kernels, solutions and inverses from reduced bases, in plain words.
  No condition.
-/
namespace Go.Proofs.YtcocbainookkcaaGreat
set_option maxRecDepth 100000
open Go.RowKit

/-- The row whose first number other than 0 is at place t. -/
def pivIx (red : List (List Int)) (t : Nat) : Option Nat := (List.range red.length).find? (fun i => leadN (nthR red i) == t)
theorem pivIx_some {red : List (List Int)} {t i : Nat} (h : pivIx red t = some i) : i < red.length ∧ leadN (nthR red i) = t := by
  unfold pivIx at h
  rw [List.find?_range_eq_some] at h
  exact ⟨by simpa using h.2.1, by simpa using h.1⟩
theorem pivIx_none {red : List (List Int)} {t : Nat} (h : pivIx red t = none) : ∀ i, i < red.length → leadN (nthR red i) ≠ t := by
  unfold pivIx at h
  rw [List.find?_range_eq_none] at h
  intro i hi
  simpa using h i hi

theorem Basis.leadN {p : Int} {m : Nat} {red : List (List Int)} {c : Nat → Nat} (h : Basis p m red c) {i : Nat} (hi : i < red.length) : leadN (nthR red i) = c i := by
  have hl := (h.good i hi).1
  have hc := h.clt i hi
  refine leadN_eq (by omega) (h.lead i hi) (.inr ?_)
  rw [h.one i hi i hi, if_pos rfl]
  omega
theorem Basis.inj {p : Int} {m : Nat} {red : List (List Int)} {c : Nat → Nat} (h : Basis p m red c) {i j : Nat} (hi : i < red.length) (hj : j < red.length) (he : c i = c j) : i = j := by
  rcases Nat.lt_trichotomy i j with hij | hij | hij
  · have := h.mono i j hij hj; omega
  · exact hij
  · have := h.mono j i hij hi; omega
theorem Basis.piv {p : Int} {m : Nat} {red : List (List Int)} {c : Nat → Nat} (h : Basis p m red c) {i : Nat} (hi : i < red.length) : pivIx red (c i) = some i := by
  cases hp : pivIx red (c i) with
  | none => exact absurd (h.leadN hi) (pivIx_none hp i hi)
  | some j =>
    obtain ⟨hj, hl⟩ := pivIx_some hp
    rw [h.leadN hj] at hl
    rw [h.inj hj hi hl]

/-- The vector of the kernel with 1 at a free place f. -/
def kerN (p : Int) (red : List (List Int)) (f t : Nat) : Int := if t = f then 1 else match pivIx red t with | some i => (-(nth (nthR red i) f)) % p | none => 0
def kerV (p : Int) (n : Nat) (red : List (List Int)) (f : Nat) : List Int := (List.range n).map (kerN p red f)
theorem kerV_len {p : Int} {n : Nat} {red : List (List Int)} {f : Nat} : (kerV p n red f).length = n := by simp [kerV]
theorem kerV_nth {p : Int} {n : Nat} {red : List (List Int)} {f t : Nat} (ht : t < n) : nth (kerV p n red f) t = kerN p red f t := by
  unfold kerV; rw [nth_map (by simpa using ht)]; simp
theorem kerV_good {p : Int} {n : Nat} {red : List (List Int)} {f : Nat} (hp : 3 ≤ p) : Good p n (kerV p n red f) := ⟨kerV_len, fun t ht => by
  rw [kerV_nth ht]
  unfold kerN
  split
  · omega
  · split
    · exact ⟨Int.emod_nonneg _ (by omega), Int.emod_lt_of_pos _ (by omega)⟩
    · omega⟩
/-- The free places ahead of k. -/
def freeL (red : List (List Int)) (k : Nat) : List Nat := (List.range k).filter fun t => (pivIx red t).isNone
theorem freeL_no {red : List (List Int)} {k i : Nat} (h : pivIx red k = some i) : freeL red (k + 1) = freeL red k := by simp [freeL, List.range_succ, List.filter_append, h]
theorem freeL_yes {red : List (List Int)} {k : Nat} (h : pivIx red k = none) : freeL red (k + 1) = freeL red k ++ [k] := by simp [freeL, List.range_succ, List.filter_append, h]
theorem freeL_len (red : List (List Int)) (k : Nat) : (freeL red k).length ≤ k := by
  unfold freeL
  have := List.length_filter_le (fun t => (pivIx red t).isNone) (List.range k)
  simpa using this
def kerR (p : Int) (n : Nat) (red : List (List Int)) (k : Nat) : List (List Int) := (freeL red k).map (kerV p n red)
theorem kerR_good {p : Int} {n : Nat} {red : List (List Int)} {k : Nat} (hp : 3 ≤ p) : RowsG p n (kerR p n red k) := fun i hi => by
  unfold kerR at hi ⊢
  rw [nthR_map (by simpa using hi)]
  exact kerV_good hp
/-- The reduced basis of the vectors with n numbers whose products with all rows are 0. -/
def kernL (p : Int) (n : Nat) (rows : List (List Int)) : List (List Int) := basisL p n (kerR p n (basisL p n rows) n)

/-- The solution that is 0 at all free places. -/
def wideL (rows : List (List Int)) (v : List Int) (k : Nat) : List (List Int) := (List.range k).map fun i => nthR rows i ++ [nth v i]
theorem wideL_succ (rows : List (List Int)) (v : List Int) (k : Nat) : wideL rows v (k + 1) = wideL rows v k ++ [nthR rows k ++ [nth v k]] := by simp [wideL, List.range_succ]
theorem wideL_len (rows : List (List Int)) (v : List Int) (k : Nat) : (wideL rows v k).length = k := by simp [wideL]
theorem good_snoc {p : Int} {n : Nat} {x : List Int} {v : Int} (hx : Good p n x) (h0 : 0 ≤ v) (h1 : v < p) : Good p (n + 1) (x ++ [v]) := by
  refine ⟨by simp [hx.1], fun i hi => ?_⟩
  by_cases h : i < n
  · rw [nth_append_left (by rw [hx.1]; exact h)]; exact hx.2 i h
  · have : i = x.length := by rw [hx.1]; omega
    rw [this, nth_append_len]; exact ⟨h0, h1⟩
theorem wideL_good {p : Int} {n : Nat} {rows : List (List Int)} {v : List Int} {k : Nat} (hg : RowsG p n rows) (hv : Good p k v) (hk : k ≤ rows.length) : RowsG p (n + 1) (wideL rows v k) := fun i hi => by
  rw [wideL_len] at hi
  unfold wideL
  rw [nthR_map (by simpa using hi)]
  simp only [List.getElem_range]
  exact good_snoc (hg i (by omega)) (hv.2 i hi).1 (hv.2 i hi).2
def solN (n : Nat) (red : List (List Int)) (t : Nat) : Int := match pivIx red t with | some i => nth (nthR red i) n | none => 0
def solL (n : Nat) (red : List (List Int)) : List Int := (List.range n).map (solN n red)
def okS (n : Nat) (red : List (List Int)) : Bool := (pivIx red n).isNone
/-- The solution as it stands when the first k rows have been gone through. -/
def solS (n : Nat) (red : List (List Int)) : Nat → List Int
  | 0 => List.replicate n 0
  | k + 1 => (solS n red k).set (leadN (nthR red k)) (nth (nthR red k) n)
theorem solS_len {n : Nat} {red : List (List Int)} : ∀ k, (solS n red k).length = n
  | 0 => by simp [solS]
  | k + 1 => by simp [solS, solS_len k]
theorem solS_nth {p : Int} {m n : Nat} {red : List (List Int)} {c : Nat → Nat} (h : Basis p m red c) : ∀ k, k ≤ red.length → ∀ t, t < n → nth (solS n red k) t = match pivIx red t with | some i => if i < k then nth (nthR red i) n else 0 | none => 0
  | 0, _, t, ht => by
    unfold solS
    rw [nth_replicate ht]
    split
    · rw [if_neg (by omega)]
    · rfl
  | k + 1, hk, t, ht => by
    have ih := solS_nth h k (by omega) t ht (n := n)
    show nth ((solS n red k).set (leadN (nthR red k)) (nth (nthR red k) n)) t = _
    by_cases hl : leadN (nthR red k) = t
    · have hkl : k < red.length := by omega
      rw [hl, nth_set (by rw [solS_len]; exact ht), if_pos rfl]
      have hp : pivIx red t = some k := by rw [← hl, h.leadN hkl]; exact h.piv hkl
      rw [hp]
      show _ = if k < k + 1 then _ else _
      rw [if_pos (by omega)]
    · have e : nth ((solS n red k).set (leadN (nthR red k)) (nth (nthR red k) n)) t = nth (solS n red k) t := by
        simp only [nth]
        rw [List.getD_eq_getElem?_getD, List.getElem?_set_ne hl, ← List.getD_eq_getElem?_getD]
      rw [e, ih]
      cases hp : pivIx red t with
      | none => rfl
      | some i =>
        show (if i < k then _ else _) = if i < k + 1 then _ else _
        have : i ≠ k := fun hik => by subst hik; exact hl (pivIx_some hp).2
        by_cases hi : i < k
        · rw [if_pos hi, if_pos (by omega)]
        · rw [if_neg hi, if_neg (by omega)]
theorem solS_all {p : Int} {m n : Nat} {red : List (List Int)} {c : Nat → Nat} (h : Basis p m red c) : solS n red red.length = solL n red := by
  refine ext_nth (by rw [solS_len]; simp [solL]) fun t ht => ?_
  rw [solS_len] at ht
  rw [solS_nth h _ (Nat.le_refl _) t ht]
  unfold solL
  rw [nth_map (by simpa using ht)]
  simp only [List.getElem_range]
  unfold solN
  cases hp : pivIx red t with
  | none => rfl
  | some i => show (if i < red.length then _ else _) = _; rw [if_pos (pivIx_some hp).1]
theorem nth_bd0 {p : Int} {m : Nat} {x : List Int} (hp : 1 ≤ p) (hx : Good p m x) (i : Nat) : 0 ≤ nth x i ∧ nth x i < p := by
  by_cases h : i < m
  · exact hx.2 i h
  · have : nth x i = 0 := by
      simp only [nth, List.getD_eq_getElem?_getD]
      rw [List.getElem?_eq_none (by rw [hx.1]; omega)]; rfl
    omega
theorem sol_good {p : Int} {m n : Nat} {red : List (List Int)} (hp : 1 ≤ p) (hg : RowsG p m red) : Good p n (solL n red) := ⟨by simp [solL], fun t ht => by
  unfold solL
  rw [nth_map (by simpa using ht)]
  simp only [List.getElem_range]
  unfold solN
  split
  · rename_i i h; exact nth_bd0 hp (hg i (pivIx_some h).1) n
  · omega⟩

end Go.Proofs.YtcocbainookkcaaGreat

/-
  Reduced bases have the same solutions; solutions of linear systems; in plain numbers.
  No condition. No program in sight.
-/
namespace Go.Proofs.YtcocbainookkcaaGreat
set_option maxRecDepth 100000
open Go.RowKit

def dotN (m : Nat) (x z : List Int) : Int := sumN m fun t => nth x t * nth z t
theorem dot_plus {p k : Int} {m : Nat} {x y z : List Int} : dotN m (plusL p x y k m) z % p = (dotN m x z + k * dotN m y z) % p := by
  unfold dotN
  rw [← sumN_mul, ← sumN_add]
  refine sumN_emod fun t ht => ?_
  rw [plusL_nth ht, plusN]
  have : (nth x t + k * nth y t) * nth z t = nth x t * nth z t + k * (nth y t * nth z t) := by rw [Int.add_mul, Int.mul_assoc]
  rw [← this]
  exact mul_emod_congr (Int.emod_emod _ _) rfl
theorem dot_scale {p k : Int} {m : Nat} {x z : List Int} : dotN m (scaleL p x k m) z % p = (k * dotN m x z) % p := by
  unfold dotN
  rw [← sumN_mul]
  refine sumN_emod fun t ht => ?_
  rw [scaleL_nth ht, scaleN]
  have : nth x t * k * nth z t = k * (nth x t * nth z t) := by ac_rfl
  rw [← this]
  exact mul_emod_congr (Int.emod_emod _ _) rfl

/-- The product with each row is 0. -/
def Kill (p : Int) (m : Nat) (rows : List (List Int)) (z : List Int) : Prop := ∀ i, i < rows.length → dotN m (nthR rows i) z % p = 0

theorem kill_up {p : Int} {m d k i : Nat} {rows : List (List Int)} {z : List Int} (hp : primeB p = true) (hk : k < m) (hg : RowsG p m rows) (hd : d < rows.length) (hi : i < rows.length) (hne : nth (nthR rows i) k ≠ 0) :
    Kill p m (upG p m rows d k i) z ↔ Kill p m rows z := by
  have hpb := prime_bd hp
  have hb := (hg i hi).2 k hk
  have hinv := (inv_spec hp (show 0 < nth (nthR rows i) k by omega) hb.2).2.1
  unfold Kill
  rw [upG_len]
  constructor
  · intro h j hj
    by_cases hji : j = i
    · subst hji
      have := h d hd
      rw [upG_nth hd hi, if_pos rfl, dot_scale] at this
      have e : (nth (nthR rows j) k * (invN p (nth (nthR rows j) k) * dotN m (nthR rows j) z)) % p = 0 := by
        rw [Int.mul_emod, this]; simp
      rw [← Int.mul_assoc, Int.mul_emod, hinv] at e
      rwa [Int.one_mul, Int.emod_emod] at e
    · by_cases hjd : j = d
      · subst hjd
        have := h i hi
        rwa [upG_nth hd hi, if_neg (Ne.symm hji), if_pos rfl] at this
      · have := h j hj
        rwa [upG_nth hd hi, if_neg hjd, if_neg hji] at this
  · intro h j hj
    rw [upG_nth hd hi]
    split
    · rw [dot_scale, Int.mul_emod, h i hi]; simp
    · split
      · exact h d hd
      · exact h j hj
theorem kill_clr {p : Int} {m d k : Nat} {rows : List (List Int)} {z : List Int} (hd : d < rows.length) :
    Kill p m (clrS p k m d rows rows.length) z ↔ Kill p m rows z := by
  unfold Kill
  rw [clrS_len]
  have hD : nthR (clrS p k m d rows rows.length) d = nthR rows d := by rw [clrS_nth _ (Nat.le_refl _), if_neg (by omega)]
  constructor
  · intro h j hj
    have h1 := h j hj
    have h2 := h d hd
    rw [hD] at h2
    rw [clrS_nth _ (Nat.le_refl _)] at h1
    split at h1
    · rw [dot_plus, Int.add_emod, Int.mul_emod, h2] at h1
      simpa using h1
    · exact h1
  · intro h j hj
    rw [clrS_nth _ (Nat.le_refl _)]
    split
    · rw [dot_plus, Int.add_emod, h j hj, Int.mul_emod, h d hd]; simp
    · exact h j hj
theorem kill_gauss {p : Int} {m : Nat} {rows : List (List Int)} {z : List Int} (hp : primeB p = true) (hg : RowsG p m rows) : ∀ k, k ≤ m → (Kill p m (gaussS p m rows k).1 z ↔ Kill p m rows z)
  | 0, _ => Iff.rfl
  | k + 1, hk => by
    obtain ⟨h1, c, h2⟩ := gaussS_red hp hg k (by omega)
    obtain ⟨p1, p2, p3, p4⟩ := pivG_spec (gaussS p m rows k).1 k (gaussS p m rows k).2 h2.dle
    rw [← kill_gauss hp hg k (by omega)]
    show Kill p m (stepG p m (gaussS p m rows k) k).1 z ↔ _
    by_cases hn : pivG (gaussS p m rows k).1 k (gaussS p m rows k).2 = (gaussS p m rows k).1.length
    · rw [stepG_no hn]
    · have hi : pivG (gaussS p m rows k).1 k (gaussS p m rows k).2 < (gaussS p m rows k).1.length := by omega
      have hd : (gaussS p m rows k).2 < (gaussS p m rows k).1.length := by omega
      rw [stepG_yes rfl hi, ← kill_up hp (show k < m by omega) h1 hd hi (by rcases p4 with h | h; omega; exact h)]
      have := kill_clr (p := p) (m := m) (k := k) (rows := upG p m (gaussS p m rows k).1 (gaussS p m rows k).2 k (pivG (gaussS p m rows k).1 k (gaussS p m rows k).2)) (z := z) (d := (gaussS p m rows k).2) (by rw [upG_len]; exact hd)
      rw [upG_len] at this
      exact this
/-- The reduced basis has the same solutions. -/
theorem kill_basis {p : Int} {m : Nat} {rows : List (List Int)} {z : List Int} (hp : primeB p = true) (hg : RowsG p m rows) : Kill p m (basisL p m rows) z ↔ Kill p m rows z := by
  rw [← kill_gauss hp hg m (Nat.le_refl _)]
  obtain ⟨h1, c, h2⟩ := gaussS_red hp hg m (Nat.le_refl _)
  have hl : (basisL p m rows).length = (gaussS p m rows m).2 := by unfold basisL; rw [List.length_take, Nat.min_eq_left h2.dle]
  unfold Kill
  constructor
  · intro h i hi
    by_cases hid : i < (gaussS p m rows m).2
    · have := h i (by omega)
      unfold basisL at this
      rwa [nthR_take hid] at this
    · unfold dotN
      rw [sumN_zero fun t ht => by rw [h2.rest i (by omega) hi t ht, Int.zero_mul]]; simp
  · intro h i hi
    have := h i (by have := h2.dle; omega)
    unfold basisL
    rwa [nthR_take (by omega)]

/-! ### Linear systems -/
theorem nth_len {x : List Int} {n : Nat} {v : Int} (h : x.length = n) : nth (x ++ [v]) n = v := by subst h; exact nth_append_len
theorem dot_snoc {n : Nat} {x y : List Int} {v : Int} (hx : x.length = n) (hy : y.length = n) : dotN (n + 1) (x ++ [v]) (y ++ [-1]) = dotN n x y - v := by
  unfold dotN
  simp only [sumN]
  rw [nth_len hx, nth_len hy, sumN_congr (g := fun t => nth x t * nth y t) fun t ht => by rw [nth_append_left (by omega), nth_append_left (by omega)]]
  omega
/-- y solves the system: the product with row i is number i of v. -/
def Solves (p : Int) (n : Nat) (rows : List (List Int)) (v y : List Int) : Prop := ∀ i, i < rows.length → dotN n (nthR rows i) y % p = nth v i % p
theorem sub_zero_iff {p a b : Int} : (a - b) % p = 0 ↔ a % p = b % p := Int.emod_eq_emod_iff_emod_sub_eq_zero.symm
theorem solves_kill {p : Int} {n : Nat} {rows : List (List Int)} {v y : List Int} (hg : RowsG p n rows) (hy : y.length = n) : Solves p n rows v y ↔ Kill p (n + 1) (wideL rows v rows.length) (y ++ [-1]) := by
  unfold Solves Kill
  rw [wideL_len]
  have e : ∀ i, i < rows.length → nthR (wideL rows v rows.length) i = nthR rows i ++ [nth v i] := fun i hi => by
    unfold wideL; rw [nthR_map (by simpa using hi)]; simp
  constructor
  · intro h i hi
    rw [e i hi, dot_snoc (hg i hi).1 hy]
    exact sub_zero_iff.2 (h i hi)
  · intro h i hi
    have := h i hi
    rw [e i hi, dot_snoc (hg i hi).1 hy] at this
    exact sub_zero_iff.1 this
theorem okS_iff {p : Int} {m n : Nat} {red : List (List Int)} {c : Nat → Nat} (h : Basis p m red c) : okS n red = true ↔ ∀ i, i < red.length → c i ≠ n := by
  unfold okS
  rw [Option.isNone_iff_eq_none]
  constructor
  · intro hn i hi hc
    exact pivIx_none hn i hi (by rw [h.leadN hi, hc])
  · intro hc
    cases hp : pivIx red n with
    | none => rfl
    | some i =>
      obtain ⟨hi, hl⟩ := pivIx_some hp
      rw [h.leadN hi] at hl
      exact absurd hl (hc i hi)
theorem solL_len {n : Nat} {red : List (List Int)} : (solL n red).length = n := by simp [solL]
theorem sol_kill {p : Int} {n : Nat} {red : List (List Int)} {c : Nat → Nat} (h : Basis p (n + 1) red c) (hok : okS n red = true) : Kill p (n + 1) red (solL n red ++ [-1]) := by
  intro i hi
  have hc := (okS_iff h).1 hok
  have e : dotN (n + 1) (nthR red i) (solL n red ++ [-1]) = dotN n (nthR red i) (solL n red) - nth (nthR red i) n := by
    unfold dotN
    simp only [sumN]
    rw [nth_len solL_len, sumN_congr (g := fun t => nth (nthR red i) t * nth (solL n red) t) fun t ht => by rw [nth_append_left (by rw [solL_len]; exact ht)]]
    omega
  rw [e]
  have hci : c i < n := by have := h.clt i hi; have := hc i hi; omega
  have : dotN n (nthR red i) (solL n red) = nth (nthR red i) n := by
    unfold dotN
    have sn : ∀ t, t < n → nth (solL n red) t = solN n red t := fun t ht => by unfold solL; rw [nth_map (by simpa using ht)]; simp
    rw [sumN_single hci fun t ht hne => by
      rw [sn t ht]
      unfold solN
      cases hp : pivIx red t with
      | none => simp
      | some j =>
        obtain ⟨hj, hl⟩ := pivIx_some hp
        rw [h.leadN hj] at hl
        subst hl
        rw [h.one j hj i hi, if_neg (fun e => hne (by rw [e]))]; simp]
    rw [h.one i hi i hi, if_pos rfl, sn _ hci, Int.one_mul]
    unfold solN
    rw [h.piv hi]
  rw [this]; simp
theorem sol_spec {p : Int} {n : Nat} {rows : List (List Int)} {v : List Int} (hp : primeB p = true) (hg : RowsG p n rows) (hv : Good p rows.length v) (hok : okS n (basisL p (n + 1) (wideL rows v rows.length)) = true) :
    Solves p n rows v (solL n (basisL p (n + 1) (wideL rows v rows.length))) := by
  have hw := wideL_good hg hv (Nat.le_refl _)
  obtain ⟨c, hb⟩ := basis_red hp hw
  rw [solves_kill hg solL_len, ← kill_basis hp hw]
  exact sol_kill hb hok
theorem sol_exists {p : Int} {n : Nat} {rows : List (List Int)} {v y : List Int} (hp : primeB p = true) (hg : RowsG p n rows) (hv : Good p rows.length v) (hy : y.length = n) (h : Solves p n rows v y) :
    okS n (basisL p (n + 1) (wideL rows v rows.length)) = true := by
  have hpb := prime_bd hp
  have hw := wideL_good hg hv (Nat.le_refl _)
  obtain ⟨c, hb⟩ := basis_red hp hw
  rw [solves_kill hg hy, ← kill_basis hp hw] at h
  rw [okS_iff hb]
  intro i hi hc
  have hk := h i hi
  unfold dotN at hk
  rw [sumN_single (k := n) (by omega) fun t ht hne => by rw [hb.lead i hi t (by omega), Int.zero_mul]] at hk
  have h1 := hb.one i hi i hi
  rw [hc, if_pos rfl] at h1
  rw [h1, nth_len hy] at hk
  have hq : p = 3 ∨ p = 5 ∨ p = 7 ∨ p = 11 ∨ p = 13 := by simp [primeB] at hp; omega
  rcases hq with rfl | rfl | rfl | rfl | rfl <;> simp at hk

/-! ### The dove-cote -/
theorem dove : ∀ (M : Nat) (f : Nat → Nat), (∀ k, k ≤ M → f k < M) → ∃ i j, i < j ∧ j ≤ M ∧ f i = f j
  | 0, f, h => absurd (h 0 (Nat.le_refl _)) (Nat.not_lt_zero _)
  | M + 1, f, h => by
    by_cases hx : ∃ j, j < M + 1 ∧ f j = f (M + 1)
    · obtain ⟨j, hj, he⟩ := hx
      exact ⟨j, M + 1, hj, Nat.le_refl _, he⟩
    · have hx' : ∀ j, j < M + 1 → f j ≠ f (M + 1) := fun j hj he => hx ⟨j, hj, he⟩
      obtain ⟨i, j, hij, hj, he⟩ := dove M (fun k => if f k = M then f (M + 1) else f k) fun k hk => by
        have h1 := h k (by omega)
        have h2 := h (M + 1) (Nat.le_refl _)
        have h3 := hx' k (by omega)
        show (if f k = M then f (M + 1) else f k) < M
        split <;> omega
      refine ⟨i, j, hij, by omega, ?_⟩
      have he : (if f i = M then f (M + 1) else f i) = (if f j = M then f (M + 1) else f j) := he
      have h3 := hx' i (by omega)
      have h4 := hx' j (by omega)
      split at he <;> split at he
      · omega
      · exact absurd he.symm h4
      · exact absurd he h3
      · exact he
def encL (q : Nat) : List Int → Nat
  | [] => 0
  | x :: xs => x.toNat + q * encL q xs
theorem encL_lt {p : Int} {q : Nat} (hq : p = q) : ∀ (n : Nat) (x : List Int), Good p n x → encL q x < q ^ n
  | 0, x, h => by
    have : x = [] := List.length_eq_zero_iff.1 h.1
    subst this; exact Nat.one_pos
  | n + 1, [], h => by have := h.1; simp at this
  | n + 1, x :: xs, h => by
    have hx := h.2 0 (by omega)
    have hxs : Good p n xs := ⟨by have := h.1; simpa using this, fun i hi => by have := h.2 (i + 1) (by omega); simpa [nth] using this⟩
    have ih := encL_lt hq n xs hxs
    have h0 : nth (x :: xs) 0 = x := by simp [nth]
    rw [h0] at hx
    show x.toNat + q * encL q xs < q ^ (n + 1)
    rw [Nat.pow_succ, Nat.mul_comm (q ^ n)]
    have : q * (encL q xs + 1) ≤ q * q ^ n := Nat.mul_le_mul_left _ ih
    rw [Nat.mul_add, Nat.mul_one] at this
    omega
theorem encL_inj {p : Int} {q : Nat} (hq : p = q) : ∀ (n : Nat) (x y : List Int), Good p n x → Good p n y → encL q x = encL q y → x = y
  | 0, x, y, h, h', _ => by rw [List.length_eq_zero_iff.1 h.1, List.length_eq_zero_iff.1 h'.1]
  | n + 1, [], _, h, _, _ => by have := h.1; simp at this
  | n + 1, _ :: _, [], _, h, _ => by have := h.1; simp at this
  | n + 1, x :: xs, y :: ys, h, h', he => by
    have hx := h.2 0 (by omega)
    have hy := h'.2 0 (by omega)
    have g : ∀ z zs, Good p (n + 1) (z :: zs) → Good p n zs := fun z zs h => ⟨by have := h.1; simpa using this, fun i hi => by have := h.2 (i + 1) (by omega); simpa [nth] using this⟩
    have h0 : ∀ z zs, nth (z :: zs) 0 = z := fun z zs => by simp [nth]
    rw [h0] at hx hy
    have he' : x.toNat + q * encL q xs = y.toNat + q * encL q ys := he
    have hxl : x.toNat < q := by omega
    have hyl : y.toNat < q := by omega
    have e1 : x.toNat = y.toNat := by
      have := congrArg (· % q) he'
      simp only [Nat.add_mul_mod_self_left] at this
      rwa [Nat.mod_eq_of_lt hxl, Nat.mod_eq_of_lt hyl] at this
    have e2 : encL q xs = encL q ys := by
      have : q * encL q xs = q * encL q ys := by omega
      exact Nat.eq_of_mul_eq_mul_left (by omega) this
    rw [encL_inj hq n xs ys (g _ _ h) (g _ _ h') e2, show x = y by omega]

/-- A right inverse is a left inverse. -/
theorem inv_both {p : Int} {qs x y : List Int} (hp : 3 ≤ p) (hd : qs.length ≤ 6) (_hx : Good p (2 ^ qs.length) x) (hy : Good p (2 ^ qs.length) y) (h : prodL p qs tkA x y = bladeL (2 ^ qs.length) 0) : prodL p qs tkA y x = bladeL (2 ^ qs.length) 0 := by
  have hq : p = (p.toNat : Int) := by omega
  obtain ⟨i, j, hij, _, he⟩ := dove (p.toNat ^ 2 ^ qs.length) (fun k => encL p.toNat (powL p qs x k)) fun k _ => encL_lt hq _ _ (pow_good hp k)
  have he' : powL p qs x i = powL p qs x j := encL_inj hq _ _ _ (pow_good hp i) (pow_good hp j) he
  -- x^i y^i = 1
  have cancel : ∀ i, prodL p qs tkA (powL p qs x i) (powL p qs y i) = bladeL (2 ^ qs.length) 0 := fun i => by
    induction i with
    | zero => exact times_one (by omega) (blade_good hp)
    | succ i ih =>
      have e : powL p qs y (i + 1) = prodL p qs tkA y (powL p qs y i) := by
        rw [Nat.add_comm, ← pow_add hp hd 1 i, pow_one hp hy]
      show prodL p qs tkA (prodL p qs tkA (powL p qs x i) x) (powL p qs y (i + 1)) = _
      rw [e, prod_assoc (by omega) hd, ← prod_assoc (x := x) (by omega) hd, h, one_times hp (pow_good hp i), ih]
  have hn : powL p qs x (j - i) = bladeL (2 ^ qs.length) 0 := by
    have h1 := cancel i
    rw [he', show j = (j - i) + i by omega, ← pow_add hp hd, prod_assoc (by omega) hd, cancel i, times_one (by omega) (pow_good hp _)] at h1
    exact h1
  obtain ⟨k, hk⟩ : ∃ k, j - i = k + 1 := ⟨j - i - 1, by omega⟩
  rw [hk] at hn
  -- y = x^k
  have hyk : y = powL p qs x k := by
    have : prodL p qs tkA (powL p qs x (k + 1)) y = y := by rw [hn]; exact one_times hp hy
    rw [← this]
    show prodL p qs tkA (prodL p qs tkA (powL p qs x k) x) y = _
    rw [prod_assoc (by omega) hd, h, times_one (by omega) (pow_good hp k)]
  rw [hyk]; exact hn

end Go.Proofs.YtcocbainookkcaaGreat
