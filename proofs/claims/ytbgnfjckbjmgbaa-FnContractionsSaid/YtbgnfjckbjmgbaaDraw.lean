/-
  Draws of numbers, lists and spaces: what they leave.
  No condition.
-/
import Derived.Test.YtbgnfjckbjmgbaaSrc
import Derived.Test.YtbgnfjckbjmgbaaCheck
namespace Go.Proofs.Ytbgnfjckbjmgbaa
set_option maxRecDepth 100000
open Go.RowKit

/-- The cells of a row that is written out. -/
theorem rdC_lit (w : World) (T : TypeId) (xs : List Int) : RdC (w.alloc (.cells (xs.map (.int .i64)).toArray T)) (some ⟨w.heap.size, 0, none⟩) xs.length xs := by
  refine ⟨rfl, fun i hi => ⟨w.heap.size, 0, rfl, ?_⟩⟩
  simp [hi, nth_eq hi]

theorem nth_in {xs : List Int} {i : Nat} (h : i < xs.length) : nth xs i ∈ xs := nth_mem h

set_option maxHeartbeats 400000 in
theorem s_pick (S : SrcP) (b m cap : Nat) (xs : List Int) (w : World) (hS : Src S w) (hm : 0 < m) (hm2 : m ≤ 1000) (hx : RdC w (some ⟨b, 0, none⟩) m xs) (hb : b ≠ S.g) :
    Calls Try.prog 100 #[.pointer (some ⟨S.g, 0, none⟩), .slice (some ⟨b, 0, none⟩) m cap] w fun e w' => ∃ r, e = .returned (.int .i64 r) ∧ r ∈ xs ∧ Drw S w w' := by
  have HX := Lib.hid hx
  clear hx
  go_enter Try.func100, Try.ntmps100
  have arm : ∀ r : Int, NextR m r → ∃ k : Nat, r = (k : Int) ∧ k < m ∧ w.cell? ⟨b, k, none⟩ = some (.int .i64 (nth xs k)) := by
    intro r hr
    have hr1 := hr.2 (by omega)
    refine ⟨r.toNat, by omega, by omega, ?_⟩
    obtain ⟨b', o', hab, hc⟩ := HX.out.2 r.toNat (by omega)
    simp only [Option.some.injEq, Addr.mk.injEq] at hab
    obtain ⟨rfl, rfl, _⟩ := hab
    simpa using hc
  have hm0 : (m : Int) ≤ 9223372036854775807 := by omega
  go_wp2_with (go_at_call 101; refine (s_next S m _ hS hm0).mono ?_; rintro e w1 ⟨r, rfl, hr, g1⟩; obtain ⟨k, rfl, hk, hc⟩ := arm r hr; have hc1 := g1.cell (p := ⟨b, k, none⟩) hb hc)
  go_ret
  exact ⟨_, rfl, nth_mem (by rw [HX.out.1]; exact hk), g1⟩

set_option maxHeartbeats 400000 in
theorem s_drawPrime (S : SrcP) (w : World) (hS : Src S w) :
    Calls Try.prog 163 #[.pointer (some ⟨S.g, 0, none⟩)] w fun e w' => ∃ p, e = .returned (.int .i64 p) ∧ primeB p = true ∧ 3 ≤ p ∧ p ≤ 13 ∧ Drw S w w' := by
  have hlt := hS.lt
  go_enter Try.func163, Try.ntmps163
  go_wp2_with (go_at_call 100; refine Calls.mono (s_pick S _ _ _ _ _ ((Drw.of_ext (ext_alloc _ _)).src hS) (by omega) (by omega) (rdC_lit w _ [3, 5, 7, 11, 13, 3, 5, 7]) (Nat.ne_of_gt hlt)) ?_; rintro e w1 ⟨r, rfl, hr, g1⟩)
  go_ret
  have hp : primeB r = true ∧ 3 ≤ r ∧ r ≤ 13 := by
    simp only [List.mem_cons, List.not_mem_nil, or_false] at hr
    rcases hr with rfl | rfl | rfl | rfl | rfl | rfl | rfl | rfl <;> decide +kernel
  exact ⟨r, rfl, hp.1, hp.2.1, hp.2.2, (Drw.of_ext (ext_alloc _ _)).trans g1⟩
set_option maxHeartbeats 1000000 in
theorem s_dlist (S : SrcP) (p : Int) (n : Nat) (w : World) (hS : Src S w) (hp : p ≤ 9223372036854775807) (hn : n ≤ 1000) :
    Calls Try.prog 180 #[.pointer (some ⟨S.g, 0, none⟩), .int .i64 p, .int .i64 n] w fun e w' => ∃ a cap xs, e = .returned (.slice a n cap) ∧ OwnC w.heap.size w' a n cap xs ∧ (1 ≤ p → isB p xs = true) ∧ Drw S w w' := by
  have HS := Lib.hid hS
  have hlt := hS.lt
  clear hS
  go_enter Try.func180, Try.ntmps180
  go_wp2_with (fail)
  go_loopw [2, 7] (fun i o wr => ∃ (k : Nat) (a : Option Addr) (cap : Nat) (xs : List Int), k ≤ n ∧ i = .int .i64 ((n - k : Nat) : Int) ∧ o = .slice a k cap ∧ OwnC w.heap.size wr a k cap xs ∧ Hid (1 ≤ p → isB p xs = true) ∧ Hid (Drw S w wr)) (fun i o _ => (intOf i).toNat)
  case atStart => exact ⟨0, _, 0, [], Nat.zero_le _, by simp, rfl, own_empty w, Lib.hid (fun _ => by simp [isB]), Lib.hid (Drw.of_ext (ext_alloc _ _))⟩
  case round =>
    obtain ⟨k, a, cap, xs, hk, rfl, rfl, ho, HB, HD⟩ := hrel
    have HO := Lib.hid ho
    clear ho
    by_cases hkn : k < n
    · obtain ⟨m, hm⟩ : ∃ m : Nat, n - k = m + 1 := ⟨n - k - 1, by omega⟩
      rw [hm]
      go_wp2_with (first | (go_at_call 101; refine (s_next S p wr (HD.out.src HS.out) hp).mono ?_; rintro e w1 ⟨r, rfl, hr, g1⟩; have HR := Lib.hid hr; have G1 := Lib.hid g1; clear hr g1) | (at_builtin; refine wpList_push rfl (.tmp 13) (.tmp 17) rfl rfl rfl (v := r) ((G1.out.own HO.out hlt).ext (ext_alloc _ _)) ?hc ?hn ?hB ?hk))
      case hc => simp
      case hn => omega
      case hB => exact Nat.le_trans HD.out.size (Nat.le_trans G1.out.size (by simp))
      case hk =>
        intro g' cap' w3 ho3 hg3 he3
        have HO3 := Lib.hid ho3
        have HD3 := Lib.hid (((HD.out.trans G1.out).alloc _).grown hg3 (fun k hk => HO.out.blk k hk))
        clear ho3 hg3 he3
        go_wp2_with (fail)
        go_roundw
        case rel => exact ⟨k + 1, _, cap', _, by omega, by go_num, rfl, HO3.out, Lib.hid (fun h => by
          have h1 := HB.out h
          have h2 := HR.out.2 h
          unfold isB at h1 ⊢
          rw [List.all_append, h1]
          simp [inB]; omega), HD3⟩
        case measure => simp [intOf]
    · have hk0 : n - k = 0 := by omega
      rw [hk0]
      go_wp2_with (fail)
      go_ret
      obtain rfl : k = n := by omega
      exact ⟨a, cap, xs, rfl, HO.out, HB.out, HD.out⟩
set_option maxHeartbeats 1000000 in
theorem l_list5 (S : SrcP) (p : Int) (n : Nat) (w : World) (hS : Src S w) (hp : p ≤ 9223372036854775807) (hn : n ≤ 1000) :
    Calls Try.prog 28 #[.pointer (some ⟨S.g, 0, none⟩), .int .i64 n, .int .i64 p] w fun e w' => ∃ a cap xs, e = .returned (.slice a n cap) ∧ OwnC w.heap.size w' a n cap xs ∧ (1 ≤ p → isB p xs = true) ∧ Drw S w w' := by
  have HS := Lib.hid hS
  have hlt := hS.lt
  clear hS
  go_enter Try.func28, Try.ntmps28
  go_wp2_with (fail)
  go_loopw [1, 7] (fun i o wr => ∃ (k : Nat) (a : Option Addr) (cap : Nat) (xs : List Int), k ≤ n ∧ i = .int .i64 ((n - k : Nat) : Int) ∧ o = .slice a k cap ∧ OwnC w.heap.size wr a k cap xs ∧ Hid (1 ≤ p → isB p xs = true) ∧ Hid (Drw S w wr)) (fun i o _ => (intOf i).toNat)
  case atStart => exact ⟨0, _, 0, [], Nat.zero_le _, by simp, rfl, own_empty w, Lib.hid (fun _ => by simp [isB]), Lib.hid (Drw.of_ext (ext_alloc _ _))⟩
  case round =>
    obtain ⟨k, a, cap, xs, hk, rfl, rfl, ho, HB, HD⟩ := hrel
    have HO := Lib.hid ho
    clear ho
    by_cases hkn : k < n
    · obtain ⟨m, hm⟩ : ∃ m : Nat, n - k = m + 1 := ⟨n - k - 1, by omega⟩
      rw [hm]
      go_wp2_with (first | (go_at_call 31; refine (l_below S p wr (HD.out.src HS.out) hp).mono ?_; rintro e w1 ⟨r, rfl, hr, g1⟩; have HR := Lib.hid hr; have G1 := Lib.hid g1; clear hr g1) | (at_builtin; refine wpList_push rfl (.tmp 13) (.tmp 17) rfl rfl rfl (v := r) ((G1.out.own HO.out hlt).ext (ext_alloc _ _)) ?hc ?hn ?hB ?hk))
      case hc => simp
      case hn => omega
      case hB => exact Nat.le_trans HD.out.size (Nat.le_trans G1.out.size (by simp))
      case hk =>
        intro g' cap' w3 ho3 hg3 he3
        have HO3 := Lib.hid ho3
        have HD3 := Lib.hid (((HD.out.trans G1.out).alloc _).grown hg3 (fun k hk => HO.out.blk k hk))
        clear ho3 hg3 he3
        go_wp2_with (fail)
        go_roundw
        case rel => exact ⟨k + 1, _, cap', _, by omega, by go_num, rfl, HO3.out, Lib.hid (fun h => by
          have h1 := HB.out h
          have h2 := HR.out.2 h
          unfold isB at h1 ⊢
          rw [List.all_append, h1]
          simp [inB]; omega), HD3⟩
        case measure => simp [intOf]
    · have hk0 : n - k = 0 := by omega
      rw [hk0]
      go_wp2_with (fail)
      go_ret
      obtain rfl : k = n := by omega
      exact ⟨a, cap, xs, rfl, HO.out, HB.out, HD.out⟩

/-- A struct of a prime and a slice in a block. -/
structure SpAt (w : World) (O : Nat) (p : Int) (v : Value) : Prop where
  c0 : w.cell? ⟨O, 0, none⟩ = some (.int .i64 p)
  c1 : w.cell? ⟨O, 1, none⟩ = some v
  f0 : w.frozen? ⟨O, 0, none⟩ = false
  f1 : w.frozen? ⟨O, 1, none⟩ = false
theorem SpAt.block {w w' : World} {O : Nat} {p : Int} {v : Value} (h : SpAt w O p v) (hb : w'.heap[O]? = w.heap[O]?) : SpAt w' O p v :=
  ⟨by rw [World.cell?_of_block (w := w) hb]; exact h.c0, by rw [World.cell?_of_block (w := w) hb]; exact h.c1, by rw [World.frozen?_of_block (w := w) hb]; exact h.f0, by rw [World.frozen?_of_block (w := w) hb]; exact h.f1⟩
theorem SpAt.lt {w : World} {O : Nat} {p : Int} {v : Value} (h : SpAt w O p v) : O < w.heap.size := lt_of_cell h.c0
theorem SpAt.below {w w' : World} {O B : Nat} {p : Int} {v : Value} (h : SpAt w O p v) (hb : Below B w w') (hO : O < B) : SpAt w' O p v := h.block (hb.block O hO)
theorem SpAt.ext {w w' : World} {O : Nat} {p : Int} {v : Value} (h : SpAt w O p v) (hb : Ext w w') : SpAt w' O p v := h.below hb h.lt
theorem SpAt.drw {S : SrcP} {w w' : World} {O : Nat} {p : Int} {v : Value} (h : SpAt w O p v) (hd : Drw S w w') (ho : O ≠ S.g) : SpAt w' O p v := h.block (hd.block O h.lt ho)
theorem SpAt.set0 {w : World} {O : Nat} {p : Int} {v : Value} (h : SpAt w O p v) (q : Int) : SpAt (w.setCell ⟨O, 0, none⟩ (.int .i64 q)) O q v := by
  obtain ⟨h0, h1, h2, h3⟩ := h
  exact ⟨by go_simp, by go_simp, by go_simp, by go_simp⟩
theorem SpAt.set1 {w : World} {O : Nat} {p : Int} {v : Value} (h : SpAt w O p v) (u : Value) : SpAt (w.setCell ⟨O, 1, none⟩ u) O p u := by
  obtain ⟨h0, h1, h2, h3⟩ := h
  exact ⟨by go_simp, by go_simp, by go_simp, by go_simp⟩
theorem SpAt.other {w : World} {O : Nat} {p : Int} {v : Value} (h : SpAt w O p v) {q : Addr} (hq : q.block ≠ O) (u : Value) : SpAt (w.setCell q u) O p v := h.block (Below.heap_setCell _ _ _ _ (Ne.symm hq))

/-- The length of the slice in a block's second cell. -/
def lenAt (w : World) (O : Nat) : Nat := match w.cell? ⟨O, 1, none⟩ with | some (.slice _ n _) => n | _ => 0
theorem lenAt_of {w : World} {O : Nat} {p : Int} {a : Option Addr} {n c : Nat} (h : SpAt w O p (.slice a n c)) : lenAt w O = n := by simp [lenAt, h.c1]

set_option maxHeartbeats 4000000 in
theorem s_any (S : SrcP) (m : Nat) (w : World) (hS : Src S w) (hm1 : 1 ≤ m) (hm : m ≤ 6) :
    Calls Try.prog 99 #[.pointer (some ⟨S.g, 0, none⟩), .int .i64 m] w fun e w' => ∃ p a d cap qs, e = .returned (.agg #[.int .i64 p, .slice a d cap]) ∧ primeB p = true ∧ 3 ≤ p ∧ p ≤ 13 ∧ 1 ≤ d ∧ d ≤ m ∧ isB p qs = true ∧ OwnC w.heap.size w' a d cap qs ∧ Drw S w w' := by
  have HS := Lib.hid hS
  have hlt := hS.lt
  clear hS
  obtain ⟨W, hW⟩ : ∃ W, W = w.alloc (.cells #[.int .i64 0, .slice none 0 0] 26) := ⟨_, rfl⟩
  have gW : Ext w W := by rw [hW]; exact ext_alloc _ _
  have hR : SpAt W w.heap.size 0 (.slice none 0 0) := by rw [hW]; exact ⟨by simp, by simp, by simp, by simp⟩
  have HR := Lib.hid hR
  have GW := Lib.hid gW
  have HW := Lib.hid hW
  clear hR gW hW
  go_enter Try.func99, Try.ntmps99
  go_wp2_with (fail)
  rw [← HW.out]
  refine Calls.mono (s_drawPrime S W ((Drw.of_ext GW.out).src HS.out)) ?_
  rintro e w1 ⟨p, rfl, hpr, hp1, hp2, g1⟩
  have HR1 := Lib.hid (HR.out.drw g1 (Nat.ne_of_gt hlt))
  have G1 := Lib.hid ((Drw.of_ext GW.out).trans g1)
  clear g1
  go_wp2_with (fail)
  obtain ⟨W2, hW2⟩ : ∃ W2, W2 = w1.alloc (.cells #[.int .i64 p, .slice none 0 0] 26) := ⟨_, rfl⟩
  obtain ⟨O, hO⟩ : ∃ O, O = w1.heap.size := ⟨_, rfl⟩
  have gW2 : Ext w1 W2 := by rw [hW2]; exact ext_alloc _ _
  have hOA : SpAt W2 O p (.slice none 0 0) := by rw [hW2, hO]; exact ⟨by simp, by simp, by simp, by simp⟩
  rw [← hW2, ← hO]
  have hOw : w.heap.size < O := by rw [hO]; exact HR1.out.lt
  have HOA := Lib.hid hOA
  have HR2 := Lib.hid (HR1.out.ext gW2)
  have G2 := Lib.hid (G1.out.ext gW2)
  have hm0 : (m : Int) ≤ 9223372036854775807 := by omega
  have hgO : O ≠ S.g := by omega
  have hgR : w.heap.size ≠ S.g := by omega
  clear hW2 hO gW2 hOA HR1 G1
  refine Calls.mono (s_next S m W2 (G2.out.src HS.out) hm0) ?_
  rintro e w2 ⟨r0, rfl, hr0, g2⟩
  obtain ⟨N, hN, hN1, hN2⟩ : ∃ N : Nat, 1 + r0 = (N : Int) ∧ 1 ≤ N ∧ N ≤ m := ⟨(1 + r0).toNat, by have := hr0.2 (by omega); omega, by have := hr0.2 (by omega); omega, by have := hr0.2 (by omega); omega⟩
  have HR3 := Lib.hid (HR2.out.drw g2 hgR)
  have HO3 := Lib.hid (HOA.out.drw g2 hgO)
  have G3 := Lib.hid (G2.out.trans g2)
  have hwN : IntKind.i64.wrap (1 + r0) = N := by rw [hN]; exact IntWalk.i64_in _ (by omega)
  have hwN' : wrap64 (1 + r0) = N := by rw [hN]; unfold wrap64; omega
  clear g2 hr0 HR2 HOA G2
  go_wp2_with (fail)
  go_loopw [7] (fun i wr => ∃ (k : Nat) (a : Option Addr) (cap : Nat) (qs : List Int), k ≤ N ∧ i = .int .i64 ((N - k : Nat) : Int) ∧ Hid (SpAt wr w.heap.size 0 (.slice none 0 0)) ∧ Hid (SpAt wr O p (.slice a k cap)) ∧ Hid (OwnC (O + 1) wr a k cap qs) ∧ Hid (isB p qs = true) ∧ Hid (Drw S w wr)) (fun i _ => (intOf i).toNat)
  case atStart => exact ⟨0, none, 0, [], Nat.zero_le _, by simp, HR3, HO3, Lib.hid (own_nil _ _), Lib.hid (by simp [isB]), G3⟩
  case round =>
    obtain ⟨k, a, cap, qs, hk, rfl, HR, HO, HQ, HB, HD⟩ := hrel
    clear HR3 HO3 G3
    by_cases hkn : k < N
    · obtain ⟨j, hj⟩ : ∃ j : Nat, N - k = j + 1 := ⟨N - k - 1, by omega⟩
      rw [hj]
      have hp3 : p - 1 ≤ 9223372036854775807 := by omega
      have hwp : wrap64 (p - 1) = p - 1 := by unfold wrap64; omega
      go_wp2_with (fail)
      refine Calls.mono (s_next S (p - 1) wr (HD.out.src HS.out) hp3) ?_
      rintro e w3 ⟨r1, rfl, hr1, g3⟩
      have hr1' := hr1.2 (by omega)
      have HR4 := Lib.hid (HR.out.drw g3 hgR)
      have HO4 := Lib.hid (HO.out.drw g3 hgO)
      have HQ4 := Lib.hid (g3.own HQ.out (by omega))
      have HD4 := Lib.hid (HD.out.trans g3)
      have hwr : wrap64 (1 + r1) = 1 + r1 := by unfold wrap64; omega
      clear g3 hr1 HR HO HQ HD
      go_wp2_with (fail)
      refine Calls.mono (s_pick S w3.heap.size 4 4 [1, p - 1, 1 + r1, 1] _ ((HD4.out.alloc _).src HS.out) (by decide) (by decide) (rdC_lit w3 _ [1, p - 1, 1 + r1, 1]) (by have := HD4.out.size; omega)) ?_
      rintro e w4 ⟨r2, rfl, hr2, g4⟩
      have hr2' : 0 ≤ r2 ∧ r2 < p := by
        simp only [List.mem_cons, List.not_mem_nil, or_false] at hr2
        omega
      have HR5 := Lib.hid ((HR4.out.ext (ext_alloc _ _)).drw g4 hgR)
      have HO5 := Lib.hid ((HO4.out.ext (ext_alloc _ _)).drw g4 hgO)
      have HQ5 := Lib.hid (g4.own (HQ4.out.ext (ext_alloc _ _)) (by omega))
      have HD5 := Lib.hid ((HD4.out.alloc _).trans g4)
      clear g4 hr2 HR4 HO4 HQ4 HD4
      go_wp2_with (fail)
      refine Calls.mono (s_next S 10 w4 (HD5.out.src HS.out) (by decide)) ?_
      rintro e w5 ⟨r3, rfl, hr3, g5⟩
      have HR6 := Lib.hid (HR5.out.drw g5 hgR)
      have HO6 := Lib.hid (HO5.out.drw g5 hgO)
      have HQ6 := Lib.hid (g5.own HQ5.out (by omega))
      have HD6 := Lib.hid (HD5.out.trans g5)
      have c1 := HO6.out.c1
      clear g5 hr3 HR5 HO5 HQ5 HD5
      have h0 : (0 : Int) ≤ 0 ∧ (0 : Int) < p := by omega
      by_cases hb : r3 = 0
      · have hbb : (r3 == 0) = true := by simp [hb]
        go_wp2_with (at_builtin; refine wpList_push rfl (.tmp 35) (.tmp 37) rfl rfl rfl (v := 0) (HQ6.out.ext (ext_alloc _ _)) ?hc ?hn ?hB ?hk)
        case hc => simp
        case hn => omega
        case hB => have := HO6.out.lt; simp; omega
        case hk =>
          intro g' cap' w6 ho6 hg6 he6
          have hbl : Below (O + 1) w5 w6 := (Below.refl _ _).trans (((Below.refl (O + 1) _).alloc (by have := HO6.out.lt; omega) _).grown hg6 (by have := HO6.out.lt; simp; omega) (fun k hk => HQ6.out.blk k hk))
          have HO7 := Lib.hid (HO6.out.below hbl (by omega))
          have HR7 := Lib.hid (HR6.out.below hbl (by omega))
          have HD7 := Lib.hid (HD6.out.below (hbl.mono (by omega)))
          have HQ7 := Lib.hid ho6
          have c1' := HO7.out.c1
          have f1' := HO7.out.f1
          clear hbl ho6 hg6 he6 c1
          go_wp2_with (fail)
          go_roundw
          case rel => exact ⟨k + 1, _, cap', _, by omega, by go_num, Lib.hid (HR7.out.other (by simp; omega) _), Lib.hid (HO7.out.set1 _), Lib.hid (HQ7.out.other (by simp) _), Lib.hid (by
              have h1 := HB.out
              unfold isB at h1 ⊢
              rw [List.all_append, h1]
              simp [inB]; omega), Lib.hid (HD7.out.setCell (by simp; omega) _)⟩
          case measure => simp [intOf]
      · have hbb : (r3 == 0) = false := by simp [hb]
        go_wp2_with (at_builtin; refine wpList_push rfl (.tmp 35) (.tmp 37) rfl rfl rfl (v := r2) (HQ6.out.ext (ext_alloc _ _)) ?hc ?hn ?hB ?hk)
        case hc => simp
        case hn => omega
        case hB => have := HO6.out.lt; simp; omega
        case hk =>
          intro g' cap' w6 ho6 hg6 he6
          have hbl : Below (O + 1) w5 w6 := (Below.refl _ _).trans (((Below.refl (O + 1) _).alloc (by have := HO6.out.lt; omega) _).grown hg6 (by have := HO6.out.lt; simp; omega) (fun k hk => HQ6.out.blk k hk))
          have HO7 := Lib.hid (HO6.out.below hbl (by omega))
          have HR7 := Lib.hid (HR6.out.below hbl (by omega))
          have HD7 := Lib.hid (HD6.out.below (hbl.mono (by omega)))
          have HQ7 := Lib.hid ho6
          have c1' := HO7.out.c1
          have f1' := HO7.out.f1
          clear hbl ho6 hg6 he6 c1
          go_wp2_with (fail)
          go_roundw
          case rel => exact ⟨k + 1, _, cap', _, by omega, by go_num, Lib.hid (HR7.out.other (by simp; omega) _), Lib.hid (HO7.out.set1 _), Lib.hid (HQ7.out.other (by simp) _), Lib.hid (by
              have h1 := HB.out
              unfold isB at h1 ⊢
              rw [List.all_append, h1]
              simp [inB]; omega), Lib.hid (HD7.out.setCell (by simp; omega) _)⟩
          case measure => simp [intOf]
    · have hk0 : N - k = 0 := by omega
      rw [hk0]
      obtain rfl : k = N := by omega
      have o0 := HO.out.c0
      have o1 := HO.out.c1
      have r0 := HR.out.c0
      have r1 := HR.out.c1
      have f0 := HR.out.f0
      have f1 := HR.out.f1
      go_wp2_with (fail)
      refine bodyPost_ret (v := .agg #[.int .i64 p, .slice a k cap]) (by simp [results, Try.results99, go_sem, r0, r1]) rfl ⟨p, a, k, cap, qs, rfl, hpr, hp1, hp2, hN1, hN2, HB.out, ?_, ?_⟩
      · exact ((HQ.out.other (by simp; omega) _).other (by simp; omega) _).mono (by omega)
      · exact (HD.out.setCell (by simp) _).setCell (by simp) _

set_option maxHeartbeats 1000000 in
theorem s_draw3 (S : SrcP) (w : World) (hS : Src S w) :
    Calls Try.prog 137 #[.pointer (some ⟨S.g, 0, none⟩)] w fun e w' => ∃ p a d cap qs, e = .returned (.agg #[.int .i64 p, .slice a d cap]) ∧ primeB p = true ∧ 3 ≤ p ∧ p ≤ 13 ∧ 1 ≤ d ∧ d ≤ 6 ∧ isB p qs = true ∧ OwnC w.heap.size w' a d cap qs ∧ Drw S w w' := by
  have HS := Lib.hid hS
  have hlt := hS.lt
  clear hS
  obtain ⟨W, hW⟩ : ∃ W, W = w.alloc (.cells #[.int .i64 0, .slice none 0 0] 26) := ⟨_, rfl⟩
  have gW : Ext w W := by rw [hW]; exact ext_alloc _ _
  have HZ := Lib.hid (show W.heap.size = w.heap.size + 1 by rw [hW]; simp)
  have HR := Lib.hid (show SpAt W w.heap.size 0 (.slice none 0 0) by rw [hW]; exact ⟨by simp, by simp, by simp, by simp⟩)
  have HW := Lib.hid hW
  have GW := Lib.hid (Drw.of_ext (S := S) gW)
  have hgR : w.heap.size ≠ S.g := by omega
  clear gW hW
  go_enter Try.func137, Try.ntmps137
  go_wp2_with (fail)
  rw [← HW.out]
  refine Calls.mono (s_pick S (w.heap.size + 1) 5 5 [2, 3, 3, 4, 6] _ ((GW.out.alloc _).src HS.out) (by decide) (by decide) (by rw [← HZ.out]; exact rdC_lit W _ [2, 3, 3, 4, 6]) (by omega)) ?_
  rintro e w2 ⟨r, rfl, hr, g2⟩
  obtain ⟨m, rfl, hm1, hm2⟩ : ∃ m : Nat, r = (m : Int) ∧ 1 ≤ m ∧ m ≤ 6 := by
    refine ⟨r.toNat, ?_⟩
    simp only [List.mem_cons, List.not_mem_nil, or_false] at hr
    omega
  have HR2 := Lib.hid ((HR.out.ext (ext_alloc _ _)).drw g2 hgR)
  have G2 := Lib.hid ((GW.out.alloc _).trans g2)
  clear g2 hr HR
  go_wp2_with (fail)
  refine Calls.mono (s_any S m w2 (G2.out.src HS.out) hm1 hm2) ?_
  rintro e w3 ⟨p, a, d, cap, qs, rfl, hpr, hp1, hp2, hd1, hd2, hqb, ho, g3⟩
  have r0 := (HR2.out.drw g3 hgR).c0
  have r1 := (HR2.out.drw g3 hgR).c1
  have f0 := (HR2.out.drw g3 hgR).f0
  have f1 := (HR2.out.drw g3 hgR).f1
  have hlw := HR2.out.lt
  have HO := Lib.hid ho
  have G3 := Lib.hid (G2.out.trans g3)
  clear ho g3
  go_wp2_with (fail)
  refine bodyPost_ret (v := .agg #[.int .i64 p, .slice a d cap]) (by simp [results, Try.results137, go_sem, r0, r1]) rfl ⟨p, a, d, cap, qs, rfl, hpr, hp1, hp2, hd1, by omega, hqb, ?_, ?_⟩
  · exact ((HO.out.other (by simp; omega) _).other (by simp; omega) _).mono (by omega)
  · exact (G3.out.setCell (by simp) _).setCell (by simp) _

namespace Chg
/-- A written row that is not the source. -/
def SPred.lit (S : SrcP) (n : Nat) (xs : List Int) : SPred (Drw.rel S) :=
  ⟨fun v w => ∃ b, v = .slice (some ⟨b, 0, none⟩) n n ∧ RdC w (some ⟨b, 0, none⟩) n xs ∧ b ≠ S.g, fun _ _ _ ⟨b, h1, h2, h3⟩ he => ⟨b, h1, ⟨h2.1, fun i hi => by
    obtain ⟨b', o, hb, hc⟩ := h2.2 i hi
    simp only [Option.some.injEq, Addr.mk.injEq] at hb
    obtain ⟨rfl, rfl, _⟩ := hb
    exact ⟨b, 0, rfl, Drw.cell he h3 hc⟩⟩, h3⟩⟩
/-- Some number. -/
def SPred.some_ (S : SrcP) : SPred (Drw.rel S) := ⟨fun v _ => ∃ r, v = .int .i64 r, fun _ _ _ h _ => h⟩
/-- A number from 0 on below another one. -/
def SPred.lt (S : SrcP) (n : Int) : SPred (Drw.rel S) := ⟨fun v _ => ∃ r, v = .int .i64 r ∧ 0 ≤ r ∧ r < n, fun _ _ _ h _ => h⟩
end Chg

set_option maxHeartbeats 4000000 in
theorem s_spoil3 (S : SrcP) (w : World) (hS : Src S w) :
    Calls Try.prog 71 #[.pointer (some ⟨S.g, 0, none⟩)] w fun e w' => ∃ p a d cap qs, e = .returned (.agg #[.int .i64 p, .slice a d cap]) ∧ 0 ≤ p ∧ p ≤ 17 ∧ d ≤ 7 ∧ OwnC w.heap.size w' a d cap qs ∧ Drw S w w' := by
  have HS := Lib.hid hS
  have hlt := hS.lt
  clear hS
  obtain ⟨W, hW⟩ : ∃ W, W = w.alloc (.cells #[.int .i64 0, .slice none 0 0] 26) := ⟨_, rfl⟩
  have gW : Ext w W := by rw [hW]; exact ext_alloc _ _
  have HZ := Lib.hid (show W.heap.size = w.heap.size + 1 by rw [hW]; simp)
  have HR := Lib.hid (show SpAt W w.heap.size 0 (.slice none 0 0) by rw [hW]; exact ⟨by simp, by simp, by simp, by simp⟩)
  have HW := Lib.hid hW
  have GW := Lib.hid (Drw.of_ext (S := S) gW)
  have hgR : w.heap.size ≠ S.g := by omega
  clear gW hW
  go_enter Try.func71, Try.ntmps71
  go_wp2_with (fail)
  rw [← HW.out]
  refine Calls.mono (s_draw3 S W (GW.out.src HS.out)) ?_
  rintro e w1 ⟨p, a, d, cap, qs, rfl, hpr, hp1, hp2, hd1, hd2, hqb, ho, g1⟩
  obtain ⟨W2, hW2⟩ : ∃ W2, W2 = w1.alloc (.cells #[.int .i64 p, .slice a d cap] 26) := ⟨_, rfl⟩
  obtain ⟨O, hO⟩ : ∃ O, O = w1.heap.size := ⟨_, rfl⟩
  have gW2 : Ext w1 W2 := by rw [hW2]; exact ext_alloc _ _
  have hOA : SpAt W2 O p (.slice a d cap) := by rw [hW2, hO]; exact ⟨by simp, by simp, by simp, by simp⟩
  have HR1 := Lib.hid ((HR.out.drw g1 hgR).ext gW2)
  have hoB : OwnC (w.heap.size + 1) w1 a d cap qs := by rw [← HZ.out]; exact ho
  have HQ1 := Lib.hid (hoB.ext gW2)
  have G1 := Lib.hid ((GW.out.trans g1).ext gW2)
  have hOw : w.heap.size < O := by rw [hO]; exact (HR.out.drw g1 hgR).lt
  have hOQ : ∀ g, a = some ⟨g, 0, none⟩ → w.heap.size + 1 ≤ g ∧ g < O := fun g hg => by have := ho.base_of g hg; have := HZ.out; omega
  have hgO : O ≠ S.g := by omega
  go_wp2_with (fail)
  rw [← hW2, ← hO]
  have HOA := Lib.hid hOA
  clear hO gW2 ho hoB g1 hW2 hOA HR
  refine Calls.mono (s_next S 40 W2 (G1.out.src HS.out) (by decide)) ?_
  rintro e w2 ⟨r, rfl, hr, g2⟩
  have HR2 := Lib.hid (HR1.out.drw g2 hgR)
  have HO2 := Lib.hid (HOA.out.drw g2 hgO)
  have HQ2 := Lib.hid (g2.own HQ1.out (by omega))
  have G2 := Lib.hid (G1.out.trans g2)
  clear g2 HR1 HOA HQ1 G1 hr
  by_cases h0 : r = 0
  · subst h0
    go_wp2_with (fail)
    refine Calls.mono (s_pick S w2.heap.size 4 4 [4, 1, 17, 0] _ ((G2.out.alloc _).src HS.out) (by decide) (by decide) (rdC_lit w2 _ [4, 1, 17, 0]) (by have := HO2.out.lt; omega)) ?_
    rintro e w3 ⟨q, rfl, hq, g3⟩
    have hq' : 0 ≤ q ∧ q ≤ 17 := by
      simp only [List.mem_cons, List.not_mem_nil, or_false] at hq
      omega
    have HR3 := Lib.hid ((HR2.out.ext (ext_alloc _ _)).drw g3 hgR)
    have HO3 := Lib.hid ((HO2.out.ext (ext_alloc _ _)).drw g3 hgO)
    have HQ3 := Lib.hid (g3.own (HQ2.out.ext (ext_alloc _ _)) (by omega))
    have G3 := Lib.hid ((G2.out.alloc _).trans g3)
    clear g3 HR2 HO2 HQ2 G2 hq
    have o0 := HO3.out.c0
    have o1 := HO3.out.c1
    have of0 := HO3.out.f0
    have of1 := HO3.out.f1
    have r0 := HR3.out.c0
    have r1 := HR3.out.c1
    have f0 := HR3.out.f0
    have f1 := HR3.out.f1
    go_wp2_with (fail)
    refine bodyPost_ret (v := .agg #[.int .i64 q, .slice a d cap]) (by simp [results, Try.results71, go_sem, r0, r1]) rfl ⟨q, a, d, cap, qs, rfl, hq'.1, hq'.2, by omega, ?_, ?_⟩
    · exact (((HQ3.out.keep (fun g hg => Below.heap_setCell _ _ _ _ (by have := hOQ g hg; simp; omega))).other (by simp) _).other (by simp) _).mono (by omega)
    · exact ((G3.out.setCell (by simp; omega) _).setCell (by simp) _).setCell (by simp) _
  by_cases h1 : r = 1
  · subst h1
    obtain ⟨g, rfl⟩ : ∃ g, a = some ⟨g, 0, none⟩ := by
      obtain ⟨g, _, hg, _⟩ := HQ2.out.row (by omega)
      exact ⟨g, hg⟩
    have hgq := hOQ g rfl
    have hdp : 0 < d := by omega
    have HO3 := Lib.hid (HO2.out.ext (ext_drew _))
    have HS2 := Lib.hid (G2.out.drew.src HS.out)
    have hqc := HQ2.out.cell (j := 0) (by omega)
    have HC := Lib.hid ((ext_drew w2).cell hqc)
    clear hqc
    go_wp2_with (fail)
    refine Chg.wp_region_lex_tail (E := Drw.rel S) 8 [(5, .lit S 2 [-1, p]), (6, .some_ S)] (by kernel_rfl) (by kernel_rfl) ?_
    simp only [List.take, List.drop]
    (refine Chg.LexW.pure (v := ?_) rfl rfl (fun w1 he => ?_) ?_; rotate_left; ( have he' : Drw S w2.drew _ := he; have x0 := he'.cell (p := ⟨O, 0, none⟩) hgO HO3.out.c0; have x1 := he'.cell (p := ⟨O, 1, none⟩) hgO HO3.out.c1; have x2 := he'.cell (p := ⟨g, 0, none⟩) (by show g ≠ S.g; omega) HC.out; go_simp; rfl); simp only [Act.put, List.setIfInBounds_toArray, List.set_cons_zero, List.set_cons_succ])
    (refine Chg.LexW.pure (v := ?_) rfl rfl (fun w1 he => ?_) ?_; rotate_left; ( have he' : Drw S w2.drew _ := he; have x0 := he'.cell (p := ⟨O, 0, none⟩) hgO HO3.out.c0; have x1 := he'.cell (p := ⟨O, 1, none⟩) hgO HO3.out.c1; have x2 := he'.cell (p := ⟨g, 0, none⟩) (by show g ≠ S.g; omega) HC.out; go_simp; rfl); simp only [Act.put, List.setIfInBounds_toArray, List.set_cons_zero, List.set_cons_succ])
    (refine Chg.LexW.pure (v := ?_) rfl rfl (fun w1 he => ?_) ?_; rotate_left; ( have he' : Drw S w2.drew _ := he; have x0 := he'.cell (p := ⟨O, 0, none⟩) hgO HO3.out.c0; have x1 := he'.cell (p := ⟨O, 1, none⟩) hgO HO3.out.c1; have x2 := he'.cell (p := ⟨g, 0, none⟩) (by show g ≠ S.g; omega) HC.out; go_simp; rfl); simp only [Act.put, List.setIfInBounds_toArray, List.set_cons_zero, List.set_cons_succ])
    (refine Chg.LexW.pure (v := ?_) rfl rfl (fun w1 he => ?_) ?_; rotate_left; ( have he' : Drw S w2.drew _ := he; have x0 := he'.cell (p := ⟨O, 0, none⟩) hgO HO3.out.c0; have x1 := he'.cell (p := ⟨O, 1, none⟩) hgO HO3.out.c1; have x2 := he'.cell (p := ⟨g, 0, none⟩) (by show g ≠ S.g; omega) HC.out; go_simp; rfl); simp only [Act.put, List.setIfInBounds_toArray, List.set_cons_zero, List.set_cons_succ])
    (refine Chg.LexW.pure (v := ?_) rfl rfl (fun w1 he => ?_) ?_; rotate_left; ( have he' : Drw S w2.drew _ := he; have x0 := he'.cell (p := ⟨O, 0, none⟩) hgO HO3.out.c0; have x1 := he'.cell (p := ⟨O, 1, none⟩) hgO HO3.out.c1; have x2 := he'.cell (p := ⟨g, 0, none⟩) (by show g ≠ S.g; omega) HC.out; go_simp; rfl); simp only [Act.put, List.setIfInBounds_toArray, List.set_cons_zero, List.set_cons_succ])
    (refine Chg.LexW.rel rfl rfl (fun w1 he hdep => ?_) (fun v hv => ?_); ( have he' : Drw S w2.drew _ := he; exact ⟨.slice (some ⟨w1.heap.size, 0, none⟩) 2 2, w1.alloc (.cells #[.int .i64 (-1), .int .i64 p] 2), (by go_simp), Drw.of_ext (ext_alloc _ _), _, rfl, rdC_lit w1 _ [-1, p], (by have := he'.size; have := HS2.out.lt; omega)⟩); simp only [Act.put, List.setIfInBounds_toArray, List.set_cons_zero, List.set_cons_succ])
    obtain ⟨_, b5, rfl, _⟩ := hv
    (refine Chg.LexW.callR (f := ?_) (args := ?_) rfl rfl (fun w1 => ?_) (fun w1 he hdep => ?_) (fun v hv => ?_); rotate_left 2; (go_simp; refine ⟨?_, ?_⟩ <;> rfl); ( have he' : Drw S w2.drew _ := he; obtain ⟨_, q5, r5, r5'⟩ : (Chg.SPred.lit S 2 [-1, p]).holds (.slice (some ⟨b5, 0, none⟩) 2 2) w1 := hdep (5, 21) (by decide +kernel); cases q5; refine Calls.mono (s_pick S b5 2 2 [-1, p] w1 (he'.src HS2.out) (by decide) (by decide) r5 r5') ?_; rintro e w3 ⟨q, rfl, _, x3⟩; exact ⟨_, rfl, x3, q, rfl⟩); simp only [Act.put, List.setIfInBounds_toArray, List.set_cons_zero, List.set_cons_succ])
    obtain ⟨_, q, rfl⟩ := hv
    (refine Chg.LexW.pure (v := ?_) rfl rfl (fun w1 he => ?_) ?_; rotate_left; ( have he' : Drw S w2.drew _ := he; have x0 := he'.cell (p := ⟨O, 0, none⟩) hgO HO3.out.c0; have x1 := he'.cell (p := ⟨O, 1, none⟩) hgO HO3.out.c1; have x2 := he'.cell (p := ⟨g, 0, none⟩) (by show g ≠ S.g; omega) HC.out; go_simp; rfl); simp only [Act.put, List.setIfInBounds_toArray, List.set_cons_zero, List.set_cons_succ])
    refine Chg.LexW.nil (fun w3 he hkn => ?_)
    have he' : Drw S w2.drew w3 := he
    have HR3 := Lib.hid ((HR2.out.ext (ext_drew _)).drw he' hgR)
    have HO4 := Lib.hid (HO3.out.drw he' hgO)
    have HQ3 := Lib.hid (he'.own (HQ2.out.ext (ext_drew _)) (by omega))
    have G3 := Lib.hid (G2.out.drew.trans he')
    have hq0 := HQ3.out.cell (j := 0) (by omega)
    have hqf := HQ3.out.frozen 0
    have o0 := HO4.out.c0
    have o1 := HO4.out.c1
    have of0 := HO4.out.f0
    have of1 := HO4.out.f1
    have r0 := HR3.out.c0
    have r1 := HR3.out.c1
    have f0 := HR3.out.f0
    have f1 := HR3.out.f1
    clear he he' hkn
    go_wp2_with (fail)
    refine bodyPost_ret (v := .agg #[.int .i64 p, .slice (some ⟨g, 0, none⟩) d cap]) (by simp [results, Try.results71, go_sem, r0, r1]) rfl ⟨p, some ⟨g, 0, none⟩, d, cap, qs.set 0 q, rfl, by omega, by omega, by omega, ?_, ?_⟩
    · exact (((HQ3.out.store (j := 0) (by omega) q).other (by simp) _).other (by simp) _).mono (by omega)
    · exact ((G3.out.setCell (by simp; omega) _).setCell (by simp) _).setCell (by simp) _
  by_cases h2 : r = 2
  · subst h2
    have lO := HO2.out.lt
    have lR := HR2.out.lt
    have o0 := HO2.out.c0
    have o1 := HO2.out.c1
    have of0 := HO2.out.f0
    have of1 := HO2.out.f1
    have r0 := HR2.out.c0
    have r1 := HR2.out.c1
    have f0 := HR2.out.f0
    have f1 := HR2.out.f1
    go_wp2_with (fail)
    have HF := (((HR2.out.other (q := ⟨O, 1, none⟩) (by simp; omega) (.slice (some ⟨w2.heap.size, 0, none⟩) 0 0)).set0 p).set1 (.slice (some ⟨w2.heap.size, 0, none⟩) 0 0)).ext (ext_alloc _ (.cells #[] 2))
    have r0' := HF.c0
    have r1' := HF.c1
    refine bodyPost_ret (v := .agg #[.int .i64 p, .slice (some ⟨w2.heap.size, 0, none⟩) 0 0]) (by simp [results, Try.results71, go_sem, r0', r1']) rfl ⟨p, _, 0, 0, [], rfl, by omega, by omega, by omega, ?_, ?_⟩
    · have h := own_empty (((w2.setCell ⟨O, 1, none⟩ (.slice (some ⟨w2.heap.size, 0, none⟩) 0 0)).setCell ⟨w.heap.size, 0, none⟩ (.int .i64 p)).setCell ⟨w.heap.size, 1, none⟩ (.slice (some ⟨w2.heap.size, 0, none⟩) 0 0))
      simp only [World.size_setCell] at h
      exact h.mono (by omega)
    · exact (((G2.out.setCell (by simp; omega) _).setCell (by simp) _).setCell (by simp) _).alloc _
  by_cases h3 : r = 3
  · subst h3
    have HW2 := Lib.hid HW
    go_wp2_with (fail)
    go_loopw [] (fun wr => ∃ (a' : Option Addr) (k cap' : Nat) (xs : List Int), k ≤ 7 ∧ 1 ≤ k ∧ Hid (SpAt wr w.heap.size 0 (.slice none 0 0)) ∧ Hid (SpAt wr O p (.slice a' k cap')) ∧ Hid (∀ g, a' = some ⟨g, 0, none⟩ → g ≠ O) ∧ Hid (OwnC (w.heap.size + 1) wr a' k cap' xs) ∧ Hid (Drw S w wr)) (fun wr => 7 - lenAt wr O)
    case atStart => exact ⟨a, d, cap, qs, by omega, hd1, HR2, HO2, Lib.hid (fun g hg => by have := hOQ g hg; omega), HQ2, G2⟩
    case round =>
      obtain ⟨a', k, cap', xs, hk, hk1, HR, HO, HN, HQ, HD⟩ := hrel
      clear HR2 HO2 HQ2 G2
      have o0 := HO.out.c0
      have o1 := HO.out.c1
      have of0 := HO.out.f0
      have of1 := HO.out.f1
      have hla := lenAt_of HO.out
      have hlO := HO.out.lt
      by_cases hlt7 : k < 7
      · go_wp2_with (at_builtin; refine wpList_push rfl (.tmp 35) (.tmp 36) rfl rfl rfl (v := 1) (HQ.out.ext (ext_alloc _ _)) ?hc ?hn ?hB ?hk)
        case hc => simp
        case hn => omega
        case hB => have := HR.out.lt; simp; omega
        case hk =>
          intro g' cap2 w6 ho6 hg6 he6
          have hb6 : w6.heap[O]? = wr.heap[O]? := by
            have h1 := hg6.block O (by simp; omega) (fun e => by
              rcases HQ.out.2.2 with ⟨h3, _⟩ | ⟨g, c, cur, hv, _⟩
              · rw [h3] at e; simp [Value.ownBlock] at e
              · simp only [Value.slice.injEq] at hv
                rw [hv.1] at e
                simp only [Value.ownBlock, Option.some.injEq] at e
                exact HN.out g hv.1 e.symm)
            rw [h1]; exact Below.heap_alloc _ _ _ hlO
          have hbl : Below (w.heap.size + 1) wr w6 := (Below.refl _ _).trans (((Below.refl (w.heap.size + 1) _).alloc (by omega) _).grown hg6 (by simp; omega) (fun k hk => HQ.out.blk k hk))
          have HO7 := Lib.hid (HO.out.block hb6)
          have HR7 := Lib.hid (HR.out.below hbl (by omega))
          have HD7 := Lib.hid (HD.out.below (hbl.mono (by omega)))
          have HQ7 := Lib.hid ho6
          have HN7 := Lib.hid (show ∀ g, (some ⟨g', 0, none⟩ : Option Addr) = some ⟨g, 0, none⟩ → g ≠ O from fun g hg h => by
            simp only [Option.some.injEq, Addr.mk.injEq, and_self, and_true] at hg
            have h1 := HQ7.out.cell (j := 1) (by omega)
            have h2 := HO7.out.c1
            rw [hg, h, h2] at h1
            cases h1)
          have c1' := HO7.out.c1
          have f1' := HO7.out.f1
          clear hbl ho6 hg6 he6 o0 o1 of0 of1 hb6
          go_wp2_with (fail)
          go_roundw
          case rel => exact ⟨_, k + 1, cap2, _, by omega, by omega, Lib.hid (HR7.out.other (by simp; omega) _), Lib.hid (HO7.out.set1 _), HN7, Lib.hid (HQ7.out.keep (fun g hg => Below.heap_setCell _ _ _ _ (HN7.out g hg))), Lib.hid (HD7.out.setCell (by simp; omega) _)⟩
          case measure =>
            rw [hla, lenAt_of (HO7.out.set1 _)]
            omega
      · have r0 := HR.out.c0
        have r1 := HR.out.c1
        have f0 := HR.out.f0
        have f1 := HR.out.f1
        go_wp2_with (fail)
        refine bodyPost_ret (v := .agg #[.int .i64 p, .slice a' k cap']) (by simp [results, Try.results71, go_sem, r0, r1]) rfl ⟨p, a', k, cap', xs, rfl, by omega, by omega, by omega, ?_, ?_⟩
        · exact ((HQ.out.other (by simp) _).other (by simp) _).mono (by omega)
        · exact (HD.out.setCell (by simp) _).setCell (by simp) _
  · have b0 : (r == 0) = false := by simp [h0]
    have b1 : (r == 1) = false := by simp [h1]
    have b2 : (r == 2) = false := by simp [h2]
    have b3 : (r == 3) = false := by simp [h3]
    have o0 := HO2.out.c0
    have o1 := HO2.out.c1
    have of0 := HO2.out.f0
    have of1 := HO2.out.f1
    have r0 := HR2.out.c0
    have r1 := HR2.out.c1
    have f0 := HR2.out.f0
    have f1 := HR2.out.f1
    go_wp2_with (fail)
    refine bodyPost_ret (v := .agg #[.int .i64 p, .slice a d cap]) (by simp [results, Try.results71, go_sem, r0, r1]) rfl ⟨p, a, d, cap, qs, rfl, by omega, by omega, by omega, ?_, ?_⟩
    · exact ((HQ2.out.other (by simp) _).other (by simp) _).mono (by omega)
    · exact (G2.out.setCell (by simp) _).setCell (by simp) _
end Go.Proofs.Ytbgnfjckbjmgbaa
